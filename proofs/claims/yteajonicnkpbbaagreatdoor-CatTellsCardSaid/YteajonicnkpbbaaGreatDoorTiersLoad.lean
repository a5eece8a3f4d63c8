/- Tiers under a policy that may be: what their calls answer, and what stays true. -/
import Derived.Test.YteajonicnkpbbaaGreatDoorGoodX
import Derived.Test.YteajonicnkpbbaaGreatDoorPolSame
import Derived.Test.YteajonicnkpbbaaGreatDoorRefGrid
import Derived.Deep.CutBlock
namespace Go.Proofs.YteajonicnkpbbaaGreatDoor
set_option linter.all false
open Go.RowKit Tryz
structure zcl(nm:ByteArray)(l:List zaa):Prop where
 ck:zal nm l=true
 wf:∀ t∈l,t.wf
structure Tio(nm:ByteArray)(l:List zaa)(fl:List Int)(lo:Nat)(W:World)(t:Nat)(X:zae)(F:Nat→Prop)(c:Nat):Prop where
 on:∃ base,lo≤base∧zaV W t base X F
 good:zbE nm l fl X c
section
variable {nm:ByteArray} {l:List zaa} {fl:List Int} {lo:Nat} {W W':World} {t:Nat} {X:zae} {F:Nat→Prop} {c:Nat}
theorem zcl.pos(p:zcl nm l):0<l.length:=by have:=(zcD p.ck).1;omega
theorem zcl.five(p:zcl nm l):l.length≤5:=(zcD p.ck).2
theorem Tio.pos(h:Tio nm l fl lo W t X F c)(p:zcl nm l):0<X.tiers.length:=by rw[h.good.tiers];exact p.pos
theorem Tio.five(h:Tio nm l fl lo W t X F c)(p:zcl nm l):X.tiers.length≤1000:=by rw[h.good.tiers];have:=p.five;omega
theorem Tio.wf(h:Tio nm l fl lo W t X F c)(p:zcl nm l):∀ x∈X.tiers,x.wf:=by rw[h.good.tiers];exact p.wf
theorem Tio.fr0(h:Tio nm l fl lo W t X F c)(f:Fr (fun _=>False) W W'):Tio nm l fl lo W' t X F c:=by
 obtain⟨base,hb,ho⟩:=h.on;exact⟨⟨base,hb,ho.fr0 f⟩,h.good⟩
theorem Tio.ge(h:Tio nm l fl lo W t X F c):∀ j,F j→lo≤j∧j<W.heap.size:=fun j hj=>by
 obtain⟨base,hb,ho⟩:=h.on;have:=ho.ge j hj;omega
theorem Tio.below(h:Tio nm l fl lo W t X F c)(hlo:lo≤W.heap.size)(f:Fr F W W'):Below lo W W':=f.below_of hlo (fun j hj=>(h.ge j hj).1)
theorem Tio.more(h:Tio nm l fl lo W t X F c){d:Nat}(hd:c≤d):Tio nm l fl lo W t X F d:=⟨h.on,⟨h.good.name,h.good.tiers,h.good.floors,h.good.now,h.good.tlen,fun m hm=>Nat.le_trans (h.good.len m hm) hd,h.good.good,h.good.grid⟩⟩
theorem zlx{now:Int}(h:zkz nm l now fl=0):zal nm l=true:=by
 unfold zkz at h
 split at h
 ·assumption
 ·omega
theorem zo9(hnm:nm.size≤maxLen)(hwf:∀ t∈l,t.wf)(A:Option Addr)(n c:Nat)(now:Int)(hnow: -9223372036854775808≤now∧now≤9223372036854775807)(lo:Nat)(w:World)(hlo:lo≤w.heap.size)(hr:Rd w 4 A n (zaf l))(hnc:n≤c)(hn:n≤1099511627776):
  Calls prog 95 #[.agg #[.string nm,.slice A n c],.int .i64 now,.slice none 0 0] w fun r w'=>((zkz nm l now []=0→zcl nm l∧∃ t F,r=.returned (.tuple #[.pointer (some ⟨t,0,none⟩),.int .i64 0])∧Tio nm l [] lo w' t (zjQ nm l now []) F 0∧∀ j,F j→w.heap.size≤j)∧(zkz nm l now []≠0→r=.returned (.tuple #[.pointer none,.int .i64 (zkz nm l now [])])))∧Below w.heap.size w w':=by
 refine (znX nm hnm l A n c now hnow [] none 0 0 w hr hnc hwf hn Rd.nil_ (by omega)).mono ?_;rintro r w' ⟨⟨h1,h2⟩,hb⟩;refine⟨⟨fun h=>⟨⟨zlx h,hwf⟩,?_⟩,h2⟩,hb⟩;obtain⟨t,rfl,ha⟩:=h1 h;obtain⟨F,ho⟩:=ha.on;exact⟨t,F,rfl,⟨⟨_,hlo,ho⟩,zbE.new h⟩,fun j hj=>(ho.ge j hj).1⟩
theorem znY(p:zcl nm l)(h:Tio nm l fl lo W t X F c)(hfl:fl.length≤1099511627776)(lo2:Nat)(hlo:lo2≤W.heap.size):
  Calls prog 97 #[.pointer (some ⟨t,0,none⟩)] W fun r w'=>(∃ t' F',r=.returned (.pointer (some ⟨t',0,none⟩))∧Tio nm l fl lo2 w' t' X F' c∧∀ j,F' j→W.heap.size≤j)∧Below W.heap.size W w':=by
 obtain⟨base,hb,ho⟩:=h.on;refine (zme t base X W ho.at_ (Nat.le_trans (h.five p) (by omega)) (by rw[h.good.floors];exact hfl)).mono ?_;rintro r w' ⟨⟨t',rfl,ha⟩,h2⟩;obtain⟨F',ho'⟩:=ha.on;exact⟨⟨t',F',rfl,⟨⟨_,hlo,ho'⟩,h.good⟩,fun j hj=>(ho'.ge j hj).1⟩,h2⟩
end
def ldB(X:zae)(k:Nat)(r:zah):Bool:=decide (zaF X.now X.tiers X.floors k≤r.start)
def zp1(X:zae)(k:Nat)(rs:List zah):zae:=
 match X.tiers[k]?,X.tabs[k]? with
 | some x,some m=>{X with tabs:=X.tabs.set k (zfy x.every m (rs.filter (ldB X k)))}
 | _,_=>X
section
variable {nm:ByteArray} {l:List zaa} {fl:List Int} {lo:Nat} {W W':World} {t:Nat} {X:zae} {F:Nat→Prop} {c:Nat}
end
theorem zhN{e:Int}:∀ (rs:List zah) {l:List zah},zbJ l→(∀ r∈l,zau r.name=true∧0≤r.start∧onB r.start e=true)→∀ y∈zfy e l rs,zau y.name=true∧0≤y.start∧onB y.start e=true
 | [],_,_,h=>h
 | r::rs,l,hg,h=>zhN (e:=e) rs (zeH hg r) (zji hg.1 h r)
theorem zbE.load{nm:ByteArray}{l:List zaa}{fl:List Int}{X:zae}{c:Nat}(h:zbE nm l fl X c)(k:Nat)(rs:List zah):zbE nm l fl (zp1 X k rs) (c+rs.length):=by
 unfold zp1
 split
 ·rename_i x m hx hm
  have hkl:k<X.tabs.length:=(List.getElem?_eq_some_iff.1 hm).1
  have hmD:X.tabs.getD k []=m:=by rw[List.getD_eq_getElem?_getD,hm];rfl
  have hgm:zbJ m:=by rw[← hmD];exact h.good k
  have hset:∀ j,(X.tabs.set k (zfy x.every m (rs.filter (ldB X k)))).getD j []=if j=k then zfy x.every m (rs.filter (ldB X k)) else X.tabs.getD j []:=fun j=>by
   rw[List.getD_eq_getElem?_getD,List.getD_eq_getElem?_getD]
   by_cases e:j=k
   ·subst e
    rw[List.getElem?_set_self hkl,if_pos rfl]
    rfl
   ·rw[List.getElem?_set_ne (fun e'=>e e'.symm),if_neg e]
  refine⟨h.name,h.tiers,h.floors,h.now,by simpa using h.tlen,fun y hy=>?_,fun j=>?_,fun j x' hx' r hr=>?_⟩
  ·have hy:y∈X.tabs.set k (zfy x.every m (rs.filter (ldB X k))):=hy
   rcases List.mem_or_eq_of_mem_set hy with h1 | rfl
   ·have:=h.len y h1;omega
   ·have h1:=zgE (every:=x.every) (rs.filter (ldB X k)) hgm.1
    have h2:=h.len m (zab hm);have h3:(rs.filter (ldB X k)).length≤rs.length:=List.length_filter_le _ _;omega
  ·show zbJ ((X.tabs.set k _).getD j [])
   rw[hset]
   split
   ·exact zhO hgm
   ·exact h.good j
  ·have hr:r∈(X.tabs.set k (zfy x.every m (rs.filter (ldB X k)))).getD j []:=hr
   rw[hset] at hr
   split at hr
   ·rename_i e
    subst e
    have hxx:x=x':=by rw[h.tiers,hx'] at hx;exact (Option.some.inj hx).symm
    rw[← hxx];exact zhN _ hgm (fun y hy=>by rw[hxx];exact h.grid j x' hx' y (by rw[hmD];exact hy)) r hr
   ·exact h.grid j x' hx' r hr
 ·exact⟨h.name,h.tiers,h.floors,h.now,h.tlen,fun m hm=>Nat.le_trans (h.len m hm) (Nat.le_add_right _ _),h.good,h.grid⟩
theorem zbE.more{nm:ByteArray}{l:List zaa}{fl:List Int}{X:zae}{c d:Nat}(h:zbE nm l fl X c)(hd:c≤d):zbE nm l fl X d:=⟨h.name,h.tiers,h.floors,h.now,h.tlen,fun m hm=>Nat.le_trans (h.len m hm) hd,h.good,h.grid⟩
structure ShX where
 name:ByteArray
 tiers:List zaa
 srcs:List Int
 bound:Int
 done:Int
 tabs:List (List zah)
structure zeL(w:World)(t base:Nat)(X:ShX)(A:Option Addr)(c:Nat)(B:Option Addr)(d:Nat)(T:Option Addr)(ct:Nat)(tb:List (Nat×Nat)):Prop where
 blk:Blk w t 93 #[.string X.name,.slice A X.tiers.length c,.slice B X.srcs.length d,.int .i64 X.bound,.int .i64 X.done,.slice T X.tiers.length ct]
 tiers:w.ownsRow base 99 4 (.slice A X.tiers.length c) X.tiers.length (zaf X.tiers)
 srcs:w.ownsRow base 3 1 (.slice B X.srcs.length d) X.srcs.length (za6 X.srcs)
 row:w.ownsRow base 208 1 (.slice T X.tiers.length ct) X.tiers.length (zfC tb)
 tlen:X.tabs.length=X.tiers.length
 tab:∀ (i:Nat) (p:Nat×Nat) (x:zaa) (l:List zah),tb[i]? =some p→X.tiers[i]? =some x→X.tabs[i]? =some l→zbp w p.1 x.every p.2 l
 nodup:(tb.map Prod.snd).Nodup
 ge:∀ p∈tb,base≤p.1∧base≤p.2
 tge:base≤t
def zip(w:World)(t base:Nat)(X:ShX):Prop:=∃ A c B d T ct tb,zeL w t base X A c B d T ct tb
theorem zeL.len{w:World}{t base:Nat}{X:ShX}{A B T:Option Addr}{c d ct:Nat}{tb:List (Nat×Nat)}(h:zeL w t base X A c B d T ct tb):tb.length=X.tiers.length:=by
 have:=h.row.1;unfold zfC at this;rw[List.length_map] at this;omega
theorem zeL.tabAt{w:World}{t base:Nat}{X:ShX}{A B T:Option Addr}{c d ct:Nat}{tb:List (Nat×Nat)}(h:zeL w t base X A c B d T ct tb){k:Nat}(hk:k<X.tiers.length):
  ∃ g b x l,tb[k]? =some (g,b)∧X.tiers[k]? =some x∧X.tabs[k]? =some l∧zbp w g x.every b l:=by
 have h1:k<tb.length:=by rw[h.len];exact hk
 have h2:k<X.tabs.length:=by rw[h.tlen];exact hk
 exact⟨tb[k].1,tb[k].2,X.tiers[k],X.tabs[k],q6_ h1,q6_ hk,q6_ h2,h.tab k _ _ _ (q6_ h1) (q6_ hk) (q6_ h2)⟩
theorem zeL.fr0{w w':World}{t base:Nat}{X:ShX}{A B T:Option Addr}{c d ct:Nat}{tb:List (Nat×Nat)}(h:zeL w t base X A c B d T ct tb)(hf:Fr (fun _=>False) w w'):zeL w' t base X A c B d T ct tb:=
 ⟨h.blk.fr hf (fun h=>h),za_ h.tiers hf,za_ h.srcs hf,za_ h.row hf,h.tlen,fun i p x l h1 h2 h3=>(h.tab i p x l h1 h2 h3).fr0 hf,h.nodup,h.ge,h.tge⟩
theorem zeL.set{w w':World}{t base:Nat}{X:ShX}{A B T:Option Addr}{c d ct:Nat}{tb:List (Nat×Nat)}(h:zeL w t base X A c B d T ct tb){k g b:Nat}{x:zaa}{l':List zah}(hk:tb[k]? =some (g,b))(hx:X.tiers[k]? =some x)
  (ht:zbp w' g x.every b l') (hf:Fr (fun j=>j=b) w w'):zeL w' t base {X with tabs:=X.tabs.set k l'} A c B d T ct tb:=by
 have hkl:k<X.tiers.length:=(List.getElem?_eq_some_iff.1 hx).1
 obtain⟨l,hl⟩:∃ l,X.tabs[k]? =some l:=⟨_,q6_ (by rw[h.tlen];exact hkl)⟩
 obtain⟨es,ck,hbm⟩:=(h.tab k (g,b) x l hk hx hl).own.isMap;simp only at hbm
 have hrow:∀ {e:TypeId} {size n base':Nat} {v:Value} {xs:List Value},w.ownsRow base' e size v n xs→∀ j,zag v j→¬ j=b:=fun ho j hj e=>by
  obtain⟨cs',fz,hc⟩:=zc0 ho hj;rw[e,hbm] at hc
  cases hc
 have hblk:∀ {g':Nat} {ty:TypeId} {cs:Array Value},Blk w g' ty cs→g'≠b:=fun {g' ty cs} hb e=>by
  have hb0:w.heap[g']? =some (Obj.cells cs ty (0,0)):=hb;rw[e,hbm] at hb0
  cases hb0
 refine⟨h.blk.fr hf (hblk h.blk),zad h.tiers hf (hrow h.tiers),zad h.srcs hf (hrow h.srcs),zad h.row hf (hrow h.row),by simp[h.tlen],fun i p y l1 h1 h2 h3=>?_,h.nodup,h.ge,h.tge⟩
 by_cases e:i=k
 ·subst e
  rw[hk] at h1
  cases h1
  rw[hx] at h2
  cases h2
  rw[List.getElem?_set_self (by rw[h.tlen];exact hkl)] at h3
  cases h3
  exact ht
 ·rw[List.getElem?_set_ne (fun e'=>e e'.symm)] at h3
  have hT:=h.tab i p y l1 h1 h2 h3;refine hT.fr hf (hblk hT.blk) (fun e'=>?_)
  have hi:(tb.map Prod.snd)[i]? =some b:=by rw[List.getElem?_map,h1];simp[e']
  have hk2:(tb.map Prod.snd)[k]? =some b:=by rw[List.getElem?_map,hk];rfl
  have hil:=(List.getElem?_eq_some_iff.1 hi).1;exact e ((List.getElem?_inj hil h.nodup).1 (hi.trans hk2.symm))
def zhR(w:World)(t base:Nat)(X:ShX)(F:Nat→Prop):Prop:=∃ A c B d T ct tb,zeL w t base X A c B d T ct tb∧F=tF t tb
theorem zhR.at_{w:World}{t base:Nat}{X:ShX}{F:Nat→Prop}(h:zhR w t base X F):zip w t base X:=by
 obtain⟨A,c,B,d,T,ct,tb,hi,_⟩:=h;exact⟨A,c,B,d,T,ct,tb,hi⟩
theorem zip.on{w:World}{t base:Nat}{X:ShX}(h:zip w t base X):∃ F,zhR w t base X F:=by
 obtain⟨A,c,B,d,T,ct,tb,hi⟩:=h;exact⟨_,A,c,B,d,T,ct,tb,hi,rfl⟩
theorem zhR.fr0{w w':World}{t base:Nat}{X:ShX}{F:Nat→Prop}(h:zhR w t base X F)(hf:Fr (fun _=>False) w w'):zhR w' t base X F:=by
 obtain⟨A,c,B,d,T,ct,tb,hi,e⟩:=h;exact⟨A,c,B,d,T,ct,tb,hi.fr0 hf,e⟩
theorem zip.fr0{w w':World}{t base:Nat}{X:ShX}(h:zip w t base X)(hf:Fr (fun _=>False) w w'):zip w' t base X:=by
 obtain⟨F,h⟩:=h.on;exact (h.fr0 hf).at_
theorem zeL.map_{w:World}{t base:Nat}{X:ShX}{A B T:Option Addr}{c d ct:Nat}{tb:List (Nat×Nat)}(h:zeL w t base X A c B d T ct tb){j:Nat}(hj:tM tb j):base≤j∧j<w.heap.size∧∃ es ck,w.heap[j]? =some (.map es ck):=by
 obtain⟨p,hp,rfl⟩:=hj;obtain⟨k,hk⟩:=List.getElem?_of_mem hp
 have hkl:k<X.tiers.length:=by have:=(List.getElem?_eq_some_iff.1 hk).1;rw[h.len] at this;exact this
 obtain⟨g,b,x,l,h1,h2,h3,hT⟩:=h.tabAt hkl;rw[hk] at h1
 cases h1
 exact⟨(h.ge _ hp).2,hT.own.lt,hT.own.isMap⟩
theorem zhR.ge{w:World}{t base:Nat}{X:ShX}{F:Nat→Prop}(h:zhR w t base X F):∀ j,F j→base≤j∧j<w.heap.size:=by
 obtain⟨A,c,B,d,T,ct,tb,hi,rfl⟩:=h;rintro j (rfl | hj)
 ·exact⟨hi.tge,hi.blk.lt⟩
 ·exact⟨(hi.map_ hj).1,(hi.map_ hj).2.1⟩
theorem zhR.fr{w w':World}{t base:Nat}{X:ShX}{F G:Nat→Prop}(h:zhR w t base X F)(hf:Fr G w w')(hG:∀ j,G j→(∃ es ck,w.heap[j]? =some (.map es ck))∨(∃ cs fz ty,w.heap[j]? =some (.cells cs ty fz)∧ty≠99∧ty≠3∧ty≠208∧ty≠244))(hd:∀ j,F j→¬ G j):zhR w' t base X F:=by
 obtain⟨A,c,B,d,T,ct,tb,hi,rfl⟩:=h
 have hrow:∀ {e:TypeId} {size n base':Nat} {v:Value} {xs:List Value},w.ownsRow base' e size v n xs→(e=99∨e=3∨e=208)→∀ j,zag v j→¬ G j:=fun ho hne j hj hg=>by
  obtain⟨cs',fz',hc⟩:=zc0 ho hj
  rcases hG j hg with ⟨es,ck,hbm⟩ | ⟨cs,fz,ty,hb,h1,h2,h3,h4⟩
  ·rw[hbm] at hc;cases hc
  ·rw[hb] at hc
   injection hc with hc
   injection hc with _ hc _
   subst hc
   rcases hne with e | e | e
   ·exact h1 e
   ·exact h2 e
   ·exact h3 e
 have hblk:∀ {g':Nat} {cs:Array Value},Blk w g' 244 cs→¬ G g':=fun {g' cs} hB hg=>by
  have hb0:w.heap[g']? =some (Obj.cells cs 244 (0,0)):=hB
  rcases hG g' hg with ⟨es,ck,hbm⟩ | ⟨cs,fz,ty,hb,h1,h2,h3,h4⟩
  ·rw[hbm] at hb0;cases hb0
  ·rw[hb] at hb0
   injection hb0 with hc
   injection hc with _ hc _
   exact h4 hc
 refine⟨A,c,B,d,T,ct,tb,⟨hi.blk.fr hf (hd t (.inl rfl)),zad hi.tiers hf (hrow hi.tiers (.inl rfl)),zad hi.srcs hf (hrow hi.srcs (.inr (.inl rfl))),zad hi.row hf (hrow hi.row (.inr (.inr rfl))),hi.tlen,fun i p x l h1 h2 h3=>?_,hi.nodup,hi.ge,hi.tge⟩,rfl⟩;have hT:=hi.tab i p x l h1 h2 h3;exact hT.fr hf (hblk hT.blk) (hd p.2 (.inr ⟨p,List.mem_of_getElem? h1,rfl⟩))
theorem zhR.kind{w:World}{t base:Nat}{X:ShX}{F:Nat→Prop}(h:zhR w t base X F):∀ j,F j→(∃ es ck,w.heap[j]? =some (.map es ck))∨(∃ cs fz,w.heap[j]? =some (.cells cs 93 fz)):=by
 obtain⟨A,c,B,d,T,ct,tb,hi,rfl⟩:=h;rintro j (rfl | hj)
 ·exact .inr ⟨_,_,hi.blk⟩
 ·exact .inl (hi.map_ hj).2.2
structure ShP(w:World)(t base:Nat)(X:ShX)(A:Option Addr)(c:Nat)(B:Option Addr)(d:Nat)(T:Option Addr)(ct:Nat)(tb:List (Nat×Nat))(k:Nat):Prop where
 blk:Blk w t 93 #[.string X.name,.slice A X.tiers.length c,.slice B X.srcs.length d,.int .i64 X.bound,.int .i64 X.done,.slice T k ct]
 tiers:w.ownsRow base 99 4 (.slice A X.tiers.length c) X.tiers.length (zaf X.tiers)
 srcs:w.ownsRow base 3 1 (.slice B X.srcs.length d) X.srcs.length (za6 X.srcs)
 row:w.ownsRow base 208 1 (.slice T k ct) k (zfC tb)
 tab:∀ (i:Nat) (p:Nat×Nat) (x:zaa) (l:List zah),tb[i]? =some p→X.tiers[i]? =some x→X.tabs[i]? =some l→zbp w p.1 x.every p.2 l
 lt:∀ p∈tb,p.1<w.heap.size∧p.2<w.heap.size
 nodup:(tb.map Prod.snd).Nodup
 ge:∀ p∈tb,base≤p.1∧base≤p.2
 tge:base≤t
theorem ShP.len{w:World}{t base k:Nat}{X:ShX}{A B T:Option Addr}{c d ct:Nat}{tb:List (Nat×Nat)}(h:ShP w t base X A c B d T ct tb k):tb.length=k:=by
 have:=h.row.1;unfold zfC at this;rw[List.length_map] at this;omega
theorem ShP.fr0{w w':World}{t base k:Nat}{X:ShX}{A B T:Option Addr}{c d ct:Nat}{tb:List (Nat×Nat)}(h:ShP w t base X A c B d T ct tb k)(hf:Fr (fun _=>False) w w'):ShP w' t base X A c B d T ct tb k:=
 ⟨h.blk.fr hf (fun h=>h),za_ h.tiers hf,za_ h.srcs hf,za_ h.row hf,fun i p x l h1 h2 h3=>(h.tab i p x l h1 h2 h3).fr0 hf,fun p hp=>⟨Nat.lt_of_lt_of_le (h.lt p hp).1 hf.size,Nat.lt_of_lt_of_le (h.lt p hp).2 hf.size⟩,h.nodup,h.ge,h.tge⟩
theorem ShP.done{w:World}{t base:Nat}{X:ShX}{A B T:Option Addr}{c d ct:Nat}{tb:List (Nat×Nat)}(h:ShP w t base X A c B d T ct tb X.tiers.length)(hl:X.tabs.length=X.tiers.length):zip w t base X:=
 ⟨A,c,B,d,T,ct,tb,h.blk,h.tiers,h.srcs,h.row,hl,h.tab,h.nodup,h.ge,h.tge⟩
theorem ShP.snoc{w w5 w6:World}{t base k g b:Nat}{X:ShX}{A B T T':Option Addr}{c d ct ct':Nat}{tb:List (Nat×Nat)}{x:zaa}{l:List zah}(h:ShP w t base X A c B d T ct tb k)
  (hf:Fr (fun _=>False) w w5) (hbs:base≤w.heap.size) (hg:w.heap.size≤g) (hb:w.heap.size≤b) (hx:X.tiers[k]? =some x) (hl:X.tabs[k]? =some l) (ht:zbp w5 g x.every b l) (o:Obj)
  (ho:w6.ownsRow base 208 1 (.slice T' (k+1) ct') (k+1) (zfC tb++[.pointer (some ⟨g,0,none⟩)])) (hm:Mv (zag (.slice T k ct)) (zag (.slice T' (k+1) ct')) (w5.alloc o) w6):
  ShP (w6.setCell ⟨t,5,none⟩ (.slice T' (k+1) ct')) t base X A c B d T' ct' (tb++[(g,b)]) (k+1)∧Fr (fun j=>base≤j) w (w6.setCell ⟨t,5,none⟩ (.slice T' (k+1) ct')):=by
 have h5:=h.fr0 (hf.trans (Fr.none_alloc w5 o) q4_);have ht5:zbp (w5.alloc o) g x.every b l:=ht.fr0 (Fr.none_alloc _ _);have hblk:∀ {g':Nat} {ty:TypeId} {cs:Array Value},Blk (w5.alloc o) g' ty cs→ty≠208→¬ zag (.slice T k ct) g':=fun {g' ty cs} hB hne hj=>zac h5.row hB (fun e=>hne e.symm) hj
 have hmap:∀ {b':Nat} {m:List zah},zct (w5.alloc o) b' m→¬ zag (.slice T k ct) b':=fun {b' m} hB hj=>by
  obtain⟨es,ck,hbm⟩:=hB.isMap;obtain⟨cs',fz,hc⟩:=zc0 h5.row hj;rw[hbm] at hc
  cases hc
 have b6:Blk w6 t 93 #[.string X.name,.slice A X.tiers.length c,.slice B X.srcs.length d,.int .i64 X.bound,.int .i64 X.done,.slice T k ct]:=h5.blk.fr hm.fr (hblk h5.blk (by decide));have t6:w6.ownsRow base 99 4 (.slice A X.tiers.length c) X.tiers.length (zaf X.tiers):=zad h5.tiers hm.fr (zcZ h5.tiers h5.row (by decide));have f6:w6.ownsRow base 3 1 (.slice B X.srcs.length d) X.srcs.length (za6 X.srcs):=zad h5.srcs hm.fr (zcZ h5.srcs h5.row (by decide));have hs:Fr (fun j=>j=t) w6 (w6.setCell ⟨t,5,none⟩ (.slice T' (k+1) ct')):=(Fr.refl (fun j=>j=t) w6).setCell (p:=⟨t,5,none⟩) (.inl rfl) _;have hlen:=h.len;have hkl:k<X.tiers.length:=(List.getElem?_eq_some_iff.1 hx).1
 have tab6:∀ {g' b':Nat} {e:Int} {m:List zah},zbp (w5.alloc o) g' e b' m→zbp (w6.setCell ⟨t,5,none⟩ (.slice T' (k+1) ct')) g' e b' m:=fun {g' b' e m} hT=>by
  have hT6:zbp w6 g' e b' m:=hT.fr hm.fr (hblk hT.blk (by decide)) (hmap hT.own);refine hT6.fr hs (zc6 hT6.blk b6 (by decide)) (fun e'=>?_);obtain⟨es,ck,hbm⟩:=hT6.own.isMap;have hb0:w6.heap[t]? =some (Obj.cells _ _ (0,0)):=b6;rw[← e',hbm] at hb0
  cases hb0
 have hsz:w.heap.size≤(w6.setCell ⟨t,5,none⟩ (.slice T' (k+1) ct')).heap.size:=Nat.le_trans (Nat.le_trans (hf.trans (Fr.none_alloc w5 o) q4_).size hm.fr.size) hs.size;refine⟨⟨b6.set_ 5 _,zad t6 hs (fun j hj e=>zac t6 b6 (by decide) (by rw[← e];exact hj)),zad f6 hs (fun j hj e=>zac f6 b6 (by decide) (by rw[← e];exact hj)),?_,fun i p y m h1 h2 h3=>?_,fun p hp=>?_,?_,fun p hp=>?_,h.tge⟩,?_⟩
 ·have:zfC (tb++[(g,b)])=zfC tb++[.pointer (some ⟨g,0,none⟩)]:=by unfold zfC;rw[List.map_append];rfl
  rw[this];exact zad ho hs (fun j hj e=>zac ho b6 (by decide) (by rw[← e];exact hj))
 ·by_cases hi:i<tb.length
  ·rw[List.getElem?_append_left hi] at h1
   exact tab6 (h5.tab i p y m h1 h2 h3)
  ·rw[List.getElem?_append_right (by omega)] at h1
   have hik:i=k:=by
    have:=(List.getElem?_eq_some_iff.1 h1).1;simp at this;omega
   subst hik;rw[hlen,Nat.sub_self] at h1
   cases h1
   rw[hx] at h2
   cases h2
   rw[hl] at h3
   cases h3
   exact tab6 ht5
 ·rcases List.mem_append.1 hp with hp | hp
  ·exact⟨Nat.lt_of_lt_of_le (h.lt p hp).1 hsz,Nat.lt_of_lt_of_le (h.lt p hp).2 hsz⟩
  ·rw[List.mem_singleton] at hp
   subst hp;exact⟨(tab6 ht5).blk.lt,(tab6 ht5).own.lt⟩
 ·rw[List.map_append,List.nodup_append]
  refine⟨h.nodup,by simp,fun a ha b' hb'=>?_⟩;obtain⟨p,hp,rfl⟩:=List.mem_map.1 ha;simp at hb';subst hb';have:=(h.lt p hp).2;omega
 ·rcases List.mem_append.1 hp with hp | hp
  ·exact h.ge p hp
  ·rw[List.mem_singleton] at hp
   subst hp;exact⟨by omega,by omega⟩
 ·have q1:Fr (fun j=>base≤j) w (w5.alloc o):=(hf.trans (Fr.none_alloc w5 o) q4_).mono q4_
  have q2:Fr (fun j=>base≤j) w w6:=q1.trans hm.fr (fun j hj=>.inl (h5.row.lt j hj).1);exact q2.trans hs (fun j hj=>.inl (by rw[hj];exact h.tge))
theorem zaV.frSh{w w':World}{t base:Nat}{X:zae}{F G:Nat→Prop}(h:zaV w t base X F)(hf:Fr G w w')(hG:∀ j,G j→(∃ es ck,w.heap[j]? =some (.map es ck))∨(∃ cs fz ty,w.heap[j]? =some (.cells cs ty fz)∧ty≠99∧ty≠3∧ty≠208∧ty≠244))(hd:∀ j,F j→¬ G j):zaV w' t base X F:=by
 obtain⟨A,c,B,d,T,ct,tb,hi,rfl⟩:=h
 have hrow:∀ {e:TypeId} {size n base':Nat} {v:Value} {xs:List Value},w.ownsRow base' e size v n xs→(e=99∨e=3∨e=208)→∀ j,zag v j→¬ G j:=fun ho hne j hj hg=>by
  obtain⟨cs',fz',hc⟩:=zc0 ho hj
  rcases hG j hg with ⟨es,ck,hbm⟩ | ⟨cs,fz,ty,hb,h1,h2,h3,h4⟩
  ·rw[hbm] at hc;cases hc
  ·rw[hb] at hc
   injection hc with hc
   injection hc with _ hc _
   subst hc
   rcases hne with e | e | e
   ·exact h1 e
   ·exact h2 e
   ·exact h3 e
 have hblk:∀ {g':Nat} {cs:Array Value},Blk w g' 244 cs→¬ G g':=fun {g' cs} hB hg=>by
  have hb0:w.heap[g']? =some (Obj.cells cs 244 (0,0)):=hB
  rcases hG g' hg with ⟨es,ck,hbm⟩ | ⟨cs,fz,ty,hb,h1,h2,h3,h4⟩
  ·rw[hbm] at hb0;cases hb0
  ·rw[hb] at hb0
   injection hb0 with hc
   injection hc with _ hc _
   exact h4 hc
 refine⟨A,c,B,d,T,ct,tb,⟨hi.blk.fr hf (hd t (.inl rfl)),zad hi.tiers hf (hrow hi.tiers (.inl rfl)),zad hi.floors hf (hrow hi.floors (.inr (.inl rfl))),zad hi.row hf (hrow hi.row (.inr (.inr rfl))),hi.tlen,fun i p x l h1 h2 h3=>?_,hi.nodup,hi.ge,hi.tge⟩,rfl⟩;have hT:=hi.tab i p x l h1 h2 h3;exact hT.fr hf (hblk hT.blk) (hd p.2 (.inr ⟨p,List.mem_of_getElem? h1,rfl⟩))
theorem zhR.kind2{w:World}{t base:Nat}{X:ShX}{F:Nat→Prop}(h:zhR w t base X F):∀ j,F j→(∃ es ck,w.heap[j]? =some (.map es ck))∨(∃ cs fz ty,w.heap[j]? =some (.cells cs ty fz)∧ty≠99∧ty≠3∧ty≠208∧ty≠244):=fun j hj=>by
 rcases h.kind j hj with h | ⟨cs,fz,h⟩
 ·exact .inl h
 ·exact .inr ⟨cs,fz,_,h,by decide,by decide,by decide,by decide⟩
theorem zaV.kind2{w:World}{t base:Nat}{X:zae}{F:Nat→Prop}(h:zaV w t base X F):∀ j,F j→(∃ es ck,w.heap[j]? =some (.map es ck))∨(∃ cs fz ty,w.heap[j]? =some (.cells cs ty fz)∧ty≠99∧ty≠3∧ty≠208∧ty≠244):=fun j hj=>by
 rcases h.kind j hj with h | ⟨cs,fz,h⟩
 ·exact .inl h
 ·exact .inr ⟨cs,fz,_,h,by decide,by decide,by decide,by decide⟩
section
variable {nm nm2:ByteArray} {l l2:List zaa} {fl fl2:List Int} {lo lo2:Nat} {W W':World} {t t2 s s2 base base2:Nat} {X Y:zae} {S S2:ShX} {F F2 G:Nat→Prop} {c c2:Nat}
theorem Tio.frSh(h:Tio nm l fl lo W t X F c)(hf:Fr G W W')(hS:zhR W s base S G)(hd:∀ j,F j→¬ G j):Tio nm l fl lo W' t X F c:=by
 obtain⟨b,hb,ho⟩:=h.on;exact⟨⟨b,hb,ho.frSh hf hS.kind2 hd⟩,h.good⟩
end
section
variable {w w':World} {t base:Nat} {X:ShX} {F:Nat→Prop}
theorem zeL.cells{A B T:Option Addr}{c d ct:Nat}{tb:List (Nat×Nat)}(h:zeL w t base X A c B d T ct tb){G:Nat→Prop}{W:World}(f:Fr G w W)(hg:¬ G t):
  W.cell? ⟨t,0,none⟩=some (.string X.name)∧W.cell? ⟨t,1,none⟩=some (.slice A X.tiers.length c)∧W.cell? ⟨t,2,none⟩=some (.slice B X.srcs.length d)∧W.cell? ⟨t,3,none⟩=some (.int .i64 X.bound)∧W.cell? ⟨t,4,none⟩=some (.int .i64 X.done)∧W.cell? ⟨t,5,none⟩=some (.slice T X.tiers.length ct):=
 have b:=h.blk.fr f hg
 ⟨b.cell 0,b.cell 1,b.cell 2,b.cell 3,b.cell 4,b.cell 5⟩
end
theorem zlj(t base:Nat)(X:ShX)(w:World)(h:zip w t base X):
  Calls prog 34 #[.pointer (some ⟨t,0,none⟩)] w fun r w'=>r=.returned (.int .i64 X.bound)∧w=w':=by
 obtain⟨A,c,B,d,T,ct,tb,hi⟩:=h;obtain⟨_,_,_,c3,_,_⟩:=hi.cells (Fr.refl (fun _=>False) w) (fun h=>h);clear hi;go_enter func34,ntmps34;go_wp2;go_ret;exact⟨rfl,rfl⟩
theorem zmu(t base:Nat)(X:ShX)(w:World)(h:zip w t base X):
  Calls prog 35 #[.pointer (some ⟨t,0,none⟩)] w fun r w'=>r=.returned (.int .i64 X.done)∧w=w':=by
 obtain⟨A,c,B,d,T,ct,tb,hi⟩:=h;obtain⟨_,_,_,_,c4,_⟩:=hi.cells (Fr.refl (fun _=>False) w) (fun h=>h);clear hi;go_enter func35,ntmps35;go_wp2;go_ret;exact⟨rfl,rfl⟩
theorem zmv(w:World):Calls prog 109 #[.pointer none] w fun r w'=>r=.returned (.pointer none)∧w=w':=by
 go_enter func109,ntmps109;go_wp2;go_ret;exact⟨rfl,rfl⟩
def zdM{α:Type}(n:Nat)(f g:Nat→α)(i:Nat):List α:=(List.range n).map fun k=>if k<i then f k else g k
section
variable {α:Type} {n i:Nat} {f g:Nat→α}
theorem zm_:(zdM n f g i).length=n:=by unfold zdM;simp
theorem zk3:zdM n f g 0=(List.range n).map g:=by unfold zdM;simp
theorem zma:zdM n f g n=(List.range n).map f:=by
 unfold zdM;refine List.map_congr_left fun k hk=>?_;rw[if_pos (List.mem_range.1 hk)]
theorem zl9(h:i<n):(zdM n f g i).set i (f i)=zdM n f g (i+1):=by
 apply List.ext_getElem?
 intro j
 by_cases e:i=j
 ·subst e
  rw[List.getElem?_set_self (by rw[zm_];exact h)];unfold zdM;rw[List.getElem?_map,List.getElem?_range h];simp
 ·rw[List.getElem?_set_ne e]
  unfold zdM;rw[List.getElem?_map,List.getElem?_map]
  by_cases hj:j<n
  ·rw[List.getElem?_range hj]
   simp only[Option.map_some]
   by_cases h1:j<i
   ·rw[if_pos h1,if_pos (by omega)]
   ·rw[if_neg h1,if_neg (by omega)]
  ·rw[List.getElem?_eq_none (by simpa using hj)]
   rfl
end
theorem zoB{tabs:List (List zah)}{n:Nat}(h:tabs.length=n):(List.range n).map (fun k=>tabs.getD k [])=tabs:=by
 apply List.ext_getElem?
 intro j;rw[List.getElem?_map]
 by_cases hj:j<n
 ·rw[List.getElem?_range hj,q6_ (by omega)]
  simp[List.getD_eq_getElem?_getD,q6_ (show j<tabs.length by omega)]
 ·rw[List.getElem?_eq_none (by simpa using hj),List.getElem?_eq_none (by omega)]
  rfl
section
variable {W W':World} {p lo:Nat} {F F' G:Nat→Prop} {every:Int} {l:List zah}
end
section
variable {W W':World} {g lo:Nat} {F G:Nat→Prop} {X:zae} {A B T:Option Addr} {c d ct:Nat} {P:List Nat}
end
end Go.Proofs.YteajonicnkpbbaaGreatDoor
