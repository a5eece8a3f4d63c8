/- Tiers under a policy that may be: what their calls answer, and what stays true. -/
import Derived.Test.YtjhhodndlkpmhaaGreatDoorGoodX
import Derived.Test.YtjhhodndlkpmhaaGreatDoorPolSame
namespace Go.Proofs.YtjhhodndlkpmhaaGreatDoor
set_option linter.all false
open Go.RowKit Tryz
structure zb_(nm:ByteArray)(l:List za_):Prop where
 ck:zak nm l=true
 wf:∀ t∈l,t.wf
structure Tio(nm:ByteArray)(l:List za_)(fl:List Int)(lo:Nat)(W:World)(t:Nat)(X:zaa)(F:Nat→Prop)(c:Nat):Prop where
 on:∃ base,lo≤base∧zaJ W t base X F
 good:zbf nm l fl X c
section
variable {nm:ByteArray} {l:List za_} {fl:List Int} {lo:Nat} {W W':World} {t:Nat} {X:zaa} {F:Nat→Prop} {c:Nat}
theorem zb_.pos(p:zb_ nm l):0<l.length:=by have:=(zch p.ck).1;omega
theorem zb_.five(p:zb_ nm l):l.length≤5:=(zch p.ck).2
theorem Tio.pos(h:Tio nm l fl lo W t X F c)(p:zb_ nm l):0<X.tiers.length:=by rw[h.good.tiers];exact p.pos
theorem Tio.five(h:Tio nm l fl lo W t X F c)(p:zb_ nm l):X.tiers.length≤1000:=by rw[h.good.tiers];have:=p.five;omega
theorem Tio.wf(h:Tio nm l fl lo W t X F c)(p:zb_ nm l):∀ x∈X.tiers,x.wf:=by rw[h.good.tiers];exact p.wf
theorem Tio.short(h:Tio nm l fl lo W t X F c){m:Nat}(hc:c≤m):∀ y∈X.tabs,y.length≤m:=fun y hy=>Nat.le_trans (h.good.len y hy) hc
theorem Tio.fr0(h:Tio nm l fl lo W t X F c)(f:Fr (fun _=>False) W W'):Tio nm l fl lo W' t X F c:=by
 obtain⟨base,hb,ho⟩:=h.on;exact⟨⟨base,hb,ho.fr0 f⟩,h.good⟩
theorem Tio.ge(h:Tio nm l fl lo W t X F c):∀ j,F j→lo≤j∧j<W.heap.size:=fun j hj=>by
 obtain⟨base,hb,ho⟩:=h.on;have:=ho.ge j hj;omega
theorem Tio.more(h:Tio nm l fl lo W t X F c){d:Nat}(hd:c≤d):Tio nm l fl lo W t X F d:=⟨h.on,⟨h.good.name,h.good.tiers,h.good.floors,h.good.now,h.good.tlen,fun m hm=>Nat.le_trans (h.good.len m hm) hd,h.good.good,h.good.grid⟩⟩
theorem zhD{now:Int}(h:zfs nm l now fl=0):zak nm l=true:=by
 unfold zfs at h
 split at h
 ·assumption
 ·omega
theorem zq8(hnm:nm.size≤maxLen)(hwf:∀ t∈l,t.wf)(A:Option Addr)(n c:Nat)(now:Int)(hnow: -9223372036854775808≤now∧now≤9223372036854775807)(lo:Nat)(w:World)(hlo:lo≤w.heap.size)(hr:Rd w 4 A n (zah l))(hnc:n≤c)(hn:n≤1099511627776):
  Calls prog 39 #[.agg #[.string nm,.slice A n c],.int .i64 now,.slice none 0 0] w fun r w'=>((zfs nm l now []=0→zb_ nm l∧∃ t F,r=.returned (.tuple #[.pointer (some ⟨t,0,none⟩),.int .i64 0])∧Tio nm l [] lo w' t (zfZ nm l now []) F 0∧∀ j,F j→w.heap.size≤j)∧(zfs nm l now []≠0→r=.returned (.tuple #[.pointer none,.int .i64 (zfs nm l now [])])))∧Below w.heap.size w w':=by
 refine (zh6 nm hnm l A n c now hnow [] none 0 0 w hr hnc hwf hn Rd.nil_ (by omega)).mono ?_;rintro r w' ⟨⟨h1,h2⟩,hb⟩;refine⟨⟨fun h=>⟨⟨zhD h,hwf⟩,?_⟩,h2⟩,hb⟩;obtain⟨t,rfl,ha⟩:=h1 h;obtain⟨F,ho⟩:=ha.on;exact⟨t,F,rfl,⟨⟨_,hlo,ho⟩,zbf.new h⟩,fun j hj=>(ho.ge j hj).1⟩
theorem znF(p:zb_ nm l)(h:Tio nm l fl lo W t X F c)(hc:c≤1000000)(s:List zas)(A:Option Addr)(n d:Nat)(hr:Rd W 3 A n (zdz s))(hsw:∀ x∈s,x.wf):
  Calls prog 43 #[.pointer (some ⟨t,0,none⟩),.slice A n d] W fun r w'=>r=.returned (.int .i64 (zfR X s))∧Tio nm l fl lo w' t (za4 X s) F (c+8)∧Fr F W w':=by
 obtain⟨base,hb,ho⟩:=h.on;refine (zpI t base X F s A n d W ho (h.pos p) (h.five p) (h.short hc) h.good.now (h.wf p) hr hsw).mono ?_;rintro r w' ⟨rfl,h1,h2⟩;exact⟨rfl,⟨⟨base,hb,h1⟩,h.good.put s⟩,h2.mono (fun _ h=>.inl h.1)⟩
theorem zpJ(p:zb_ nm l)(h:Tio nm l fl lo W t X F c)(hc:c≤1000000)(n:Int)(hn:i64 n):
  Calls prog 40 #[.pointer (some ⟨t,0,none⟩),.int .i64 n] W fun r w'=>r=.returned (.int .i64 (zdj X n))∧Tio nm l fl lo w' t (zaz X n) F c∧Fr F W w':=by
 obtain⟨base,hb,ho⟩:=h.on;refine (znB t base X F n hn W ho (h.pos p) (h.five p) (h.short hc) h.good.now (h.wf p)).mono ?_;rintro r w' ⟨rfl,h1,h2⟩;exact⟨rfl,⟨⟨base,hb,h1⟩,h.good.tick n⟩,h2⟩
theorem zh8(p:zb_ nm l)(h:Tio nm l fl lo W t X F c)(hfl:fl.length≤1099511627776)(lo2:Nat)(hlo:lo2≤W.heap.size):
  Calls prog 42 #[.pointer (some ⟨t,0,none⟩)] W fun r w'=>(∃ t' F',r=.returned (.pointer (some ⟨t',0,none⟩))∧Tio nm l fl lo2 w' t' X F' c∧∀ j,F' j→W.heap.size≤j)∧Below W.heap.size W w':=by
 obtain⟨base,hb,ho⟩:=h.on;refine (znL t base X W ho.at_ (Nat.le_trans (h.five p) (by omega)) (by rw[h.good.floors];exact hfl)).mono ?_;rintro r w' ⟨⟨t',rfl,ha⟩,h2⟩;obtain⟨F',ho'⟩:=ha.on;exact⟨⟨t',F',rfl,⟨⟨_,hlo,ho'⟩,h.good⟩,fun j hj=>(ho'.ge j hj).1⟩,h2⟩
theorem zh7(p:zb_ nm l)(h:Tio nm l fl lo W t X F c)(hc:c≤1000000):
  Calls prog 35 #[.pointer (some ⟨t,0,none⟩)] W fun r w'=>r=.returned (.int .i64 (zaB X:Nat))∧Below W.heap.size W w':=by
 obtain⟨base,hb,ho⟩:=h.on;exact znD t base X W ho.at_ (h.pos p) (h.five p) (h.short hc) (by rw[h.good.tiers];exact fun x hx=>(zaN p.ck hx).2.2.2.2.2)
theorem zke(h:Tio nm l fl lo W t X F c)(hc:c≤1000000)(k:Nat)(hk:k<l.length):
  Calls prog 28 #[.pointer (some ⟨t,0,none⟩),.int .i64 k] W fun r w'=>(∃ A c,r=.returned (.slice A (X.tabs.getD k []).length c)∧w'.ownsRow W.heap.size 127 7 (.slice A (X.tabs.getD k []).length c) (X.tabs.getD k []).length (za1 (X.tabs.getD k [])))∧Below W.heap.size W w':=by
 obtain⟨base,hb,ho⟩:=h.on
 have hkt:k<X.tiers.length:=by rw[h.good.tiers];exact hk
 have hkl:k<X.tabs.length:=by rw[h.good.tlen];exact hk
 have e:X.tabs.getD k []=X.tabs[k]:=by rw[List.getD_eq_getElem?_getD,q6_ hkl];rfl
 rw[e];exact zkd t base X k X.tiers[k] X.tabs[k] W ho.at_ (q6_ hkt) (q6_ hkl) (by have:=h.good.len _ (List.getElem_mem hkl);omega)
end
structure ShX where
 name:ByteArray
 tiers:List za_
 srcs:List Int
 bound:Int
 done:Int
 tabs:List (List zae)
structure zd0(w:World)(t base:Nat)(X:ShX)(A:Option Addr)(c:Nat)(B:Option Addr)(d:Nat)(T:Option Addr)(ct:Nat)(tb:List (Nat×Nat)):Prop where
 blk:Blk w t 108 #[.string X.name,.slice A X.tiers.length c,.slice B X.srcs.length d,.int .i64 X.bound,.int .i64 X.done,.slice T X.tiers.length ct]
 tiers:w.ownsRow base 130 4 (.slice A X.tiers.length c) X.tiers.length (zah X.tiers)
 srcs:w.ownsRow base 3 1 (.slice B X.srcs.length d) X.srcs.length (zbg X.srcs)
 row:w.ownsRow base 121 1 (.slice T X.tiers.length ct) X.tiers.length (zfY tb)
 tlen:X.tabs.length=X.tiers.length
 tab:∀ (i:Nat) (p:Nat×Nat) (x:za_) (l:List zae),tb[i]? =some p→X.tiers[i]? =some x→X.tabs[i]? =some l→zaw w p.1 x.every p.2 l
 nodup:(tb.map Prod.snd).Nodup
 ge:∀ p∈tb,base≤p.1∧base≤p.2
 tge:base≤t
def zj7(w:World)(t base:Nat)(X:ShX):Prop:=∃ A c B d T ct tb,zd0 w t base X A c B d T ct tb
theorem zd0.len{w:World}{t base:Nat}{X:ShX}{A B T:Option Addr}{c d ct:Nat}{tb:List (Nat×Nat)}(h:zd0 w t base X A c B d T ct tb):tb.length=X.tiers.length:=by
 have:=h.row.1;unfold zfY at this;rw[List.length_map] at this;omega
theorem zd0.tabAt{w:World}{t base:Nat}{X:ShX}{A B T:Option Addr}{c d ct:Nat}{tb:List (Nat×Nat)}(h:zd0 w t base X A c B d T ct tb){k:Nat}(hk:k<X.tiers.length):
  ∃ g b x l,tb[k]? =some (g,b)∧X.tiers[k]? =some x∧X.tabs[k]? =some l∧zaw w g x.every b l:=by
 have h1:k<tb.length:=by rw[h.len];exact hk
 have h2:k<X.tabs.length:=by rw[h.tlen];exact hk
 exact⟨tb[k].1,tb[k].2,X.tiers[k],X.tabs[k],q6_ h1,q6_ hk,q6_ h2,h.tab k _ _ _ (q6_ h1) (q6_ hk) (q6_ h2)⟩
theorem zd0.fr0{w w':World}{t base:Nat}{X:ShX}{A B T:Option Addr}{c d ct:Nat}{tb:List (Nat×Nat)}(h:zd0 w t base X A c B d T ct tb)(hf:Fr (fun _=>False) w w'):zd0 w' t base X A c B d T ct tb:=
 ⟨h.blk.fr hf (fun h=>h),zac h.tiers hf,zac h.srcs hf,zac h.row hf,h.tlen,fun i p x l h1 h2 h3=>(h.tab i p x l h1 h2 h3).fr0 hf,h.nodup,h.ge,h.tge⟩
theorem zd0.set{w w':World}{t base:Nat}{X:ShX}{A B T:Option Addr}{c d ct:Nat}{tb:List (Nat×Nat)}(h:zd0 w t base X A c B d T ct tb){k g b:Nat}{x:za_}{l':List zae}(hk:tb[k]? =some (g,b))(hx:X.tiers[k]? =some x)
  (ht:zaw w' g x.every b l') (hf:Fr (fun j=>j=b) w w'):zd0 w' t base {X with tabs:=X.tabs.set k l'} A c B d T ct tb:=by
 have hkl:k<X.tiers.length:=(List.getElem?_eq_some_iff.1 hx).1
 obtain⟨l,hl⟩:∃ l,X.tabs[k]? =some l:=⟨_,q6_ (by rw[h.tlen];exact hkl)⟩
 obtain⟨es,ck,hbm⟩:=(h.tab k (g,b) x l hk hx hl).own.isMap;simp only at hbm
 have hrow:∀ {e:TypeId} {size n base':Nat} {v:Value} {xs:List Value},w.ownsRow base' e size v n xs→∀ j,zaE v j→¬ j=b:=fun ho j hj e=>by
  obtain⟨cs',fz,hc⟩:=zdB ho hj;rw[e,hbm] at hc
  cases hc
 have hblk:∀ {g':Nat} {ty:TypeId} {cs:Array Value},Blk w g' ty cs→g'≠b:=fun {g' ty cs} hb e=>by
  have hb0:w.heap[g']? =some (Obj.cells cs ty (0,0)):=hb;rw[e,hbm] at hb0
  cases hb0
 refine⟨h.blk.fr hf (hblk h.blk),zaf h.tiers hf (hrow h.tiers),zaf h.srcs hf (hrow h.srcs),zaf h.row hf (hrow h.row),by simp[h.tlen],fun i p y l1 h1 h2 h3=>?_,h.nodup,h.ge,h.tge⟩
 by_cases e:i=k
 ·subst e
  rw[hk] at h1
  cases h1
  rw[hx] at h2
  cases h2
  rw[List.getElem?_set_self (by rw[h.tlen];exact hkl)] at h3
  cases h3
  exact ht
 ·rw[List.getElem?_set_ne (fun e'=>e e'.symm)] at h3
  have hT:=h.tab i p y l1 h1 h2 h3;refine hT.fr hf (hblk hT.blk) (fun e'=>?_)
  have hi:(tb.map Prod.snd)[i]? =some b:=by rw[List.getElem?_map,h1];simp[e']
  have hk2:(tb.map Prod.snd)[k]? =some b:=by rw[List.getElem?_map,hk];rfl
  have hil:=(List.getElem?_eq_some_iff.1 hi).1;exact e ((List.getElem?_inj hil h.nodup).1 (hi.trans hk2.symm))
def ze5(w:World)(t base:Nat)(X:ShX)(F:Nat→Prop):Prop:=∃ A c B d T ct tb,zd0 w t base X A c B d T ct tb∧F=tF t tb
theorem ze5.at_{w:World}{t base:Nat}{X:ShX}{F:Nat→Prop}(h:ze5 w t base X F):zj7 w t base X:=by
 obtain⟨A,c,B,d,T,ct,tb,hi,_⟩:=h;exact⟨A,c,B,d,T,ct,tb,hi⟩
theorem zj7.on{w:World}{t base:Nat}{X:ShX}(h:zj7 w t base X):∃ F,ze5 w t base X F:=by
 obtain⟨A,c,B,d,T,ct,tb,hi⟩:=h;exact⟨_,A,c,B,d,T,ct,tb,hi,rfl⟩
theorem ze5.fr0{w w':World}{t base:Nat}{X:ShX}{F:Nat→Prop}(h:ze5 w t base X F)(hf:Fr (fun _=>False) w w'):ze5 w' t base X F:=by
 obtain⟨A,c,B,d,T,ct,tb,hi,e⟩:=h;exact⟨A,c,B,d,T,ct,tb,hi.fr0 hf,e⟩
theorem zd0.map_{w:World}{t base:Nat}{X:ShX}{A B T:Option Addr}{c d ct:Nat}{tb:List (Nat×Nat)}(h:zd0 w t base X A c B d T ct tb){j:Nat}(hj:tM tb j):base≤j∧j<w.heap.size∧∃ es ck,w.heap[j]? =some (.map es ck):=by
 obtain⟨p,hp,rfl⟩:=hj;obtain⟨k,hk⟩:=List.getElem?_of_mem hp
 have hkl:k<X.tiers.length:=by have:=(List.getElem?_eq_some_iff.1 hk).1;rw[h.len] at this;exact this
 obtain⟨g,b,x,l,h1,h2,h3,hT⟩:=h.tabAt hkl;rw[hk] at h1
 cases h1
 exact⟨(h.ge _ hp).2,hT.own.lt,hT.own.isMap⟩
theorem ze5.ge{w:World}{t base:Nat}{X:ShX}{F:Nat→Prop}(h:ze5 w t base X F):∀ j,F j→base≤j∧j<w.heap.size:=by
 obtain⟨A,c,B,d,T,ct,tb,hi,rfl⟩:=h;rintro j (rfl | hj)
 ·exact⟨hi.tge,hi.blk.lt⟩
 ·exact⟨(hi.map_ hj).1,(hi.map_ hj).2.1⟩
theorem ze5.fr{w w':World}{t base:Nat}{X:ShX}{F G:Nat→Prop}(h:ze5 w t base X F)(hf:Fr G w w')(hG:∀ j,G j→(∃ es ck,w.heap[j]? =some (.map es ck))∨(∃ cs fz ty,w.heap[j]? =some (.cells cs ty fz)∧ty≠130∧ty≠3∧ty≠121∧ty≠178))(hd:∀ j,F j→¬ G j):ze5 w' t base X F:=by
 obtain⟨A,c,B,d,T,ct,tb,hi,rfl⟩:=h
 have hrow:∀ {e:TypeId} {size n base':Nat} {v:Value} {xs:List Value},w.ownsRow base' e size v n xs→(e=130∨e=3∨e=121)→∀ j,zaE v j→¬ G j:=fun ho hne j hj hg=>by
  obtain⟨cs',fz',hc⟩:=zdB ho hj
  rcases hG j hg with ⟨es,ck,hbm⟩ | ⟨cs,fz,ty,hb,h1,h2,h3,h4⟩
  ·rw[hbm] at hc;cases hc
  ·rw[hb] at hc
   injection hc with hc
   injection hc with _ hc _
   subst hc
   rcases hne with e | e | e
   ·exact h1 e
   ·exact h2 e
   ·exact h3 e
 have hblk:∀ {g':Nat} {cs:Array Value},Blk w g' 178 cs→¬ G g':=fun {g' cs} hB hg=>by
  have hb0:w.heap[g']? =some (Obj.cells cs 178 (0,0)):=hB
  rcases hG g' hg with ⟨es,ck,hbm⟩ | ⟨cs,fz,ty,hb,h1,h2,h3,h4⟩
  ·rw[hbm] at hb0;cases hb0
  ·rw[hb] at hb0
   injection hb0 with hc
   injection hc with _ hc _
   exact h4 hc
 refine⟨A,c,B,d,T,ct,tb,⟨hi.blk.fr hf (hd t (.inl rfl)),zaf hi.tiers hf (hrow hi.tiers (.inl rfl)),zaf hi.srcs hf (hrow hi.srcs (.inr (.inl rfl))),zaf hi.row hf (hrow hi.row (.inr (.inr rfl))),hi.tlen,fun i p x l h1 h2 h3=>?_,hi.nodup,hi.ge,hi.tge⟩,rfl⟩;have hT:=hi.tab i p x l h1 h2 h3;exact hT.fr hf (hblk hT.blk) (hd p.2 (.inr ⟨p,List.mem_of_getElem? h1,rfl⟩))
theorem ze5.kind{w:World}{t base:Nat}{X:ShX}{F:Nat→Prop}(h:ze5 w t base X F):∀ j,F j→(∃ es ck,w.heap[j]? =some (.map es ck))∨(∃ cs fz,w.heap[j]? =some (.cells cs 108 fz)):=by
 obtain⟨A,c,B,d,T,ct,tb,hi,rfl⟩:=h;rintro j (rfl | hj)
 ·exact .inr ⟨_,_,hi.blk⟩
 ·exact .inl (hi.map_ hj).2.2
structure ShP(w:World)(t base:Nat)(X:ShX)(A:Option Addr)(c:Nat)(B:Option Addr)(d:Nat)(T:Option Addr)(ct:Nat)(tb:List (Nat×Nat))(k:Nat):Prop where
 blk:Blk w t 108 #[.string X.name,.slice A X.tiers.length c,.slice B X.srcs.length d,.int .i64 X.bound,.int .i64 X.done,.slice T k ct]
 tiers:w.ownsRow base 130 4 (.slice A X.tiers.length c) X.tiers.length (zah X.tiers)
 srcs:w.ownsRow base 3 1 (.slice B X.srcs.length d) X.srcs.length (zbg X.srcs)
 row:w.ownsRow base 121 1 (.slice T k ct) k (zfY tb)
 tab:∀ (i:Nat) (p:Nat×Nat) (x:za_) (l:List zae),tb[i]? =some p→X.tiers[i]? =some x→X.tabs[i]? =some l→zaw w p.1 x.every p.2 l
 lt:∀ p∈tb,p.1<w.heap.size∧p.2<w.heap.size
 nodup:(tb.map Prod.snd).Nodup
 ge:∀ p∈tb,base≤p.1∧base≤p.2
 tge:base≤t
theorem ShP.len{w:World}{t base k:Nat}{X:ShX}{A B T:Option Addr}{c d ct:Nat}{tb:List (Nat×Nat)}(h:ShP w t base X A c B d T ct tb k):tb.length=k:=by
 have:=h.row.1;unfold zfY at this;rw[List.length_map] at this;omega
theorem ShP.fr0{w w':World}{t base k:Nat}{X:ShX}{A B T:Option Addr}{c d ct:Nat}{tb:List (Nat×Nat)}(h:ShP w t base X A c B d T ct tb k)(hf:Fr (fun _=>False) w w'):ShP w' t base X A c B d T ct tb k:=
 ⟨h.blk.fr hf (fun h=>h),zac h.tiers hf,zac h.srcs hf,zac h.row hf,fun i p x l h1 h2 h3=>(h.tab i p x l h1 h2 h3).fr0 hf,fun p hp=>⟨Nat.lt_of_lt_of_le (h.lt p hp).1 hf.size,Nat.lt_of_lt_of_le (h.lt p hp).2 hf.size⟩,h.nodup,h.ge,h.tge⟩
theorem ShP.done{w:World}{t base:Nat}{X:ShX}{A B T:Option Addr}{c d ct:Nat}{tb:List (Nat×Nat)}(h:ShP w t base X A c B d T ct tb X.tiers.length)(hl:X.tabs.length=X.tiers.length):zj7 w t base X:=
 ⟨A,c,B,d,T,ct,tb,h.blk,h.tiers,h.srcs,h.row,hl,h.tab,h.nodup,h.ge,h.tge⟩
theorem ShP.snoc{w w5 w6:World}{t base k g b:Nat}{X:ShX}{A B T T':Option Addr}{c d ct ct':Nat}{tb:List (Nat×Nat)}{x:za_}{l:List zae}(h:ShP w t base X A c B d T ct tb k)
  (hf:Fr (fun _=>False) w w5) (hbs:base≤w.heap.size) (hg:w.heap.size≤g) (hb:w.heap.size≤b) (hx:X.tiers[k]? =some x) (hl:X.tabs[k]? =some l) (ht:zaw w5 g x.every b l) (o:Obj)
  (ho:w6.ownsRow base 121 1 (.slice T' (k+1) ct') (k+1) (zfY tb++[.pointer (some ⟨g,0,none⟩)])) (hm:Mv (zaE (.slice T k ct)) (zaE (.slice T' (k+1) ct')) (w5.alloc o) w6):
  ShP (w6.setCell ⟨t,5,none⟩ (.slice T' (k+1) ct')) t base X A c B d T' ct' (tb++[(g,b)]) (k+1)∧Fr (fun j=>base≤j) w (w6.setCell ⟨t,5,none⟩ (.slice T' (k+1) ct')):=by
 have h5:=h.fr0 (hf.trans (Fr.none_alloc w5 o) q4_);have ht5:zaw (w5.alloc o) g x.every b l:=ht.fr0 (Fr.none_alloc _ _);have hblk:∀ {g':Nat} {ty:TypeId} {cs:Array Value},Blk (w5.alloc o) g' ty cs→ty≠121→¬ zaE (.slice T k ct) g':=fun {g' ty cs} hB hne hj=>zad h5.row hB (fun e=>hne e.symm) hj
 have hmap:∀ {b':Nat} {m:List zae},zbr (w5.alloc o) b' m→¬ zaE (.slice T k ct) b':=fun {b' m} hB hj=>by
  obtain⟨es,ck,hbm⟩:=hB.isMap;obtain⟨cs',fz,hc⟩:=zdB h5.row hj;rw[hbm] at hc
  cases hc
 have b6:Blk w6 t 108 #[.string X.name,.slice A X.tiers.length c,.slice B X.srcs.length d,.int .i64 X.bound,.int .i64 X.done,.slice T k ct]:=h5.blk.fr hm.fr (hblk h5.blk (by decide));have t6:w6.ownsRow base 130 4 (.slice A X.tiers.length c) X.tiers.length (zah X.tiers):=zaf h5.tiers hm.fr (zc6 h5.tiers h5.row (by decide));have f6:w6.ownsRow base 3 1 (.slice B X.srcs.length d) X.srcs.length (zbg X.srcs):=zaf h5.srcs hm.fr (zc6 h5.srcs h5.row (by decide));have hs:Fr (fun j=>j=t) w6 (w6.setCell ⟨t,5,none⟩ (.slice T' (k+1) ct')):=(Fr.refl (fun j=>j=t) w6).setCell (p:=⟨t,5,none⟩) (.inl rfl) _;have hlen:=h.len;have hkl:k<X.tiers.length:=(List.getElem?_eq_some_iff.1 hx).1
 have tab6:∀ {g' b':Nat} {e:Int} {m:List zae},zaw (w5.alloc o) g' e b' m→zaw (w6.setCell ⟨t,5,none⟩ (.slice T' (k+1) ct')) g' e b' m:=fun {g' b' e m} hT=>by
  have hT6:zaw w6 g' e b' m:=hT.fr hm.fr (hblk hT.blk (by decide)) (hmap hT.own);refine hT6.fr hs (zdd hT6.blk b6 (by decide)) (fun e'=>?_);obtain⟨es,ck,hbm⟩:=hT6.own.isMap;have hb0:w6.heap[t]? =some (Obj.cells _ _ (0,0)):=b6;rw[← e',hbm] at hb0
  cases hb0
 have hsz:w.heap.size≤(w6.setCell ⟨t,5,none⟩ (.slice T' (k+1) ct')).heap.size:=Nat.le_trans (Nat.le_trans (hf.trans (Fr.none_alloc w5 o) q4_).size hm.fr.size) hs.size;refine⟨⟨b6.set_ 5 _,zaf t6 hs (fun j hj e=>zad t6 b6 (by decide) (by rw[← e];exact hj)),zaf f6 hs (fun j hj e=>zad f6 b6 (by decide) (by rw[← e];exact hj)),?_,fun i p y m h1 h2 h3=>?_,fun p hp=>?_,?_,fun p hp=>?_,h.tge⟩,?_⟩
 ·have:zfY (tb++[(g,b)])=zfY tb++[.pointer (some ⟨g,0,none⟩)]:=by unfold zfY;rw[List.map_append];rfl
  rw[this];exact zaf ho hs (fun j hj e=>zad ho b6 (by decide) (by rw[← e];exact hj))
 ·by_cases hi:i<tb.length
  ·rw[List.getElem?_append_left hi] at h1
   exact tab6 (h5.tab i p y m h1 h2 h3)
  ·rw[List.getElem?_append_right (by omega)] at h1
   have hik:i=k:=by
    have:=(List.getElem?_eq_some_iff.1 h1).1;simp at this;omega
   subst hik;rw[hlen,Nat.sub_self] at h1
   cases h1
   rw[hx] at h2
   cases h2
   rw[hl] at h3
   cases h3
   exact tab6 ht5
 ·rcases List.mem_append.1 hp with hp | hp
  ·exact⟨Nat.lt_of_lt_of_le (h.lt p hp).1 hsz,Nat.lt_of_lt_of_le (h.lt p hp).2 hsz⟩
  ·rw[List.mem_singleton] at hp
   subst hp;exact⟨(tab6 ht5).blk.lt,(tab6 ht5).own.lt⟩
 ·rw[List.map_append,List.nodup_append]
  refine⟨h.nodup,by simp,fun a ha b' hb'=>?_⟩;obtain⟨p,hp,rfl⟩:=List.mem_map.1 ha;simp at hb';subst hb';have:=(h.lt p hp).2;omega
 ·rcases List.mem_append.1 hp with hp | hp
  ·exact h.ge p hp
  ·rw[List.mem_singleton] at hp
   subst hp;exact⟨by omega,by omega⟩
 ·have q1:Fr (fun j=>base≤j) w (w5.alloc o):=(hf.trans (Fr.none_alloc w5 o) q4_).mono q4_
  have q2:Fr (fun j=>base≤j) w w6:=q1.trans hm.fr (fun j hj=>.inl (h5.row.lt j hj).1);exact q2.trans hs (fun j hj=>.inl (by rw[hj];exact h.tge))
theorem zaJ.frSh{w w':World}{t base:Nat}{X:zaa}{F G:Nat→Prop}(h:zaJ w t base X F)(hf:Fr G w w')(hG:∀ j,G j→(∃ es ck,w.heap[j]? =some (.map es ck))∨(∃ cs fz ty,w.heap[j]? =some (.cells cs ty fz)∧ty≠130∧ty≠3∧ty≠121∧ty≠178))(hd:∀ j,F j→¬ G j):zaJ w' t base X F:=by
 obtain⟨A,c,B,d,T,ct,tb,hi,rfl⟩:=h
 have hrow:∀ {e:TypeId} {size n base':Nat} {v:Value} {xs:List Value},w.ownsRow base' e size v n xs→(e=130∨e=3∨e=121)→∀ j,zaE v j→¬ G j:=fun ho hne j hj hg=>by
  obtain⟨cs',fz',hc⟩:=zdB ho hj
  rcases hG j hg with ⟨es,ck,hbm⟩ | ⟨cs,fz,ty,hb,h1,h2,h3,h4⟩
  ·rw[hbm] at hc;cases hc
  ·rw[hb] at hc
   injection hc with hc
   injection hc with _ hc _
   subst hc
   rcases hne with e | e | e
   ·exact h1 e
   ·exact h2 e
   ·exact h3 e
 have hblk:∀ {g':Nat} {cs:Array Value},Blk w g' 178 cs→¬ G g':=fun {g' cs} hB hg=>by
  have hb0:w.heap[g']? =some (Obj.cells cs 178 (0,0)):=hB
  rcases hG g' hg with ⟨es,ck,hbm⟩ | ⟨cs,fz,ty,hb,h1,h2,h3,h4⟩
  ·rw[hbm] at hb0;cases hb0
  ·rw[hb] at hb0
   injection hb0 with hc
   injection hc with _ hc _
   exact h4 hc
 refine⟨A,c,B,d,T,ct,tb,⟨hi.blk.fr hf (hd t (.inl rfl)),zaf hi.tiers hf (hrow hi.tiers (.inl rfl)),zaf hi.floors hf (hrow hi.floors (.inr (.inl rfl))),zaf hi.row hf (hrow hi.row (.inr (.inr rfl))),hi.tlen,fun i p x l h1 h2 h3=>?_,hi.nodup,hi.ge,hi.tge⟩,rfl⟩;have hT:=hi.tab i p x l h1 h2 h3;exact hT.fr hf (hblk hT.blk) (hd p.2 (.inr ⟨p,List.mem_of_getElem? h1,rfl⟩))
theorem ze5.kind2{w:World}{t base:Nat}{X:ShX}{F:Nat→Prop}(h:ze5 w t base X F):∀ j,F j→(∃ es ck,w.heap[j]? =some (.map es ck))∨(∃ cs fz ty,w.heap[j]? =some (.cells cs ty fz)∧ty≠130∧ty≠3∧ty≠121∧ty≠178):=fun j hj=>by
 rcases h.kind j hj with h | ⟨cs,fz,h⟩
 ·exact .inl h
 ·exact .inr ⟨cs,fz,_,h,by decide,by decide,by decide,by decide⟩
theorem zaJ.kind2{w:World}{t base:Nat}{X:zaa}{F:Nat→Prop}(h:zaJ w t base X F):∀ j,F j→(∃ es ck,w.heap[j]? =some (.map es ck))∨(∃ cs fz ty,w.heap[j]? =some (.cells cs ty fz)∧ty≠130∧ty≠3∧ty≠121∧ty≠178):=fun j hj=>by
 rcases h.kind j hj with h | ⟨cs,fz,h⟩
 ·exact .inl h
 ·exact .inr ⟨cs,fz,_,h,by decide,by decide,by decide,by decide⟩
section
variable {nm nm2:ByteArray} {l l2:List za_} {fl fl2:List Int} {lo lo2:Nat} {W W':World} {t t2 s s2 base base2:Nat} {X Y:zaa} {S S2:ShX} {F F2 G:Nat→Prop} {c c2:Nat}
theorem Tio.frSh(h:Tio nm l fl lo W t X F c)(hf:Fr G W W')(hS:ze5 W s base S G)(hd:∀ j,F j→¬ G j):Tio nm l fl lo W' t X F c:=by
 obtain⟨b,hb,ho⟩:=h.on;exact⟨⟨b,hb,ho.frSh hf hS.kind2 hd⟩,h.good⟩
end
section
variable {w w':World} {t base:Nat} {X:ShX} {F:Nat→Prop}
theorem zd0.cells{A B T:Option Addr}{c d ct:Nat}{tb:List (Nat×Nat)}(h:zd0 w t base X A c B d T ct tb){G:Nat→Prop}{W:World}(f:Fr G w W)(hg:¬ G t):
  W.cell? ⟨t,0,none⟩=some (.string X.name)∧W.cell? ⟨t,1,none⟩=some (.slice A X.tiers.length c)∧W.cell? ⟨t,2,none⟩=some (.slice B X.srcs.length d)∧W.cell? ⟨t,3,none⟩=some (.int .i64 X.bound)∧W.cell? ⟨t,4,none⟩=some (.int .i64 X.done)∧W.cell? ⟨t,5,none⟩=some (.slice T X.tiers.length ct):=
 have b:=h.blk.fr f hg
 ⟨b.cell 0,b.cell 1,b.cell 2,b.cell 3,b.cell 4,b.cell 5⟩
end
theorem zhp(t base:Nat)(X:ShX)(w:World)(h:zj7 w t base X):
  Calls prog 36 #[.pointer (some ⟨t,0,none⟩)] w fun r w'=>r=.returned (.int .i64 X.bound)∧w=w':=by
 obtain⟨A,c,B,d,T,ct,tb,hi⟩:=h;obtain⟨_,_,_,c3,_,_⟩:=hi.cells (Fr.refl (fun _=>False) w) (fun h=>h);clear hi;go_enter func36,ntmps36;go_wp2;go_ret;exact⟨rfl,rfl⟩
theorem zmo(w:World):Calls prog 36 #[.pointer none] w fun r w'=>r=.returned (.int .i64 0)∧w=w':=by
 go_enter func36,ntmps36;go_wp2;go_ret;exact⟨rfl,rfl⟩
theorem zn8(t base:Nat)(X:ShX)(w:World)(h:zj7 w t base X):
  Calls prog 63 #[.pointer (some ⟨t,0,none⟩)] w fun r w'=>r=.returned (.int .i64 X.done)∧w=w':=by
 obtain⟨A,c,B,d,T,ct,tb,hi⟩:=h;obtain⟨_,_,_,_,c4,_⟩:=hi.cells (Fr.refl (fun _=>False) w) (fun h=>h);clear hi;go_enter func63,ntmps63;go_wp2;go_ret;exact⟨rfl,rfl⟩
theorem ziZ(w:World):Calls prog 58 #[.pointer none] w fun r w'=>r=.returned (.pointer none)∧w=w':=by
 go_enter func58,ntmps58;go_wp2;go_ret;exact⟨rfl,rfl⟩
theorem znS(p:Value)(w:World):Calls prog 41 #[.pointer none,p] w fun r w'=>r=.returned (.int .i64 0)∧w=w':=by
 go_enter func41,ntmps41;go_wp2;go_ret;exact⟨rfl,rfl⟩
theorem zn2(p v:Value)(w:World):Calls prog 45 #[.pointer none,p,v] w fun r w'=>r=.returned (.tuple #[])∧w=w':=by
 go_enter func45,ntmps45;go_wp2;refine bodyPost_ret (v:=.tuple #[]) ?_ rfl ⟨rfl,rfl⟩;simp[results,results45,go_sem]
section
variable {nm:ByteArray} {l:List za_} {fl:List Int} {lo:Nat} {W W':World} {t:Nat} {X:zaa} {F:Nat→Prop} {c:Nat}
end
end Go.Proofs.YtjhhodndlkpmhaaGreatDoor
