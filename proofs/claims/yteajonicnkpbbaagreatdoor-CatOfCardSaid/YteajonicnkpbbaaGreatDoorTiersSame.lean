/- Walk of tiers: Same. -/
import Derived.Test.YteajonicnkpbbaaGreatDoorPolSame
import Derived.Test.YteajonicnkpbbaaGreatDoorTiersLoad
import Derived.Test.YteajonicnkpbbaaGreatDoorRollLaw
import Derived.Test.YteajonicnkpbbaaGreatDoorRefGrid
import Derived.Deep.CutBlock
namespace Go.Proofs.YteajonicnkpbbaaGreatDoor
set_option linter.all false
open Go.RowKit Tryz
section
variable {nm:ByteArray} {l:List za_} {fl:List Int} {lo:Nat} {W W':World} {t:Nat} {X:zac} {F:Nat→Prop} {c:Nat}
end
theorem zij{e:Int}:∀ (rs:List zaf) {l:List zaf},zby l→(∀ r∈l,zaE r.name=true∧0≤r.start∧onB r.start e=true)→∀ y∈zbf e l rs,zaE y.name=true∧0≤y.start∧onB y.start e=true
 | [],_,_,h=>h
 | r::rs,l,hg,h=>zij (e:=e) rs (zd4 hg r) (zkk hg.1 h r)
theorem zbm.load{nm:ByteArray}{l:List za_}{fl:List Int}{X:zac}{c:Nat}(h:zbm nm l fl X c)(k:Nat)(rs:List zaf):zbm nm l fl (zfy X k rs) (c+rs.length):=by
 unfold zfy
 split
 ·rename_i x m hx hm
  have hkl:k<X.tabs.length:=(List.getElem?_eq_some_iff.1 hm).1
  have hmD:X.tabs.getD k []=m:=by rw[List.getD_eq_getElem?_getD,hm];rfl
  have hgm:zby m:=by rw[← hmD];exact h.good k
  have hset:∀ j,(X.tabs.set k (zbf x.every m (rs.filter (ldB X k)))).getD j []=if j=k then zbf x.every m (rs.filter (ldB X k)) else X.tabs.getD j []:=fun j=>by
   rw[List.getD_eq_getElem?_getD,List.getD_eq_getElem?_getD]
   by_cases e:j=k
   ·subst e
    rw[List.getElem?_set_self hkl,if_pos rfl]
    rfl
   ·rw[List.getElem?_set_ne (fun e'=>e e'.symm),if_neg e]
  refine⟨h.name,h.tiers,h.floors,h.now,by simpa using h.tlen,fun y hy=>?_,fun j=>?_,fun j x' hx' r hr=>?_⟩
  ·have hy:y∈X.tabs.set k (zbf x.every m (rs.filter (ldB X k))):=hy
   rcases List.mem_or_eq_of_mem_set hy with h1 | rfl
   ·have:=h.len y h1;omega
   ·have h1:=zdu (every:=x.every) (rs.filter (ldB X k)) hgm.1
    have h2:=h.len m (zaa hm);have h3:(rs.filter (ldB X k)).length≤rs.length:=List.length_filter_le _ _;omega
  ·show zby ((X.tabs.set k _).getD j [])
   rw[hset]
   split
   ·exact zik hgm
   ·exact h.good j
  ·have hr:r∈(X.tabs.set k (zbf x.every m (rs.filter (ldB X k)))).getD j []:=hr
   rw[hset] at hr
   split at hr
   ·rename_i e
    subst e
    have hxx:x=x':=by rw[h.tiers,hx'] at hx;exact (Option.some.inj hx).symm
    rw[← hxx];exact zij _ hgm (fun y hy=>by rw[hxx];exact h.grid j x' hx' y (by rw[hmD];exact hy)) r hr
   ·exact h.grid j x' hx' r hr
 ·exact⟨h.name,h.tiers,h.floors,h.now,h.tlen,fun m hm=>Nat.le_trans (h.len m hm) (Nat.le_add_right _ _),h.good,h.grid⟩
theorem zbm.more{nm:ByteArray}{l:List za_}{fl:List Int}{X:zac}{c d:Nat}(h:zbm nm l fl X c)(hd:c≤d):zbm nm l fl X d:=⟨h.name,h.tiers,h.floors,h.now,h.tlen,fun m hm=>Nat.le_trans (h.len m hm) hd,h.good,h.grid⟩
structure ShX where
 name:ByteArray
 tiers:List za_
 srcs:List Int
 bound:Int
 done:Int
 tabs:List (List zaf)
structure zdv(w:World)(t base:Nat)(X:ShX)(A:Option Addr)(c:Nat)(B:Option Addr)(d:Nat)(T:Option Addr)(ct:Nat)(tb:List (Nat×Nat)):Prop where
 blk:Blk w t 93 #[.string X.name,.slice A X.tiers.length c,.slice B X.srcs.length d,.int .i64 X.bound,.int .i64 X.done,.slice T X.tiers.length ct]
 tiers:w.ownsRow base 99 4 (.slice A X.tiers.length c) X.tiers.length (zag X.tiers)
 srcs:w.ownsRow base 3 1 (.slice B X.srcs.length d) X.srcs.length (zaU X.srcs)
 row:w.ownsRow base 208 1 (.slice T X.tiers.length ct) X.tiers.length (zf7 tb)
 tlen:X.tabs.length=X.tiers.length
 tab:∀ (i:Nat) (p:Nat×Nat) (x:za_) (l:List zaf),tb[i]? =some p→X.tiers[i]? =some x→X.tabs[i]? =some l→zar w p.1 x.every p.2 l
 nodup:(tb.map Prod.snd).Nodup
 ge:∀ p∈tb,base≤p.1∧base≤p.2
 tge:base≤t
def zfk(w:World)(t base:Nat)(X:ShX):Prop:=∃ A c B d T ct tb,zdv w t base X A c B d T ct tb
theorem zdv.len{w:World}{t base:Nat}{X:ShX}{A B T:Option Addr}{c d ct:Nat}{tb:List (Nat×Nat)}(h:zdv w t base X A c B d T ct tb):tb.length=X.tiers.length:=by
 have:=h.row.1;unfold zf7 at this;rw[List.length_map] at this;omega
theorem zdv.tabAt{w:World}{t base:Nat}{X:ShX}{A B T:Option Addr}{c d ct:Nat}{tb:List (Nat×Nat)}(h:zdv w t base X A c B d T ct tb){k:Nat}(hk:k<X.tiers.length):
  ∃ g b x l,tb[k]? =some (g,b)∧X.tiers[k]? =some x∧X.tabs[k]? =some l∧zar w g x.every b l:=by
 have h1:k<tb.length:=by rw[h.len];exact hk
 have h2:k<X.tabs.length:=by rw[h.tlen];exact hk
 exact⟨tb[k].1,tb[k].2,X.tiers[k],X.tabs[k],q6_ h1,q6_ hk,q6_ h2,h.tab k _ _ _ (q6_ h1) (q6_ hk) (q6_ h2)⟩
theorem zdv.fr0{w w':World}{t base:Nat}{X:ShX}{A B T:Option Addr}{c d ct:Nat}{tb:List (Nat×Nat)}(h:zdv w t base X A c B d T ct tb)(hf:Fr (fun _=>False) w w'):zdv w' t base X A c B d T ct tb:=
 ⟨h.blk.fr hf (fun h=>h),zab h.tiers hf,zab h.srcs hf,zab h.row hf,h.tlen,fun i p x l h1 h2 h3=>(h.tab i p x l h1 h2 h3).fr0 hf,h.nodup,h.ge,h.tge⟩
theorem zdv.set{w w':World}{t base:Nat}{X:ShX}{A B T:Option Addr}{c d ct:Nat}{tb:List (Nat×Nat)}(h:zdv w t base X A c B d T ct tb){k g b:Nat}{x:za_}{l':List zaf}(hk:tb[k]? =some (g,b))(hx:X.tiers[k]? =some x)
  (ht:zar w' g x.every b l') (hf:Fr (fun j=>j=b) w w'):zdv w' t base {X with tabs:=X.tabs.set k l'} A c B d T ct tb:=by
 have hkl:k<X.tiers.length:=(List.getElem?_eq_some_iff.1 hx).1
 obtain⟨l,hl⟩:∃ l,X.tabs[k]? =some l:=⟨_,q6_ (by rw[h.tlen];exact hkl)⟩
 obtain⟨es,ck,hbm⟩:=(h.tab k (g,b) x l hk hx hl).own.isMap;simp only at hbm
 have hrow:∀ {e:TypeId} {size n base':Nat} {v:Value} {xs:List Value},w.ownsRow base' e size v n xs→∀ j,zay v j→¬ j=b:=fun ho j hj e=>by
  obtain⟨cs',fz,hc⟩:=zdF ho hj;rw[e,hbm] at hc
  cases hc
 have hblk:∀ {g':Nat} {ty:TypeId} {cs:Array Value},Blk w g' ty cs→g'≠b:=fun {g' ty cs} hb e=>by
  have hb0:w.heap[g']? =some (Obj.cells cs ty (0,0)):=hb;rw[e,hbm] at hb0
  cases hb0
 refine⟨h.blk.fr hf (hblk h.blk),zah h.tiers hf (hrow h.tiers),zah h.srcs hf (hrow h.srcs),zah h.row hf (hrow h.row),by simp[h.tlen],fun i p y l1 h1 h2 h3=>?_,h.nodup,h.ge,h.tge⟩
 by_cases e:i=k
 ·subst e
  rw[hk] at h1
  cases h1
  rw[hx] at h2
  cases h2
  rw[List.getElem?_set_self (by rw[h.tlen];exact hkl)] at h3
  cases h3
  exact ht
 ·rw[List.getElem?_set_ne (fun e'=>e e'.symm)] at h3
  have hT:=h.tab i p y l1 h1 h2 h3;refine hT.fr hf (hblk hT.blk) (fun e'=>?_)
  have hi:(tb.map Prod.snd)[i]? =some b:=by rw[List.getElem?_map,h1];simp[e']
  have hk2:(tb.map Prod.snd)[k]? =some b:=by rw[List.getElem?_map,hk];rfl
  have hil:=(List.getElem?_eq_some_iff.1 hi).1;exact e ((List.getElem?_inj hil h.nodup).1 (hi.trans hk2.symm))
def zcr(w:World)(t base:Nat)(X:ShX)(F:Nat→Prop):Prop:=∃ A c B d T ct tb,zdv w t base X A c B d T ct tb∧F=tF t tb
theorem zcr.at_{w:World}{t base:Nat}{X:ShX}{F:Nat→Prop}(h:zcr w t base X F):zfk w t base X:=by
 obtain⟨A,c,B,d,T,ct,tb,hi,_⟩:=h;exact⟨A,c,B,d,T,ct,tb,hi⟩
theorem zfk.on{w:World}{t base:Nat}{X:ShX}(h:zfk w t base X):∃ F,zcr w t base X F:=by
 obtain⟨A,c,B,d,T,ct,tb,hi⟩:=h;exact⟨_,A,c,B,d,T,ct,tb,hi,rfl⟩
theorem zcr.fr0{w w':World}{t base:Nat}{X:ShX}{F:Nat→Prop}(h:zcr w t base X F)(hf:Fr (fun _=>False) w w'):zcr w' t base X F:=by
 obtain⟨A,c,B,d,T,ct,tb,hi,e⟩:=h;exact⟨A,c,B,d,T,ct,tb,hi.fr0 hf,e⟩
theorem zfk.fr0{w w':World}{t base:Nat}{X:ShX}(h:zfk w t base X)(hf:Fr (fun _=>False) w w'):zfk w' t base X:=by
 obtain⟨F,h⟩:=h.on;exact (h.fr0 hf).at_
theorem zdv.map_{w:World}{t base:Nat}{X:ShX}{A B T:Option Addr}{c d ct:Nat}{tb:List (Nat×Nat)}(h:zdv w t base X A c B d T ct tb){j:Nat}(hj:tM tb j):base≤j∧j<w.heap.size∧∃ es ck,w.heap[j]? =some (.map es ck):=by
 obtain⟨p,hp,rfl⟩:=hj;obtain⟨k,hk⟩:=List.getElem?_of_mem hp
 have hkl:k<X.tiers.length:=by have:=(List.getElem?_eq_some_iff.1 hk).1;rw[h.len] at this;exact this
 obtain⟨g,b,x,l,h1,h2,h3,hT⟩:=h.tabAt hkl;rw[hk] at h1
 cases h1
 exact⟨(h.ge _ hp).2,hT.own.lt,hT.own.isMap⟩
theorem zcr.ge{w:World}{t base:Nat}{X:ShX}{F:Nat→Prop}(h:zcr w t base X F):∀ j,F j→base≤j∧j<w.heap.size:=by
 obtain⟨A,c,B,d,T,ct,tb,hi,rfl⟩:=h;rintro j (rfl | hj)
 ·exact⟨hi.tge,hi.blk.lt⟩
 ·exact⟨(hi.map_ hj).1,(hi.map_ hj).2.1⟩
theorem zcr.fr{w w':World}{t base:Nat}{X:ShX}{F G:Nat→Prop}(h:zcr w t base X F)(hf:Fr G w w')(hG:∀ j,G j→(∃ es ck,w.heap[j]? =some (.map es ck))∨(∃ cs fz ty,w.heap[j]? =some (.cells cs ty fz)∧ty≠99∧ty≠3∧ty≠208∧ty≠244))(hd:∀ j,F j→¬ G j):zcr w' t base X F:=by
 obtain⟨A,c,B,d,T,ct,tb,hi,rfl⟩:=h
 have hrow:∀ {e:TypeId} {size n base':Nat} {v:Value} {xs:List Value},w.ownsRow base' e size v n xs→(e=99∨e=3∨e=208)→∀ j,zay v j→¬ G j:=fun ho hne j hj hg=>by
  obtain⟨cs',fz',hc⟩:=zdF ho hj
  rcases hG j hg with ⟨es,ck,hbm⟩ | ⟨cs,fz,ty,hb,h1,h2,h3,h4⟩
  ·rw[hbm] at hc;cases hc
  ·rw[hb] at hc
   injection hc with hc
   injection hc with _ hc _
   subst hc
   rcases hne with e | e | e
   ·exact h1 e
   ·exact h2 e
   ·exact h3 e
 have hblk:∀ {g':Nat} {cs:Array Value},Blk w g' 244 cs→¬ G g':=fun {g' cs} hB hg=>by
  have hb0:w.heap[g']? =some (Obj.cells cs 244 (0,0)):=hB
  rcases hG g' hg with ⟨es,ck,hbm⟩ | ⟨cs,fz,ty,hb,h1,h2,h3,h4⟩
  ·rw[hbm] at hb0;cases hb0
  ·rw[hb] at hb0
   injection hb0 with hc
   injection hc with _ hc _
   exact h4 hc
 refine⟨A,c,B,d,T,ct,tb,⟨hi.blk.fr hf (hd t (.inl rfl)),zah hi.tiers hf (hrow hi.tiers (.inl rfl)),zah hi.srcs hf (hrow hi.srcs (.inr (.inl rfl))),zah hi.row hf (hrow hi.row (.inr (.inr rfl))),hi.tlen,fun i p x l h1 h2 h3=>?_,hi.nodup,hi.ge,hi.tge⟩,rfl⟩;have hT:=hi.tab i p x l h1 h2 h3;exact hT.fr hf (hblk hT.blk) (hd p.2 (.inr ⟨p,List.mem_of_getElem? h1,rfl⟩))
theorem zcr.kind{w:World}{t base:Nat}{X:ShX}{F:Nat→Prop}(h:zcr w t base X F):∀ j,F j→(∃ es ck,w.heap[j]? =some (.map es ck))∨(∃ cs fz,w.heap[j]? =some (.cells cs 93 fz)):=by
 obtain⟨A,c,B,d,T,ct,tb,hi,rfl⟩:=h;rintro j (rfl | hj)
 ·exact .inr ⟨_,_,hi.blk⟩
 ·exact .inl (hi.map_ hj).2.2
structure ShP(w:World)(t base:Nat)(X:ShX)(A:Option Addr)(c:Nat)(B:Option Addr)(d:Nat)(T:Option Addr)(ct:Nat)(tb:List (Nat×Nat))(k:Nat):Prop where
 blk:Blk w t 93 #[.string X.name,.slice A X.tiers.length c,.slice B X.srcs.length d,.int .i64 X.bound,.int .i64 X.done,.slice T k ct]
 tiers:w.ownsRow base 99 4 (.slice A X.tiers.length c) X.tiers.length (zag X.tiers)
 srcs:w.ownsRow base 3 1 (.slice B X.srcs.length d) X.srcs.length (zaU X.srcs)
 row:w.ownsRow base 208 1 (.slice T k ct) k (zf7 tb)
 tab:∀ (i:Nat) (p:Nat×Nat) (x:za_) (l:List zaf),tb[i]? =some p→X.tiers[i]? =some x→X.tabs[i]? =some l→zar w p.1 x.every p.2 l
 lt:∀ p∈tb,p.1<w.heap.size∧p.2<w.heap.size
 nodup:(tb.map Prod.snd).Nodup
 ge:∀ p∈tb,base≤p.1∧base≤p.2
 tge:base≤t
theorem ShP.len{w:World}{t base k:Nat}{X:ShX}{A B T:Option Addr}{c d ct:Nat}{tb:List (Nat×Nat)}(h:ShP w t base X A c B d T ct tb k):tb.length=k:=by
 have:=h.row.1;unfold zf7 at this;rw[List.length_map] at this;omega
theorem ShP.fr0{w w':World}{t base k:Nat}{X:ShX}{A B T:Option Addr}{c d ct:Nat}{tb:List (Nat×Nat)}(h:ShP w t base X A c B d T ct tb k)(hf:Fr (fun _=>False) w w'):ShP w' t base X A c B d T ct tb k:=
 ⟨h.blk.fr hf (fun h=>h),zab h.tiers hf,zab h.srcs hf,zab h.row hf,fun i p x l h1 h2 h3=>(h.tab i p x l h1 h2 h3).fr0 hf,fun p hp=>⟨Nat.lt_of_lt_of_le (h.lt p hp).1 hf.size,Nat.lt_of_lt_of_le (h.lt p hp).2 hf.size⟩,h.nodup,h.ge,h.tge⟩
theorem ShP.done{w:World}{t base:Nat}{X:ShX}{A B T:Option Addr}{c d ct:Nat}{tb:List (Nat×Nat)}(h:ShP w t base X A c B d T ct tb X.tiers.length)(hl:X.tabs.length=X.tiers.length):zfk w t base X:=
 ⟨A,c,B,d,T,ct,tb,h.blk,h.tiers,h.srcs,h.row,hl,h.tab,h.nodup,h.ge,h.tge⟩
theorem ShP.snoc{w w5 w6:World}{t base k g b:Nat}{X:ShX}{A B T T':Option Addr}{c d ct ct':Nat}{tb:List (Nat×Nat)}{x:za_}{l:List zaf}(h:ShP w t base X A c B d T ct tb k)
  (hf:Fr (fun _=>False) w w5) (hbs:base≤w.heap.size) (hg:w.heap.size≤g) (hb:w.heap.size≤b) (hx:X.tiers[k]? =some x) (hl:X.tabs[k]? =some l) (ht:zar w5 g x.every b l) (o:Obj)
  (ho:w6.ownsRow base 208 1 (.slice T' (k+1) ct') (k+1) (zf7 tb++[.pointer (some ⟨g,0,none⟩)])) (hm:Mv (zay (.slice T k ct)) (zay (.slice T' (k+1) ct')) (w5.alloc o) w6):
  ShP (w6.setCell ⟨t,5,none⟩ (.slice T' (k+1) ct')) t base X A c B d T' ct' (tb++[(g,b)]) (k+1)∧Fr (fun j=>base≤j) w (w6.setCell ⟨t,5,none⟩ (.slice T' (k+1) ct')):=by
 have h5:=h.fr0 (hf.trans (Fr.none_alloc w5 o) q4_);have ht5:zar (w5.alloc o) g x.every b l:=ht.fr0 (Fr.none_alloc _ _);have hblk:∀ {g':Nat} {ty:TypeId} {cs:Array Value},Blk (w5.alloc o) g' ty cs→ty≠208→¬ zay (.slice T k ct) g':=fun {g' ty cs} hB hne hj=>zad h5.row hB (fun e=>hne e.symm) hj
 have hmap:∀ {b':Nat} {m:List zaf},zbE (w5.alloc o) b' m→¬ zay (.slice T k ct) b':=fun {b' m} hB hj=>by
  obtain⟨es,ck,hbm⟩:=hB.isMap;obtain⟨cs',fz,hc⟩:=zdF h5.row hj;rw[hbm] at hc
  cases hc
 have b6:Blk w6 t 93 #[.string X.name,.slice A X.tiers.length c,.slice B X.srcs.length d,.int .i64 X.bound,.int .i64 X.done,.slice T k ct]:=h5.blk.fr hm.fr (hblk h5.blk (by decide));have t6:w6.ownsRow base 99 4 (.slice A X.tiers.length c) X.tiers.length (zag X.tiers):=zah h5.tiers hm.fr (zdm h5.tiers h5.row (by decide));have f6:w6.ownsRow base 3 1 (.slice B X.srcs.length d) X.srcs.length (zaU X.srcs):=zah h5.srcs hm.fr (zdm h5.srcs h5.row (by decide));have hs:Fr (fun j=>j=t) w6 (w6.setCell ⟨t,5,none⟩ (.slice T' (k+1) ct')):=(Fr.refl (fun j=>j=t) w6).setCell (p:=⟨t,5,none⟩) (.inl rfl) _;have hlen:=h.len;have hkl:k<X.tiers.length:=(List.getElem?_eq_some_iff.1 hx).1
 have tab6:∀ {g' b':Nat} {e:Int} {m:List zaf},zar (w5.alloc o) g' e b' m→zar (w6.setCell ⟨t,5,none⟩ (.slice T' (k+1) ct')) g' e b' m:=fun {g' b' e m} hT=>by
  have hT6:zar w6 g' e b' m:=hT.fr hm.fr (hblk hT.blk (by decide)) (hmap hT.own);refine hT6.fr hs (zds hT6.blk b6 (by decide)) (fun e'=>?_);obtain⟨es,ck,hbm⟩:=hT6.own.isMap;have hb0:w6.heap[t]? =some (Obj.cells _ _ (0,0)):=b6;rw[← e',hbm] at hb0
  cases hb0
 have hsz:w.heap.size≤(w6.setCell ⟨t,5,none⟩ (.slice T' (k+1) ct')).heap.size:=Nat.le_trans (Nat.le_trans (hf.trans (Fr.none_alloc w5 o) q4_).size hm.fr.size) hs.size;refine⟨⟨b6.set_ 5 _,zah t6 hs (fun j hj e=>zad t6 b6 (by decide) (by rw[← e];exact hj)),zah f6 hs (fun j hj e=>zad f6 b6 (by decide) (by rw[← e];exact hj)),?_,fun i p y m h1 h2 h3=>?_,fun p hp=>?_,?_,fun p hp=>?_,h.tge⟩,?_⟩
 ·have:zf7 (tb++[(g,b)])=zf7 tb++[.pointer (some ⟨g,0,none⟩)]:=by unfold zf7;rw[List.map_append];rfl
  rw[this];exact zah ho hs (fun j hj e=>zad ho b6 (by decide) (by rw[← e];exact hj))
 ·by_cases hi:i<tb.length
  ·rw[List.getElem?_append_left hi] at h1
   exact tab6 (h5.tab i p y m h1 h2 h3)
  ·rw[List.getElem?_append_right (by omega)] at h1
   have hik:i=k:=by
    have:=(List.getElem?_eq_some_iff.1 h1).1;simp at this;omega
   subst hik;rw[hlen,Nat.sub_self] at h1
   cases h1
   rw[hx] at h2
   cases h2
   rw[hl] at h3
   cases h3
   exact tab6 ht5
 ·rcases List.mem_append.1 hp with hp | hp
  ·exact⟨Nat.lt_of_lt_of_le (h.lt p hp).1 hsz,Nat.lt_of_lt_of_le (h.lt p hp).2 hsz⟩
  ·rw[List.mem_singleton] at hp
   subst hp;exact⟨(tab6 ht5).blk.lt,(tab6 ht5).own.lt⟩
 ·rw[List.map_append,List.nodup_append]
  refine⟨h.nodup,by simp,fun a ha b' hb'=>?_⟩;obtain⟨p,hp,rfl⟩:=List.mem_map.1 ha;simp at hb';subst hb';have:=(h.lt p hp).2;omega
 ·rcases List.mem_append.1 hp with hp | hp
  ·exact h.ge p hp
  ·rw[List.mem_singleton] at hp
   subst hp;exact⟨by omega,by omega⟩
 ·have q1:Fr (fun j=>base≤j) w (w5.alloc o):=(hf.trans (Fr.none_alloc w5 o) q4_).mono q4_
  have q2:Fr (fun j=>base≤j) w w6:=q1.trans hm.fr (fun j hj=>.inl (h5.row.lt j hj).1);exact q2.trans hs (fun j hj=>.inl (by rw[hj];exact h.tge))
theorem zaK.frSh{w w':World}{t base:Nat}{X:zac}{F G:Nat→Prop}(h:zaK w t base X F)(hf:Fr G w w')(hG:∀ j,G j→(∃ es ck,w.heap[j]? =some (.map es ck))∨(∃ cs fz ty,w.heap[j]? =some (.cells cs ty fz)∧ty≠99∧ty≠3∧ty≠208∧ty≠244))(hd:∀ j,F j→¬ G j):zaK w' t base X F:=by
 obtain⟨A,c,B,d,T,ct,tb,hi,rfl⟩:=h
 have hrow:∀ {e:TypeId} {size n base':Nat} {v:Value} {xs:List Value},w.ownsRow base' e size v n xs→(e=99∨e=3∨e=208)→∀ j,zay v j→¬ G j:=fun ho hne j hj hg=>by
  obtain⟨cs',fz',hc⟩:=zdF ho hj
  rcases hG j hg with ⟨es,ck,hbm⟩ | ⟨cs,fz,ty,hb,h1,h2,h3,h4⟩
  ·rw[hbm] at hc;cases hc
  ·rw[hb] at hc
   injection hc with hc
   injection hc with _ hc _
   subst hc
   rcases hne with e | e | e
   ·exact h1 e
   ·exact h2 e
   ·exact h3 e
 have hblk:∀ {g':Nat} {cs:Array Value},Blk w g' 244 cs→¬ G g':=fun {g' cs} hB hg=>by
  have hb0:w.heap[g']? =some (Obj.cells cs 244 (0,0)):=hB
  rcases hG g' hg with ⟨es,ck,hbm⟩ | ⟨cs,fz,ty,hb,h1,h2,h3,h4⟩
  ·rw[hbm] at hb0;cases hb0
  ·rw[hb] at hb0
   injection hb0 with hc
   injection hc with _ hc _
   exact h4 hc
 refine⟨A,c,B,d,T,ct,tb,⟨hi.blk.fr hf (hd t (.inl rfl)),zah hi.tiers hf (hrow hi.tiers (.inl rfl)),zah hi.floors hf (hrow hi.floors (.inr (.inl rfl))),zah hi.row hf (hrow hi.row (.inr (.inr rfl))),hi.tlen,fun i p x l h1 h2 h3=>?_,hi.nodup,hi.ge,hi.tge⟩,rfl⟩;have hT:=hi.tab i p x l h1 h2 h3;exact hT.fr hf (hblk hT.blk) (hd p.2 (.inr ⟨p,List.mem_of_getElem? h1,rfl⟩))
theorem zcr.kind2{w:World}{t base:Nat}{X:ShX}{F:Nat→Prop}(h:zcr w t base X F):∀ j,F j→(∃ es ck,w.heap[j]? =some (.map es ck))∨(∃ cs fz ty,w.heap[j]? =some (.cells cs ty fz)∧ty≠99∧ty≠3∧ty≠208∧ty≠244):=fun j hj=>by
 rcases h.kind j hj with h | ⟨cs,fz,h⟩
 ·exact .inl h
 ·exact .inr ⟨cs,fz,_,h,by decide,by decide,by decide,by decide⟩
theorem zaK.kind2{w:World}{t base:Nat}{X:zac}{F:Nat→Prop}(h:zaK w t base X F):∀ j,F j→(∃ es ck,w.heap[j]? =some (.map es ck))∨(∃ cs fz ty,w.heap[j]? =some (.cells cs ty fz)∧ty≠99∧ty≠3∧ty≠208∧ty≠244):=fun j hj=>by
 rcases h.kind j hj with h | ⟨cs,fz,h⟩
 ·exact .inl h
 ·exact .inr ⟨cs,fz,_,h,by decide,by decide,by decide,by decide⟩
section
variable {nm nm2:ByteArray} {l l2:List za_} {fl fl2:List Int} {lo lo2:Nat} {W W':World} {t t2 s s2 base base2:Nat} {X Y:zac} {S S2:ShX} {F F2 G:Nat→Prop} {c c2:Nat}
theorem Tio.frSh(h:Tio nm l fl lo W t X F c)(hf:Fr G W W')(hS:zcr W s base S G)(hd:∀ j,F j→¬ G j):Tio nm l fl lo W' t X F c:=by
 obtain⟨b,hb,ho⟩:=h.on;exact⟨⟨b,hb,ho.frSh hf hS.kind2 hd⟩,h.good⟩
end
section
variable {w w':World} {t base:Nat} {X:ShX} {F:Nat→Prop}
theorem zdv.cells{A B T:Option Addr}{c d ct:Nat}{tb:List (Nat×Nat)}(h:zdv w t base X A c B d T ct tb){G:Nat→Prop}{W:World}(f:Fr G w W)(hg:¬ G t):
  W.cell? ⟨t,0,none⟩=some (.string X.name)∧W.cell? ⟨t,1,none⟩=some (.slice A X.tiers.length c)∧W.cell? ⟨t,2,none⟩=some (.slice B X.srcs.length d)∧W.cell? ⟨t,3,none⟩=some (.int .i64 X.bound)∧W.cell? ⟨t,4,none⟩=some (.int .i64 X.done)∧W.cell? ⟨t,5,none⟩=some (.slice T X.tiers.length ct):=
 have b:=h.blk.fr f hg
 ⟨b.cell 0,b.cell 1,b.cell 2,b.cell 3,b.cell 4,b.cell 5⟩
end
theorem zed(t base:Nat)(X:ShX)(w:World)(h:zfk w t base X):
  Calls prog 34 #[.pointer (some ⟨t,0,none⟩)] w fun r w'=>r=.returned (.int .i64 X.bound)∧w=w':=by
 obtain⟨A,c,B,d,T,ct,tb,hi⟩:=h;obtain⟨_,_,_,c3,_,_⟩:=hi.cells (Fr.refl (fun _=>False) w) (fun h=>h);clear hi;go_enter func34,ntmps34;go_wp2;go_ret;exact⟨rfl,rfl⟩
theorem zmA(w:World):Calls prog 34 #[.pointer none] w fun r w'=>r=.returned (.int .i64 0)∧w=w':=by
 go_enter func34,ntmps34;go_wp2;go_ret;exact⟨rfl,rfl⟩
theorem zjr(t base:Nat)(X:ShX)(w:World)(h:zfk w t base X):
  Calls prog 35 #[.pointer (some ⟨t,0,none⟩)] w fun r w'=>r=.returned (.int .i64 X.done)∧w=w':=by
 obtain⟨A,c,B,d,T,ct,tb,hi⟩:=h;obtain⟨_,_,_,_,c4,_⟩:=hi.cells (Fr.refl (fun _=>False) w) (fun h=>h);clear hi;go_enter func35,ntmps35;go_wp2;go_ret;exact⟨rfl,rfl⟩
theorem znZ(w:World):Calls prog 109 #[.pointer none] w fun r w'=>r=.returned (.pointer none)∧w=w':=by
 go_enter func109,ntmps109;go_wp2;go_ret;exact⟨rfl,rfl⟩
theorem znF(p:Value)(w:World):Calls prog 104 #[.pointer none,p] w fun r w'=>r=.returned (.int .i64 0)∧w=w':=by
 go_enter func104,ntmps104;go_wp2;go_ret;exact⟨rfl,rfl⟩
theorem znR(p v:Value)(w:World):Calls prog 102 #[.pointer none,p,v] w fun r w'=>r=.returned (.tuple #[])∧w=w':=by
 go_enter func102,ntmps102;go_wp2;refine bodyPost_ret (v:=.tuple #[]) ?_ rfl ⟨rfl,rfl⟩;simp[results,results102,go_sem]
def zbD{α:Type}(n:Nat)(f g:Nat→α)(i:Nat):List α:=(List.range n).map fun k=>if k<i then f k else g k
section
variable {α:Type} {n i:Nat} {f g:Nat→α}
theorem znr:(zbD n f g i).length=n:=by unfold zbD;simp
theorem zd9:zbD n f g 0=(List.range n).map g:=by unfold zbD;simp
theorem zeR:zbD n f g n=(List.range n).map f:=by
 unfold zbD;refine List.map_congr_left fun k hk=>?_;rw[if_pos (List.mem_range.1 hk)]
theorem zeQ(h:i<n):(zbD n f g i)[i]? =some (g i):=by
 unfold zbD;rw[List.getElem?_map,List.getElem?_range h];simp
theorem zeP(h:i<n):(zbD n f g i).set i (f i)=zbD n f g (i+1):=by
 apply List.ext_getElem?
 intro j
 by_cases e:i=j
 ·subst e
  rw[List.getElem?_set_self (by rw[znr];exact h)];unfold zbD;rw[List.getElem?_map,List.getElem?_range h];simp
 ·rw[List.getElem?_set_ne e]
  unfold zbD;rw[List.getElem?_map,List.getElem?_map]
  by_cases hj:j<n
  ·rw[List.getElem?_range hj]
   simp only[Option.map_some]
   by_cases h1:j<i
   ·rw[if_pos h1,if_pos (by omega)]
   ·rw[if_neg h1,if_neg (by omega)]
  ·rw[List.getElem?_eq_none (by simpa using hj)]
   rfl
end
theorem zg_{tabs:List (List zaf)}{n:Nat}(h:tabs.length=n):(List.range n).map (fun k=>tabs.getD k [])=tabs:=by
 apply List.ext_getElem?
 intro j;rw[List.getElem?_map]
 by_cases hj:j<n
 ·rw[List.getElem?_range hj,q6_ (by omega)]
  simp[List.getD_eq_getElem?_getD,q6_ (show j<tabs.length by omega)]
 ·rw[List.getElem?_eq_none (by simpa using hj),List.getElem?_eq_none (by omega)]
  rfl
section
variable {W W':World} {p lo:Nat} {F F' G:Nat→Prop} {every:Int} {l:List zaf}
end
section
variable {W W':World} {g lo:Nat} {F G:Nat→Prop} {X:zac} {A B T:Option Addr} {c d ct:Nat} {P:List Nat}
end
end Go.Proofs.YteajonicnkpbbaaGreatDoor
