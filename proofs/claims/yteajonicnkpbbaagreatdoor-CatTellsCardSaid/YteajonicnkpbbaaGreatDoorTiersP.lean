/- Tiers: what they are; walks of none, is, Len. -/
import Derived.Test.YteajonicnkpbbaaGreatDoorReachC
import Derived.Test.YteajonicnkpbbaaGreatDoorTabNeed
import Derived.Test.YteajonicnkpbbaaGreatDoorFills
namespace Go.Proofs.YteajonicnkpbbaaGreatDoor
set_option linter.all false
set_option maxRecDepth 100000
open Go.RowKit Tryz
structure zae where
 now:Int
 name:ByteArray
 tiers:List zaa
 floors:List Int
 tabs:List (List zah)
def zfC(tb:List (Nat×Nat)):List Value:=tb.map fun p=>.pointer (some ⟨p.1,0,none⟩)
theorem zkt{tb:List (Nat×Nat)}{k:Nat}{p:Nat×Nat}(h:tb[k]? =some p):(zfC tb)[k]? =some (.pointer (some ⟨p.1,0,none⟩)):=by
 unfold zfC;rw[List.getElem?_map,h];rfl
structure zbD(w:World)(t base:Nat)(X:zae)(A:Option Addr)(c:Nat)(B:Option Addr)(d:Nat)(T:Option Addr)(ct:Nat)(tb:List (Nat×Nat)):Prop where
 blk:Blk w t 87 #[.int .i64 X.now,.string X.name,.slice A X.tiers.length c,.slice B X.floors.length d,.slice T X.tiers.length ct]
 tiers:w.ownsRow base 99 4 (.slice A X.tiers.length c) X.tiers.length (zaf X.tiers)
 floors:w.ownsRow base 3 1 (.slice B X.floors.length d) X.floors.length (za6 X.floors)
 row:w.ownsRow base 208 1 (.slice T X.tiers.length ct) X.tiers.length (zfC tb)
 tlen:X.tabs.length=X.tiers.length
 tab:∀ (i:Nat) (p:Nat×Nat) (x:zaa) (l:List zah),tb[i]? =some p→X.tiers[i]? =some x→X.tabs[i]? =some l→zbp w p.1 x.every p.2 l
 nodup:(tb.map Prod.snd).Nodup
 ge:∀ p∈tb,base≤p.1∧base≤p.2
 tge:base≤t
def zcR(w:World)(t base:Nat)(X:zae):Prop:=∃ A c B d T ct tb,zbD w t base X A c B d T ct tb
theorem zbD.len{w:World}{t base:Nat}{X:zae}{A B T:Option Addr}{c d ct:Nat}{tb:List (Nat×Nat)}(h:zbD w t base X A c B d T ct tb):tb.length=X.tiers.length:=by
 have:=h.row.1;unfold zfC at this;rw[List.length_map] at this;omega
theorem zbD.tabAt{w:World}{t base:Nat}{X:zae}{A B T:Option Addr}{c d ct:Nat}{tb:List (Nat×Nat)}(h:zbD w t base X A c B d T ct tb){k:Nat}(hk:k<X.tiers.length):
  ∃ g b x l,tb[k]? =some (g,b)∧X.tiers[k]? =some x∧X.tabs[k]? =some l∧zbp w g x.every b l:=by
 have h1:k<tb.length:=by rw[h.len];exact hk
 have h2:k<X.tabs.length:=by rw[h.tlen];exact hk
 exact⟨tb[k].1,tb[k].2,X.tiers[k],X.tabs[k],q6_ h1,q6_ hk,q6_ h2,h.tab k _ _ _ (q6_ h1) (q6_ hk) (q6_ h2)⟩
theorem zbD.fr0{w w':World}{t base:Nat}{X:zae}{A B T:Option Addr}{c d ct:Nat}{tb:List (Nat×Nat)}(h:zbD w t base X A c B d T ct tb)(hf:Fr (fun _=>False) w w'):zbD w' t base X A c B d T ct tb:=
 ⟨h.blk.fr hf (fun h=>h),za_ h.tiers hf,za_ h.floors hf,za_ h.row hf,h.tlen,fun i p x l h1 h2 h3=>(h.tab i p x l h1 h2 h3).fr0 hf,h.nodup,h.ge,h.tge⟩
theorem zbD.set{w w':World}{t base:Nat}{X:zae}{A B T:Option Addr}{c d ct:Nat}{tb:List (Nat×Nat)}(h:zbD w t base X A c B d T ct tb){k g b:Nat}{x:zaa}{l':List zah}(hk:tb[k]? =some (g,b))(hx:X.tiers[k]? =some x)
  (ht:zbp w' g x.every b l') (hf:Fr (fun j=>j=b) w w'):zbD w' t base {X with tabs:=X.tabs.set k l'} A c B d T ct tb:=by
 have hkl:k<X.tiers.length:=(List.getElem?_eq_some_iff.1 hx).1
 obtain⟨l,hl⟩:∃ l,X.tabs[k]? =some l:=⟨_,q6_ (by rw[h.tlen];exact hkl)⟩
 obtain⟨es,ck,hbm⟩:=(h.tab k (g,b) x l hk hx hl).own.isMap;simp only at hbm
 have hrow:∀ {e:TypeId} {size n base':Nat} {v:Value} {xs:List Value},w.ownsRow base' e size v n xs→∀ j,zag v j→¬ j=b:=fun ho j hj e=>by
  obtain⟨cs',fz,hc⟩:=zc0 ho hj;rw[e,hbm] at hc
  cases hc
 have hblk:∀ {g':Nat} {ty:TypeId} {cs:Array Value},Blk w g' ty cs→g'≠b:=fun {g' ty cs} hb e=>by
  have hb0:w.heap[g']? =some (Obj.cells cs ty (0,0)):=hb;rw[e,hbm] at hb0
  cases hb0
 refine⟨h.blk.fr hf (hblk h.blk),zad h.tiers hf (hrow h.tiers),zad h.floors hf (hrow h.floors),zad h.row hf (hrow h.row),by simp[h.tlen],fun i p y l1 h1 h2 h3=>?_,h.nodup,h.ge,h.tge⟩
 by_cases e:i=k
 ·subst e
  rw[hk] at h1
  cases h1
  rw[hx] at h2
  cases h2
  rw[List.getElem?_set_self (by rw[h.tlen];exact hkl)] at h3
  cases h3
  exact ht
 ·rw[List.getElem?_set_ne (fun e'=>e e'.symm)] at h3
  have hT:=h.tab i p y l1 h1 h2 h3;refine hT.fr hf (hblk hT.blk) (fun e'=>?_)
  have hi:(tb.map Prod.snd)[i]? =some b:=by rw[List.getElem?_map,h1];simp[e']
  have hk2:(tb.map Prod.snd)[k]? =some b:=by rw[List.getElem?_map,hk];rfl
  have hil:=(List.getElem?_eq_some_iff.1 hi).1;exact e ((List.getElem?_inj hil h.nodup).1 (hi.trans hk2.symm))
def zmR(X:zae):List Nat:=List.zipWith (fun x l=>ziX (max x.shards 1) l) X.tiers X.tabs
def zb3(X:zae):Nat:=(zmR X).sum
theorem zc6{w:World}{g g':Nat}{ty ty':TypeId}{cs cs':Array Value}(h:Blk w g ty cs)(h':Blk w g' ty' cs')(hne:ty≠ty'):g≠g':=fun e=>by
 have h1:w.heap[g]? =some (Obj.cells cs ty (0,0)):=h;have h2:w.heap[g']? =some (Obj.cells cs' ty' (0,0)):=h';rw[e,h2] at h1
 injection h1 with h1
 injection h1 with _ h1 _
 exact hne h1.symm
def tM(tb:List (Nat×Nat)):Nat→Prop:=fun j=>∃ p∈tb,j=p.2
def tF(t:Nat)(tb:List (Nat×Nat)):Nat→Prop:=fun j=>j=t∨tM tb j
def zaV(w:World)(t base:Nat)(X:zae)(F:Nat→Prop):Prop:=∃ A c B d T ct tb,zbD w t base X A c B d T ct tb∧F=tF t tb
theorem zaV.at_{w:World}{t base:Nat}{X:zae}{F:Nat→Prop}(h:zaV w t base X F):zcR w t base X:=by
 obtain⟨A,c,B,d,T,ct,tb,hi,_⟩:=h;exact⟨A,c,B,d,T,ct,tb,hi⟩
theorem zcR.on{w:World}{t base:Nat}{X:zae}(h:zcR w t base X):∃ F,zaV w t base X F:=by
 obtain⟨A,c,B,d,T,ct,tb,hi⟩:=h;exact⟨_,A,c,B,d,T,ct,tb,hi,rfl⟩
theorem zaV.fr0{w w':World}{t base:Nat}{X:zae}{F:Nat→Prop}(h:zaV w t base X F)(hf:Fr (fun _=>False) w w'):zaV w' t base X F:=by
 obtain⟨A,c,B,d,T,ct,tb,hi,e⟩:=h;exact⟨A,c,B,d,T,ct,tb,hi.fr0 hf,e⟩
theorem zcR.fr0{w w':World}{t base:Nat}{X:zae}(h:zcR w t base X)(hf:Fr (fun _=>False) w w'):zcR w' t base X:=by
 obtain⟨F,h⟩:=h.on;exact (h.fr0 hf).at_
theorem zbD.map_{w:World}{t base:Nat}{X:zae}{A B T:Option Addr}{c d ct:Nat}{tb:List (Nat×Nat)}(h:zbD w t base X A c B d T ct tb){j:Nat}(hj:tM tb j):base≤j∧j<w.heap.size∧∃ es ck,w.heap[j]? =some (.map es ck):=by
 obtain⟨p,hp,rfl⟩:=hj;obtain⟨k,hk⟩:=List.getElem?_of_mem hp
 have hkl:k<X.tiers.length:=by have:=(List.getElem?_eq_some_iff.1 hk).1;rw[h.len] at this;exact this
 obtain⟨g,b,x,l,h1,h2,h3,hT⟩:=h.tabAt hkl;rw[hk] at h1
 cases h1
 exact⟨(h.ge _ hp).2,hT.own.lt,hT.own.isMap⟩
theorem zaV.ge{w:World}{t base:Nat}{X:zae}{F:Nat→Prop}(h:zaV w t base X F):∀ j,F j→base≤j∧j<w.heap.size:=by
 obtain⟨A,c,B,d,T,ct,tb,hi,rfl⟩:=h;rintro j (rfl | hj)
 ·exact⟨hi.tge,hi.blk.lt⟩
 ·exact⟨(hi.map_ hj).1,(hi.map_ hj).2.1⟩
theorem zaV.fr{w w':World}{t base:Nat}{X:zae}{F G:Nat→Prop}(h:zaV w t base X F)(hf:Fr G w w')(hG:∀ j,G j→(∃ es ck,w.heap[j]? =some (.map es ck))∨(∃ cs fz,w.heap[j]? =some (.cells cs 87 fz)))(hd:∀ j,F j→¬ G j):zaV w' t base X F:=by
 obtain⟨A,c,B,d,T,ct,tb,hi,rfl⟩:=h
 have hrow:∀ {e:TypeId} {size n base':Nat} {v:Value} {xs:List Value},w.ownsRow base' e size v n xs→e≠87→∀ j,zag v j→¬ G j:=fun ho hne j hj hg=>by
  obtain⟨cs',fz',hc⟩:=zc0 ho hj
  rcases hG j hg with ⟨es,ck,hbm⟩ | ⟨cs,fz,hb⟩
  ·rw[hbm] at hc;cases hc
  ·rw[hb] at hc
   injection hc with hc
   injection hc with _ hc _
   exact hne hc.symm
 have hblk:∀ {g':Nat} {ty:TypeId} {cs:Array Value},Blk w g' ty cs→ty≠87→¬ G g':=fun {g' ty cs} hB hne hg=>by
  have hb0:w.heap[g']? =some (Obj.cells cs ty (0,0)):=hB
  rcases hG g' hg with ⟨es,ck,hbm⟩ | ⟨cs,fz,hb⟩
  ·rw[hbm] at hb0;cases hb0
  ·rw[hb] at hb0
   injection hb0 with hc
   injection hc with _ hc _
   exact hne hc.symm
 refine⟨A,c,B,d,T,ct,tb,⟨hi.blk.fr hf (hd t (.inl rfl)),zad hi.tiers hf (hrow hi.tiers (by decide)),zad hi.floors hf (hrow hi.floors (by decide)),zad hi.row hf (hrow hi.row (by decide)),hi.tlen,fun i p x l h1 h2 h3=>?_,hi.nodup,hi.ge,hi.tge⟩,rfl⟩;have hT:=hi.tab i p x l h1 h2 h3;exact hT.fr hf (hblk hT.blk (by decide)) (hd p.2 (.inr ⟨p,List.mem_of_getElem? h1,rfl⟩))
theorem zaV.kind{w:World}{t base:Nat}{X:zae}{F:Nat→Prop}(h:zaV w t base X F):∀ j,F j→(∃ es ck,w.heap[j]? =some (.map es ck))∨(∃ cs fz,w.heap[j]? =some (.cells cs 87 fz)):=by
 obtain⟨A,c,B,d,T,ct,tb,hi,rfl⟩:=h;rintro j (rfl | hj)
 ·exact .inr ⟨_,_,hi.blk⟩
 ·exact .inl (hi.map_ hj).2.2
theorem zaV.apart{w w':World}{t base t2 base2:Nat}{X Y:zae}{F F2 G:Nat→Prop}(h:zaV w t base X F)(h2:zaV w t2 base2 Y F2)(hf:Fr G w w')(hs:∀ j,G j→F2 j)(hd:∀ j,F j→¬ F2 j):zaV w' t base X F:=
 h.fr hf (fun j hj=>h2.kind j (hs j hj)) (fun j hj hg=>hd j hj (hs j hg))
theorem zbD.tick{w:World}{t base:Nat}{X:zae}{A B T:Option Addr}{c d ct:Nat}{tb:List (Nat×Nat)}(h:zbD w t base X A c B d T ct tb)(N:Int):
  zbD (w.setCell ⟨t,0,none⟩ (.int .i64 N)) t base {X with now:=N} A c B d T ct tb:=by
 have hf:Fr (fun j=>j=t) w (w.setCell ⟨t,0,none⟩ (.int .i64 N)):=(Fr.refl (fun j=>j=t) w).setCell (p:=⟨t,0,none⟩) (.inl rfl) _;refine⟨h.blk.set_ 0 _,zad h.tiers hf (fun j hj e=>zac h.tiers h.blk (by decide) (by rw[← e];exact hj)),zad h.floors hf (fun j hj e=>zac h.floors h.blk (by decide) (by rw[← e];exact hj)),zad h.row hf (fun j hj e=>zac h.row h.blk (by decide) (by rw[← e];exact hj)),h.tlen,fun i p x l h1 h2 h3=>?_,h.nodup,h.ge,h.tge⟩;have hT:=h.tab i p x l h1 h2 h3;obtain⟨es,ck,hbm⟩:=hT.own.isMap;refine hT.fr hf (zc6 hT.blk h.blk (by decide)) (fun e=>?_);have hb0:w.heap[t]? =some (Obj.cells _ _ (0,0)):=h.blk;rw[← e,hbm] at hb0
 cases hb0
def zdz(N:Int)(X:zae):List (List zah):=(List.range X.tiers.length).map fun k=>za0 (zap (zaF N X.tiers X.floors k)) (X.tabs.getD k [])
def zhT(X:zae)(n:Int):Int:=if n<0 then 1 else if 1099511627776-X.now<n then 26 else 0
def zaS(X:zae)(n:Int):zae:=if zhT X n=0 then {X with now:=X.now+n,tabs:=zdz (X.now+n) X} else X
section
variable {P:Program} {w:World}
theorem zaZ{o:Oper}{a:Act}{next:Act→World→Prop}{Q:Exit→Act→World→Prop}(s x:Operand)(t:TypeId)
  (ho:o.op=.call {callee:=.builtin .append,args:=#[s,x],argTypes:=#[t,t]})
  (e:TypeId) (i:TypeInfo) (z:Value) (size bytes:Nat) (ht:P.underlying t=some (.slice e)) (hi:P.info? e=some i) (hz:i.zero=some z)
  (hsize:i.size=size) (hby:i.bytes=bytes) (hzs:z.cells.size=size) (hsz:0<size)
  (v:Value) (n:Nat) (xs:List Value) (hs:a.eval s=v) (base:Nat) (hbase:base≤w.heap.size) (hown:w.ownsRow base e size v n xs)
  (A:Option Addr) (m c:Nat) (news:List Value) (hx:a.eval x=.slice A m c) (hr:Rd w size A m news) (h1:∀ u∈news,u.oneCell'=true)
  (h63:n+m≤maxLen) (hbytes:(n+m)*bytes≤140737488355328)
  (h:∀ A' c' w',w'.ownsRow base e size (.slice A' (n+m) c') (n+m) (xs++news)→Mv (zag v) (zag (.slice A' (n+m) c')) w w'→(∀ A0 c0,v=.slice A0 n c0→Rd w' size A0 n xs)→next (a.put o.dst (.slice A' (n+m) c')) w'):Oper.wp P o a w next Q:=by
 obtain⟨v',w',hrun,h2,h3,h4⟩:=zhZ (P:=P) t o.type e i z size bytes ht hi hz hsize hby hzs hsz v n xs base hbase hown A m c news hr h1 h63 hbytes;obtain⟨A',c',rfl,_⟩:=zam h2;unfold Oper.wp execOp;simp only[ho,resolve,invoke,builtin,Sem.run_bind,Sem.run_pure,Result.andThen_ok,List.map_toArray,List.map_cons,List.map_nil,hs,hx,hrun];exact h A' c' w' h2 h3 h4
end
structure zci(w:World)(t base:Nat)(X:zae)(A:Option Addr)(c:Nat)(B:Option Addr)(d:Nat)(T:Option Addr)(ct:Nat)(tb:List (Nat×Nat))(k:Nat):Prop where
 blk:Blk w t 87 #[.int .i64 X.now,.string X.name,.slice A X.tiers.length c,.slice B X.floors.length d,.slice T k ct]
 tiers:w.ownsRow base 99 4 (.slice A X.tiers.length c) X.tiers.length (zaf X.tiers)
 floors:w.ownsRow base 3 1 (.slice B X.floors.length d) X.floors.length (za6 X.floors)
 row:w.ownsRow base 208 1 (.slice T k ct) k (zfC tb)
 tab:∀ (i:Nat) (p:Nat×Nat) (x:zaa) (l:List zah),tb[i]? =some p→X.tiers[i]? =some x→X.tabs[i]? =some l→zbp w p.1 x.every p.2 l
 lt:∀ p∈tb,p.1<w.heap.size∧p.2<w.heap.size
 nodup:(tb.map Prod.snd).Nodup
 ge:∀ p∈tb,base≤p.1∧base≤p.2
 tge:base≤t
theorem zci.len{w:World}{t base k:Nat}{X:zae}{A B T:Option Addr}{c d ct:Nat}{tb:List (Nat×Nat)}(h:zci w t base X A c B d T ct tb k):tb.length=k:=by
 have:=h.row.1;unfold zfC at this;rw[List.length_map] at this;omega
theorem zci.fr0{w w':World}{t base k:Nat}{X:zae}{A B T:Option Addr}{c d ct:Nat}{tb:List (Nat×Nat)}(h:zci w t base X A c B d T ct tb k)(hf:Fr (fun _=>False) w w'):zci w' t base X A c B d T ct tb k:=
 ⟨h.blk.fr hf (fun h=>h),za_ h.tiers hf,za_ h.floors hf,za_ h.row hf,fun i p x l h1 h2 h3=>(h.tab i p x l h1 h2 h3).fr0 hf,fun p hp=>⟨Nat.lt_of_lt_of_le (h.lt p hp).1 hf.size,Nat.lt_of_lt_of_le (h.lt p hp).2 hf.size⟩,h.nodup,h.ge,h.tge⟩
theorem zci.done{w:World}{t base:Nat}{X:zae}{A B T:Option Addr}{c d ct:Nat}{tb:List (Nat×Nat)}(h:zci w t base X A c B d T ct tb X.tiers.length)(hl:X.tabs.length=X.tiers.length):zcR w t base X:=
 ⟨A,c,B,d,T,ct,tb,h.blk,h.tiers,h.floors,h.row,hl,h.tab,h.nodup,h.ge,h.tge⟩
theorem zcZ{w:World}{base base' n n' size size':Nat}{e e':TypeId}{v v':Value}{xs xs':List Value}(h:w.ownsRow base e size v n xs)(h':w.ownsRow base' e' size' v' n' xs')(hne:e≠e'):∀ j,zag v j→¬ zag v' j:=fun j hj hj'=>by
 obtain⟨cs,fz,h1⟩:=zc0 h hj;obtain⟨cs',fz',h2⟩:=zc0 h' hj';rw[h1] at h2
 injection h2 with h2
 injection h2 with _ h2 _
 exact hne h2
theorem zci.snoc{w w5 w6:World}{t base k g b:Nat}{X:zae}{A B T T':Option Addr}{c d ct ct':Nat}{tb:List (Nat×Nat)}{x:zaa}{l:List zah}(h:zci w t base X A c B d T ct tb k)
  (hf:Fr (fun _=>False) w w5) (hbs:base≤w.heap.size) (hg:w.heap.size≤g) (hb:w.heap.size≤b) (hx:X.tiers[k]? =some x) (hl:X.tabs[k]? =some l) (ht:zbp w5 g x.every b l) (o:Obj)
  (ho:w6.ownsRow base 208 1 (.slice T' (k+1) ct') (k+1) (zfC tb++[.pointer (some ⟨g,0,none⟩)])) (hm:Mv (zag (.slice T k ct)) (zag (.slice T' (k+1) ct')) (w5.alloc o) w6):
  zci (w6.setCell ⟨t,4,none⟩ (.slice T' (k+1) ct')) t base X A c B d T' ct' (tb++[(g,b)]) (k+1)∧Fr (fun j=>base≤j) w (w6.setCell ⟨t,4,none⟩ (.slice T' (k+1) ct')):=by
 have h5:=h.fr0 (hf.trans (Fr.none_alloc w5 o) q4_);have ht5:zbp (w5.alloc o) g x.every b l:=ht.fr0 (Fr.none_alloc _ _);have hblk:∀ {g':Nat} {ty:TypeId} {cs:Array Value},Blk (w5.alloc o) g' ty cs→ty≠208→¬ zag (.slice T k ct) g':=fun {g' ty cs} hB hne hj=>zac h5.row hB (fun e=>hne e.symm) hj
 have hmap:∀ {b':Nat} {m:List zah},zct (w5.alloc o) b' m→¬ zag (.slice T k ct) b':=fun {b' m} hB hj=>by
  obtain⟨es,ck,hbm⟩:=hB.isMap;obtain⟨cs',fz,hc⟩:=zc0 h5.row hj;rw[hbm] at hc
  cases hc
 have b6:Blk w6 t 87 #[.int .i64 X.now,.string X.name,.slice A X.tiers.length c,.slice B X.floors.length d,.slice T k ct]:=h5.blk.fr hm.fr (hblk h5.blk (by decide));have t6:w6.ownsRow base 99 4 (.slice A X.tiers.length c) X.tiers.length (zaf X.tiers):=zad h5.tiers hm.fr (zcZ h5.tiers h5.row (by decide));have f6:w6.ownsRow base 3 1 (.slice B X.floors.length d) X.floors.length (za6 X.floors):=zad h5.floors hm.fr (zcZ h5.floors h5.row (by decide));have hs:Fr (fun j=>j=t) w6 (w6.setCell ⟨t,4,none⟩ (.slice T' (k+1) ct')):=(Fr.refl (fun j=>j=t) w6).setCell (p:=⟨t,4,none⟩) (.inl rfl) _;have hlen:=h.len;have hkl:k<X.tiers.length:=(List.getElem?_eq_some_iff.1 hx).1
 have tab6:∀ {g' b':Nat} {e:Int} {m:List zah},zbp (w5.alloc o) g' e b' m→zbp (w6.setCell ⟨t,4,none⟩ (.slice T' (k+1) ct')) g' e b' m:=fun {g' b' e m} hT=>by
  have hT6:zbp w6 g' e b' m:=hT.fr hm.fr (hblk hT.blk (by decide)) (hmap hT.own);refine hT6.fr hs (zc6 hT6.blk b6 (by decide)) (fun e'=>?_);obtain⟨es,ck,hbm⟩:=hT6.own.isMap;have hb0:w6.heap[t]? =some (Obj.cells _ _ (0,0)):=b6;rw[← e',hbm] at hb0
  cases hb0
 have hsz:w.heap.size≤(w6.setCell ⟨t,4,none⟩ (.slice T' (k+1) ct')).heap.size:=Nat.le_trans (Nat.le_trans (hf.trans (Fr.none_alloc w5 o) q4_).size hm.fr.size) hs.size;refine⟨⟨b6.set_ 4 _,zad t6 hs (fun j hj e=>zac t6 b6 (by decide) (by rw[← e];exact hj)),zad f6 hs (fun j hj e=>zac f6 b6 (by decide) (by rw[← e];exact hj)),?_,fun i p y m h1 h2 h3=>?_,fun p hp=>?_,?_,fun p hp=>?_,h.tge⟩,?_⟩
 ·have:zfC (tb++[(g,b)])=zfC tb++[.pointer (some ⟨g,0,none⟩)]:=by unfold zfC;rw[List.map_append];rfl
  rw[this];exact zad ho hs (fun j hj e=>zac ho b6 (by decide) (by rw[← e];exact hj))
 ·by_cases hi:i<tb.length
  ·rw[List.getElem?_append_left hi] at h1
   exact tab6 (h5.tab i p y m h1 h2 h3)
  ·rw[List.getElem?_append_right (by omega)] at h1
   have hik:i=k:=by
    have:=(List.getElem?_eq_some_iff.1 h1).1;simp at this;omega
   subst hik;rw[hlen,Nat.sub_self] at h1
   cases h1
   rw[hx] at h2
   cases h2
   rw[hl] at h3
   cases h3
   exact tab6 ht5
 ·rcases List.mem_append.1 hp with hp | hp
  ·exact⟨Nat.lt_of_lt_of_le (h.lt p hp).1 hsz,Nat.lt_of_lt_of_le (h.lt p hp).2 hsz⟩
  ·rw[List.mem_singleton] at hp
   subst hp;exact⟨(tab6 ht5).blk.lt,(tab6 ht5).own.lt⟩
 ·rw[List.map_append,List.nodup_append]
  refine⟨h.nodup,by simp,fun a ha b' hb'=>?_⟩;obtain⟨p,hp,rfl⟩:=List.mem_map.1 ha;simp at hb';subst hb';have:=(h.lt p hp).2;omega
 ·rcases List.mem_append.1 hp with hp | hp
  ·exact h.ge p hp
  ·rw[List.mem_singleton] at hp
   subst hp;exact⟨by omega,by omega⟩
 ·have q1:Fr (fun j=>base≤j) w (w5.alloc o):=(hf.trans (Fr.none_alloc w5 o) q4_).mono q4_
  have q2:Fr (fun j=>base≤j) w w6:=q1.trans hm.fr (fun j hj=>.inl (h5.row.lt j hj).1);exact q2.trans hs (fun j hj=>.inl (by rw[hj];exact h.tge))
open Go.ChangeShapes Go.WideShapes Go.ChangeAt Go.RowKit
theorem zoM{w:World}{cs:List Value}(h:Dat prog w 99 cs):∃ t:zaa,cs=t.cells∧t.wf:=by
 have hl:=h.len_ underlying99 (show prog.cellsOf 99=4 by kernel_rfl)
 match cs,hl with
 | [c0,c1,c2,c3],_=>
  obtain⟨s,h0,w0⟩:=(h.field_ underlying99 0 0 1 rfl rfl (by kernel_rfl)).str_ underlying9;obtain⟨a,h1,w1⟩:=(h.field_ underlying99 1 1 1 rfl rfl (by kernel_rfl)).i64_ underlying3;obtain⟨b,h2,w2⟩:=(h.field_ underlying99 2 2 1 rfl rfl (by kernel_rfl)).i64_ underlying3;obtain⟨c,h3,w3⟩:=(h.field_ underlying99 3 3 1 rfl rfl (by kernel_rfl)).i64_ underlying3;simp at h0 h1 h2 h3;subst h0 h1 h2 h3;exact⟨⟨s,a,b,c⟩,rfl,w1,w2,w3,w0⟩
theorem znp{w:World}{cs:List Value}(h:Dat prog w 23 cs):∃ A n c,∃ l:List zaa,cs=[.slice A n c]∧Rd w 4 A n (zaf l)∧l.length=n∧n≤c∧c≤maxLen∧∀ t∈l,t.wf:=
 h.rows_ zaa.cells zaa.wf underlying23 (by kernel_rfl) (fun _ h=>zoM h)
theorem znq{w:World}{cs:List Value}(h:Dat prog w 3 cs):∃ x:Int,cs=[.int .i64 x]∧zbT x:=by
 obtain⟨x,h1,h2⟩:=h.i64_ underlying3;exact⟨x,h1,h2⟩
theorem ze3{w:World}{cs:List Value}(h:Dat prog w 26 cs):∃ A n c,∃ l:List Int,cs=[.slice A n c]∧Rd w 1 A n (za6 l)∧l.length=n∧n≤c∧c≤maxLen∧∀ t∈l,zbT t:=by
 obtain⟨A,n,c,l,e,r,h1⟩:=h.rows_ (fun x:Int=>[Value.int .i64 x]) zbT underlying26 (show prog.cellsOf 3=1 by kernel_rfl) (fun _ h=>znq h);refine⟨A,n,c,l,e,?_,h1⟩
 have e2:∀ l:List Int,l.flatMap (fun x:Int=>[Value.int .i64 x])=za6 l:=fun l=>by
  unfold za6
  induction l with
  | nil=>rfl
  | cons a l ih=>rw[List.flatMap_cons,ih];rfl
 rwa[e2] at r
theorem zlM{w:World}{cs:List Value}(h:Dat prog w 54 cs):∃ id t s p o:Int,cs=[.int .u64 id,.int .i64 t,.int .i64 s,.int .i64 p,.int .i64 o]∧(0≤id∧id<18446744073709551616)∧zbT t∧zbT s∧zbT p∧zbT o:=by
 have hl:=h.len_ underlying54 (show prog.cellsOf 54=5 by kernel_rfl)
 match cs,hl with
 | [c0,c1,c2,c3,c4],_=>
  obtain⟨a,h0,w0,w0'⟩:=(h.field_ underlying54 0 0 1 rfl rfl (by kernel_rfl)).u64_ underlying22;obtain⟨b,h1,w1⟩:=(h.field_ underlying54 1 1 1 rfl rfl (by kernel_rfl)).i64_ underlying3;obtain⟨c,h2,w2⟩:=(h.field_ underlying54 2 2 1 rfl rfl (by kernel_rfl)).i64_ underlying3;obtain⟨d,h3,w3⟩:=(h.field_ underlying54 3 3 1 rfl rfl (by kernel_rfl)).i64_ underlying3;obtain⟨e,h4,w4⟩:=(h.field_ underlying54 4 4 1 rfl rfl (by kernel_rfl)).i64_ underlying3;simp at h0 h1 h2 h3 h4;subst h0 h1 h2 h3 h4;exact⟨a,b,c,d,e,rfl,⟨w0,by omega⟩,w1,w2,w3,w4⟩
theorem znr{w:World}{cs:List Value}(h:Dat prog w 56 cs):∃ x:za5,cs=x.cells∧x.ok w:=by
 have hl:=h.len_ underlying56 (show prog.cellsOf 56=6 by kernel_rfl)
 match cs,hl with
 | [c0,c1,c2,c3,c4,c5],_=>
  obtain⟨id,t,s,p,o,h0,w0,w1,w2,w3,w4⟩:=zlM (h.field_ underlying56 0 0 5 rfl rfl (by kernel_rfl));obtain⟨A,n,c,l,h1,r1,r2,r3,r4,r5⟩:=ze3 (h.field_ underlying56 1 5 1 rfl rfl (by kernel_rfl));simp at h0 h1;obtain⟨e0,e1,e2,e3,e4⟩:=h0;subst e0 e1 e2 e3 e4 h1;exact⟨⟨id,t,s,p,o,A,n,c,l⟩,rfl,⟨w0,w1,w2,w3,w4,r1,r2,r3,r4,r5⟩⟩
theorem zlN{w:World}{cs:List Value}(h:Dat prog w 27 cs):∃ A n c,∃ l:List za5,cs=[.slice A n c]∧Rd w 6 A n (zbN l)∧l.length=n∧n≤c∧c≤maxLen∧∀ t∈l,t.ok w:=
 h.rows_ za5.cells (za5.ok w) underlying27 (show prog.cellsOf 56=6 by kernel_rfl) (fun _ h=>znr h)
theorem zjb{w:World}{cs:List Value}(h:Dat prog w 25 cs):∃ nm A n c,∃ l:List zaa,cs=[.string nm,.slice A n c]∧nm.size≤maxLen∧Rd w 4 A n (zaf l)∧l.length=n∧n≤c∧c≤maxLen∧∀ t∈l,t.wf:=by
 have hl:=h.len_ underlying25 (show prog.cellsOf 25=2 by kernel_rfl)
 match cs,hl with
 | [c0,c1],_=>
  obtain⟨s,h0,w0⟩:=(h.field_ underlying25 0 0 1 rfl rfl (by kernel_rfl)).str_ underlying9;obtain⟨A,n,c,l,h1,r1,r2,r3,r4,r5⟩:=znp (h.field_ underlying25 1 1 1 rfl rfl (by kernel_rfl));simp at h0 h1;subst h0 h1;exact⟨s,A,n,c,l,rfl,w0,r1,r2,r3,r4,r5⟩
theorem in_cat{H:Type}{enc:TypeId×Value→H}{w:World}{r:Reach}{b0:Nat}{v:Value}{d:DataW H}{ps:List MemPlace}(hv:Value.okWide prog w r b0 29 v)(h:DataW.Trod enc prog w 0 (fun _=>true) true 29 v d ps):
  ∃ (c:zbf) (a:zfI),v=.agg (zbU c a)∧zcn w c a:=by
 obtain⟨cs,rfl,hcs⟩:=zls underlying29 hv;have h:=Dat.of h;rw[hcs] at h;have hl:=h.len_ underlying29 (show prog.cellsOf 29=12 by kernel_rfl);clear hcs hv
 match cs,hl with
 | [c0,c1,c2,c3,c4,c5,c6,c7,c8,c9,c10,c11],_=>
  obtain⟨gen,h0,w0,w0'⟩:=(h.field_ underlying29 0 0 1 rfl rfl (by kernel_rfl)).u64_ underlying22;obtain⟨id,h1,w1,w1'⟩:=(h.field_ underlying29 1 1 1 rfl rfl (by kernel_rfl)).u64_ underlying22;obtain⟨now,h2,w2⟩:=(h.field_ underlying29 2 2 1 rfl rfl (by kernel_rfl)).i64_ underlying3;obtain⟨nm,pA,pn,pc,pl,h3,p0,p1,p2,p3,p4,p5⟩:=zjb (h.field_ underlying29 3 3 2 rfl rfl (by kernel_rfl));obtain⟨fA,fn,fc,fl,h4,f1,f2,f3,f4,f5⟩:=ze3 (h.field_ underlying29 4 5 1 rfl rfl (by kernel_rfl));obtain⟨nm2,tA,tn,tc,tl,h5,t0,t1,t2,t3,t4,t5⟩:=zjb (h.field_ underlying29 5 6 2 rfl rfl (by kernel_rfl));obtain⟨sA,sn,sc,sl,h6,s1,s2,s3,s4,s5⟩:=ze3 (h.field_ underlying29 6 8 1 rfl rfl (by kernel_rfl));obtain⟨bound,h7,w7⟩:=(h.field_ underlying29 7 9 1 rfl rfl (by kernel_rfl)).i64_ underlying3;obtain⟨done,h8,w8⟩:=(h.field_ underlying29 8 10 1 rfl rfl (by kernel_rfl)).i64_ underlying3;obtain⟨eA,en,ec,el,h9,e1,e2,e3,e4,e5⟩:=zlN (h.field_ underlying29 9 11 1 rfl rfl (by kernel_rfl));simp at h0 h1 h2 h3 h4 h5 h6 h7 h8 h9;obtain⟨h3,h3'⟩:=h3;obtain⟨h5,h5'⟩:=h5;subst h0 h1 h2 h3 h3' h4 h5 h5' h6 h7 h8 h9;exact⟨⟨gen,id,now,nm,pl,fl,nm2,tl,sl,bound,done,el⟩,⟨pA,pn,pc,fA,fn,fc,tA,tn,tc,sA,sn,sc,eA,en,ec⟩,rfl,⟨⟨w0,by show gen<_;omega⟩,⟨w1,by show id<_;omega⟩,w2,w7,w8,p0,t0,p1,f1,t1,s1,e1,p2,f2,t2,s2,e2,⟨p3,p4⟩,⟨f3,f4⟩,⟨t3,t4⟩,⟨s3,s4⟩,⟨e3,e4⟩,p5,t5,f5,s5,e5⟩⟩
theorem zpm{w:World}{base n c g:Nat}{e:TypeId}{xs:List Value}{cs:Array Value}(h:w.ownsRow base e 1 (.slice (some ⟨g,0,none⟩) n c) n xs)(hB:Blk w g e cs):n≤cs.size:=by
 rcases h.2 with ⟨h2,_⟩ | ⟨g',cap,cur,hv,hb,hg,h3,h4,h5,h6⟩
 ·cases h2
 ·injection hv with e1 _ e3
  injection e1 with e1
  injection e1 with e1
  subst e1;have hB':w.heap[g]? =some (Obj.cells cs e (0,0)):=hB;rw[hg] at hB'
  injection hB' with hB'
  injection hB' with hc _ _
  subst hc;have h1:=h.1;have:=congrArg List.length h6;rw[List.length_take,h1,Array.length_toList] at this;omega
theorem zom{w:World}{base n c g k:Nat}{e:TypeId}{xs:List Value}{v:Value}(h:w.ownsRow base e 1 (.slice (some ⟨g,0,none⟩) n c) n xs):(w.setCell ⟨g,k,none⟩ v).ownsRow base e 1 (.slice (some ⟨g,0,none⟩) n c) n (xs.set k v):=by
 obtain⟨h1,h2⟩:=h;refine⟨by rw[List.length_set];exact h1,?_⟩
 rcases h2 with ⟨h2,_⟩ | ⟨g',cap,cur,hv,hb,hg,h3,h4,h5,h6⟩
 ·cases h2
 ·injection hv with e1 _ e3
  injection e1 with e1
  injection e1 with e1
  subst e1 e3;refine .inr ⟨g,c,cur.setIfInBounds k v,rfl,hb,?_,h3,h4,by simp[h5],?_⟩
  ·rw[Sort.setCell_eq]
   unfold Sort.mapBlock;rw[Array.getElem?_modify,if_pos rfl,hg]
   rfl
  ·rw[← h6,Array.toList_setIfInBounds,List.take_set]
theorem zmO{L:List Nat}{k b:Nat}(h:L.Nodup)(hb:b∉L):(L.set k b).Nodup:=by
 unfold List.Nodup at h ⊢;rw[List.pairwise_iff_getElem] at h ⊢;intro i j hi hj hij;rw[List.length_set] at hi hj;rw[List.getElem_set,List.getElem_set]
 split
 ·split
  ·omega
  ·exact fun e=>hb (e▸List.getElem_mem hj)
 ·split
  ·exact fun e=>hb (e▸List.getElem_mem hi)
  ·exact h i j hi hj hij
open Go.Maps (Keyed int_keyed keyOf_int_mk)
theorem zp2:Keyed prog 3:=int_keyed underlying3
theorem ziW:Keyed prog 116:=Keyed.of_law (deep_law_gate zkF (of_decide_eq_true (by kernel_rfl)) (of_decide_eq_true (by kernel_rfl)) (by kernel_rfl) (by kernel_rfl))
def zmK(a b:Int):Value:=.agg #[.int .i64 a,.int .i64 b]
def zgM(a b:Int):Lit:=.string (keyBytes [.int .i64 a,.int .i64 b])
theorem zqk{x:Int}(h:zbT x):(Lit.int .i64 x).wf=true:=by
 obtain⟨h1,h2⟩:=h;simp[Lit.wf,IntKind.min,IntKind.max,IntKind.bits,IntKind.signed];omega
theorem zi_{a b:Int}(ha:zbT a)(hb:zbT b):keyOf prog 116 (zmK a b)=some (zgM a b):=by
 have hk:prog.keyType 116=true:=by kernel_rfl
 have hc:prog.cellsOf 116=2:=by kernel_rfl
 have hci:prog.cellsOf 3=1:=by kernel_rfl
 have h0:1<prog.types.size:=of_decide_eq_true (by kernel_rfl)
 obtain⟨m,hm⟩:∃ m,prog.types.size=m+1:=⟨prog.types.size-1,by omega⟩
 have hwa:=zqk ha;have hwb:=zqk hb
 have hf:(zmK a b).formed prog 116=true:=by simp[zmK,Value.formed,underlying116,hc]
 unfold keyOf zgM;rw[underlying116];simp only;rw[if_pos (by rw[hk,hf];rfl),hm];simp[zmK,Value.cells,Program.keyLits,underlying116,underlying3,hc,hci,hwa,hwb];refine⟨[[.int .i64 a],[.int .i64 b]],?_,rfl⟩;rw[show List.range 2=[0,1] from rfl];simp[hwa,hwb]
theorem zok{a b c d:Int}(ha:zbT a)(hb:zbT b)(hc:zbT c)(hd:zbT d)(h:zgM a b=zgM c d):a=c∧b=d:=by
 have h2:=zi_ hc hd;rw[← h] at h2;have h1:=ziW.inj (zi_ ha hb) h2;simp[zmK] at h1;exact h1
theorem zhP:∀ (xs acc:List Lit),(xs.foldl Maps.addKey acc).length≤acc.length+xs.length
 | [],acc=>by simp
 | x::xs,acc=>by
  have h:=zhP xs (Maps.addKey acc x)
  have h2:(Maps.addKey acc x).length≤acc.length+1:=by
   unfold Maps.addKey
   split<;>simp
  simp only[List.foldl_cons,List.length_cons];omega
theorem zpf{a b:Lit}(ha:WideAt.IsKeyLit a):a.sameKey b=true↔a=b:=by
 constructor
 ·intro h
  by_cases e:a=b
  ·exact e
  ·rw[Maps.sameKey_ne e] at h
   cases h
 ·rintro rfl
  exact WideAt.sameKey_self ha
theorem zek:∀ (xs acc:List Lit),(∀ x∈xs,WideAt.IsKeyLit x)→(∀ x∈acc,WideAt.IsKeyLit x)→acc.Nodup→((xs.foldl Maps.addKey acc).length=acc.length+xs.length↔(acc++xs).Nodup)
 | [],acc,_,_,hn=>by simp[hn]
 | x::xs,acc,hx,ha,hn=>by
  have hxx:=hx x (by simp)
  by_cases hm:x∈acc
  ·have h1:Maps.addKey acc x=acc:=by
    unfold Maps.addKey;rw[if_pos];rw[List.any_eq_true];exact⟨x,hm,WideAt.sameKey_self hxx⟩
   have h2:=zhP xs acc;simp only[List.foldl_cons,List.length_cons,h1]
   constructor
   ·intro h;omega
   ·intro h
    exact absurd hm (fun hm=>(List.nodup_append.1 h).2.2 x hm x (by simp) rfl)
  ·have h1:Maps.addKey acc x=acc++[x]∨Maps.addKey acc x=x::acc:=by
    unfold Maps.addKey;rw[if_neg]
    ·first | exact .inl rfl | exact .inr rfl
    ·rw[List.any_eq_true]
     rintro⟨y,hy,h⟩;rw[zpf (ha y hy)] at h;exact hm (h▸hy)
   rcases h1 with h1 | h1
   ·have:=zek xs (acc++[x]) (fun y hy=>hx y (List.mem_cons_of_mem _ hy)) (fun y hy=>by
     rcases List.mem_append.1 hy with h | h
     ·exact ha y h
     ·rw[List.mem_singleton] at h;rw[h];exact hxx) (by
     rw[List.nodup_append]
     exact⟨hn,by simp,fun a ha b hb=>by rw[List.mem_singleton] at hb;rw[hb];exact fun e=>hm (e▸ha)⟩)
    simp only[List.foldl_cons,List.length_cons,h1];rw[List.append_assoc,q8_] at this;simp only[List.length_singleton,List.singleton_append] at this;rw[← this];omega
   ·have:=zek xs (x::acc) (fun y hy=>hx y (List.mem_cons_of_mem _ hy)) (fun y hy=>by
     rcases List.mem_cons.1 hy with h | h
     ·rw[h];exact hxx
     ·exact ha y h) (by rw[List.nodup_cons];exact⟨hm,hn⟩)
    simp only[List.foldl_cons,List.length_cons,h1];rw[List.length_cons] at this;have hp:(acc++x::xs).Nodup↔(x::acc++xs).Nodup:=List.Perm.nodup_iff List.perm_middle;rw[hp, ← this];omega
theorem zko(u:DataW Unit)(xs:List Lit)(h:∀ x∈xs,WideAt.IsKeyLit x):Maps.size (Maps.setOf u xs)=xs.length↔xs.Nodup:=by
 rw[Maps.size_setOf u xs h];have:=zek xs [] h (fun _ h=>by cases h) List.nodup_nil;simpa using this
def zpx(x:Int):Lit:=.int .i64 x
theorem zf7{α β:Type}{f:α→β}:∀ {l:List α},(∀ a∈l,∀ b∈l,f a=f b→a=b)→((l.map f).Nodup↔l.Nodup)
 | [],_=>by simp
 | a::l,h=>by
  rw[List.map_cons,List.nodup_cons,List.nodup_cons,zf7 (fun x hx y hy=>h x (List.mem_cons_of_mem _ hx) y (List.mem_cons_of_mem _ hy))]
  have:f a∈l.map f↔a∈l:=by
   rw[List.mem_map]
   constructor
   ·rintro⟨b,hb,e⟩
    rw[h a (by simp) b (List.mem_cons_of_mem _ hb) e.symm];exact hb
   ·exact fun ha=>⟨a,ha,rfl⟩
  rw[this]
def zgT(w:World)(b:Nat)(l:List Int):Prop:=w.ownsMap prog 3 unitElem b l.length (Maps.setOf (.agg []) (l.map zpx):DataW Unit)
def zjk(w:World)(b:Nat)(l:List (Int×Int)):Prop:=w.ownsMap prog 116 unitElem b l.length (Maps.setOf (.agg []) (l.map fun p=>zgM p.1 p.2):DataW Unit)
theorem zhf{k:TypeId}{R:Value→Option (DataW Unit×List MemPlace)}{w w':World}{F:Nat→Prop}{b n:Nat}{D:DataW Unit}(h:w.ownsMap prog k R b n D)(f:Fr F w w')(hn:¬ F b):w'.ownsMap prog k R b n D:=by
 have hlt:=h.lt;obtain⟨es,clock,hb,r⟩:=h;exact⟨es,clock,(f.block b hlt hn).trans hb,r⟩
theorem zgT.made(w:World):zgT (w.alloc (.map #[] 0)) w.heap.size []:=World.ownsMap_made _ _ _ _
theorem zjk.made(w:World):zjk (w.alloc (.map #[] 0)) w.heap.size []:=World.ownsMap_made _ _ _ _
theorem zgT.fr{w w':World}{F:Nat→Prop}{b:Nat}{l:List Int}(h:zgT w b l)(f:Fr F w w')(hn:¬ F b):zgT w' b l:=zhf h f hn
theorem zjk.fr{w w':World}{F:Nat→Prop}{b:Nat}{l:List (Int×Int)}(h:zjk w b l)(f:Fr F w w')(hn:¬ F b):zjk w' b l:=zhf h f hn
theorem zgT.snoc{w:World}{b:Nat}{l:List Int}{x:Int}(h:w.ownsMap prog 3 unitElem b (l.length+1) ((Maps.setOf (.agg []) (l.map zpx):DataW Unit).put (zpx x) (.agg []))):zgT w b (l++[x]):=by
 unfold zgT;rw[List.map_append,List.map_singleton,Maps.setOf_snoc,q8_];exact h
theorem zjk.snoc{w:World}{b:Nat}{l:List (Int×Int)}{x:Int×Int}(h:w.ownsMap prog 116 unitElem b (l.length+1) ((Maps.setOf (.agg []) (l.map fun p=>zgM p.1 p.2):DataW Unit).put (zgM x.1 x.2) (.agg []))):zjk w b (l++[x]):=by
 unfold zjk;rw[List.map_append,List.map_singleton,Maps.setOf_snoc,q8_];exact h
theorem zgT.len{w:World}{b:Nat}{l:List Int}(h:zgT w b l)(hl:∀ x∈l,zbT x):∃ s:Nat,(s=l.length↔l.Nodup)∧∀ ty,(Builtin.len_ #[112] ty #[.map (some b)]).run prog w=.ok (.int .i64 s) w:=by
 refine⟨_,?_,fun ty=>World.ownsMap.len h underlying112 ty⟩
 have hk:∀ x∈l.map zpx,WideAt.IsKeyLit x:=fun x hx=>by
  obtain⟨y,hy,rfl⟩:=List.mem_map.1 hx;exact trivial
 rw[← zf7 (f:=zpx) (fun a _ b _ e=>by unfold zpx at e;cases e;rfl), ← zko _ _ hk,List.length_map]
theorem zjk.len{w:World}{b:Nat}{l:List (Int×Int)}(h:zjk w b l)(hl:∀ x∈l,zbT x.1∧zbT x.2):∃ s:Nat,(s=l.length↔l.Nodup)∧∀ ty,(Builtin.len_ #[113] ty #[.map (some b)]).run prog w=.ok (.int .i64 s) w:=by
 refine⟨_,?_,fun ty=>World.ownsMap.len h underlying113 ty⟩
 have hk:∀ x∈l.map (fun p=>zgM p.1 p.2),WideAt.IsKeyLit x:=fun x hx=>by
  obtain⟨y,hy,rfl⟩:=List.mem_map.1 hx;exact trivial
 rw[← zf7 (f:=fun p:Int×Int=>zgM p.1 p.2) (fun a ha b hb e=>by
  obtain⟨h1,h2⟩:=zok (hl a ha).1 (hl a ha).2 (hl b hb).1 (hl b hb).2 e
  exact Prod.ext h1 h2), ← zko _ _ hk,List.length_map]
end Go.Proofs.YteajonicnkpbbaaGreatDoor
