/- Tiers: what they are; walks of none, is, Len. -/
import Derived.Test.YteajonicnkpbbaaGreatDoorReachC
import Derived.Test.YteajonicnkpbbaaGreatDoorTabNeed
namespace Go.Proofs.YteajonicnkpbbaaGreatDoor
set_option linter.all false
set_option maxHeartbeats 8000000
set_option maxRecDepth 100000
open Go.RowKit Tryz
structure zac where
 now:Int
 name:ByteArray
 tiers:List za_
 floors:List Int
 tabs:List (List zaf)
def zf7(tb:List (Nat×Nat)):List Value:=tb.map fun p=>.pointer (some ⟨p.1,0,none⟩)
theorem zbY{tb:List (Nat×Nat)}{k:Nat}{p:Nat×Nat}(h:tb[k]? =some p):(zf7 tb)[k]? =some (.pointer (some ⟨p.1,0,none⟩)):=by
 unfold zf7;rw[List.getElem?_map,h];rfl
structure zaQ(w:World)(t base:Nat)(X:zac)(A:Option Addr)(c:Nat)(B:Option Addr)(d:Nat)(T:Option Addr)(ct:Nat)(tb:List (Nat×Nat)):Prop where
 blk:Blk w t 87 #[.int .i64 X.now,.string X.name,.slice A X.tiers.length c,.slice B X.floors.length d,.slice T X.tiers.length ct]
 tiers:w.ownsRow base 99 4 (.slice A X.tiers.length c) X.tiers.length (zag X.tiers)
 floors:w.ownsRow base 3 1 (.slice B X.floors.length d) X.floors.length (zaU X.floors)
 row:w.ownsRow base 208 1 (.slice T X.tiers.length ct) X.tiers.length (zf7 tb)
 tlen:X.tabs.length=X.tiers.length
 tab:∀ (i:Nat) (p:Nat×Nat) (x:za_) (l:List zaf),tb[i]? =some p→X.tiers[i]? =some x→X.tabs[i]? =some l→zar w p.1 x.every p.2 l
 nodup:(tb.map Prod.snd).Nodup
 ge:∀ p∈tb,base≤p.1∧base≤p.2
 tge:base≤t
def zbA(w:World)(t base:Nat)(X:zac):Prop:=∃ A c B d T ct tb,zaQ w t base X A c B d T ct tb
theorem zaQ.len{w:World}{t base:Nat}{X:zac}{A B T:Option Addr}{c d ct:Nat}{tb:List (Nat×Nat)}(h:zaQ w t base X A c B d T ct tb):tb.length=X.tiers.length:=by
 have:=h.row.1;unfold zf7 at this;rw[List.length_map] at this;omega
theorem zaQ.tabAt{w:World}{t base:Nat}{X:zac}{A B T:Option Addr}{c d ct:Nat}{tb:List (Nat×Nat)}(h:zaQ w t base X A c B d T ct tb){k:Nat}(hk:k<X.tiers.length):
  ∃ g b x l,tb[k]? =some (g,b)∧X.tiers[k]? =some x∧X.tabs[k]? =some l∧zar w g x.every b l:=by
 have h1:k<tb.length:=by rw[h.len];exact hk
 have h2:k<X.tabs.length:=by rw[h.tlen];exact hk
 exact⟨tb[k].1,tb[k].2,X.tiers[k],X.tabs[k],q6_ h1,q6_ hk,q6_ h2,h.tab k _ _ _ (q6_ h1) (q6_ hk) (q6_ h2)⟩
theorem zaQ.fr0{w w':World}{t base:Nat}{X:zac}{A B T:Option Addr}{c d ct:Nat}{tb:List (Nat×Nat)}(h:zaQ w t base X A c B d T ct tb)(hf:Fr (fun _=>False) w w'):zaQ w' t base X A c B d T ct tb:=
 ⟨h.blk.fr hf (fun h=>h),zab h.tiers hf,zab h.floors hf,zab h.row hf,h.tlen,fun i p x l h1 h2 h3=>(h.tab i p x l h1 h2 h3).fr0 hf,h.nodup,h.ge,h.tge⟩
theorem zaQ.set{w w':World}{t base:Nat}{X:zac}{A B T:Option Addr}{c d ct:Nat}{tb:List (Nat×Nat)}(h:zaQ w t base X A c B d T ct tb){k g b:Nat}{x:za_}{l':List zaf}(hk:tb[k]? =some (g,b))(hx:X.tiers[k]? =some x)
  (ht:zar w' g x.every b l') (hf:Fr (fun j=>j=b) w w'):zaQ w' t base {X with tabs:=X.tabs.set k l'} A c B d T ct tb:=by
 have hkl:k<X.tiers.length:=(List.getElem?_eq_some_iff.1 hx).1
 obtain⟨l,hl⟩:∃ l,X.tabs[k]? =some l:=⟨_,q6_ (by rw[h.tlen];exact hkl)⟩
 obtain⟨es,ck,hbm⟩:=(h.tab k (g,b) x l hk hx hl).own.isMap;simp only at hbm
 have hrow:∀ {e:TypeId} {size n base':Nat} {v:Value} {xs:List Value},w.ownsRow base' e size v n xs→∀ j,zay v j→¬ j=b:=fun ho j hj e=>by
  obtain⟨cs',fz,hc⟩:=zdF ho hj;rw[e,hbm] at hc
  cases hc
 have hblk:∀ {g':Nat} {ty:TypeId} {cs:Array Value},Blk w g' ty cs→g'≠b:=fun {g' ty cs} hb e=>by
  have hb0:w.heap[g']? =some (Obj.cells cs ty (0,0)):=hb;rw[e,hbm] at hb0
  cases hb0
 refine⟨h.blk.fr hf (hblk h.blk),zah h.tiers hf (hrow h.tiers),zah h.floors hf (hrow h.floors),zah h.row hf (hrow h.row),by simp[h.tlen],fun i p y l1 h1 h2 h3=>?_,h.nodup,h.ge,h.tge⟩
 by_cases e:i=k
 ·subst e
  rw[hk] at h1
  cases h1
  rw[hx] at h2
  cases h2
  rw[List.getElem?_set_self (by rw[h.tlen];exact hkl)] at h3
  cases h3
  exact ht
 ·rw[List.getElem?_set_ne (fun e'=>e e'.symm)] at h3
  have hT:=h.tab i p y l1 h1 h2 h3;refine hT.fr hf (hblk hT.blk) (fun e'=>?_)
  have hi:(tb.map Prod.snd)[i]? =some b:=by rw[List.getElem?_map,h1];simp[e']
  have hk2:(tb.map Prod.snd)[k]? =some b:=by rw[List.getElem?_map,hk];rfl
  have hil:=(List.getElem?_eq_some_iff.1 hi).1;exact e ((List.getElem?_inj hil h.nodup).1 (hi.trans hk2.symm))
theorem zeS(t base:Nat)(X:zac)(w:World)(h:zbA w t base X)(hn:0<X.tiers.length):
  Calls prog 144 #[.pointer (some ⟨t,0,none⟩)] w fun r w'=>r=.returned (.bool false)∧w=w':=by
 obtain⟨A,c,B,d,T,ct,tb,hi⟩:=h;have c4:=hi.blk.cell 4;simp only[q1_,q2_,q3_] at c4
 have hne:((X.tiers.length:Int)==0)=false:=by simp;intro e;rw[e] at hn;cases hn
 have hne2:¬ X.tiers.length=0:=by omega
 obtain⟨n,hn2⟩:∃ n,X.tiers.length=n:=⟨_,rfl⟩
 rw[hn2] at c4 hne hne2;have hnd:decide ((n:Int)=0)=false:=q9_ (by omega);clear hi hn2;go_enter func144,ntmps144;go_wp2;go_ret;exact⟨by first | rfl | simp[*],rfl⟩
theorem zin{x:Int}(h: -9223372036854775808≤x∧x≤9223372036854775807):IntKind.i64.wrap x=x:=by simp[IntKind.wrap,IntKind.signed,IntKind.bits];omega
theorem zeV{L:List Nat}{k x:Nat}(h:L[k]? =some x):(L.take (k+1)).sum=(L.take k).sum+x:=by
 rw[zak h,List.sum_append];simp
theorem zkF{L:List Nat}{c:Nat}(h:∀ x∈L,x≤c)(k:Nat):(L.take k).sum≤k*c:=by
 induction k with
 | zero=>simp
 | succ k ih=>
  by_cases hk:k<L.length
  ·rw[zeV (q6_ hk),Nat.add_mul]
   have:=h _ (List.getElem_mem hk);omega
  ·rw[List.take_of_length_le (by omega)]
   rw[List.take_of_length_le (by omega)] at ih;rw[Nat.add_mul];omega
def zcu(X:zac):List Nat:=List.zipWith (fun x l=>ze6 (max x.shards 1) l) X.tiers X.tabs
def zbb(X:zac):Nat:=(zcu X).sum
theorem zlR(M:Int)(hM:M≤8)(l:List zaf):ze6 M l≤8*(l.length+2):=by
 have:=ziz M hM l (fun _=>false);rwa[zjH (fun _=>rfl)] at this
theorem znu(t base:Nat)(X:zac)(w:World)(h:zbA w t base X)(h0:0<X.tiers.length)(hn:X.tiers.length≤1000)(hl:∀ l∈X.tabs,l.length≤1000000)(hsh:∀ x∈X.tiers,x.shards≤8):
  Calls prog 100 #[.pointer (some ⟨t,0,none⟩)] w fun r w'=>r=.returned (.int .i64 (zbb X:Nat))∧Below w.heap.size w w':=by
 have HN:=q0_ (zeS t base X w h h0);obtain⟨A,c,B,d,T,ct,tb,hi⟩:=h;have c2:=hi.blk.cell 2;have c4:=hi.blk.cell 4;simp only[q1_,q2_,q3_] at c2 c4;have Hi:=q0_ hi;have Hrow:=q0_ (zal hi.row).2.2.1;have Hti:=q0_ (zal hi.tiers).2.2.1
 have Hle:=q0_ (fun k=>zkF (L:=zcu X) (c:=9000000) (fun x hx=>by
  unfold zcu at hx;obtain⟨i,hi1,rfl⟩:=List.mem_iff_getElem.1 hx
  have hi2:i<X.tiers.length∧i<X.tabs.length:=by rw[List.length_zipWith] at hi1;omega
  rw[List.getElem_zipWith];have h0':=hsh _ (List.getElem_mem hi2.1);have h1:=zlR (max (X.tiers[i]'hi2.1).shards 1) (by omega) (X.tabs[i]'hi2.2);have h2:=hl _ (List.getElem_mem hi2.2)
  omega) k)
 have Htl:=q0_ hi.tlen;have Hl:=q0_ hl;have Hsh:=q0_ hsh;clear hi hl hsh;go_enter func100,ntmps100;go_wp2_with fail;refine HN.out.mono ?_;rintro r w' ⟨rfl,rfl⟩;go_wp2_with fail;clear c2 c4
 go_loopw [3,13] (fun s i wr=>∃ k:Nat,k≤X.tiers.length∧i=.int .i64 k∧s=.int .i64 (((zcu X).take k).sum:Nat)∧Fr (fun _=>False) w wr) (fun _ i _=>X.tiers.length-(intOf i).toNat)
 case atStart=>exact⟨0,Nat.zero_le _,rfl,rfl,Fr.refl _ _⟩
 case round=>
  obtain⟨k,hk,rfl,rfl,hf⟩:=hrel;have c2:=(Hi.out.blk.fr hf (fun h=>h)).cell 2;simp only[q1_,q2_,q3_] at c2
  by_cases hlt:k<X.tiers.length
  ·obtain⟨g,b,x,l,h1,h2,h3,hT⟩:=(Hi.out.fr0 hf).tabAt hlt
   obtain⟨ad,e,hc⟩:=(Hrow.out.fr0 hf).2 (by omega);subst e;have p0:=hc k _ (zbY h1);obtain⟨td,y,e,hy,e0,e1,e2,e3⟩:=(Hti.out.fr0 hf).tier hlt;subst e;rw[h2] at hy
   cases hy
   have hxs:=Hsh.out x (zaa h2);have hll:=Hl.out l (zaa h3);have HL:=q0_ (zkE g x.every b l x.shards hxs wr hT (by omega));have hs:=zeV (L:=zcu X) (k:=k) (x:=ze6 (max x.shards 1) l) (by unfold zcu;rw[List.getElem?_zipWith,h2,h3]);have hs2:=Hle.out (k+1);rw[hs] at hs2
   obtain⟨sv,hsv⟩:∃ sv,((zcu X).take k).sum=sv:=⟨_,rfl⟩
   obtain⟨nv,hnv⟩:∃ nv,ze6 (max x.shards 1) l=nv:=⟨_,rfl⟩
   rw[hsv,hnv] at hs hs2;rw[hnv] at HL;rw[hsv];have Hs:=q0_ hs;have hw:=zin (x:=(sv:Int)+(nv:Int)) (by omega)
   have kn:0≤(k:Int)∧(k:Int)<(X.tiers.length:Int):=by omega
   have Hf:=q0_ hf;clear hc hT h1 h2 h3 hs hsv hnv hf e0 e1 e2;go_wp2_with fail;refine HL.out.mono ?_;rintro r w' ⟨rfl,b5⟩;have F5:=q0_ (Hf.out.trans (Fr.b0 b5) q4_);clear b5 c2 e3 p0;go_wp2
   go_roundw
   case rel=>exact⟨k+1,by omega,by go_num,by rw[Hs.out];push_cast;rfl,F5.out⟩
   case measure=>simp[intOf];omega
  ·have hkl:k=X.tiers.length:=by omega
   have hfin:((zcu X).take k).sum=zbb X:=by
    unfold zbb;rw[List.take_of_length_le (by unfold zcu;rw[List.length_zipWith];omega)]
   rw[hfin];have Hf:=q0_ hf;clear hfin hf;go_wp2;go_ret;exact⟨rfl,Hf.out.below q4_⟩
theorem zds{w:World}{g g':Nat}{ty ty':TypeId}{cs cs':Array Value}(h:Blk w g ty cs)(h':Blk w g' ty' cs')(hne:ty≠ty'):g≠g':=fun e=>by
 have h1:w.heap[g]? =some (Obj.cells cs ty (0,0)):=h;have h2:w.heap[g']? =some (Obj.cells cs' ty' (0,0)):=h';rw[e,h2] at h1
 injection h1 with h1
 injection h1 with _ h1 _
 exact hne h1.symm
def tM(tb:List (Nat×Nat)):Nat→Prop:=fun j=>∃ p∈tb,j=p.2
def tF(t:Nat)(tb:List (Nat×Nat)):Nat→Prop:=fun j=>j=t∨tM tb j
def zaK(w:World)(t base:Nat)(X:zac)(F:Nat→Prop):Prop:=∃ A c B d T ct tb,zaQ w t base X A c B d T ct tb∧F=tF t tb
theorem zaK.at_{w:World}{t base:Nat}{X:zac}{F:Nat→Prop}(h:zaK w t base X F):zbA w t base X:=by
 obtain⟨A,c,B,d,T,ct,tb,hi,_⟩:=h;exact⟨A,c,B,d,T,ct,tb,hi⟩
theorem zbA.on{w:World}{t base:Nat}{X:zac}(h:zbA w t base X):∃ F,zaK w t base X F:=by
 obtain⟨A,c,B,d,T,ct,tb,hi⟩:=h;exact⟨_,A,c,B,d,T,ct,tb,hi,rfl⟩
theorem zaK.fr0{w w':World}{t base:Nat}{X:zac}{F:Nat→Prop}(h:zaK w t base X F)(hf:Fr (fun _=>False) w w'):zaK w' t base X F:=by
 obtain⟨A,c,B,d,T,ct,tb,hi,e⟩:=h;exact⟨A,c,B,d,T,ct,tb,hi.fr0 hf,e⟩
theorem zbA.fr0{w w':World}{t base:Nat}{X:zac}(h:zbA w t base X)(hf:Fr (fun _=>False) w w'):zbA w' t base X:=by
 obtain⟨F,h⟩:=h.on;exact (h.fr0 hf).at_
theorem zaQ.map_{w:World}{t base:Nat}{X:zac}{A B T:Option Addr}{c d ct:Nat}{tb:List (Nat×Nat)}(h:zaQ w t base X A c B d T ct tb){j:Nat}(hj:tM tb j):base≤j∧j<w.heap.size∧∃ es ck,w.heap[j]? =some (.map es ck):=by
 obtain⟨p,hp,rfl⟩:=hj;obtain⟨k,hk⟩:=List.getElem?_of_mem hp
 have hkl:k<X.tiers.length:=by have:=(List.getElem?_eq_some_iff.1 hk).1;rw[h.len] at this;exact this
 obtain⟨g,b,x,l,h1,h2,h3,hT⟩:=h.tabAt hkl;rw[hk] at h1
 cases h1
 exact⟨(h.ge _ hp).2,hT.own.lt,hT.own.isMap⟩
theorem zaK.ge{w:World}{t base:Nat}{X:zac}{F:Nat→Prop}(h:zaK w t base X F):∀ j,F j→base≤j∧j<w.heap.size:=by
 obtain⟨A,c,B,d,T,ct,tb,hi,rfl⟩:=h;rintro j (rfl | hj)
 ·exact⟨hi.tge,hi.blk.lt⟩
 ·exact⟨(hi.map_ hj).1,(hi.map_ hj).2.1⟩
theorem zaK.kind{w:World}{t base:Nat}{X:zac}{F:Nat→Prop}(h:zaK w t base X F):∀ j,F j→(∃ es ck,w.heap[j]? =some (.map es ck))∨(∃ cs fz,w.heap[j]? =some (.cells cs 87 fz)):=by
 obtain⟨A,c,B,d,T,ct,tb,hi,rfl⟩:=h;rintro j (rfl | hj)
 ·exact .inr ⟨_,_,hi.blk⟩
 ·exact .inl (hi.map_ hj).2.2
theorem zaQ.tick{w:World}{t base:Nat}{X:zac}{A B T:Option Addr}{c d ct:Nat}{tb:List (Nat×Nat)}(h:zaQ w t base X A c B d T ct tb)(N:Int):
  zaQ (w.setCell ⟨t,0,none⟩ (.int .i64 N)) t base {X with now:=N} A c B d T ct tb:=by
 have hf:Fr (fun j=>j=t) w (w.setCell ⟨t,0,none⟩ (.int .i64 N)):=(Fr.refl (fun j=>j=t) w).setCell (p:=⟨t,0,none⟩) (.inl rfl) _;refine⟨h.blk.set_ 0 _,zah h.tiers hf (fun j hj e=>zad h.tiers h.blk (by decide) (by rw[← e];exact hj)),zah h.floors hf (fun j hj e=>zad h.floors h.blk (by decide) (by rw[← e];exact hj)),zah h.row hf (fun j hj e=>zad h.row h.blk (by decide) (by rw[← e];exact hj)),h.tlen,fun i p x l h1 h2 h3=>?_,h.nodup,h.ge,h.tge⟩;have hT:=h.tab i p x l h1 h2 h3;obtain⟨es,ck,hbm⟩:=hT.own.isMap;refine hT.fr hf (zds hT.blk h.blk (by decide)) (fun e=>?_);have hb0:w.heap[t]? =some (Obj.cells _ _ (0,0)):=h.blk;rw[← e,hbm] at hb0
 cases hb0
def zdq(N:Int)(X:zac):List (List zaf):=(List.range X.tiers.length).map fun k=>zao (zae (zat N X.tiers X.floors k)) (X.tabs.getD k [])
def zdI(X:zac)(n:Int):Int:=if n<0 then 1 else if 1099511627776-X.now<n then 26 else 0
def zaC(X:zac)(n:Int):zac:=if zdI X n=0 then {X with now:=X.now+n,tabs:=zdq (X.now+n) X} else X
theorem zf8{α:Type}{D L:List α}{k:Nat}{y:α}(hk:k<L.length)(hy:D[k]? =some y)(hkd:k≤D.length):(D.take k++L.drop k).set k y=D.take (k+1)++L.drop (k+1):=by
 have h1:(D.take k).length=k:=by rw[List.length_take];omega
 rw[List.set_append_right _ _ (by omega),h1,Nat.sub_self,List.drop_eq_getElem_cons hk,List.set_cons_zero,zak hy,List.append_assoc]
 rfl
theorem znt(t base:Nat)(X:zac)(F:Nat→Prop)(n:Int)(hn64:i64 n)(w:World)(h:zaK w t base X F)(h0:0<X.tiers.length)(hn:X.tiers.length≤1000)(hl:∀ l∈X.tabs,l.length≤1000000)(hnow:0≤X.now∧X.now≤1099511627776)(hwf:∀ x∈X.tiers,x.wf):
  Calls prog 103 #[.pointer (some ⟨t,0,none⟩),.int .i64 n] w fun r w'=>r=.returned (.int .i64 (zdI X n))∧zaK w' t base (zaC X n) F∧Fr F w w':=by
 have HN:=q0_ (zeS t base X w h.at_ h0);have HT:=q0_ h;obtain⟨A,c,B,d,T,ct,tb,hi,rfl⟩:=h;have c0:=hi.blk.cell 0;have z0:=hi.blk.frozen 0;simp only[q1_,q2_,q3_] at c0;have Hi:=q0_ hi;clear hi;unfold i64 at hn64;unfold zaC zdI;have hw1:=zin (x:=1099511627776-X.now) (by omega)
 by_cases hneg:n<0
 ·have hnd:decide (n<0)=true:=qa_ hneg
  rw[if_pos hneg,if_neg (by omega)];go_enter func103,ntmps103;go_wp2_with fail;refine HN.out.mono ?_;rintro r w' ⟨rfl,rfl⟩;go_wp2;go_ret;exact⟨rfl,HT.out,Fr.refl _ _⟩
 have hnd:decide (n<0)=false:=q9_ hneg;rw[if_neg hneg]
 by_cases hbig:1099511627776-X.now<n
 ·have hbd:decide (1099511627776-X.now<n)=true:=qa_ hbig
  rw[if_pos hbig,if_neg (by omega)];go_enter func103,ntmps103;go_wp2_with fail;refine HN.out.mono ?_;rintro r w' ⟨rfl,rfl⟩;go_wp2;go_ret;exact⟨rfl,HT.out,Fr.refl _ _⟩
 have hbd:decide (1099511627776-X.now<n)=false:=q9_ hbig;rw[if_neg hbig,if_pos rfl];have hw2:=zin (x:=X.now+n) (by omega)
 obtain⟨N,hN⟩:∃ N,X.now+n=N:=⟨_,rfl⟩
 have hN64:i64 N:=by unfold i64;omega
 rw[hN] at hw2 ⊢
 obtain⟨DL,hDL⟩:∃ DL,zdq N X=DL:=⟨_,rfl⟩
 have HDg:Hid (∀ k,k<X.tiers.length→DL[k]? =some (zao (zae (zat N X.tiers X.floors k)) (X.tabs.getD k []))):=fun k hk=>by
  rw[← hDL];unfold zdq;rw[List.getElem?_map,List.getElem?_range hk];rfl
 have HDl:Hid (DL.length=X.tiers.length):=by show _=_;rw[← hDL];unfold zdq;simp
 rw[hDL];have Hi2:=q0_ (Hi.out.tick N);have Hwf:=q0_ hwf;have Hl:=q0_ hl;have Htl:=q0_ Hi.out.tlen;have htb:=Hi.out.tge;clear hDL hwf hl;go_enter func103,ntmps103;go_wp2_with fail;refine HN.out.mono ?_;rintro r w' ⟨rfl,rfl⟩;have c4:=Hi2.out.blk.cell 4;simp only[q1_,q2_,q3_] at c4;go_wp2_with fail
 obtain⟨W1,hW1⟩:∃ W1,W1=w.setCell ⟨t,0,none⟩ (.int .i64 N):=⟨_,rfl⟩
 have F1:Hid (Fr (tF t tb) w W1):=by show Fr _ _ _;rw[hW1];exact (Fr.refl (tF t tb) w).setCell (p:=⟨t,0,none⟩) (.inl (.inl rfl)) _
 rw[← hW1] at Hi2 ⊢;clear c0 z0 c4 hW1
 go_loopw [38] (fun i wr=>∃ k:Nat,k≤X.tiers.length∧i=.int .i64 k∧zaQ wr t base {X with now:=N,tabs:=DL.take k++X.tabs.drop k} A c B d T ct tb∧Fr (tF t tb) w wr) (fun i _=>X.tiers.length-(intOf i).toNat)
 case atStart=>exact⟨0,Nat.zero_le _,rfl,Hi2.out,F1.out⟩
 case round=>
  obtain⟨k,hk,rfl,hik,hf⟩:=hrel;have Hik:=q0_ hik;have Hf:=q0_ hf;clear hik hf
  by_cases hlt:k<X.tiers.length
  ·obtain⟨g,b,x,l,h1,h2,h3,hT⟩:=Hik.out.tabAt (k:=k) hlt
   obtain⟨ad,e,hc⟩:=(zal Hik.out.row).2.2.1.2 (show 0<X.tiers.length by omega);subst e;have p0:=hc k _ (zbY h1);have a0:=Hik.out.blk.cell 0;have a1:=Hik.out.blk.cell 1;have a2:=Hik.out.blk.cell 2;have a3:=Hik.out.blk.cell 3;simp only[q1_,q2_,q3_] at a0 a1 a2 a3;have h2':X.tiers[k]? =some x:=h2
   have h3':X.tabs[k]? =some l:=by
    have h3'':(DL.take k++X.tabs.drop k)[k]? =some l:=h3;rw[List.getElem?_append_right (by rw[List.length_take];omega),List.length_take,Nat.min_eq_left (by rw[HDl.out];omega),Nat.sub_self,List.getElem?_drop] at h3'';simpa using h3''
   have hll:=Hl.out l (zaa h3');have HF:=q0_ (zeY N hN64 X.name X.tiers A X.tiers.length c X.floors B X.floors.length d k wr (zal Hik.out.tiers).2.2.1 (zal Hik.out.floors).2.2.1 Hwf.out hlt (by omega))
   obtain⟨fv,hfv⟩:∃ fv,zat N X.tiers X.floors k=fv:=⟨_,rfl⟩
   have hget:=HDg.out k hlt;rw[hfv] at HF hget;rw[show X.tabs.getD k []=l by rw[List.getD_eq_getElem?_getD,h3'];rfl] at hget;have Hget:=q0_ hget;have H1:=q0_ h1;have H2:=q0_ h2';have H3:=q0_ h3';have HTk:=q0_ hT
   have kn:0≤(k:Int)∧(k:Int)<(X.tiers.length:Int):=by omega
   unfold zb_ at HF;clear hc hT h1 h2 h3 h2' h3' hfv hget;go_wp2_with fail;refine HF.out.mono ?_;rintro r w5 ⟨rfl,b5⟩;have F5:=q0_ (Fr.b0 b5);have Hi5:=q0_ (Hik.out.fr0 F5.out);have HD:=q0_ (zgl g x.every b l fv w5 (HTk.out.fr0 F5.out) (by omega));clear b5 a0 a1 a2 a3 p0;go_wp2_with fail;refine HD.out.mono ?_;rintro r w6 ⟨rfl,t6,f6⟩;have Hi6:=q0_ (Hi5.out.set (k:=k) H1.out H2.out t6 f6);have F6:=q0_ ((Hf.out.trans F5.out q4_).trans f6 (fun i hi=>.inl (.inr ⟨_,List.mem_of_getElem? H1.out,hi⟩)));clear t6 f6;go_wp2
   go_roundw
   case rel=>
    refine⟨k+1,by omega,by go_num,?_,F6.out⟩;have h:=Hi6.out;have e:=zf8 (D:=DL) (L:=X.tabs) (k:=k) (by rw[Htl.out];exact hlt) Hget.out (by rw[HDl.out];omega)
    replace h:zaQ w6 t base {X with now:=N,tabs:=(DL.take k++X.tabs.drop k).set k _} A c B d (some ad) ct tb:=h
    rw[e] at h;exact h
   case measure=>simp[intOf];omega
  ·have hkl:k=X.tiers.length:=by omega
   have h:=Hik.out;rw[hkl,List.take_of_length_le (by rw[HDl.out];exact Nat.le_refl _),List.drop_eq_nil_of_le (by rw[Htl.out];exact Nat.le_refl _),List.append_nil] at h;have Hfin:=q0_ h;clear h;go_wp2;go_ret;exact⟨rfl,⟨A,c,B,d,T,ct,tb,Hfin.out,rfl⟩,Hf.out⟩
theorem znv(t base:Nat)(X:zac)(i:Int)(w:World)(h:zbA w t base X)(h0:0<X.tiers.length):
  Calls prog 197 #[.pointer (some ⟨t,0,none⟩),.int .i64 i] w fun r w'=>r=.returned (.bool (decide (0≤i)&&decide (i<(X.tiers.length:Int))))∧w=w':=by
 have HN:=q0_ (zeS t base X w h h0);obtain⟨A,c,B,d,T,ct,tb,hi⟩:=h;have c4:=hi.blk.cell 4;simp only[q1_,q2_,q3_] at c4;clear hi
 by_cases hi0:0≤i
 ·have hd:decide (0≤i)=true:=qa_ hi0
  go_enter func197,ntmps197;go_wp2_with fail;refine HN.out.mono ?_;rintro r w' ⟨rfl,rfl⟩;go_wp2;go_ret;exact⟨by first | rfl | simp[hd],rfl⟩
 ·have hd:decide (0≤i)=false:=q9_ hi0
  go_enter func197,ntmps197;go_wp2_with fail;refine HN.out.mono ?_;rintro r w' ⟨rfl,rfl⟩;go_wp2;go_ret;exact⟨by first | rfl | simp[hd],rfl⟩
theorem zgg(t base:Nat)(X:zac)(k:Nat)(x:za_)(l:List zaf)(w:World)(h:zbA w t base X)(hx:X.tiers[k]? =some x)(hl:X.tabs[k]? =some l):
  Calls prog 159 #[.pointer (some ⟨t,0,none⟩),.int .i64 k] w fun r w'=>(∃ g' b',r=.returned (.pointer (some ⟨g',0,none⟩))∧zar w' g' x.every b' l∧w.heap.size≤g'∧w.heap.size≤b')∧Below w.heap.size w w':=by
 have hk:k<X.tiers.length:=(List.getElem?_eq_some_iff.1 hx).1;have H:=q0_ (znv t base X k w h (by omega))
 have hib:(decide (0≤(k:Int))&&decide ((k:Int)<(X.tiers.length:Int)))=true:=by simp;omega
 rw[hib] at H;obtain⟨A,c,B,d,T,ct,tb,hi⟩:=h;obtain⟨g,b,y,l',h1,h2,h3,hT⟩:=hi.tabAt hk;rw[hx] at h2
 cases h2
 rw[hl] at h3
 cases h3
 obtain⟨ad,e,hc⟩:=(zal hi.row).2.2.1.2 (show 0<X.tiers.length by omega);subst e;have p0:=hc k _ (zbY h1);have c4:=hi.blk.cell 4;simp only[q1_,q2_,q3_] at c4;have HC:=q0_ (zez g x.every b l w hT)
 have kn:0≤(k:Int)∧(k:Int)<(X.tiers.length:Int):=by omega
 clear hc hi hT h1;go_enter func159,ntmps159;go_wp2_with fail;refine H.out.mono ?_;rintro r w' ⟨rfl,rfl⟩;go_wp2_with fail;refine HC.out.mono ?_;rintro r w5 ⟨⟨g',b',rfl,hr⟩,b5⟩;have Hr:=q0_ hr;have B5:=q0_ b5;clear hr b5;go_wp2;go_ret;exact⟨⟨g',b',rfl,Hr.out⟩,B5.out⟩
theorem zky(t base:Nat)(X:zac)(k:Nat)(x:za_)(l:List zaf)(w:World)(h:zbA w t base X)(hx:X.tiers[k]? =some x)(hl:X.tabs[k]? =some l)(hll:l.length≤1000000000):
  Calls prog 202 #[.pointer (some ⟨t,0,none⟩),.int .i64 k] w fun r w'=>(∃ A c,r=.returned (.slice A l.length c)∧w'.ownsRow w.heap.size 198 7 (.slice A l.length c) l.length (zaA l))∧Below w.heap.size w w':=by
 have H:=q0_ (zgg t base X k x l w h hx hl);go_enter func202,ntmps202;go_wp2_with fail;refine H.out.mono ?_;rintro r w5 ⟨⟨g',b',rfl,hT,_,_⟩,b5⟩;have HA:=q0_ (zcd g' x.every b' l w5 hT hll);have B5:=q0_ b5;have hs:=b5.size;clear hT b5;go_wp2_with fail;refine HA.out.mono ?_;rintro r w6 ⟨⟨A,c,rfl,ho⟩,b6⟩;have Ho:=q0_ (zaY ho hs);have B6:=q0_ (B5.out.trans (b6.mono hs));clear ho b6;go_wp2;go_ret;exact⟨⟨A,c,rfl,Ho.out⟩,B6.out⟩
section
variable {P:Program} {w:World}
theorem za2{o:Oper}{a:Act}{next:Act→World→Prop}{Q:Exit→Act→World→Prop}(s x:Operand)(t:TypeId)
  (ho:o.op=.call {callee:=.builtin .append,args:=#[s,x],argTypes:=#[t,t]})
  (e:TypeId) (i:TypeInfo) (z:Value) (size bytes:Nat) (ht:P.underlying t=some (.slice e)) (hi:P.info? e=some i) (hz:i.zero=some z)
  (hsize:i.size=size) (hby:i.bytes=bytes) (hzs:z.cells.size=size) (hsz:0<size)
  (v:Value) (n:Nat) (xs:List Value) (hs:a.eval s=v) (base:Nat) (hbase:base≤w.heap.size) (hown:w.ownsRow base e size v n xs)
  (A:Option Addr) (m c:Nat) (news:List Value) (hx:a.eval x=.slice A m c) (hr:Rd w size A m news) (h1:∀ u∈news,u.oneCell'=true)
  (h63:n+m≤maxLen) (hbytes:(n+m)*bytes≤140737488355328)
  (h:∀ A' c' w',w'.ownsRow base e size (.slice A' (n+m) c') (n+m) (xs++news)→Mv (zay v) (zay (.slice A' (n+m) c')) w w'→(∀ A0 c0,v=.slice A0 n c0→Rd w' size A0 n xs)→next (a.put o.dst (.slice A' (n+m) c')) w'):Oper.wp P o a w next Q:=by
 obtain⟨v',w',hrun,h2,h3,h4⟩:=zlL (P:=P) t o.type e i z size bytes ht hi hz hsize hby hzs hsz v n xs base hbase hown A m c news hr h1 h63 hbytes;obtain⟨A',c',rfl,_⟩:=zbd h2;unfold Oper.wp execOp;simp only[ho,resolve,invoke,builtin,Sem.run_bind,Sem.run_pure,Result.andThen_ok,List.map_toArray,List.map_cons,List.map_nil,hs,hx,hrun];exact h A' c' w' h2 h3 h4
end
structure zcq(w:World)(t base:Nat)(X:zac)(A:Option Addr)(c:Nat)(B:Option Addr)(d:Nat)(T:Option Addr)(ct:Nat)(tb:List (Nat×Nat))(k:Nat):Prop where
 blk:Blk w t 87 #[.int .i64 X.now,.string X.name,.slice A X.tiers.length c,.slice B X.floors.length d,.slice T k ct]
 tiers:w.ownsRow base 99 4 (.slice A X.tiers.length c) X.tiers.length (zag X.tiers)
 floors:w.ownsRow base 3 1 (.slice B X.floors.length d) X.floors.length (zaU X.floors)
 row:w.ownsRow base 208 1 (.slice T k ct) k (zf7 tb)
 tab:∀ (i:Nat) (p:Nat×Nat) (x:za_) (l:List zaf),tb[i]? =some p→X.tiers[i]? =some x→X.tabs[i]? =some l→zar w p.1 x.every p.2 l
 lt:∀ p∈tb,p.1<w.heap.size∧p.2<w.heap.size
 nodup:(tb.map Prod.snd).Nodup
 ge:∀ p∈tb,base≤p.1∧base≤p.2
 tge:base≤t
theorem zcq.len{w:World}{t base k:Nat}{X:zac}{A B T:Option Addr}{c d ct:Nat}{tb:List (Nat×Nat)}(h:zcq w t base X A c B d T ct tb k):tb.length=k:=by
 have:=h.row.1;unfold zf7 at this;rw[List.length_map] at this;omega
theorem zcq.fr0{w w':World}{t base k:Nat}{X:zac}{A B T:Option Addr}{c d ct:Nat}{tb:List (Nat×Nat)}(h:zcq w t base X A c B d T ct tb k)(hf:Fr (fun _=>False) w w'):zcq w' t base X A c B d T ct tb k:=
 ⟨h.blk.fr hf (fun h=>h),zab h.tiers hf,zab h.floors hf,zab h.row hf,fun i p x l h1 h2 h3=>(h.tab i p x l h1 h2 h3).fr0 hf,fun p hp=>⟨Nat.lt_of_lt_of_le (h.lt p hp).1 hf.size,Nat.lt_of_lt_of_le (h.lt p hp).2 hf.size⟩,h.nodup,h.ge,h.tge⟩
theorem zcq.done{w:World}{t base:Nat}{X:zac}{A B T:Option Addr}{c d ct:Nat}{tb:List (Nat×Nat)}(h:zcq w t base X A c B d T ct tb X.tiers.length)(hl:X.tabs.length=X.tiers.length):zbA w t base X:=
 ⟨A,c,B,d,T,ct,tb,h.blk,h.tiers,h.floors,h.row,hl,h.tab,h.nodup,h.ge,h.tge⟩
theorem zdm{w:World}{base base' n n' size size':Nat}{e e':TypeId}{v v':Value}{xs xs':List Value}(h:w.ownsRow base e size v n xs)(h':w.ownsRow base' e' size' v' n' xs')(hne:e≠e'):∀ j,zay v j→¬ zay v' j:=fun j hj hj'=>by
 obtain⟨cs,fz,h1⟩:=zdF h hj;obtain⟨cs',fz',h2⟩:=zdF h' hj';rw[h1] at h2
 injection h2 with h2
 injection h2 with _ h2 _
 exact hne h2
theorem zcq.snoc{w w5 w6:World}{t base k g b:Nat}{X:zac}{A B T T':Option Addr}{c d ct ct':Nat}{tb:List (Nat×Nat)}{x:za_}{l:List zaf}(h:zcq w t base X A c B d T ct tb k)
  (hf:Fr (fun _=>False) w w5) (hbs:base≤w.heap.size) (hg:w.heap.size≤g) (hb:w.heap.size≤b) (hx:X.tiers[k]? =some x) (hl:X.tabs[k]? =some l) (ht:zar w5 g x.every b l) (o:Obj)
  (ho:w6.ownsRow base 208 1 (.slice T' (k+1) ct') (k+1) (zf7 tb++[.pointer (some ⟨g,0,none⟩)])) (hm:Mv (zay (.slice T k ct)) (zay (.slice T' (k+1) ct')) (w5.alloc o) w6):
  zcq (w6.setCell ⟨t,4,none⟩ (.slice T' (k+1) ct')) t base X A c B d T' ct' (tb++[(g,b)]) (k+1)∧Fr (fun j=>base≤j) w (w6.setCell ⟨t,4,none⟩ (.slice T' (k+1) ct')):=by
 have h5:=h.fr0 (hf.trans (Fr.none_alloc w5 o) q4_);have ht5:zar (w5.alloc o) g x.every b l:=ht.fr0 (Fr.none_alloc _ _);have hblk:∀ {g':Nat} {ty:TypeId} {cs:Array Value},Blk (w5.alloc o) g' ty cs→ty≠208→¬ zay (.slice T k ct) g':=fun {g' ty cs} hB hne hj=>zad h5.row hB (fun e=>hne e.symm) hj
 have hmap:∀ {b':Nat} {m:List zaf},zbE (w5.alloc o) b' m→¬ zay (.slice T k ct) b':=fun {b' m} hB hj=>by
  obtain⟨es,ck,hbm⟩:=hB.isMap;obtain⟨cs',fz,hc⟩:=zdF h5.row hj;rw[hbm] at hc
  cases hc
 have b6:Blk w6 t 87 #[.int .i64 X.now,.string X.name,.slice A X.tiers.length c,.slice B X.floors.length d,.slice T k ct]:=h5.blk.fr hm.fr (hblk h5.blk (by decide));have t6:w6.ownsRow base 99 4 (.slice A X.tiers.length c) X.tiers.length (zag X.tiers):=zah h5.tiers hm.fr (zdm h5.tiers h5.row (by decide));have f6:w6.ownsRow base 3 1 (.slice B X.floors.length d) X.floors.length (zaU X.floors):=zah h5.floors hm.fr (zdm h5.floors h5.row (by decide));have hs:Fr (fun j=>j=t) w6 (w6.setCell ⟨t,4,none⟩ (.slice T' (k+1) ct')):=(Fr.refl (fun j=>j=t) w6).setCell (p:=⟨t,4,none⟩) (.inl rfl) _;have hlen:=h.len;have hkl:k<X.tiers.length:=(List.getElem?_eq_some_iff.1 hx).1
 have tab6:∀ {g' b':Nat} {e:Int} {m:List zaf},zar (w5.alloc o) g' e b' m→zar (w6.setCell ⟨t,4,none⟩ (.slice T' (k+1) ct')) g' e b' m:=fun {g' b' e m} hT=>by
  have hT6:zar w6 g' e b' m:=hT.fr hm.fr (hblk hT.blk (by decide)) (hmap hT.own);refine hT6.fr hs (zds hT6.blk b6 (by decide)) (fun e'=>?_);obtain⟨es,ck,hbm⟩:=hT6.own.isMap;have hb0:w6.heap[t]? =some (Obj.cells _ _ (0,0)):=b6;rw[← e',hbm] at hb0
  cases hb0
 have hsz:w.heap.size≤(w6.setCell ⟨t,4,none⟩ (.slice T' (k+1) ct')).heap.size:=Nat.le_trans (Nat.le_trans (hf.trans (Fr.none_alloc w5 o) q4_).size hm.fr.size) hs.size;refine⟨⟨b6.set_ 4 _,zah t6 hs (fun j hj e=>zad t6 b6 (by decide) (by rw[← e];exact hj)),zah f6 hs (fun j hj e=>zad f6 b6 (by decide) (by rw[← e];exact hj)),?_,fun i p y m h1 h2 h3=>?_,fun p hp=>?_,?_,fun p hp=>?_,h.tge⟩,?_⟩
 ·have:zf7 (tb++[(g,b)])=zf7 tb++[.pointer (some ⟨g,0,none⟩)]:=by unfold zf7;rw[List.map_append];rfl
  rw[this];exact zah ho hs (fun j hj e=>zad ho b6 (by decide) (by rw[← e];exact hj))
 ·by_cases hi:i<tb.length
  ·rw[List.getElem?_append_left hi] at h1
   exact tab6 (h5.tab i p y m h1 h2 h3)
  ·rw[List.getElem?_append_right (by omega)] at h1
   have hik:i=k:=by
    have:=(List.getElem?_eq_some_iff.1 h1).1;simp at this;omega
   subst hik;rw[hlen,Nat.sub_self] at h1
   cases h1
   rw[hx] at h2
   cases h2
   rw[hl] at h3
   cases h3
   exact tab6 ht5
 ·rcases List.mem_append.1 hp with hp | hp
  ·exact⟨Nat.lt_of_lt_of_le (h.lt p hp).1 hsz,Nat.lt_of_lt_of_le (h.lt p hp).2 hsz⟩
  ·rw[List.mem_singleton] at hp
   subst hp;exact⟨(tab6 ht5).blk.lt,(tab6 ht5).own.lt⟩
 ·rw[List.map_append,List.nodup_append]
  refine⟨h.nodup,by simp,fun a ha b' hb'=>?_⟩;obtain⟨p,hp,rfl⟩:=List.mem_map.1 ha;simp at hb';subst hb';have:=(h.lt p hp).2;omega
 ·rcases List.mem_append.1 hp with hp | hp
  ·exact h.ge p hp
  ·rw[List.mem_singleton] at hp
   subst hp;exact⟨by omega,by omega⟩
 ·have q1:Fr (fun j=>base≤j) w (w5.alloc o):=(hf.trans (Fr.none_alloc w5 o) q4_).mono q4_
  have q2:Fr (fun j=>base≤j) w w6:=q1.trans hm.fr (fun j hj=>.inl (h5.row.lt j hj).1);exact q2.trans hs (fun j hj=>.inl (by rw[hj];exact h.tge))
end Go.Proofs.YteajonicnkpbbaaGreatDoor
