/- Walks of package word: Len, Peek, Next, Line. -/
import Derived.Test.YtjhhodndlkpmhaaGreatDoorWordL
namespace Go.Proofs.YtjhhodndlkpmhaaGreatDoor
set_option linter.all false
set_option maxHeartbeats 8000000
set_option maxRecDepth 100000
open Go.RowKit Tryz
section
variable {w w':World} {b lo k:Nat} {R:List zao}
theorem zca.fr0{A:Option Addr}{c:Nat}(h:zca w b lo k R A c)(f:Fr (fun _=>False) w w'):zca w' b lo k R A c:=by
 obtain⟨hb,ho,h1,h2⟩:=h;exact⟨hb.fr f (fun h=>h),zac ho f,h1,h2⟩
theorem zca.frF{F:Nat→Prop}{A:Option Addr}{c:Nat}(h:zca w b lo k R A c)(f:Fr F w w')(h1:¬ F b)(h2:∀ j,zaE (.slice A R.length c) j→¬ F j):zca w' b lo k R A c:=by
 obtain⟨hb,ho,h3,h4⟩:=h;exact⟨hb.fr f h1,zaf ho f h2,h3,h4⟩
theorem zbO.fr0(h:zbO w b lo k R)(f:Fr (fun _=>False) w w'):zbO w' b lo k R:=by
 obtain⟨A,c,hI⟩:=h;exact⟨A,c,hI.fr0 f⟩
theorem zbO.lt(h:zbO w b lo k R):b<w.heap.size:=by
 obtain⟨A,c,hb,_⟩:=h;exact hb.lt
end
def zcr(R:List zao)(k:Nat):zao×Bool:=
 match R[k]? with
 | some x=>(x,true)
 | none=>(⟨ByteArray.empty,0,0⟩,false)
theorem zla(b lo k:Nat)(R:List zao)(w:World)(h:zbO w b lo k R):
  Calls prog 121 #[.pointer (some ⟨b,0,none⟩)] w fun r w'=>r=.returned (.int .i64 ((R.length:Int)-(k:Int)))∧Below w.heap.size w w':=by
 obtain⟨A,c,hb,ho,h1,h2⟩:=h;obtain⟨_,_,e,hc1,hc2,_⟩:=za5 ho
 cases e
 have c0:=hb.cell 0;have c1:=hb.cell 1;simp only[q1_,q2_,q3_] at c0 c1
 obtain⟨n,hn⟩:∃ n,R.length=n:=⟨_,rfl⟩
 rw[hn] at c1 h2 hc1 ⊢;have hw:IntKind.i64.wrap ((n:Int)-(k:Int))=(n:Int)-(k:Int):=IntWalk.i64_in _ (by unfold maxLen at hc2;omega);clear hb ho hn;go_enter func121,ntmps121;go_wp2_with fail
 go_quiet (fail)
 go_wp2;go_ret;exact⟨by first | rfl | simp[hw],(Fr.none_drewN w nq).below q4_⟩
theorem zeI(b lo k:Nat)(R:List zao)(w:World)(h:zbO w b lo k R):
  Calls prog 122 #[.pointer (some ⟨b,0,none⟩)] w fun r w'=>r=.returned (.tuple #[(zcr R k).1.val,.bool (zcr R k).2])∧Below w.heap.size w w':=by
 have HL:Hid (∀ W,Fr (fun _=>False) w W→Calls prog 121 #[.pointer (some ⟨b,0,none⟩)] W fun r w'=>r=.returned (.int .i64 ((R.length:Int)-(k:Int)))∧Below W.heap.size W w'):=fun W f=>zla b lo k R W (h.fr0 f);have F0:Hid (Fr (fun _=>False) w (w.alloc (.cells #[.string ByteArray.empty,.int .i64 0,.int .i64 0] 194))):=Fr.none_alloc _ _;have B0:Hid (Blk (w.alloc (.cells #[.string ByteArray.empty,.int .i64 0,.int .i64 0] 194)) w.heap.size 194 #[.string ByteArray.empty,.int .i64 0,.int .i64 0]):=Blk.new _ _ _
 have hk:k≤R.length:=by obtain⟨_,_,_,_,_,h2⟩:=h;exact h2
 have hbw:=h.lt
 by_cases hlt:k<R.length
 ·obtain⟨x,hx⟩:∃ x,R[k]? =some x:=⟨_,q6_ hlt⟩
  have hp:zcr R k=(x,true):=by unfold zcr;rw[hx]
  rw[hp]
  have hne:((R.length:Int)-(k:Int)==0)=false:=by simp;omega
  have hne2:¬ (R.length:Int)-(k:Int)=0:=by omega
  obtain⟨v,hv⟩:∃ v,(R.length:Int)-(k:Int)=v:=⟨_,rfl⟩
  rw[hv] at HL hne hne2;obtain⟨A,c,hb,ho,h1,h2⟩:=h;obtain⟨ad,x',e,hx',q0,q1,q2⟩:=(Rd.of_own ho).word_ hlt
  cases e
  rw[hx] at hx'
  cases hx'
  obtain⟨gr,e2⟩:=zcN ho (by omega)
  cases e2
  have d0:=hb.cell 0;have d1:=hb.cell 1;simp only[q1_,q2_,q3_] at d0 d1;rw[zdZ,Nat.zero_add] at q0 q1 q2
  obtain⟨n,hn⟩:∃ n,R.length=n:=⟨_,rfl⟩
  rw[hn] at d1 hlt
  have kn:0≤(k:Int)∧(k:Int)<(n:Int):=by omega
  have HC:Hid (∀ W,Fr (fun j=>j=w.heap.size) w W→W.cell? ⟨b,0,none⟩=some (.int .i64 k)∧W.cell? ⟨b,1,none⟩=some (.slice (some ⟨gr,0,none⟩) n c)∧W.cell? ⟨gr,k*3,none⟩=some (.string x.text)∧W.cell? ⟨gr,k*3+1,none⟩=some (.int .i64 x.line)∧W.cell? ⟨gr,k*3+2,none⟩=some (.int .i64 x.col)):=fun W f=>by
   have hg:∀ {p:Addr} {u:Value},w.cell? p=some u→W.cell? p=some u:=fun {p u} h=>f.cell h (fun e=>by have:=World.block_lt_of_cell? _ _ h;omega);exact⟨hg d0,hg d1,hg q0,hg q1,hg q2⟩
  clear hb ho hp hx d0 d1 q0 q1 q2 hv hn;unfold zao.val;go_enter func122,ntmps122;go_wp2_with fail;refine (HL.out _ F0.out).mono ?_;rintro r w1 ⟨rfl,b1⟩;have B1:=q0_ (B0.out.below b1);have F1:=q0_ (F0.out.trans (Fr.b0 b1) q4_);clear b1;go_wp2_with fail;have e0:=B1.out.cell 0;have e1:=B1.out.cell 1;have e2:=B1.out.cell 2;have z0:=B1.out.frozen 0;have z1:=B1.out.frozen 1;have z2:=B1.out.frozen 2;simp only[q1_,q2_,q3_] at e0 e1 e2;refine wp_region_held_drew (S:=fun W=>Fr (fun j=>j=w.heap.size) w1 W) (by kernel_rfl) ((Fr.refl _ w1).drew) (fun hY_=>?_);refine tq 11 [0,1,2,3,4,5,6,7,8,9,10] ?_
  iterate 10 refine sf (fun W hSw=>HC.out W ((F1.out.mono q4_).trans hSw (fun _ h=>.inl h))) ?_
  refine sf (fun W hSw=>HC.out W ((F1.out.mono q4_).trans hSw (fun _ h=>.inl h))) ?_
  try simp only[Act.put,sA,sB,sC]
  refine sz ?_
  try simp only[Act.put,sA,sB,sC]
  refine rl 11 rfl (fun K hK=>?_);go_simp;refine hK.out _ _ (hY_.set3 (.inl rfl) _ _ _) (fun hY_=>?_);clear hK K;refine tl 12 ?v12 rfl ?q12 ?r12
  case q12=>intro W hSw;(try obtain⟨q0,q1,q2,q3,q4⟩:=HC.out W ((F1.out.mono q4_).trans hSw (fun _ h=>.inl h)));go_simp;try rfl
  try simp only[Act.put,sA,sB,sC]
  refine wpAnyH_done (by kernel_rfl) ?_ _;go_wp2;refine bodyPost_ret (v:=.tuple #[.agg #[.string x.text,.int .i64 x.line,.int .i64 x.col],.bool true]) ?_ rfl ⟨rfl,?_⟩
  ·simp[results,results122,go_sem, *]
  ·exact (F1.out.below q4_).trans (hY_.below_of F1.out.size (fun j hj=>by omega))
 ·have hp:zcr R k=(⟨ByteArray.empty,0,0⟩,false):=by unfold zcr;rw[List.getElem?_eq_none (by omega)]
  rw[hp]
  have hne:((R.length:Int)-(k:Int)==0)=true:=by simp;omega
  have hne2:(R.length:Int)-(k:Int)=0:=by omega
  obtain⟨v,hv⟩:∃ v,(R.length:Int)-(k:Int)=v:=⟨_,rfl⟩
  rw[hv] at HL hne hne2;clear hp hv h;unfold zao.val;go_enter func122,ntmps122;go_wp2_with fail;refine (HL.out _ F0.out).mono ?_;rintro r w1 ⟨rfl,b1⟩;have B1:=B0.out.below b1;have F1:=q0_ (F0.out.trans (Fr.b0 b1) q4_);have e0:=B1.cell 0;have e1:=B1.cell 1;have e2:=B1.cell 2;have z0:=B1.frozen 0;have z1:=B1.frozen 1;have z2:=B1.frozen 2;simp only[q1_,q2_,q3_] at e0 e1 e2;clear b1 B1;go_wp2;refine bodyPost_ret (v:=.tuple #[.agg #[.string ByteArray.empty,.int .i64 0,.int .i64 0],.bool false]) ?_ rfl ⟨rfl,?_⟩
  ·simp[results,results122,go_sem, *]
   rfl
  ·exact (F1.out.below q4_).trans (((Fr.refl (fun j=>j=w.heap.size) w1).set3 (.inl rfl) _ _ _).below_of F1.out.size (fun j hj=>by omega))
theorem zqe(b lo k:Nat)(R:List zao)(A:Option Addr)(c:Nat)(x:zao)(w:World)(hI:zca w b lo k R A c)(hx:R[k]? =some x):
  Calls prog 190 #[.pointer (some ⟨b,0,none⟩)] w fun r w'=>r=.returned (.tuple #[x.val,.bool true])∧zca w' b lo (k+1) R A c∧Fr (fun j=>j=b) w w':=by
 have h:zbO w b lo k R:=⟨A,c,hI⟩
 have HP:Hid (∀ W,Fr (fun _=>False) w W→Calls prog 122 #[.pointer (some ⟨b,0,none⟩)] W fun r w'=>r=.returned (.tuple #[x.val,.bool true])∧Below W.heap.size W w'):=fun W f=>by
  have:=zeI b lo k R W (h.fr0 f);rwa[show zcr R k=(x,true) by unfold zcr;rw[hx]] at this
 have hlt:k<R.length:=(List.getElem?_eq_some_iff.1 hx).1;have F0:Hid (Fr (fun _=>False) w (w.alloc (.cells #[.string ByteArray.empty,.int .i64 0,.int .i64 0] 194))):=Fr.none_alloc _ _;have B0:Hid (Blk (w.alloc (.cells #[.string ByteArray.empty,.int .i64 0,.int .i64 0] 194)) w.heap.size 194 #[.string ByteArray.empty,.int .i64 0,.int .i64 0]):=Blk.new _ _ _;have hbw:=h.lt;have Hw:=q0_ hI
 have hkw:IntKind.i64.wrap ((k:Int)+1)=(k:Int)+1:=by
  obtain⟨_,ho,_⟩:=hI;obtain⟨_,_,e,hc1,hc2,_⟩:=za5 ho
  cases e
  exact IntWalk.i64_in _ (by unfold maxLen at hc2;omega)
 clear h hI hx;unfold zao.val at HP ⊢;go_enter func190,ntmps190;go_wp2_with fail;refine (HP.out _ F0.out).mono ?_;rintro r w1 ⟨rfl,b1⟩;have B1:=q0_ (B0.out.below b1);have F1:=q0_ (F0.out.trans (Fr.b0 b1) q4_);clear b1
 go_upto_region 3 with fail
 obtain⟨W2,hW2⟩:∃ W2,W2=w1.alloc (.cells #[.string x.text,.int .i64 x.line,.int .i64 x.col] 194):=⟨_,rfl⟩
 rw[← hW2]
 have B2:Hid (Blk W2 w.heap.size 194 #[.string ByteArray.empty,.int .i64 0,.int .i64 0]):=by show Blk _ _ _ _;rw[hW2];exact B1.out.alloc _
 have B3:Hid (Blk W2 w1.heap.size 194 #[.string x.text,.int .i64 x.line,.int .i64 x.col]):=by show Blk _ _ _ _;rw[hW2];exact Blk.new _ _ _
 have F2:Hid (Fr (fun _=>False) w W2):=by show Fr _ _ _;rw[hW2];exact F1.out.trans (Fr.none_alloc _ _) q4_
 have hw1:w.heap.size<w1.heap.size:=B1.out.lt;clear hW2;obtain⟨hb0,ho0,h1,h2⟩:=Hw.out;have hrl:=zji ho0;have hb:=hb0.fr F2.out (fun h=>h);have ho:=zac ho0 F2.out;have Hrl:=q0_ hrl;clear hb0 ho0 hrl;have d0:=hb.cell 0;have z0:=hb.frozen 0;simp only[q1_,q2_,q3_] at d0;have Hb:=q0_ hb;have Ho:=q0_ ho;clear hb ho;have hst:Hid (Fr (fun j=>j=b) W2 (W2.setCell ⟨b,0,none⟩ (.int .i64 ((k:Int)+1)))):=(Fr.refl (fun j=>j=b) W2).setCell (p:=⟨b,0,none⟩) (.inl rfl) _;have S2:=q0_ (B2.out.fr hst.out (by omega));have S3:=q0_ (B3.out.fr hst.out (by omega));have e0:=S2.out.cell 0;have e1:=S2.out.cell 1;have e2:=S2.out.cell 2;have y0:=S2.out.frozen 0;have y1:=S2.out.frozen 1;have y2:=S2.out.frozen 2;have f0:=S3.out.cell 0;have f1:=S3.out.cell 1;have f2:=S3.out.cell 2;simp only[q1_,q2_,q3_] at e0 e1 e2 f0 f1 f2;go_wp2;refine bodyPost_ret (v:=.tuple #[.agg #[.string x.text,.int .i64 x.line,.int .i64 x.col],.bool true]) ?_ rfl ⟨rfl,?_,?_⟩
 ·simp[results,results190,go_sem, *]
 ·exact⟨(Hb.out.set_ 0 _).fr ((Fr.refl (fun j=>j=w.heap.size) _).set3 (.inl rfl) _ _ _) (by omega),zaf (zaf Ho.out hst.out (fun j hj e=>zad Ho.out Hb.out (by decide) (by rw[← e];exact hj))) ((Fr.refl (fun j=>j=w.heap.size) _).set3 (.inl rfl) _ _ _) (fun j hj e=>by have:=Hrl.out j hj;omega),h1,by omega⟩
 ·exact (F2.out.mono q4_).trans ((hst.out.mono (G:=fun j=>j=b∨j=w.heap.size) (fun j hj=>.inl (.inl hj))).trans ((Fr.refl (fun j=>j=w.heap.size) _).set3 (.inl rfl) _ _ _) (fun j hj=>.inl (.inr hj))) (fun j hj=>by omega)
theorem zhK{H:List zao}{j:Nat}(hall:∀ i y x0,i<j→H[i]? =some y→H[0]? =some x0→y.line=x0.line)
  (hstop:H[j]? =none∨(0<j∧∃ y x0,H[j]? =some y∧H[0]? =some x0∧y.line≠x0.line)):zbl H=H.take j:=by
 cases H with
 | nil=>simp[zbl]
 | cons x t=>
  cases j with
  | zero=>
   rcases hstop with h | ⟨h,_⟩
   ·simp at h
   ·omega
  | succ j=>
   show x::t.takeWhile (fun y=>y.line==x.line)=x::t.take j
   congr 1
   rcases hstop with h | ⟨_,y,x0,h1,h2,h3⟩
   ·have hl:t.length≤j:=by simpa using h
    rw[List.take_of_length_le hl];refine ziO (fun y hy=>?_);obtain⟨i,hi⟩:=List.getElem?_of_mem hy;have hil:=(List.getElem?_eq_some_iff.1 hi).1;have:=hall (i+1) y x (by omega) (by simpa using hi) rfl;simpa using this
   ·simp at h2
    subst h2;refine zib (by simpa using h1) (by simpa using h3) (fun i z hi hz=>?_);have:=hall (i+1) z x (by omega) (by simpa using hz) rfl;simpa using this
def zpx(w:World)(b lo k:Nat)(R:List zao)(r:Ending)(w':World):Prop:=
 ∃ A c,r=.returned (.slice A (zbl (R.drop k)).length c)∧(zbl (R.drop k)).length≤c∧Rd w' 3 A (zbl (R.drop k)).length (zaM (zbl (R.drop k)))∧(∀ j,adF A (zbl (R.drop k)).length j→w.heap.size≤j)∧zbO w' b lo (k+(zbl (R.drop k)).length) R
def zrc:Value→Nat
 | .slice _ n _=>n
 | _=>0
theorem zfo{R:List zao}{k:Nat}{x:zao}(h:R[k]? =some x):zcr R k=(x,true):=by unfold zcr;rw[h]
theorem zmB{R:List zao}{k:Nat}(h:R.length≤k):zcr R k=(⟨ByteArray.empty,0,0⟩,false):=by unfold zcr;rw[List.getElem?_eq_none h]
theorem zjr(b lo k:Nat)(R:List zao)(w:World)(h:zbO w b lo k R)(hR:R.length≤16012001):
  Calls prog 158 #[.pointer (some ⟨b,0,none⟩)] w fun r w'=>zpx w b lo k R r w'∧Fr (fun j=>j=b) w w':=by
 obtain⟨i0,hi,hz0,hz1,hz2⟩:=info_parts zgQ;have HP:=q0_ (fun (k:Nat) W (h:zbO W b lo k R)=>zeI b lo k R W h);obtain⟨A0,c0,hI⟩:=h;have HN:=q0_ (fun (k:Nat) (x:zao) W (h:zca W b lo k R A0 c0) (hx:R[k]? =some x)=>zqe b lo k R A0 c0 x W h hx);have Hw:=q0_ hI;have hbw:=hI.1.lt;have HA0:=q0_ (zji hI.2.1);have hk:k≤R.length:=hI.2.2.2;clear hI;unfold zao.val at HP HN;go_enter func158,ntmps158;go_wp2_with fail;refine (HP.out k w ⟨A0,c0,Hw.out⟩).mono ?_;rintro r w1 ⟨rfl,b1⟩;have W1:=q0_ (Hw.out.fr0 (Fr.b0 b1));have F1:=q0_ (Fr.b0 b1);clear b1;have hw1:w.heap.size≤w1.heap.size:=F1.out.size
 obtain⟨H,hH⟩:∃ H,R.drop k=H:=⟨_,rfl⟩
 have hHl:H.length=R.length-k:=by rw[← hH,List.length_drop]
 have hHg:∀ j,H[j]? =R[k+j]? :=fun j=>by rw[← hH,List.getElem?_drop]
 have HG:=q0_ hHg;have HHl:=q0_ hHl;have HH:=q0_ hH
 have hHR:H.length≤R.length:=by omega
 clear hHg hHl hH
 go_upto_region 3 with fail
 go_loopw [3,4,5] (fun o x p wr=>∃ (j xb c:Nat) (A:Option Addr),j≤H.length∧o=.slice A j c∧x=.pointer (some ⟨xb,0,none⟩)∧p=.bool (zcr R (k+j)).2∧Blk wr xb 194 #[.string (zcr R (k+j)).1.text,.int .i64 (zcr R (k+j)).1.line,.int .i64 (zcr R (k+j)).1.col]∧wr.ownsRow w.heap.size 194 3 (.slice A j c) j (zaM (H.take j))∧zca wr b lo (k+j) R A0 c0∧Fr (fun i=>i=b) w wr∧w.heap.size≤xb∧¬ zaE (.slice A j c) xb∧Hid (∀ i y x0,i<j→H[i]? =some y→H[0]? =some x0→y.line=x0.line)) (fun o _ _ _=>H.length-zrc o)
 case atStart=>
  refine⟨0,w1.heap.size,0,none,Nat.zero_le _,rfl,rfl,rfl,Blk.new _ _ _,World.ownsRow_nil _ _ _ _,W1.out.fr0 (Fr.none_alloc _ _),(F1.out.trans (Fr.none_alloc _ _) q4_).mono q4_,hw1,(fun h=>by cases h),fun i _ _ h=>absurd h (Nat.not_lt_zero _)⟩
 case round=>
  obtain⟨j,xb,c,A,hj,rfl,rfl,rfl,hxb,hrow,hws,hfr,hxw,hxr,hall⟩:=hrel;have Hxb:=q0_ hxb;have Hrow:=q0_ hrow;have Hws:=q0_ hws;have Hfr:=q0_ hfr;have Hxr:=q0_ hxr;clear hxb hrow hws hfr hxr
  by_cases hlt:j<H.length
  ·obtain⟨y,hy⟩:∃ y,H[j]? =some y:=⟨_,q6_ hlt⟩
   have hyR:R[k+j]? =some y:=by rw[← HG.out];exact hy
   rw[zfo hyR] at Hxb ⊢
   by_cases h0:j=0
   ·subst h0
    go_wp2_with fail;refine wp_region_held_drew (S:=fun W=>Fr (fun _=>False) wr W) (by kernel_rfl) ((Fr.refl _ wr).drew) (fun hY_=>?_);refine tq 15 [0,1,2,3,4,5,6,7,8,9,10,11,12,13,14] ?_;refine sk ?_
    iterate 5 (refine sk ?_;try simp only[Act.put,sA,sB,sC])
    iterate 7 (refine su ?_;try simp only[Act.put,sA,sB,sC])
    refine sk ?_;refine sk ?_
    try simp only[Act.put,sA,sB,sC]
    refine sz ?_
    try simp only[Act.put,sA,sB,sC]
    refine wpAnyH_done (by kernel_rfl) ?_ _;have hwr:w.heap.size≤wr.heap.size:=Hfr.out.size;have B0:=Hxb.out;have c0':=B0.cell 0;have c1':=B0.cell 1;have c2':=B0.cell 2;simp only[q1_,q2_,q3_] at c0' c1' c2';have FD:Hid (Fr (fun _=>False) wr wr.drew):=(Fr.refl _ wr).drew;have HO:=q0_ (zac Hrow.out FD.out);clear B0
    go_wp2_with (at_builtin;go_loud (refine zbs rfl _ _ 221 rfl 194 i0 _ 3 32 underlying221 hi hz0 hz1 hz2 rfl (by decide) (.slice A 0 c) 0 _ rfl w.heap.size (by simp;omega) (zac HO.out (Fr.none_alloc _ _)) (some ⟨wr.heap.size,0,none⟩) 1 1 [.string y.text,.int .i64 y.line,.int .i64 y.col] rfl (Rd.newS rfl _ _ _ _ rfl) (by simp[Value.oneCell']) ?q1 ?q2 ?_))
    case q1=>unfold maxLen;omega
    case q2=>omega
    intro A6 c6 w6 ho6 hm6 _;have Ho6:=q0_ ho6;have Hm6:=q0_ hm6;have Hr0:=q0_ Hrow.out.lt;have FA:Hid (Fr (fun _=>False) wr (wr.drew.alloc (.cells #[.string y.text,.int .i64 y.line,.int .i64 y.col] 194))):=FD.out.trans (Fr.none_alloc _ _) q4_;have W6:Hid (zca w6 b lo (k+0) R A0 c0):=(Hws.out.fr0 FA.out).frF hm6.fr (fun h=>by have:=(Hr0.out b h).1;omega) (fun i hi h=>by have:=HA0.out i hi;have:=(Hr0.out i h).1;omega);have X6:=q0_ ((Hxb.out.fr FA.out (fun h=>h)).fr hm6.fr Hxr.out)
    have hxbb:xb≠b:=by omega
    clear ho6 hm6;go_wp2_with fail;refine (HN.out (k+0) y w6 W6.out hyR).mono ?_;rintro r w7 ⟨rfl,hw7,hf7⟩;have W7:=q0_ hw7;have F7:=q0_ hf7;have X7:=X6.out.fr hf7 hxbb;have x0:=X7.cell 0;have x1:=X7.cell 1;have x2:=X7.cell 2;simp only[q1_,q2_,q3_] at x0 x1 x2;have h67:w6.heap.size≤w7.heap.size:=hf7.size;have h76:w.heap.size≤w6.heap.size:=Nat.le_trans hwr (Nat.le_trans FA.out.size Hm6.out.size);have Y7:Hid (Blk (w7.alloc (.cells #[.string y.text,.int .i64 y.line,.int .i64 y.col] 194)) w7.heap.size 194 #[.string y.text,.int .i64 y.line,.int .i64 y.col]):=Blk.new _ _ _;clear hw7 hf7 X7;go_wp2_with fail;refine (HP.out (k+(0+1)) _ ⟨A0,c0,W7.out.fr0 (Fr.none_alloc _ _)⟩).mono ?_;rintro r w9 ⟨rfl,b9⟩;have F9:=q0_ ((Fr.none_alloc w7 (.cells #[.string y.text,.int .i64 y.line,.int .i64 y.col] 194)).trans (Fr.b0 b9) q4_);have Y9:=q0_ (Y7.out.below b9);have y0:=Y9.out.cell 0;have y1:=Y9.out.cell 1;have y2:=Y9.out.cell 2;have z0:=Y9.out.frozen 0;have z1:=Y9.out.frozen 1;have z2:=Y9.out.frozen 2;simp only[q1_,q2_,q3_] at y0 y1 y2;clear b9 x0 x1 x2;go_wp2
    go_roundw
    case rel=>
     have fst:∀ u0 u1 u2,Fr (fun i=>i=w7.heap.size) w9 (((w9.setCell ⟨w7.heap.size,0,none⟩ u0).setCell ⟨w7.heap.size,1,none⟩ u1).setCell ⟨w7.heap.size,2,none⟩ u2):=fun u0 u1 u2=>(Fr.refl (fun i=>i=w7.heap.size) w9).set3 (.inl rfl) _ _ _
     have hb7:b≠w7.heap.size:=by omega
     have ho9:∀ i,zaE (.slice A6 (0+1) c6) i→i<w6.heap.size:=zji Ho6.out;refine⟨0+1,w7.heap.size,c6,A6,by omega,rfl,rfl,rfl,Y9.out.set3,?_,?_,?_,by omega,fun h=>by have:=ho9 _ h;omega,?_⟩
     ·have e:zaM (H.take (0+1))=zaM (H.take 0)++[.string y.text,.int .i64 y.line,.int .i64 y.col]:=by rw[zan hy,zbz];rfl
      rw[e];exact zaf (zac (zaf Ho6.out F7.out (fun i hi e=>zad Ho6.out W6.out.1 (by decide) (by rw[← e];exact hi))) F9.out) (fst _ _ _) (fun i hi e=>by have:=ho9 i hi;omega)
     ·have:=(W7.out.fr0 F9.out).frF (fst (.string (zcr R (k+(0+1))).1.text) (.int .i64 (zcr R (k+(0+1))).1.line) (.int .i64 (zcr R (k+(0+1))).1.col)) hb7 (fun i hi e=>by have:=HA0.out i hi;omega)
      exact this
     ·exact (((Hfr.out.trans FA.out q4_).trans Hm6.out.fr (fun i hi=>.inr (Hr0.out i hi).1)).trans F7.out (fun i hi=>.inl hi)).trans ((F9.out.mono (G:=fun i=>i=w7.heap.size) q4_).trans (fst _ _ _) (fun i hi=>.inl hi)) (fun i hi=>.inr (by omega))
     ·intro i u v hi hu hv
      obtain rfl:i=0:=by omega
      rw[hu] at hv
      cases hv
      rfl
    case measure=>simp[zrc];omega
   ·obtain⟨x0,hx0⟩:∃ x0,H[0]? =some x0:=⟨_,q6_ (by omega)⟩
    have hj0:((j:Int)==0)=false:=by simp;omega
    have hj1:¬ (j:Int)=0:=by omega
    obtain⟨ad,z,e,hz,q0,q1,q2⟩:=(Rd.of_own Hrow.out).word_ (k:=0) (by omega)
    cases e
    have hzx:z=x0:=by
     rw[List.getElem?_take,if_pos (by omega),hx0] at hz
     cases hz
     rfl
    subst hzx;have c1:=Hxb.out.cell 1;simp only[q1_,q2_,q3_] at c1;rw[Nat.zero_mul,zaZ] at q0 q1 q2
    have HC:Hid (∀ W,Fr (fun _=>False) wr W→W.cell? ⟨xb,1,none⟩=some (.int .i64 y.line)∧W.cell? ⟨ad.block,ad.off+1,none⟩=some (.int .i64 z.line)):=fun W f=>⟨f.cell c1 (fun h=>h),f.cell q1 (fun h=>h)⟩
    have jn:(0:Int)<(j:Int):=by omega
    have jp:0<j:=by omega
    clear q0 q1 q2 c1 hz
    by_cases hline:z.line=y.line
    ·rw[hline] at HC
     have Hline:=q0_ hline;clear hline;go_wp2_with fail;refine wp_region_held_drew (S:=fun W=>Fr (fun _=>False) wr W) (by kernel_rfl) ((Fr.refl _ wr).drew) (fun hY_=>?_);refine tq 15 [0,1,2,3,4,5,6,7,8,9,10,11,12,13,14] ?_;refine sk ?_
     iterate 12 (refine sf HC.out ?_;try simp only[Act.put,sA,sB,sC])
     refine sk ?_;refine sk ?_
     try simp only[Act.put,sA,sB,sC]
     refine sz ?_
     try simp only[Act.put,sA,sB,sC]
     refine wpAnyH_done (by kernel_rfl) ?_ _;have hwr:w.heap.size≤wr.heap.size:=Hfr.out.size;have B0:=Hxb.out;have c0':=B0.cell 0;have c1':=B0.cell 1;have c2':=B0.cell 2;simp only[q1_,q2_,q3_] at c0' c1' c2';have FD:Hid (Fr (fun _=>False) wr wr.drew):=(Fr.refl _ wr).drew;have HO:=q0_ (zac Hrow.out FD.out);clear B0
     go_wp2_with (at_builtin;go_loud (refine zbs rfl _ _ 221 rfl 194 i0 _ 3 32 underlying221 hi hz0 hz1 hz2 rfl (by decide) (.slice (some ad) j c) j _ rfl w.heap.size (by simp;omega) (zac HO.out (Fr.none_alloc _ _)) (some ⟨wr.heap.size,0,none⟩) 1 1 [.string y.text,.int .i64 y.line,.int .i64 y.col] rfl (Rd.newS rfl _ _ _ _ rfl) (by simp[Value.oneCell']) ?q1 ?q2 ?_))
     case q1=>unfold maxLen;omega
     case q2=>omega
     intro A6 c6 w6 ho6 hm6 _;have Ho6:=q0_ ho6;have Hm6:=q0_ hm6;have Hr0:=q0_ Hrow.out.lt;have FA:Hid (Fr (fun _=>False) wr (wr.drew.alloc (.cells #[.string y.text,.int .i64 y.line,.int .i64 y.col] 194))):=FD.out.trans (Fr.none_alloc _ _) q4_;have W6:Hid (zca w6 b lo (k+j) R A0 c0):=(Hws.out.fr0 FA.out).frF hm6.fr (fun h=>by have:=(Hr0.out b h).1;omega) (fun i hi h=>by have:=HA0.out i hi;have:=(Hr0.out i h).1;omega);have X6:=q0_ ((Hxb.out.fr FA.out (fun h=>h)).fr hm6.fr Hxr.out)
     have hxbb:xb≠b:=by omega
     clear ho6 hm6;go_wp2_with fail;refine (HN.out (k+j) y w6 W6.out hyR).mono ?_;rintro r w7 ⟨rfl,hw7,hf7⟩;have W7:=q0_ hw7;have F7:=q0_ hf7;have X7:=X6.out.fr hf7 hxbb;have x0:=X7.cell 0;have x1:=X7.cell 1;have x2:=X7.cell 2;simp only[q1_,q2_,q3_] at x0 x1 x2;have h67:w6.heap.size≤w7.heap.size:=hf7.size;have h76:w.heap.size≤w6.heap.size:=Nat.le_trans hwr (Nat.le_trans FA.out.size Hm6.out.size);have Y7:Hid (Blk (w7.alloc (.cells #[.string y.text,.int .i64 y.line,.int .i64 y.col] 194)) w7.heap.size 194 #[.string y.text,.int .i64 y.line,.int .i64 y.col]):=Blk.new _ _ _;clear hw7 hf7 X7;go_wp2_with fail;refine (HP.out (k+(j+1)) _ ⟨A0,c0,W7.out.fr0 (Fr.none_alloc _ _)⟩).mono ?_;rintro r w9 ⟨rfl,b9⟩;have F9:=q0_ ((Fr.none_alloc w7 (.cells #[.string y.text,.int .i64 y.line,.int .i64 y.col] 194)).trans (Fr.b0 b9) q4_);have Y9:=q0_ (Y7.out.below b9);have y0:=Y9.out.cell 0;have y1:=Y9.out.cell 1;have y2:=Y9.out.cell 2;have z0:=Y9.out.frozen 0;have z1:=Y9.out.frozen 1;have z2:=Y9.out.frozen 2;simp only[q1_,q2_,q3_] at y0 y1 y2;clear b9 x0 x1 x2;go_wp2
     go_roundw
     case rel=>
      have fst:∀ u0 u1 u2,Fr (fun i=>i=w7.heap.size) w9 (((w9.setCell ⟨w7.heap.size,0,none⟩ u0).setCell ⟨w7.heap.size,1,none⟩ u1).setCell ⟨w7.heap.size,2,none⟩ u2):=fun u0 u1 u2=>(Fr.refl (fun i=>i=w7.heap.size) w9).set3 (.inl rfl) _ _ _
      have hb7:b≠w7.heap.size:=by omega
      have ho9:∀ i,zaE (.slice A6 (j+1) c6) i→i<w6.heap.size:=zji Ho6.out;refine⟨j+1,w7.heap.size,c6,A6,by omega,rfl,rfl,rfl,Y9.out.set3,?_,?_,?_,by omega,fun h=>by have:=ho9 _ h;omega,?_⟩
      ·have e:zaM (H.take (j+1))=zaM (H.take j)++[.string y.text,.int .i64 y.line,.int .i64 y.col]:=by rw[zan hy,zbz];rfl
       rw[e];exact zaf (zac (zaf Ho6.out F7.out (fun i hi e=>zad Ho6.out W6.out.1 (by decide) (by rw[← e];exact hi))) F9.out) (fst _ _ _) (fun i hi e=>by have:=ho9 i hi;omega)
      ·have:=(W7.out.fr0 F9.out).frF (fst (.string (zcr R (k+(j+1))).1.text) (.int .i64 (zcr R (k+(j+1))).1.line) (.int .i64 (zcr R (k+(j+1))).1.col)) hb7 (fun i hi e=>by have:=HA0.out i hi;omega)
       exact this
      ·exact (((Hfr.out.trans FA.out q4_).trans Hm6.out.fr (fun i hi=>.inr (Hr0.out i hi).1)).trans F7.out (fun i hi=>.inl hi)).trans ((F9.out.mono (G:=fun i=>i=w7.heap.size) q4_).trans (fst _ _ _) (fun i hi=>.inl hi)) (fun i hi=>.inr (by omega))
      ·intro i u v hi hu hv
       by_cases e:i=j
       ·subst e
        rw[hy] at hu
        cases hu
        rw[hx0] at hv
        cases hv
        exact Hline.out.symm
       ·exact hall.out i u v (by omega) hu hv
     case measure=>simp[zrc];omega
    ·have hl1:(z.line==y.line)=false:=by simpa using hline
     have HE:=q0_ (zhK hall.out (.inr ⟨by omega,y,z,hy,hx0,fun e=>hline e.symm⟩));go_wp2_with fail;refine wp_region_held_drew (S:=fun W=>Fr (fun _=>False) wr W) (by kernel_rfl) ((Fr.refl _ wr).drew) (fun hY_=>?_);refine tq 15 [0,1,2,3,4,5,6,7,8,9,10,11,12,13,14] ?_;refine sk ?_
     iterate 12 (refine sf HC.out ?_;try simp only[Act.put,sA,sB,sC])
     refine sk ?_;refine sk ?_
     try simp only[Act.put,sA,sB,sC]
     refine sz ?_
     try simp only[Act.put,sA,sB,sC]
     refine wpAnyH_done (by kernel_rfl) ?_ _;go_wp2;go_ret
     have he:zbl (R.drop k)=H.take j:=by rw[HH.out];exact HE.out
     have hl:(H.take j).length=j:=by rw[List.length_take];omega
     have hcc:j≤c:=by
      obtain⟨_,_,e0,h1,_⟩:=za5 Hrow.out
      cases e0
      exact h1
     refine⟨?_,Hfr.out.trans hY_ q4_⟩;unfold zpx;rw[he,hl];refine⟨some ad,c,rfl,hcc,(Rd.of_own Hrow.out).fr0 hY_,fun i hi=>?_,⟨A0,c0,Hws.out.fr0 hY_⟩⟩;obtain⟨h0,ad',e,h3⟩:=hi;obtain⟨g',e'⟩:=zcN Hrow.out h0;have e2:=e';rw[e] at e2
     cases e2
     exact (Hrow.out.lt i (by rw[e', ← h3];rfl)).1
  ·obtain rfl:j=H.length:=by omega
   rw[zmB (R:=R) (k:=k+H.length) (by have:=HHl.out;omega)] at Hxb ⊢;have HE:=q0_ (zhK hall.out (.inl (List.getElem?_eq_none (Nat.le_refl _))));clear Hxb;go_wp2_with fail;refine wp_region_held_drew (S:=fun W=>Fr (fun _=>False) wr W) (by kernel_rfl) ((Fr.refl _ wr).drew) (fun hY_=>?_);refine tq 15 [0,1,2,3,4,5,6,7,8,9,10,11,12,13,14] ?_;refine sk ?_;refine sk ?_
   try simp only[Act.put,sA,sB,sC]
   iterate 11 (refine su ?_;try simp only[Act.put,sA,sB,sC])
   refine su ?_;refine sk ?_
   try simp only[Act.put,sA,sB,sC]
   refine sz ?_
   try simp only[Act.put,sA,sB,sC]
   refine wpAnyH_done (by kernel_rfl) ?_ _;go_wp2;go_ret
   have he:zbl (R.drop k)=H.take H.length:=by rw[HH.out];exact HE.out
   have hl:(H.take H.length).length=H.length:=by rw[List.length_take];omega
   have hcc:H.length≤c:=by
    obtain⟨_,_,e0,h1,_⟩:=za5 Hrow.out
    cases e0
    exact h1
   refine⟨?_,Hfr.out.trans hY_ q4_⟩;unfold zpx;rw[he,hl];refine⟨A,c,rfl,hcc,(Rd.of_own Hrow.out).fr0 hY_,fun i hi=>?_,⟨A0,c0,Hws.out.fr0 hY_⟩⟩;obtain⟨h0,ad',e,h3⟩:=hi;obtain⟨g',e'⟩:=zcN Hrow.out h0;have e2:=e';rw[e] at e2
   cases e2
   exact (Hrow.out.lt i (by rw[e', ← h3];rfl)).1
end Go.Proofs.YtjhhodndlkpmhaaGreatDoor
