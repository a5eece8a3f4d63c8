/- Walk of package policy: tier. -/
import Derived.Test.YteajonicnkpbbaaGreatDoorPolSame
namespace Go.Proofs.YteajonicnkpbbaaGreatDoor
set_option linter.all false
set_option maxHeartbeats 8000000
set_option maxRecDepth 100000
open Go.RowKit Tryz
theorem zjq(l:List zak)(k:Nat):zaJ (l.drop k)=(zaJ l).drop (k*3):=by
 induction l generalizing k with
 | nil=>simp[zaJ]
 | cons a r ih=>
  cases k with
  | zero=>simp
  | succ k=>
   show zaJ (r.drop k)=(a.cells++zaJ r).drop ((k+1)*3)
   rw[List.drop_append,ih,List.drop_of_length_le (l:=a.cells) (by rw[zc8];omega),zc8,show (k+1)*3-3=k*3 by omega]
   rfl
theorem Rd.wcut{w:World}{ad:Addr}{n k c:Nat}{l:List zak}(h:Rd w 3 (some ad) n (zaJ l))(hk:k≤n)(hc:n≤c)(hne:c≠k)(h0:0<k):Rd w 3 (some ⟨ad.block,ad.off+k*3,none⟩) (n-k) (zaJ (l.drop k)):=by
 have:=h.cut (k:=k) (cap:=c) hk hc;rw[if_neg hne, ← zjq] at this;simp only[Option.map_some] at this;rwa[zbW _ _ (by omega)] at this
def zqC(o:Option (List zaa))(w:World)(lb wb lo k:Nat)(R:List zak)(nm:ByteArray)(r:Ending)(w':World):Prop:=
 match o with
 | some l'=>r=.returned (.bool true)∧zcT w' lb wb lo k R nm l'
 | none=>r=.returned (.bool false)
theorem ziS(lb wb lo k:Nat)(R:List zak)(nm:ByteArray)(l:List zaa)(w:World)(h:zcT w lb wb lo k R nm l)(hR:znO R)(hl5:l.length≤5):
  Calls prog 178 #[.pointer (some ⟨lb,0,none⟩)] w fun r w'=>zqC (zd3 (zfK R k) l) w lb wb lo (k+llen R k) R nm r w'∧Fr (fun j=>lo≤j) w w':=by
 obtain⟨⟨A,c,hb,ho⟩,hw,hge⟩:=h;have HL:=q0_ (zi2 wb lo k R w hw hR.1);have c0:=hb.cell 0;simp only[q1_,q2_,q3_] at c0;have Hb:=q0_ hb;have Ho:=q0_ ho
 obtain⟨csw,hwb,hwl⟩:∃ cs,Blk w wb 272 cs∧lo≤wb:=by
  obtain⟨A1,c1,hI⟩:=hw;exact⟨_,hI.1,hI.2.2.1⟩
 have hne:lb≠wb:=hb.ne_ hwb (by decide);have Hwb:=q0_ hwb;have HS:=q0_ (fun x (hx:x∈za8 (R.drop k))=>(hR.2 x (zie hx)).1)
 obtain⟨Q,hQ⟩:∃ Q,za8 (R.drop k)=Q:=⟨_,rfl⟩
 unfold znP at HL;unfold zfK llen;rw[hQ] at HL HS ⊢
 obtain⟨m,hm⟩:∃ m,l.length=m:=⟨_,rfl⟩
 rw[hm] at Hb Ho hl5;have hm0:=hm;clear hb ho hw hR hwb hQ
 by_cases hq:Q.length=8
 ·obtain⟨a,y,p1,q1,p2,q2,p3,q3,rfl⟩:∃ a b c d e f g h,Q=[a,b,c,d,e,f,g,h]:=by
   match Q,hq with
   | [a,b,c,d,e,f,g,h],_=>exact⟨a,b,c,d,e,f,g,h,rfl⟩
  have HC:=q0_ (fun W=>ze6 y.text W (by have:=HS.out y (by simp);omega))
  obtain⟨⟨v1,b1⟩,hn1⟩:∃ v,zhi p1.text q1.text zdX=v:=⟨_,rfl⟩
  obtain⟨⟨v2,b2⟩,hn2⟩:∃ v,zhi p2.text q2.text zgS=v:=⟨_,rfl⟩
  obtain⟨⟨v3,b3⟩,hn3⟩:∃ v,zhi p3.text q3.text zcQ=v:=⟨_,rfl⟩
  have e3:zd3 ([a,y,p1,q1,p2,q2,p3,q3].map zak.text) l=if a.text.toList==ze7.toList&& !decide (m=5)&&b1&&b2&&b3 then some (l++[⟨y.text,v1,v2,v3⟩]) else none:=by
   show (if a.text.toList==ze7.toList&& !decide (l.length=5)&&(zhi p1.text q1.text zdX).2&&(zhi p2.text q2.text zgS).2&&(zhi p3.text q3.text zcQ).2 then some (l++[⟨y.text,(zhi p1.text q1.text zdX).1,(zhi p2.text q2.text zgS).1,(zhi p3.text q3.text zcQ).1⟩]) else none)=_
   rw[hn1,hn2,hn3,hm]
  have e4:[a,y,p1,q1,p2,q2,p3,q3].length=8:=rfl
  have el:ze7.toList=[116,105,101,114]:=by rw[Lib.toList_data];rfl
  have HN1:Hid (∀ W A c,Rd W 3 A 6 (zaJ [p1,q1,p2,q2,p3,q3])→Calls prog 215 #[.slice A 6 c,.string {data:=#[101,118,101,114,121]}] W fun r w'=>r=.returned (.tuple #[.int .i64 v1,.bool b1])∧W=w'):=fun W A c h=>by
   have:=zeb p1 q1 _ A 6 c zdX W h rfl rfl (by have:=HS.out q1 (by simp);omega);rwa[hn1] at this
  have HN2:Hid (∀ W A c,Rd W 3 A 4 (zaJ [p2,q2,p3,q3])→Calls prog 215 #[.slice A 4 c,.string {data:=#[107,101,101,112]}] W fun r w'=>r=.returned (.tuple #[.int .i64 v2,.bool b2])∧W=w'):=fun W A c h=>by
   have:=zeb p2 q2 _ A 4 c zgS W h rfl rfl (by have:=HS.out q2 (by simp);omega);rwa[hn2] at this
  have HN3:Hid (∀ W A c,Rd W 3 A 2 (zaJ [p3,q3])→Calls prog 215 #[.slice A 2 c,.string {data:=#[115,104,97,114,100,115]}] W fun r w'=>r=.returned (.tuple #[.int .i64 v3,.bool b3])∧W=w'):=fun W A c h=>by
   have:=zeb p3 q3 _ A 2 c zcQ W h rfl rfl (by have:=HS.out q3 (by simp);omega);rwa[hn3] at this
  rw[e3];rw[e4] at HL ⊢;clear hn1 hn2 hn3
  cases hE:(a.text.toList==ze7.toList)
  ·have hE2:¬ a.text.toList=ze7.toList:=by simpa using hE
   have hE3:(a.text.toList != ze7.toList)=true:=by simpa using hE2
   simp only[Bool.false_and,Bool.false_eq_true,if_false];rw[el] at hE hE2 hE3;clear e3 e4 el hq;go_enter func178,ntmps178;go_wp2_with fail;refine HL.out.mono ?_;rintro r w1 ⟨⟨A1,c1,rfl,hmc,hrd,had,hws⟩,hf⟩;have F1:=q0_ hf;obtain⟨ad,x,e,hx,q0,_,_⟩:=hrd.word_ (k:=0) (by omega)
   cases e
   cases hx
   rw[Nat.zero_mul,zb9] at q0;clear hf hws had hrd HL;go_wp2;go_ret;exact⟨rfl,F1.out.mono (fun j hj=>.inl (by omega))⟩
  ·have hE2:a.text.toList=ze7.toList:=by simpa using hE
   have hE3:(a.text.toList != ze7.toList)=false:=by simpa using hE2
   rw[el] at hE hE2 hE3
   by_cases h5:m=5
   ·have h5a:decide (m=5)=true:=qa_ h5
    rw[h5a]
    have h5c:((m:Int)==5)=true:=by simp;omega
    have h5d:(m:Int)=5:=by omega
    simp only[Bool.not_true,Bool.and_false,Bool.false_and,Bool.false_eq_true,if_false];clear e3 e4 el hq;go_enter func178,ntmps178;go_wp2_with fail;refine HL.out.mono ?_;rintro r w1 ⟨⟨A1,c1,rfl,hmc,hrd,had,hws⟩,hf⟩;have F1:=q0_ hf;have B1:=q0_ (Hb.out.fr hf (by omega));have d2:=B1.out.cell 2;obtain⟨ad,x,e,hx,q0,_,_⟩:=hrd.word_ (k:=0) (by omega)
    cases e
    cases hx
    rw[Nat.zero_mul,zb9] at q0;simp only[q1_,q2_,q3_] at d2;clear hf hws had hrd HL;go_wp2;go_ret;exact⟨rfl,F1.out.mono (fun j hj=>.inl (by omega))⟩
   ·have h5a:decide (m=5)=false:=q9_ h5
    rw[h5a]
    have h5c:((m:Int)==5)=false:=by simp;omega
    have h5d:¬ (m:Int)=5:=by omega
    simp only[Bool.not_false,Bool.and_true,Bool.true_and];clear e3 e4 el hq;obtain⟨i0,hi,hz0,hz1,hz2⟩:=info_parts zc4;go_enter func178,ntmps178;go_wp2_with fail;refine HL.out.mono ?_;rintro r w1 ⟨⟨A1,c1,rfl,hmc,hrd,had,hws⟩,hf⟩;have F1:=q0_ hf;have Hws:=q0_ hws;have B1:=q0_ (Hb.out.fr hf (by omega));have O1:=q0_ (zad Ho.out hf (fun j hj e=>zac Ho.out Hwb.out (by decide) (by rw[← e];exact hj)));have d2:=B1.out.cell 2;simp only[q1_,q2_,q3_] at d2;obtain⟨ad,x,e,hx,q0,_,_⟩:=hrd.word_ (k:=0) (by omega)
    cases e
    cases hx
    obtain⟨ad',x,e,hx,y0,_,_⟩:=hrd.word_ (k:=1) (by omega)
    cases e
    cases hx
    rw[Nat.zero_mul,zb9] at q0;rw[Nat.one_mul,zbW _ _ (by decide)] at y0;have R2:=q0_ (hrd.wcut (k:=2) (c:=c1) (by omega) hmc (by omega) (by omega));have R4:=q0_ (hrd.wcut (k:=4) (c:=c1) (by omega) hmc (by omega) (by omega));have R6:=q0_ (hrd.wcut (k:=6) (c:=c1) (by omega) hmc (by omega) (by omega))
    have cc2:¬ c1=2:=by omega
    have cc4:¬ c1=4:=by omega
    have cc6:¬ c1=6:=by omega
    have hlw:lo≤w1.heap.size:=by have:=B1.out.lt;omega
    clear hf hws had hrd HL;go_wp2_with fail;refine (HN1.out w1 _ _ R2.out).mono ?_;rintro r w2 ⟨rfl,rfl⟩;go_wp2_with fail;refine (HN2.out w1 _ _ R4.out).mono ?_;rintro r w2 ⟨rfl,rfl⟩;go_wp2_with fail;refine (HN3.out w1 _ _ R6.out).mono ?_;rintro r w2 ⟨rfl,rfl⟩;clear q0 R2 R4 R6 HN1 HN2 HN3 cc2 cc4 cc6;have FD:Hid (Fr (fun _=>False) w1 w1.drew):=(Fr.refl _ w1).drew
    have HB:Hid (∀ w6,Fr (fun _=>False) w1.drew w6→w6.cell? ⟨lb,2,none⟩=some (.slice A m c)∧lo≤w6.heap.size):=fun w6 f=>⟨((B1.out.fr FD.out (fun h=>h)).fr f (fun h=>h)).cell 2,Nat.le_trans hlw (FD.out.trans f q4_).size⟩
    have Hk:Hid (m+1≤maxLen∧(m+1)*40≤140737488355328):=⟨by unfold maxLen;omega,by omega⟩
    have HM:∀ w6,Fr (fun _=>False) w1.drew w6→∀ o A6 c6 w7,Mv (zag (.slice A m c)) (zag (.slice A6 (m+1) c6)) (w6.alloc o) w7→Blk w7 lb 238 #[.pointer (some ⟨wb,0,none⟩),.string nm,.slice A m c]∧zbw w7 wb lo (k+8) R∧Fr (fun j=>lo≤j) w w7:=fun w6 f o A6 c6 w7 hm=>by
     have fa:Fr (fun _=>False) w1 (w6.alloc o):=(FD.out.trans f q4_).trans (Fr.none_alloc _ _) q4_;have oa:=za_ O1.out fa;have ba:=B1.out.fr fa (fun h=>h);obtain⟨A2,c2,hI⟩:=Hws.out.fr0 fa;refine⟨ba.fr hm.fr (fun hj=>zac oa ba (by decide) hj),⟨A2,c2,hI.frF hm.fr (fun hj=>zac oa hI.1 (by decide) hj) (zcZ hI.2.1 oa (by decide))⟩,?_⟩;exact ((F1.out.mono (G:=fun j=>lo≤j) (fun j hj=>.inl (by omega))).trans fa q4_).trans hm.fr (fun j hj=>.inl (oa.lt j hj).1)
    have HX:Hid (∀ w6,Fr (fun _=>False) w1.drew w6→∀ o A6 c6 w7,Mv (zag (.slice A m c)) (zag (.slice A6 (m+1) c6)) (w6.alloc o) w7→w7.cell? ⟨lb,2,none⟩=some (.slice A m c)∧w7.frozen? ⟨lb,2,none⟩=false):=fun w6 f o A6 c6 w7 hm=>⟨(HM w6 f o A6 c6 w7 hm).1.cell 2,(HM w6 f o A6 c6 w7 hm).1.frozen 2⟩
    have HZ:Hid (∀ w6,Fr (fun _=>False) w1.drew w6→∀ o A6 c6 w7,w7.ownsRow lo 99 4 (.slice A6 (m+1) c6) (m+1) (zaf l++[.string y.text,.int .i64 v1,.int .i64 v2,.int .i64 v3])→Mv (zag (.slice A m c)) (zag (.slice A6 (m+1) c6)) (w6.alloc o) w7→
      zcT (w7.setCell ⟨lb,2,none⟩ (.slice A6 (m+1) c6)) lb wb lo (k+8) R nm (l++[⟨y.text,v1,v2,v3⟩])∧Fr (fun j=>lo≤j) w (w7.setCell ⟨lb,2,none⟩ (.slice A6 (m+1) c6))):=fun w6 f o A6 c6 w7 ho hm=>by
     obtain⟨b7,⟨A2,c2,hI⟩,f7⟩:=HM w6 f o A6 c6 w7 hm;have hst:Fr (fun j=>j=lb) w7 (w7.setCell ⟨lb,2,none⟩ (.slice A6 (m+1) c6)):=(Fr.refl (fun j=>j=lb) w7).setCell (p:=⟨lb,2,none⟩) (.inl rfl) _;refine⟨⟨⟨A6,c6,?_,?_⟩,⟨A2,c2,hI.frF hst (fun e=>hne e.symm) (fun j hj e=>zac hI.2.1 b7 (by decide) (by rw[← e];exact hj))⟩,hge⟩,f7.trans hst (fun j hj=>.inl (by omega))⟩
     ·rw[q8_,List.length_singleton,hm0]
      exact b7.set_ 2 _
     ·rw[q8_,List.length_singleton,hm0,zhU]
      exact zad ho hst (fun j hj e=>zac ho b7 (by decide) (by rw[← e];exact hj))
    clear HM hm0;go_wp2_with fail;refine wp_region_any (by kernel_rfl) ?_;change wpAny _ _ _ _ _ _ _ (World.drew _);refine nl 0 ?v1 rfl ?q1 ?r1
    case q1=>intro W;go_simp;try rfl
    refine nl 1 ?v2 rfl ?q2 ?r2
    case q2=>intro W;go_simp;try rfl
    refine nl 2 ?v3 rfl ?q3 ?r3
    case q3=>intro W;go_simp;try rfl
    refine nl 3 ?v4 rfl ?q4 ?r4
    case q4=>intro W;go_simp;try rfl
    refine nl 4 ?v5 rfl ?q5 ?r5
    case q5=>intro W;go_simp;try rfl
    refine nl 6 ?v6 rfl ?q6 ?r6
    case q6=>intro W;go_simp;try rfl
    refine nl 7 ?v7 rfl ?q7 ?r7
    case q7=>intro W;go_simp;try rfl
    refine nl 8 ?v8 rfl ?q8 ?r8
    case q8=>intro W;go_simp;try rfl
    refine nl 11 ?v9 rfl ?q9 ?r9
    case q9=>intro W;go_simp;try rfl
    refine nl 12 ?v10 rfl ?q10 ?r10
    case q10=>intro W;go_simp;try rfl
    refine nl 13 ?v11 rfl ?q11 ?r11
    case q11=>intro W;go_simp;try rfl
    try simp only[Act.put,sA,sB,sC]
    refine wpAny_ready (rs:=[5,9]) (by kernel_rfl) (by simp) ?_;refine AllReady.cons (dg rfl) (fun K hK=>?_) ?_
    ·go_simp
     refine hK _ _ ?_;clear hK K
     try simp only[Act.put,sA,sB,sC]
     refine rn 9 rfl (fun K hK=>?_);go_simp;refine hK _ _ ?_;clear hK K
     try simp only[Act.put,sA,sB,sC]
     refine rn 10 rfl (fun K hK=>?_);go_simp
     go_wp2_with (go_at_call 122;refine (HC.out _).mono ?_;rintro r w6 ⟨rfl,b6⟩;have g2:=(HB.out w6 (Fr.b0 b6)).1;have hs6:=(HB.out w6 (Fr.b0 b6)).2;have g2a:=fun o=>(HB.out (w6.alloc o) ((Fr.b0 b6).trans (Fr.none_alloc w6 o) q4_)).1;try dsimp only)
     refine nl 14 ?v12 rfl ?q12 ?r12
     case q12=>intro W;go_simp;try rfl
     try simp only[Act.put,sA,sB,sC]
     refine rn 15 rfl (fun K hK=>?_);go_simp;refine hK _ _ ?_;clear hK K
     try simp only[Act.put,sA,sB,sC]
     refine rn 16 rfl (fun K hK=>?_);rw[if_pos (by rfl)];refine zaZ (.tmp 57) (.tmp 67) 23 rfl 99 i0 (.agg #[.string ByteArray.empty,.int .i64 0,.int .i64 0,.int .i64 0]) 4 40 underlying23 hi hz0 hz1 hz2 rfl (by decide) (.slice A m c) m _ rfl lo (Nat.le_trans hs6 (Fr.none_alloc w6 _).size) (za_ (za_ O1.out ((FD.out).trans (Fr.b0 b6) q4_)) (Fr.none_alloc _ _)) (some ⟨w6.heap.size,0,none⟩) 1 1 [.string y.text,.int .i64 v1,.int .i64 v2,.int .i64 v3] rfl (Rd.newS rfl _ _ _ _ rfl) (by simp[Value.oneCell']) Hk.out.1 Hk.out.2 ?_;intro A6 c6 w7 ho7 hm7 _;have Hz:=q0_ (HZ.out w6 (Fr.b0 b6) _ _ _ _ ho7 hm7);have g3:=(HX.out w6 (Fr.b0 b6) _ _ _ _ hm7).1;have z3:=(HX.out w6 (Fr.b0 b6) _ _ _ _ hm7).2;clear ho7 hm7;refine hK _ _ ?_;clear hK K;refine nl 17 ?v13 rfl ?q13 ?r13
     case q13=>intro W;go_simp;try rfl
     refine nl 18 ?v14 rfl ?q14 ?r14
     case q14=>intro W;go_simp;try rfl
     refine nl 19 ?v15 rfl ?q15 ?r15
     case q15=>intro W;go_simp;try rfl
     try simp only[Act.put,sA,sB,sC]
     refine rn 20 rfl (fun K hK=>?_);go_simp;refine hK _ _ ?_;clear hK K
     try simp only[Act.put,sA,sB,sC]
     refine wpAny_done (by kernel_rfl) ?_ _
     go_upto_region 8 with fail
     clear g2 g2a hs6 g3 z3
     cases b1<;>cases b2<;>cases b3
     all_goals (go_wp2_with fail)
     all_goals (go_ret)
     all_goals first | exact⟨rfl,Hz.out.2⟩ | exact⟨⟨rfl,Hz.out.1⟩,Hz.out.2⟩ | (simp;exact Hz.out.2) | (simp;exact Hz.out)
    refine AllReady.cons (dg rfl) (fun K hK=>?_) ?_
    ·go_simp
     refine hK _ _ ?_;clear hK K
     try simp only[Act.put,sA,sB,sC]
     refine wpAny_ready (rs:=[5,10]) (by kernel_rfl) (by simp) ?_;refine AllReady.cons (dg rfl) (fun K hK=>?_) ?_
     ·go_simp
      refine hK _ _ ?_;clear hK K
      try simp only[Act.put,sA,sB,sC]
      refine rn 10 rfl (fun K hK=>?_);go_simp
      go_wp2_with (go_at_call 122;refine (HC.out _).mono ?_;rintro r w6 ⟨rfl,b6⟩;have g2:=(HB.out w6 (Fr.b0 b6)).1;have hs6:=(HB.out w6 (Fr.b0 b6)).2;have g2a:=fun o=>(HB.out (w6.alloc o) ((Fr.b0 b6).trans (Fr.none_alloc w6 o) q4_)).1;try dsimp only)
      refine nl 14 ?v16 rfl ?q16 ?r16
      case q16=>intro W;go_simp;try rfl
      try simp only[Act.put,sA,sB,sC]
      refine rn 15 rfl (fun K hK=>?_);go_simp;refine hK _ _ ?_;clear hK K
      try simp only[Act.put,sA,sB,sC]
      refine rn 16 rfl (fun K hK=>?_);rw[if_pos (by rfl)];refine zaZ (.tmp 57) (.tmp 67) 23 rfl 99 i0 (.agg #[.string ByteArray.empty,.int .i64 0,.int .i64 0,.int .i64 0]) 4 40 underlying23 hi hz0 hz1 hz2 rfl (by decide) (.slice A m c) m _ rfl lo (Nat.le_trans hs6 (Fr.none_alloc w6 _).size) (za_ (za_ O1.out ((FD.out).trans (Fr.b0 b6) q4_)) (Fr.none_alloc _ _)) (some ⟨w6.heap.size,0,none⟩) 1 1 [.string y.text,.int .i64 v1,.int .i64 v2,.int .i64 v3] rfl (Rd.newS rfl _ _ _ _ rfl) (by simp[Value.oneCell']) Hk.out.1 Hk.out.2 ?_;intro A6 c6 w7 ho7 hm7 _;have Hz:=q0_ (HZ.out w6 (Fr.b0 b6) _ _ _ _ ho7 hm7);have g3:=(HX.out w6 (Fr.b0 b6) _ _ _ _ hm7).1;have z3:=(HX.out w6 (Fr.b0 b6) _ _ _ _ hm7).2;clear ho7 hm7;refine hK _ _ ?_;clear hK K;refine nl 17 ?v17 rfl ?q17 ?r17
      case q17=>intro W;go_simp;try rfl
      refine nl 18 ?v18 rfl ?q18 ?r18
      case q18=>intro W;go_simp;try rfl
      refine nl 19 ?v19 rfl ?q19 ?r19
      case q19=>intro W;go_simp;try rfl
      try simp only[Act.put,sA,sB,sC]
      refine rn 20 rfl (fun K hK=>?_);go_simp;refine hK _ _ ?_;clear hK K
      try simp only[Act.put,sA,sB,sC]
      refine wpAny_done (by kernel_rfl) ?_ _
      go_upto_region 8 with fail
      clear g2 g2a hs6 g3 z3
      cases b1<;>cases b2<;>cases b3
      all_goals (go_wp2_with fail)
      all_goals (go_ret)
      all_goals first | exact⟨rfl,Hz.out.2⟩ | exact⟨⟨rfl,Hz.out.1⟩,Hz.out.2⟩ | (simp;exact Hz.out.2) | (simp;exact Hz.out)
     refine AllReady.cons (dg rfl) (fun K hK=>?_) ?_
     ·go_simp
      go_wp2_with (go_at_call 122;refine (HC.out _).mono ?_;rintro r w6 ⟨rfl,b6⟩;have g2:=(HB.out w6 (Fr.b0 b6)).1;have hs6:=(HB.out w6 (Fr.b0 b6)).2;have g2a:=fun o=>(HB.out (w6.alloc o) ((Fr.b0 b6).trans (Fr.none_alloc w6 o) q4_)).1;try dsimp only)
      refine nl 14 ?v20 rfl ?q20 ?r20
      case q20=>intro W;go_simp;try rfl
      try simp only[Act.put,sA,sB,sC]
      refine wpAny_ready (rs:=[5,15]) (by kernel_rfl) (by simp) ?_;refine AllReady.cons (dg rfl) (fun K hK=>?_) ?_
      ·go_simp
       refine hK _ _ ?_;clear hK K
       try simp only[Act.put,sA,sB,sC]
       refine rn 15 rfl (fun K hK=>?_);go_simp;refine hK _ _ ?_;clear hK K
       try simp only[Act.put,sA,sB,sC]
       refine rn 16 rfl (fun K hK=>?_);rw[if_pos (by rfl)];refine zaZ (.tmp 57) (.tmp 67) 23 rfl 99 i0 (.agg #[.string ByteArray.empty,.int .i64 0,.int .i64 0,.int .i64 0]) 4 40 underlying23 hi hz0 hz1 hz2 rfl (by decide) (.slice A m c) m _ rfl lo (Nat.le_trans hs6 (Fr.none_alloc w6 _).size) (za_ (za_ O1.out ((FD.out).trans (Fr.b0 b6) q4_)) (Fr.none_alloc _ _)) (some ⟨w6.heap.size,0,none⟩) 1 1 [.string y.text,.int .i64 v1,.int .i64 v2,.int .i64 v3] rfl (Rd.newS rfl _ _ _ _ rfl) (by simp[Value.oneCell']) Hk.out.1 Hk.out.2 ?_;intro A6 c6 w7 ho7 hm7 _;have Hz:=q0_ (HZ.out w6 (Fr.b0 b6) _ _ _ _ ho7 hm7);have g3:=(HX.out w6 (Fr.b0 b6) _ _ _ _ hm7).1;have z3:=(HX.out w6 (Fr.b0 b6) _ _ _ _ hm7).2;clear ho7 hm7;refine hK _ _ ?_;clear hK K;refine nl 17 ?v21 rfl ?q21 ?r21
       case q21=>intro W;go_simp;try rfl
       refine nl 18 ?v22 rfl ?q22 ?r22
       case q22=>intro W;go_simp;try rfl
       refine nl 19 ?v23 rfl ?q23 ?r23
       case q23=>intro W;go_simp;try rfl
       try simp only[Act.put,sA,sB,sC]
       refine rn 20 rfl (fun K hK=>?_);go_simp;refine hK _ _ ?_;clear hK K
       try simp only[Act.put,sA,sB,sC]
       refine wpAny_done (by kernel_rfl) ?_ _
       go_upto_region 8 with fail
       clear g2 g2a hs6 g3 z3
       cases b1<;>cases b2<;>cases b3
       all_goals (go_wp2_with fail)
       all_goals (go_ret)
       all_goals first | exact⟨rfl,Hz.out.2⟩ | exact⟨⟨rfl,Hz.out.1⟩,Hz.out.2⟩ | (simp;exact Hz.out.2) | (simp;exact Hz.out)
      refine AllReady.cons (dg rfl) (fun K hK=>?_) ?_
      ·go_simp
       refine hK _ _ ?_;clear hK K
       try simp only[Act.put,sA,sB,sC]
       refine rn 5 rfl (fun K hK=>?_);go_simp;refine hK _ _ ?_;clear hK K
       try simp only[Act.put,sA,sB,sC]
       refine rn 16 rfl (fun K hK=>?_);rw[if_pos (by rfl)];refine zaZ (.tmp 57) (.tmp 67) 23 rfl 99 i0 (.agg #[.string ByteArray.empty,.int .i64 0,.int .i64 0,.int .i64 0]) 4 40 underlying23 hi hz0 hz1 hz2 rfl (by decide) (.slice A m c) m _ rfl lo (Nat.le_trans hs6 (Fr.none_alloc w6 _).size) (za_ (za_ O1.out ((FD.out).trans (Fr.b0 b6) q4_)) (Fr.none_alloc _ _)) (some ⟨w6.heap.size,0,none⟩) 1 1 [.string y.text,.int .i64 v1,.int .i64 v2,.int .i64 v3] rfl (Rd.newS rfl _ _ _ _ rfl) (by simp[Value.oneCell']) Hk.out.1 Hk.out.2 ?_;intro A6 c6 w7 ho7 hm7 _;have Hz:=q0_ (HZ.out w6 (Fr.b0 b6) _ _ _ _ ho7 hm7);have g3:=(HX.out w6 (Fr.b0 b6) _ _ _ _ hm7).1;have z3:=(HX.out w6 (Fr.b0 b6) _ _ _ _ hm7).2;clear ho7 hm7;refine hK _ _ ?_;clear hK K;refine nl 17 ?v24 rfl ?q24 ?r24
       case q24=>intro W;go_simp;try rfl
       refine nl 18 ?v25 rfl ?q25 ?r25
       case q25=>intro W;go_simp;try rfl
       refine nl 19 ?v26 rfl ?q26 ?r26
       case q26=>intro W;go_simp;try rfl
       try simp only[Act.put,sA,sB,sC]
       refine rn 20 rfl (fun K hK=>?_);go_simp;refine hK _ _ ?_;clear hK K
       try simp only[Act.put,sA,sB,sC]
       refine wpAny_done (by kernel_rfl) ?_ _
       go_upto_region 8 with fail
       clear g2 g2a hs6 g3 z3
       cases b1<;>cases b2<;>cases b3
       all_goals (go_wp2_with fail)
       all_goals (go_ret)
       all_goals first | exact⟨rfl,Hz.out.2⟩ | exact⟨⟨rfl,Hz.out.1⟩,Hz.out.2⟩ | (simp;exact Hz.out.2) | (simp;exact Hz.out)
      exact AllReady.nil
     exact AllReady.nil
    exact AllReady.nil
 ·have e3:zd3 (Q.map zak.text) l=none:=by
   match Q,hq with
   | [],_=>rfl
   | [_],_=>rfl
   | [_,_],_=>rfl
   | [_,_,_],_=>rfl
   | [_,_,_,_],_=>rfl
   | [_,_,_,_,_],_=>rfl
   | [_,_,_,_,_,_],_=>rfl
   | [_,_,_,_,_,_,_],_=>rfl
   | [_,_,_,_,_,_,_,_],h=>exact absurd rfl h
   | _::_::_::_::_::_::_::_::_::_,_=>rfl
  rw[e3]
  have hq2:((Q.length:Int) != 8)=true:=by simp;omega
  have hq3:¬ (Q.length:Int)=8:=by omega
  obtain⟨q,hqq⟩:∃ m,Q.length=m:=⟨_,rfl⟩
  rw[hqq] at HL hq2 hq3;clear hqq e3 hq;go_enter func178,ntmps178;go_wp2_with fail;refine HL.out.mono ?_;rintro r w1 ⟨⟨A1,c1,rfl,hmc,hrd,had,hws⟩,hf⟩;have F1:=q0_ hf;clear hf hws had hrd HL;go_wp2;go_ret;exact⟨rfl,F1.out.mono (fun j hj=>.inl (by omega))⟩
end Go.Proofs.YteajonicnkpbbaaGreatDoor
