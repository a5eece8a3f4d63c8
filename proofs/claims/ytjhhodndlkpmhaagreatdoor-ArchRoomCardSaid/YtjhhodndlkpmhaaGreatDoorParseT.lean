/- Walk of package policy: tier. -/
import Derived.Test.YtjhhodndlkpmhaaGreatDoorReadLaw
import Derived.Test.YtjhhodndlkpmhaaGreatDoorPolSame
namespace Go.Proofs.YtjhhodndlkpmhaaGreatDoor
set_option linter.all false
set_option maxHeartbeats 8000000
set_option maxRecDepth 100000
open Go.RowKit Tryz
theorem zkb(l:List zao)(k:Nat):zaM (l.drop k)=(zaM l).drop (k*3):=by
 induction l generalizing k with
 | nil=>simp[zaM]
 | cons a r ih=>
  cases k with
  | zero=>simp
  | succ k=>
   show zaM (r.drop k)=(a.cells++zaM r).drop ((k+1)*3)
   rw[List.drop_append,ih,List.drop_of_length_le (l:=a.cells) (by rw[zdi];omega),zdi,show (k+1)*3-3=k*3 by omega]
   rfl
theorem Rd.wcut{w:World}{ad:Addr}{n k c:Nat}{l:List zao}(h:Rd w 3 (some ad) n (zaM l))(hk:k≤n)(hc:n≤c)(hne:c≠k)(h0:0<k):Rd w 3 (some ⟨ad.block,ad.off+k*3,none⟩) (n-k) (zaM (l.drop k)):=by
 have:=h.cut (k:=k) (cap:=c) hk hc;rw[if_neg hne, ← zkb] at this;simp only[Option.map_some] at this;rwa[zaV _ _ (by omega)] at this
def zsz(o:Option (List za_))(w:World)(lb wb lo k:Nat)(R:List zao)(nm:ByteArray)(r:Ending)(w':World):Prop:=
 match o with
 | some l'=>r=.returned (.bool true)∧zcW w' lb wb lo k R nm l'
 | none=>r=.returned (.bool false)
theorem zjb(lb wb lo k:Nat)(R:List zao)(nm:ByteArray)(l:List za_)(w:World)(h:zcW w lb wb lo k R nm l)(hR:zpv R)(hl5:l.length≤5):
  Calls prog 124 #[.pointer (some ⟨lb,0,none⟩)] w fun r w'=>zsz (zfb (zgi R k) l) w lb wb lo (k+zil R k) R nm r w'∧Fr (fun j=>lo≤j) w w':=by
 obtain⟨⟨A,c,hb,ho⟩,hw,hge⟩:=h;have HL:=q0_ (zjr wb lo k R w hw hR.1);have c0:=hb.cell 0;simp only[q1_,q2_,q3_] at c0;have Hb:=q0_ hb;have Ho:=q0_ ho
 obtain⟨csw,hwb,hwl⟩:∃ cs,Blk w wb 223 cs∧lo≤wb:=by
  obtain⟨A1,c1,hI⟩:=hw;exact⟨_,hI.1,hI.2.2.1⟩
 have hne:lb≠wb:=hb.ne_ hwb (by decide);have Hwb:=q0_ hwb;have HS:=q0_ (fun x (hx:x∈zbl (R.drop k))=>(hR.2 x (zis hx)).1)
 obtain⟨Q,hQ⟩:∃ Q,zbl (R.drop k)=Q:=⟨_,rfl⟩
 unfold zpx at HL;unfold zgi zil;rw[hQ] at HL HS ⊢
 obtain⟨m,hm⟩:∃ m,l.length=m:=⟨_,rfl⟩
 rw[hm] at Hb Ho hl5;have hm0:=hm;clear hb ho hw hR hwb hQ
 by_cases hq:Q.length=8
 ·obtain⟨a,y,p1,q1,p2,q2,p3,q3,rfl⟩:∃ a b c d e f g h,Q=[a,b,c,d,e,f,g,h]:=by
   match Q,hq with
   | [a,b,c,d,e,f,g,h],_=>exact⟨a,b,c,d,e,f,g,h,rfl⟩
  have HC:=q0_ (fun W=>zfB y.text W (by have:=HS.out y (by simp);omega))
  obtain⟨⟨v1,b1⟩,hn1⟩:∃ v,ziJ p1.text q1.text zeZ=v:=⟨_,rfl⟩
  obtain⟨⟨v2,b2⟩,hn2⟩:∃ v,ziJ p2.text q2.text ziE=v:=⟨_,rfl⟩
  obtain⟨⟨v3,b3⟩,hn3⟩:∃ v,ziJ p3.text q3.text zdv=v:=⟨_,rfl⟩
  have e3:zfb ([a,y,p1,q1,p2,q2,p3,q3].map zao.text) l=if a.text.toList==zfT.toList&& !decide (m=5)&&b1&&b2&&b3 then some (l++[⟨y.text,v1,v2,v3⟩]) else none:=by
   show (if a.text.toList==zfT.toList&& !decide (l.length=5)&&(ziJ p1.text q1.text zeZ).2&&(ziJ p2.text q2.text ziE).2&&(ziJ p3.text q3.text zdv).2 then some (l++[⟨y.text,(ziJ p1.text q1.text zeZ).1,(ziJ p2.text q2.text ziE).1,(ziJ p3.text q3.text zdv).1⟩]) else none)=_
   rw[hn1,hn2,hn3,hm]
  have e4:[a,y,p1,q1,p2,q2,p3,q3].length=8:=rfl
  have el:zfT.toList=[116,105,101,114]:=by rw[Lib.toList_data];rfl
  have HN1:Hid (∀ W A c,Rd W 3 A 6 (zaM [p1,q1,p2,q2,p3,q3])→Calls prog 159 #[.slice A 6 c,.string {data:=#[101,118,101,114,121]}] W fun r w'=>r=.returned (.tuple #[.int .i64 v1,.bool b1])∧W=w'):=fun W A c h=>by
   have:=zel p1 q1 _ A 6 c zeZ W h rfl rfl (by have:=HS.out q1 (by simp);omega);rwa[hn1] at this
  have HN2:Hid (∀ W A c,Rd W 3 A 4 (zaM [p2,q2,p3,q3])→Calls prog 159 #[.slice A 4 c,.string {data:=#[107,101,101,112]}] W fun r w'=>r=.returned (.tuple #[.int .i64 v2,.bool b2])∧W=w'):=fun W A c h=>by
   have:=zel p2 q2 _ A 4 c ziE W h rfl rfl (by have:=HS.out q2 (by simp);omega);rwa[hn2] at this
  have HN3:Hid (∀ W A c,Rd W 3 A 2 (zaM [p3,q3])→Calls prog 159 #[.slice A 2 c,.string {data:=#[115,104,97,114,100,115]}] W fun r w'=>r=.returned (.tuple #[.int .i64 v3,.bool b3])∧W=w'):=fun W A c h=>by
   have:=zel p3 q3 _ A 2 c zdv W h rfl rfl (by have:=HS.out q3 (by simp);omega);rwa[hn3] at this
  rw[e3];rw[e4] at HL ⊢;clear hn1 hn2 hn3
  cases hE:(a.text.toList==zfT.toList)
  ·have hE2:¬ a.text.toList=zfT.toList:=by simpa using hE
   have hE3:(a.text.toList != zfT.toList)=true:=by simpa using hE2
   simp only[Bool.false_and,Bool.false_eq_true,if_false];rw[el] at hE hE2 hE3;clear e3 e4 el hq;go_enter func124,ntmps124;go_wp2_with fail;refine HL.out.mono ?_;rintro r w1 ⟨⟨A1,c1,rfl,hmc,hrd,had,hws⟩,hf⟩;have F1:=q0_ hf;obtain⟨ad,x,e,hx,q0,_,_⟩:=hrd.word_ (k:=0) (by omega)
   cases e
   cases hx
   rw[Nat.zero_mul,zaZ] at q0;clear hf hws had hrd HL;go_wp2;go_ret;exact⟨rfl,F1.out.mono (fun j hj=>.inl (by omega))⟩
  ·have hE2:a.text.toList=zfT.toList:=by simpa using hE
   have hE3:(a.text.toList != zfT.toList)=false:=by simpa using hE2
   rw[el] at hE hE2 hE3
   by_cases h5:m=5
   ·have h5a:decide (m=5)=true:=qa_ h5
    rw[h5a]
    have h5c:((m:Int)==5)=true:=by simp;omega
    have h5d:(m:Int)=5:=by omega
    simp only[Bool.not_true,Bool.and_false,Bool.false_and,Bool.false_eq_true,if_false];clear e3 e4 el hq;go_enter func124,ntmps124;go_wp2_with fail;refine HL.out.mono ?_;rintro r w1 ⟨⟨A1,c1,rfl,hmc,hrd,had,hws⟩,hf⟩;have F1:=q0_ hf;have B1:=q0_ (Hb.out.fr hf (by omega));have d2:=B1.out.cell 2;obtain⟨ad,x,e,hx,q0,_,_⟩:=hrd.word_ (k:=0) (by omega)
    cases e
    cases hx
    rw[Nat.zero_mul,zaZ] at q0;simp only[q1_,q2_,q3_] at d2;clear hf hws had hrd HL;go_wp2;go_ret;exact⟨rfl,F1.out.mono (fun j hj=>.inl (by omega))⟩
   ·have h5a:decide (m=5)=false:=q9_ h5
    rw[h5a]
    have h5c:((m:Int)==5)=false:=by simp;omega
    have h5d:¬ (m:Int)=5:=by omega
    simp only[Bool.not_false,Bool.and_true,Bool.true_and];clear e3 e4 el hq;obtain⟨i0,hi,hz0,hz1,hz2⟩:=info_parts zju;go_enter func124,ntmps124;go_wp2_with fail;refine HL.out.mono ?_;rintro r w1 ⟨⟨A1,c1,rfl,hmc,hrd,had,hws⟩,hf⟩;have F1:=q0_ hf;have Hws:=q0_ hws;have B1:=q0_ (Hb.out.fr hf (by omega));have O1:=q0_ (zaf Ho.out hf (fun j hj e=>zad Ho.out Hwb.out (by decide) (by rw[← e];exact hj)));have d2:=B1.out.cell 2;simp only[q1_,q2_,q3_] at d2;obtain⟨ad,x,e,hx,q0,_,_⟩:=hrd.word_ (k:=0) (by omega)
    cases e
    cases hx
    obtain⟨ad',x,e,hx,y0,_,_⟩:=hrd.word_ (k:=1) (by omega)
    cases e
    cases hx
    rw[Nat.zero_mul,zaZ] at q0;rw[Nat.one_mul,zaV _ _ (by decide)] at y0;have R2:=q0_ (hrd.wcut (k:=2) (c:=c1) (by omega) hmc (by omega) (by omega));have R4:=q0_ (hrd.wcut (k:=4) (c:=c1) (by omega) hmc (by omega) (by omega));have R6:=q0_ (hrd.wcut (k:=6) (c:=c1) (by omega) hmc (by omega) (by omega))
    have cc2:¬ c1=2:=by omega
    have cc4:¬ c1=4:=by omega
    have cc6:¬ c1=6:=by omega
    have hlw:lo≤w1.heap.size:=by have:=B1.out.lt;omega
    clear hf hws had hrd HL;go_wp2_with fail;refine (HN1.out w1 _ _ R2.out).mono ?_;rintro r w2 ⟨rfl,rfl⟩;go_wp2_with fail;refine (HN2.out w1 _ _ R4.out).mono ?_;rintro r w2 ⟨rfl,rfl⟩;go_wp2_with fail;refine (HN3.out w1 _ _ R6.out).mono ?_;rintro r w2 ⟨rfl,rfl⟩;clear q0 R2 R4 R6 HN1 HN2 HN3 cc2 cc4 cc6;have FD:Hid (Fr (fun _=>False) w1 w1.drew):=(Fr.refl _ w1).drew
    have HB:Hid (∀ w6,Fr (fun _=>False) w1.drew w6→w6.cell? ⟨lb,2,none⟩=some (.slice A m c)∧lo≤w6.heap.size):=fun w6 f=>⟨((B1.out.fr FD.out (fun h=>h)).fr f (fun h=>h)).cell 2,Nat.le_trans hlw (FD.out.trans f q4_).size⟩
    have Hk:Hid (m+1≤maxLen∧(m+1)*40≤140737488355328):=⟨by unfold maxLen;omega,by omega⟩
    have HM:∀ w6,Fr (fun _=>False) w1.drew w6→∀ o A6 c6 w7,Mv (zaE (.slice A m c)) (zaE (.slice A6 (m+1) c6)) (w6.alloc o) w7→Blk w7 lb 192 #[.pointer (some ⟨wb,0,none⟩),.string nm,.slice A m c]∧zbO w7 wb lo (k+8) R∧Fr (fun j=>lo≤j) w w7:=fun w6 f o A6 c6 w7 hm=>by
     have fa:Fr (fun _=>False) w1 (w6.alloc o):=(FD.out.trans f q4_).trans (Fr.none_alloc _ _) q4_;have oa:=zac O1.out fa;have ba:=B1.out.fr fa (fun h=>h);obtain⟨A2,c2,hI⟩:=Hws.out.fr0 fa;refine⟨ba.fr hm.fr (fun hj=>zad oa ba (by decide) hj),⟨A2,c2,hI.frF hm.fr (fun hj=>zad oa hI.1 (by decide) hj) (zc6 hI.2.1 oa (by decide))⟩,?_⟩;exact ((F1.out.mono (G:=fun j=>lo≤j) (fun j hj=>.inl (by omega))).trans fa q4_).trans hm.fr (fun j hj=>.inl (oa.lt j hj).1)
    have HX:Hid (∀ w6,Fr (fun _=>False) w1.drew w6→∀ o A6 c6 w7,Mv (zaE (.slice A m c)) (zaE (.slice A6 (m+1) c6)) (w6.alloc o) w7→w7.cell? ⟨lb,2,none⟩=some (.slice A m c)∧w7.frozen? ⟨lb,2,none⟩=false):=fun w6 f o A6 c6 w7 hm=>⟨(HM w6 f o A6 c6 w7 hm).1.cell 2,(HM w6 f o A6 c6 w7 hm).1.frozen 2⟩
    have HZ:Hid (∀ w6,Fr (fun _=>False) w1.drew w6→∀ o A6 c6 w7,w7.ownsRow lo 130 4 (.slice A6 (m+1) c6) (m+1) (zah l++[.string y.text,.int .i64 v1,.int .i64 v2,.int .i64 v3])→Mv (zaE (.slice A m c)) (zaE (.slice A6 (m+1) c6)) (w6.alloc o) w7→
      zcW (w7.setCell ⟨lb,2,none⟩ (.slice A6 (m+1) c6)) lb wb lo (k+8) R nm (l++[⟨y.text,v1,v2,v3⟩])∧Fr (fun j=>lo≤j) w (w7.setCell ⟨lb,2,none⟩ (.slice A6 (m+1) c6))):=fun w6 f o A6 c6 w7 ho hm=>by
     obtain⟨b7,⟨A2,c2,hI⟩,f7⟩:=HM w6 f o A6 c6 w7 hm;have hst:Fr (fun j=>j=lb) w7 (w7.setCell ⟨lb,2,none⟩ (.slice A6 (m+1) c6)):=(Fr.refl (fun j=>j=lb) w7).setCell (p:=⟨lb,2,none⟩) (.inl rfl) _;refine⟨⟨⟨A6,c6,?_,?_⟩,⟨A2,c2,hI.frF hst (fun e=>hne e.symm) (fun j hj e=>zad hI.2.1 b7 (by decide) (by rw[← e];exact hj))⟩,hge⟩,f7.trans hst (fun j hj=>.inl (by omega))⟩
     ·rw[q8_,List.length_singleton,hm0]
      exact b7.set_ 2 _
     ·rw[q8_,List.length_singleton,hm0,zh9]
      exact zaf ho hst (fun j hj e=>zad ho b7 (by decide) (by rw[← e];exact hj))
    clear HM hm0;go_wp2_with fail;refine wp_region_any (by kernel_rfl) ?_;change wpAny _ _ _ _ _ _ _ (World.drew _);refine nl 0 ?v1 rfl ?q1 ?r1
    case q1=>intro W;go_simp;try rfl
    refine nl 1 ?v2 rfl ?q2 ?r2
    case q2=>intro W;go_simp;try rfl
    refine nl 2 ?v3 rfl ?q3 ?r3
    case q3=>intro W;go_simp;try rfl
    refine nl 3 ?v4 rfl ?q4 ?r4
    case q4=>intro W;go_simp;try rfl
    refine nl 4 ?v5 rfl ?q5 ?r5
    case q5=>intro W;go_simp;try rfl
    refine nl 6 ?v6 rfl ?q6 ?r6
    case q6=>intro W;go_simp;try rfl
    refine nl 7 ?v7 rfl ?q7 ?r7
    case q7=>intro W;go_simp;try rfl
    refine nl 8 ?v8 rfl ?q8 ?r8
    case q8=>intro W;go_simp;try rfl
    refine nl 11 ?v9 rfl ?q9 ?r9
    case q9=>intro W;go_simp;try rfl
    refine nl 12 ?v10 rfl ?q10 ?r10
    case q10=>intro W;go_simp;try rfl
    refine nl 13 ?v11 rfl ?q11 ?r11
    case q11=>intro W;go_simp;try rfl
    try simp only[Act.put,sA,sB,sC]
    refine wpAny_ready (rs:=[5,9]) (by kernel_rfl) (by simp) ?_;refine AllReady.cons (dg rfl) (fun K hK=>?_) ?_
    ·go_simp
     refine hK _ _ ?_;clear hK K
     try simp only[Act.put,sA,sB,sC]
     refine rn 9 rfl (fun K hK=>?_);go_simp;refine hK _ _ ?_;clear hK K
     try simp only[Act.put,sA,sB,sC]
     refine rn 10 rfl (fun K hK=>?_);go_simp
     go_wp2_with (go_at_call 48;refine (HC.out _).mono ?_;rintro r w6 ⟨rfl,b6⟩;have g2:=(HB.out w6 (Fr.b0 b6)).1;have hs6:=(HB.out w6 (Fr.b0 b6)).2;have g2a:=fun o=>(HB.out (w6.alloc o) ((Fr.b0 b6).trans (Fr.none_alloc w6 o) q4_)).1;try dsimp only)
     refine nl 14 ?v12 rfl ?q12 ?r12
     case q12=>intro W;go_simp;try rfl
     try simp only[Act.put,sA,sB,sC]
     refine rn 15 rfl (fun K hK=>?_);go_simp;refine hK _ _ ?_;clear hK K
     try simp only[Act.put,sA,sB,sC]
     refine rn 16 rfl (fun K hK=>?_);rw[if_pos (by rfl)];refine zaU (.tmp 57) (.tmp 67) 49 rfl 130 i0 (.agg #[.string ByteArray.empty,.int .i64 0,.int .i64 0,.int .i64 0]) 4 40 underlying49 hi hz0 hz1 hz2 rfl (by decide) (.slice A m c) m _ rfl lo (Nat.le_trans hs6 (Fr.none_alloc w6 _).size) (zac (zac O1.out ((FD.out).trans (Fr.b0 b6) q4_)) (Fr.none_alloc _ _)) (some ⟨w6.heap.size,0,none⟩) 1 1 [.string y.text,.int .i64 v1,.int .i64 v2,.int .i64 v3] rfl (Rd.newS rfl _ _ _ _ rfl) (by simp[Value.oneCell']) Hk.out.1 Hk.out.2 ?_;intro A6 c6 w7 ho7 hm7 _;have Hz:=q0_ (HZ.out w6 (Fr.b0 b6) _ _ _ _ ho7 hm7);have g3:=(HX.out w6 (Fr.b0 b6) _ _ _ _ hm7).1;have z3:=(HX.out w6 (Fr.b0 b6) _ _ _ _ hm7).2;clear ho7 hm7;refine hK _ _ ?_;clear hK K;refine nl 17 ?v13 rfl ?q13 ?r13
     case q13=>intro W;go_simp;try rfl
     refine nl 18 ?v14 rfl ?q14 ?r14
     case q14=>intro W;go_simp;try rfl
     refine nl 19 ?v15 rfl ?q15 ?r15
     case q15=>intro W;go_simp;try rfl
     try simp only[Act.put,sA,sB,sC]
     refine rn 20 rfl (fun K hK=>?_);go_simp;refine hK _ _ ?_;clear hK K
     try simp only[Act.put,sA,sB,sC]
     refine wpAny_done (by kernel_rfl) ?_ _
     go_upto_region 8 with fail
     clear g2 g2a hs6 g3 z3
     cases b1<;>cases b2<;>cases b3
     all_goals (go_wp2_with fail)
     all_goals (go_ret)
     all_goals first | exact⟨rfl,Hz.out.2⟩ | exact⟨⟨rfl,Hz.out.1⟩,Hz.out.2⟩ | (simp;exact Hz.out.2) | (simp;exact Hz.out)
    refine AllReady.cons (dg rfl) (fun K hK=>?_) ?_
    ·go_simp
     refine hK _ _ ?_;clear hK K
     try simp only[Act.put,sA,sB,sC]
     refine wpAny_ready (rs:=[5,10]) (by kernel_rfl) (by simp) ?_;refine AllReady.cons (dg rfl) (fun K hK=>?_) ?_
     ·go_simp
      refine hK _ _ ?_;clear hK K
      try simp only[Act.put,sA,sB,sC]
      refine rn 10 rfl (fun K hK=>?_);go_simp
      go_wp2_with (go_at_call 48;refine (HC.out _).mono ?_;rintro r w6 ⟨rfl,b6⟩;have g2:=(HB.out w6 (Fr.b0 b6)).1;have hs6:=(HB.out w6 (Fr.b0 b6)).2;have g2a:=fun o=>(HB.out (w6.alloc o) ((Fr.b0 b6).trans (Fr.none_alloc w6 o) q4_)).1;try dsimp only)
      refine nl 14 ?v16 rfl ?q16 ?r16
      case q16=>intro W;go_simp;try rfl
      try simp only[Act.put,sA,sB,sC]
      refine rn 15 rfl (fun K hK=>?_);go_simp;refine hK _ _ ?_;clear hK K
      try simp only[Act.put,sA,sB,sC]
      refine rn 16 rfl (fun K hK=>?_);rw[if_pos (by rfl)];refine zaU (.tmp 57) (.tmp 67) 49 rfl 130 i0 (.agg #[.string ByteArray.empty,.int .i64 0,.int .i64 0,.int .i64 0]) 4 40 underlying49 hi hz0 hz1 hz2 rfl (by decide) (.slice A m c) m _ rfl lo (Nat.le_trans hs6 (Fr.none_alloc w6 _).size) (zac (zac O1.out ((FD.out).trans (Fr.b0 b6) q4_)) (Fr.none_alloc _ _)) (some ⟨w6.heap.size,0,none⟩) 1 1 [.string y.text,.int .i64 v1,.int .i64 v2,.int .i64 v3] rfl (Rd.newS rfl _ _ _ _ rfl) (by simp[Value.oneCell']) Hk.out.1 Hk.out.2 ?_;intro A6 c6 w7 ho7 hm7 _;have Hz:=q0_ (HZ.out w6 (Fr.b0 b6) _ _ _ _ ho7 hm7);have g3:=(HX.out w6 (Fr.b0 b6) _ _ _ _ hm7).1;have z3:=(HX.out w6 (Fr.b0 b6) _ _ _ _ hm7).2;clear ho7 hm7;refine hK _ _ ?_;clear hK K;refine nl 17 ?v17 rfl ?q17 ?r17
      case q17=>intro W;go_simp;try rfl
      refine nl 18 ?v18 rfl ?q18 ?r18
      case q18=>intro W;go_simp;try rfl
      refine nl 19 ?v19 rfl ?q19 ?r19
      case q19=>intro W;go_simp;try rfl
      try simp only[Act.put,sA,sB,sC]
      refine rn 20 rfl (fun K hK=>?_);go_simp;refine hK _ _ ?_;clear hK K
      try simp only[Act.put,sA,sB,sC]
      refine wpAny_done (by kernel_rfl) ?_ _
      go_upto_region 8 with fail
      clear g2 g2a hs6 g3 z3
      cases b1<;>cases b2<;>cases b3
      all_goals (go_wp2_with fail)
      all_goals (go_ret)
      all_goals first | exact⟨rfl,Hz.out.2⟩ | exact⟨⟨rfl,Hz.out.1⟩,Hz.out.2⟩ | (simp;exact Hz.out.2) | (simp;exact Hz.out)
     refine AllReady.cons (dg rfl) (fun K hK=>?_) ?_
     ·go_simp
      go_wp2_with (go_at_call 48;refine (HC.out _).mono ?_;rintro r w6 ⟨rfl,b6⟩;have g2:=(HB.out w6 (Fr.b0 b6)).1;have hs6:=(HB.out w6 (Fr.b0 b6)).2;have g2a:=fun o=>(HB.out (w6.alloc o) ((Fr.b0 b6).trans (Fr.none_alloc w6 o) q4_)).1;try dsimp only)
      refine nl 14 ?v20 rfl ?q20 ?r20
      case q20=>intro W;go_simp;try rfl
      try simp only[Act.put,sA,sB,sC]
      refine wpAny_ready (rs:=[5,15]) (by kernel_rfl) (by simp) ?_;refine AllReady.cons (dg rfl) (fun K hK=>?_) ?_
      ·go_simp
       refine hK _ _ ?_;clear hK K
       try simp only[Act.put,sA,sB,sC]
       refine rn 15 rfl (fun K hK=>?_);go_simp;refine hK _ _ ?_;clear hK K
       try simp only[Act.put,sA,sB,sC]
       refine rn 16 rfl (fun K hK=>?_);rw[if_pos (by rfl)];refine zaU (.tmp 57) (.tmp 67) 49 rfl 130 i0 (.agg #[.string ByteArray.empty,.int .i64 0,.int .i64 0,.int .i64 0]) 4 40 underlying49 hi hz0 hz1 hz2 rfl (by decide) (.slice A m c) m _ rfl lo (Nat.le_trans hs6 (Fr.none_alloc w6 _).size) (zac (zac O1.out ((FD.out).trans (Fr.b0 b6) q4_)) (Fr.none_alloc _ _)) (some ⟨w6.heap.size,0,none⟩) 1 1 [.string y.text,.int .i64 v1,.int .i64 v2,.int .i64 v3] rfl (Rd.newS rfl _ _ _ _ rfl) (by simp[Value.oneCell']) Hk.out.1 Hk.out.2 ?_;intro A6 c6 w7 ho7 hm7 _;have Hz:=q0_ (HZ.out w6 (Fr.b0 b6) _ _ _ _ ho7 hm7);have g3:=(HX.out w6 (Fr.b0 b6) _ _ _ _ hm7).1;have z3:=(HX.out w6 (Fr.b0 b6) _ _ _ _ hm7).2;clear ho7 hm7;refine hK _ _ ?_;clear hK K;refine nl 17 ?v21 rfl ?q21 ?r21
       case q21=>intro W;go_simp;try rfl
       refine nl 18 ?v22 rfl ?q22 ?r22
       case q22=>intro W;go_simp;try rfl
       refine nl 19 ?v23 rfl ?q23 ?r23
       case q23=>intro W;go_simp;try rfl
       try simp only[Act.put,sA,sB,sC]
       refine rn 20 rfl (fun K hK=>?_);go_simp;refine hK _ _ ?_;clear hK K
       try simp only[Act.put,sA,sB,sC]
       refine wpAny_done (by kernel_rfl) ?_ _
       go_upto_region 8 with fail
       clear g2 g2a hs6 g3 z3
       cases b1<;>cases b2<;>cases b3
       all_goals (go_wp2_with fail)
       all_goals (go_ret)
       all_goals first | exact⟨rfl,Hz.out.2⟩ | exact⟨⟨rfl,Hz.out.1⟩,Hz.out.2⟩ | (simp;exact Hz.out.2) | (simp;exact Hz.out)
      refine AllReady.cons (dg rfl) (fun K hK=>?_) ?_
      ·go_simp
       refine hK _ _ ?_;clear hK K
       try simp only[Act.put,sA,sB,sC]
       refine rn 5 rfl (fun K hK=>?_);go_simp;refine hK _ _ ?_;clear hK K
       try simp only[Act.put,sA,sB,sC]
       refine rn 16 rfl (fun K hK=>?_);rw[if_pos (by rfl)];refine zaU (.tmp 57) (.tmp 67) 49 rfl 130 i0 (.agg #[.string ByteArray.empty,.int .i64 0,.int .i64 0,.int .i64 0]) 4 40 underlying49 hi hz0 hz1 hz2 rfl (by decide) (.slice A m c) m _ rfl lo (Nat.le_trans hs6 (Fr.none_alloc w6 _).size) (zac (zac O1.out ((FD.out).trans (Fr.b0 b6) q4_)) (Fr.none_alloc _ _)) (some ⟨w6.heap.size,0,none⟩) 1 1 [.string y.text,.int .i64 v1,.int .i64 v2,.int .i64 v3] rfl (Rd.newS rfl _ _ _ _ rfl) (by simp[Value.oneCell']) Hk.out.1 Hk.out.2 ?_;intro A6 c6 w7 ho7 hm7 _;have Hz:=q0_ (HZ.out w6 (Fr.b0 b6) _ _ _ _ ho7 hm7);have g3:=(HX.out w6 (Fr.b0 b6) _ _ _ _ hm7).1;have z3:=(HX.out w6 (Fr.b0 b6) _ _ _ _ hm7).2;clear ho7 hm7;refine hK _ _ ?_;clear hK K;refine nl 17 ?v24 rfl ?q24 ?r24
       case q24=>intro W;go_simp;try rfl
       refine nl 18 ?v25 rfl ?q25 ?r25
       case q25=>intro W;go_simp;try rfl
       refine nl 19 ?v26 rfl ?q26 ?r26
       case q26=>intro W;go_simp;try rfl
       try simp only[Act.put,sA,sB,sC]
       refine rn 20 rfl (fun K hK=>?_);go_simp;refine hK _ _ ?_;clear hK K
       try simp only[Act.put,sA,sB,sC]
       refine wpAny_done (by kernel_rfl) ?_ _
       go_upto_region 8 with fail
       clear g2 g2a hs6 g3 z3
       cases b1<;>cases b2<;>cases b3
       all_goals (go_wp2_with fail)
       all_goals (go_ret)
       all_goals first | exact⟨rfl,Hz.out.2⟩ | exact⟨⟨rfl,Hz.out.1⟩,Hz.out.2⟩ | (simp;exact Hz.out.2) | (simp;exact Hz.out)
      exact AllReady.nil
     exact AllReady.nil
    exact AllReady.nil
 ·have e3:zfb (Q.map zao.text) l=none:=by
   match Q,hq with
   | [],_=>rfl
   | [_],_=>rfl
   | [_,_],_=>rfl
   | [_,_,_],_=>rfl
   | [_,_,_,_],_=>rfl
   | [_,_,_,_,_],_=>rfl
   | [_,_,_,_,_,_],_=>rfl
   | [_,_,_,_,_,_,_],_=>rfl
   | [_,_,_,_,_,_,_,_],h=>exact absurd rfl h
   | _::_::_::_::_::_::_::_::_::_,_=>rfl
  rw[e3]
  have hq2:((Q.length:Int) != 8)=true:=by simp;omega
  have hq3:¬ (Q.length:Int)=8:=by omega
  obtain⟨q,hqq⟩:∃ m,Q.length=m:=⟨_,rfl⟩
  rw[hqq] at HL hq2 hq3;clear hqq e3 hq;go_enter func124,ntmps124;go_wp2_with fail;refine HL.out.mono ?_;rintro r w1 ⟨⟨A1,c1,rfl,hmc,hrd,had,hws⟩,hf⟩;have F1:=q0_ hf;clear hf hws had hrd HL;go_wp2;go_ret;exact⟨rfl,F1.out.mono (fun j hj=>.inl (by omega))⟩
def zsr(nm:ByteArray):List za_ ⊕ Int→(ByteArray×List za_) ⊕ Int
 | .inl l=>.inl (nm,l)
 | .inr k=>.inr k
theorem zeQ{x:zao}{t:List zao}:1≤(zbl (x::t)).length:=by unfold zbl;simp
theorem zeh:∀ (f f':Nat) (Q:List zao) (acc:List za_),Q.length≤f→Q.length≤f'→zb3 f Q acc=zb3 f' Q acc
 | 0,0,_,_,_,_=>rfl
 | 0,f'+1,[],_,_,_=>rfl
 | 0,f'+1,_::_,_,h,_=>by simp at h
 | f+1,0,[],_,_,_=>rfl
 | f+1,0,_::_,_,_,h=>by simp at h
 | f+1,f'+1,[],_,_,_=>rfl
 | f+1,f'+1,x::Q,acc,h,h'=>by
  have h1:=zeQ (x:=x) (t:=Q);unfold zb3
  cases zfb ((zbl (x::Q)).map zao.text) acc with
  | none=>rfl
  | some acc'=>
   simp only;simp only[List.length_cons] at h h';exact zeh f f' _ _ (by rw[List.length_drop,List.length_cons];omega) (by rw[List.length_drop,List.length_cons];omega)
theorem znH{L:List ByteArray}{acc acc':List za_}(h:zfb L acc=some acc')(h5:acc.length≤5):acc'.length≤5:=by
 unfold zfb at h
 split at h
 ·split at h
  ·rename_i hc
   injection h with h
   subst h;simp only[Bool.and_eq_true,Bool.not_eq_true',decide_eq_false_iff_not] at hc;rw[q8_,List.length_singleton];omega
  ·cases h
 ·cases h
theorem zkf{R:List zao}{k:Nat}{x:zao}{acc:List za_}(hx:R[k]? =some x):
  zb3 (R.length-k) (R.drop k) acc=match zfb (zgi R k) acc with
   | none=>.inr x.line
   | some acc'=>zb3 (R.length-(k+zil R k)) (R.drop (k+zil R k)) acc':=by
 have hk:=(List.getElem?_eq_some_iff.1 hx).1;have e:R[k]=x:=(List.getElem?_eq_some_iff.1 hx).2
 have hd:R.drop k=x::R.drop (k+1):=by rw[List.drop_eq_getElem_cons hk,e]
 have hf:R.length-k=(R.length-k-1)+1:=by omega
 have hp:=zeQ (x:=x) (t:=R.drop (k+1));have hle:=zoK (x::R.drop (k+1));simp only[List.length_cons,List.length_drop] at hle;unfold zgi zil;rw[hd,hf]
 show (match zfb ((zbl (x::R.drop (k+1))).map zao.text) acc with | none=>(Sum.inr x.line:List za_ ⊕ Int) | some acc'=>zb3 (R.length-k-1) ((x::R.drop (k+1)).drop (zbl (x::R.drop (k+1))).length) acc')=_
 cases zfb ((zbl (x::R.drop (k+1))).map zao.text) acc with
 | none=>rfl
 | some acc'=>
  simp only;rw[← hd,List.drop_drop];refine zeh _ _ _ _ ?_ ?_
  ·rw[List.length_drop];rw[hd];omega
  ·rw[List.length_drop];omega
theorem zl8{R:List zao}{k:Nat}{acc:List za_}(h:R.length≤k):zb3 (R.length-k) (R.drop k) acc=.inl acc:=by
 rw[show R.length-k=0 by omega]
 rfl
theorem zhT{text:ByteArray}{R:List zao}(h:zlM text=.inl R):zpv R:=by
 unfold zlM at h
 split at h
 ·cases h
 rename_i hs
 have key:∀ (L:List ByteArray) (i:Nat) (acc R:List zao),(∀ p∈L,p.size≤4000)→i+L.length≤4001→(acc.length≤i*4000∧∀ x∈acc,x.text.size≤4000∧0≤x.line∧x.line≤4001)→znp L i acc=.inl R→R.length≤16012001∧∀ x∈R,x.text.size≤4000∧0≤x.line∧x.line≤4001:=by
  intro L
  induction L with
  | nil=>
   intro i acc R _ hi ha e
   injection e with e
   subst e;exact⟨by omega,ha.2⟩
  | cons s t ih=>
   intro i acc R hp hi ha e;simp only[List.length_cons] at hi;unfold znp at e
   cases hl:zeK s ((i:Int)+1) with
   | none=>rw[hl] at e;cases e
   | some l=>
    rw[hl] at e;have hsz:=hp s (by simp);refine ih (i+1) (acc++l) R (fun p h=>hp p (List.mem_cons_of_mem _ h)) (by omega) ⟨?_,fun x hx=>?_⟩ e
    ·rw[q8_]
     have:=zjq hl;omega
    ·rcases List.mem_append.1 hx with hx | hx
     ·exact ha.2 x hx
     ·obtain⟨h1,h2⟩:=zoA hl x hx
      omega
 cases hg:znp (Lib.splitB bNl 0 (Lib.countB text bNl) text) 0 [] with
 | inr k=>rw[hg] at h;cases h
 | inl R'=>
  rw[hg] at h
  injection h with h
  subst h
  obtain⟨h1,h2⟩:=key _ 0 [] R' (fun p hp=>by have:=zej bNl _ _ p hp;omega) (by
   rw[Lib.splitB_all bNl (by decide) 0 _ _ rfl];have:=Lib.countB_le bNl (by decide) text.size text (Nat.le_refl _)
   omega) ⟨by simp,fun x hx=>by cases hx⟩ hg
  exact⟨h1,fun x hx=>by have:=h2 x hx;omega⟩
def zl0(e at_:Int)(nm:ByteArray)(l:List za_)(lo:Nat)(r:Ending)(w':World):Prop:=
 ∃ A c,r=.returned (.tuple #[.agg #[.string nm,.slice A l.length c],.int .i64 e,.int .i64 at_])∧l.length≤c∧Rd w' 4 A l.length (zah l)∧w'.ownsRow lo 130 4 (.slice A l.length c) l.length (zah l)
theorem zqA{text:ByteArray}{e k:Int}(h:zlM text=.inr (e,k)):e=2∨e=22:=by
 unfold zlM at h
 split at h
 ·injection h with h
  injection h with h1 _
  exact .inl h1.symm
 ·split at h
  ·injection h with h
   injection h with h1 _
   exact .inr h1.symm
  ·cases h
/- WALKS -/
theorem zcW.fr0{w w':World}{lb wb lo k:Nat}{R:List zao}{nm:ByteArray}{l:List za_}(h:zcW w lb wb lo k R nm l)(f:Fr (fun _=>False) w w'):zcW w' lb wb lo k R nm l:=by
 obtain⟨⟨A,c,hb,ho⟩,hw,hg⟩:=h;exact⟨⟨A,c,hb.fr f (fun h=>h),zac ho f⟩,hw.fr0 f,hg⟩
theorem zq1{w:World}{lo n c size:Nat}{e:TypeId}{A:Option Addr}{xs:List Value}(h:w.ownsRow lo e size (.slice A n c) n xs):∀ j,adF A n j→lo≤j:=by
 rintro j ⟨h0,ad,e1,h3⟩;obtain⟨g,e2⟩:=zcN h h0;have e3:=e2;rw[e1] at e3
 cases e3
 exact (h.lt j (by rw[e2, ← h3];rfl)).1
theorem zl0.zero(e k:Int)(lo:Nat)(w':World):zl0 e k ByteArray.empty [] lo (.returned (.tuple #[.agg #[.string ByteArray.empty,.slice none 0 0],.int .i64 e,.int .i64 k])) w':=
 ⟨none,0,rfl,Nat.le_refl _,Rd.nil_,World.ownsRow_nil _ _ _ _⟩
def zkJ(R:List zao)(b:Nat)(wr:World):Nat:=
 match wr.cell? ⟨b,0,none⟩ with
 | some (.int _ k)=>R.length-k.toNat
 | _=>0
theorem zd5{R:List zao}{b lo k:Nat}{wr:World}(h:zbO wr b lo k R):zkJ R b wr=R.length-k:=by
 obtain⟨A,c,hI⟩:=h;have c0:=hI.1.cell 0;simp only[q1_,q3_] at c0;unfold zkJ;rw[c0];simp
theorem zon(text:ByteArray)(hs:text.size≤1099511627776)(w:World)(hmx:MaxL w):
  Calls prog 78 #[.string text] w fun r w'=>zl0 (zbS text).1 (zbS text).2.1 (zbS text).2.2.1 (zbS text).2.2.2 w.heap.size r w'∧Below w.heap.size w w':=by
 have RB0:Hid (Blk (w.alloc (.cells #[.string ByteArray.empty,.slice none 0 0] 51)) w.heap.size 51 #[.string ByteArray.empty,.slice none 0 0]):=Blk.new _ _ _;have F0:Hid (Fr (fun _=>False) w (w.alloc (.cells #[.string ByteArray.empty,.slice none 0 0] 51))):=Fr.none_alloc _ _;have HC:=q0_ (zrO text hs (w.alloc (.cells #[.string ByteArray.empty,.slice none 0 0] 51)) (hmx.fr F0.out (fun h=>h)))
 cases hV:zlM text with
 | inr ek=>
  obtain⟨e,k⟩:=ek
  have hP:zbS text=(e,k,ByteArray.empty,[]):=by unfold zbS;rw[hV]
  rw[hP];have he:=zqA hV
  have he0:(e != 0)=true:=by rcases he with rfl | rfl<;>rfl
  have he1:¬ e=0:=by omega
  rw[hV] at HC;clear hV hP he;go_enter func78,ntmps78;go_wp2_with fail;refine HC.out.mono ?_;rintro r w1 ⟨h1,b1⟩;obtain rfl:=h1;have RB:=q0_ (RB0.out.below b1);have F1:=q0_ (F0.out.trans (Fr.b0 b1) q4_);clear b1;have y0:=RB.out.cell 0;have y1:=RB.out.cell 1;have z0:=RB.out.frozen 0;have z1:=RB.out.frozen 1;simp only[q1_,q2_,q3_] at y0 y1;go_wp2;refine bodyPost_ret (v:=.tuple #[.agg #[.string ByteArray.empty,.slice none 0 0],.int .i64 e,.int .i64 k]) ?_ rfl ⟨zl0.zero _ _ _ _,?_⟩
  ·simp[results,results78,go_sem, *]
   first | done | rfl
  ·exact (F1.out.below q4_).trans ((((Fr.refl (fun j=>j=w.heap.size) w1).setCell (p:=⟨w.heap.size,0,none⟩) (.inl rfl) _).setCell (p:=⟨w.heap.size,1,none⟩) (.inl rfl) _).below_of F1.out.size (fun j hj=>by omega))
 | inl R=>
  have hWS:=zhT hV
  have HPV:Hid (zbS text=match zdL R with | .inr k=>(22,k,ByteArray.empty,[]) | .inl (nm,l)=>(0,0,nm,l)):=by show _=_;unfold zbS;rw[hV];rfl
  rw[hV] at HC;clear hV;go_enter func78,ntmps78;go_wp2_with fail;refine HC.out.mono ?_;rintro r w1 ⟨⟨b,rfl,hws,hRl⟩,b1⟩;have RB1:=q0_ (RB0.out.below b1);have F1:=q0_ (F0.out.trans (Fr.b0 b1) q4_)
  obtain⟨lo,hlo⟩:∃ lo,(w.alloc (.cells #[.string ByteArray.empty,.slice none 0 0] 51)).heap.size=lo:=⟨_,rfl⟩
  have hlo2:lo=w.heap.size+1:=by rw[← hlo];simp
  rw[hlo] at hws b1
  have hl1:lo≤w1.heap.size:=by rw[← hlo];exact b1.size
  have Hws:=q0_ hws;clear b1 hws HC hlo;go_wp2_with fail
  obtain⟨W2,hW2⟩:∃ W2,W2=w1.alloc (.cells #[.pointer (some ⟨b,0,none⟩),.string {data:=#[]},.slice none 0 0] 192):=⟨_,rfl⟩
  have hb2:Blk W2 w1.heap.size 192 #[.pointer (some ⟨b,0,none⟩),.string ByteArray.empty,.slice none 0 0]:=by rw[hW2];exact Blk.new _ _ _
  have hf2:Fr (fun _=>False) w1 W2:=by rw[hW2];exact Fr.none_alloc _ _
  obtain⟨lb,hlb⟩:∃ lb,w1.heap.size=lb:=⟨_,rfl⟩
  rw[hlb] at hb2 hl1 ⊢
  have hL2:zcW W2 lb b lo 0 R ByteArray.empty []:=⟨⟨none,0,hb2,World.ownsRow_nil _ _ _ _⟩,Hws.out.fr0 hf2,hl1⟩
  have HL2:=q0_ hL2;have RB2:=q0_ (RB1.out.fr hf2 (fun h=>h));have BL2:=q0_ ((F1.out.trans hf2 q4_).below q4_)
  have hblo:lo≤b:=by obtain⟨_,_,hI⟩:=Hws.out;exact hI.2.2.1
  rw[← hW2];clear hW2 hf2 hb2 hlb hL2 Hws
  go_loopw [9] (fun p wr=>∃ (fs:Bool) (k:Nat) (nm:ByteArray) (l:List za_),p=.bool fs∧zcW wr lb b lo k R nm l∧Hid (l.length≤5)∧Hid (fs=true→k=0∧nm=ByteArray.empty∧l=[])∧Hid (fs=false→zdL R=zsr nm (zb3 (R.length-k) (R.drop k) l))∧Blk wr w.heap.size 51 #[.string ByteArray.empty,.slice none 0 0]∧Below w.heap.size w wr) (fun _ wr=>zkJ R b wr)
  case atStart=>exact⟨true,0,ByteArray.empty,[],rfl,HL2.out,(by show _≤_;simp),(fun _=>⟨rfl,rfl,rfl⟩),(fun h=>by cases h),RB2.out,BL2.out⟩
  case round=>
   obtain⟨fs,k,nm,l,rfl,hl,hl5,hfs,hnf,hrb,hbel⟩:=hrel;have HL:=q0_ hl;have HRb:=q0_ hrb;have HBel:=q0_ hbel
   have hkR:k≤R.length:=by obtain⟨_,_,hI⟩:=hl.words;exact hI.2.2.2
   clear hl hrb hbel
   cases fs with
   | true=>
    obtain⟨rfl,rfl,rfl⟩:=hfs.out rfl;have HL23:Hid (Fr (fun _=>False) wr wr):=Fr.refl _ _
    cases hx:R[0]? with
    | none=>
     have HPk:=q0_ (zeI b lo 0 R wr HL.out.words);rw[show zcr R 0=(⟨ByteArray.empty,0,0⟩,false) by unfold zcr;rw[hx]] at HPk
     have hR0:R=[]:=by
      cases R with
      | nil=>rfl
      | cons a t=>simp at hx
     have HPG:Hid (zdL R=.inr 1):=by show _=_;rw[hR0];rfl
     have hHW:zhd (zgi R 0)=none:=by rw[hR0];rfl
     unfold zao.val at HPk;clear hx
     have l0:wr.cell? ⟨lb,0,none⟩=some (.pointer (some ⟨b,0,none⟩)):=by
      obtain⟨⟨A,c,hb,_⟩,_,_⟩:=HL.out;exact hb.cell 0
     go_wp2_with fail;refine (HPk.out).mono ?_;rintro r w3 ⟨rfl,b3⟩;have F3:=q0_ (HL23.out.trans (Fr.b0 b3) q4_);have X3:Hid (Blk (w3.alloc (.cells #[.string ByteArray.empty,.int .i64 0,.int .i64 0] 194)) w3.heap.size 194 #[.string ByteArray.empty,.int .i64 0,.int .i64 0]):=Blk.new _ _ _;have x1:=X3.out.cell 1;simp only[q1_,q2_,q3_] at x1;have F4:Hid (Fr (fun _=>False) wr (w3.alloc (.cells #[.string ByteArray.empty,.int .i64 0,.int .i64 0] 194))):=F3.out.trans (Fr.none_alloc _ _) q4_;have L4:=q0_ (HL.out.fr0 F4.out);have B4:Hid (Below w.heap.size w (w3.alloc (.cells #[.string ByteArray.empty,.int .i64 0,.int .i64 0] 194))):=HBel.out.trans (F4.out.below_of (by have:=HRb.out.lt;omega) q4_);clear b3;go_wp2_with fail;have HHd:=q0_ (zgB lb b lo 0 R ByteArray.empty [] _ L4.out hWS);rw[hHW] at HHd;refine HHd.out.mono ?_;rintro r W5 ⟨rfl,f5⟩;have FRM:Hid (Fr (fun j=>j=b∨j=lb) wr W5):=(F4.out.mono q4_).trans f5 (fun j hj=>.inl hj);have BELW:Below w.heap.size w W5:=HBel.out.trans (FRM.out.below_of (by have:=HRb.out.lt;omega) (fun j hj=>by omega));have RB:=q0_ (HRb.out.fr FRM.out (fun h=>by omega));have y0:=RB.out.cell 0;have y1:=RB.out.cell 1;have z0:=RB.out.frozen 0;have z1:=RB.out.frozen 1;simp only[q1_,q2_,q3_] at y0 y1;go_wp2;refine bodyPost_ret (v:=.tuple #[.agg #[.string ByteArray.empty,.slice none 0 0],.int .i64 22,.int .i64 1]) ?_ rfl ⟨?_,?_⟩
     ·simp[results,results78,go_sem, *]
      first | done | rfl
     ·rw[show zbS text=(22,1,ByteArray.empty,[]) by rw[HPV.out,HPG.out]]
      exact zl0.zero _ _ _ _
     ·exact BELW.trans ((((Fr.refl (fun j=>j=w.heap.size) W5).setCell (p:=⟨w.heap.size,0,none⟩) (.inl rfl) _).setCell (p:=⟨w.heap.size,1,none⟩) (.inl rfl) _).below_of (by have:=RB.out.lt;omega) (fun j hj=>by omega))
    | some x=>
     have HPk:=q0_ (zeI b lo 0 R wr HL.out.words);rw[zfo hx] at HPk
     have hRx:∃ t,R=x::t:=by
      cases R with
      | nil=>simp at hx
      | cons a t=>simp at hx;exact⟨t,by rw[hx]⟩
     have HRx:=q0_ hRx;unfold zao.val at HPk;clear hx hRx
     cases hHW:zhd (zgi R 0) with
     | none=>
      have HPG:Hid (zdL R=.inr x.line):=by
       obtain⟨t,rfl⟩:=HRx.out
       show (match zhd (zgi (x::t) 0) with | none=>(Sum.inr x.line:(ByteArray×List za_) ⊕ Int) | some nm=>_)=_
       rw[hHW]
      have l0:wr.cell? ⟨lb,0,none⟩=some (.pointer (some ⟨b,0,none⟩)):=by
       obtain⟨⟨A,c,hb,_⟩,_,_⟩:=HL.out;exact hb.cell 0
      go_wp2_with fail;refine (HPk.out).mono ?_;rintro r w3 ⟨rfl,b3⟩;have F3:=q0_ (HL23.out.trans (Fr.b0 b3) q4_);have X3:Hid (Blk (w3.alloc (.cells #[.string x.text,.int .i64 x.line,.int .i64 x.col] 194)) w3.heap.size 194 #[.string x.text,.int .i64 x.line,.int .i64 x.col]):=Blk.new _ _ _;have x1:=X3.out.cell 1;simp only[q1_,q2_,q3_] at x1;have F4:Hid (Fr (fun _=>False) wr (w3.alloc (.cells #[.string x.text,.int .i64 x.line,.int .i64 x.col] 194))):=F3.out.trans (Fr.none_alloc _ _) q4_;have L4:=q0_ (HL.out.fr0 F4.out);have B4:Hid (Below w.heap.size w (w3.alloc (.cells #[.string x.text,.int .i64 x.line,.int .i64 x.col] 194))):=HBel.out.trans (F4.out.below_of (by have:=HRb.out.lt;omega) q4_);clear b3;go_wp2_with fail;have HHd:=q0_ (zgB lb b lo 0 R ByteArray.empty [] _ L4.out hWS);rw[hHW] at HHd;refine HHd.out.mono ?_;rintro r W5 ⟨rfl,f5⟩;have FRM:Hid (Fr (fun j=>j=b∨j=lb) wr W5):=(F4.out.mono q4_).trans f5 (fun j hj=>.inl hj);have BELW:Below w.heap.size w W5:=HBel.out.trans (FRM.out.below_of (by have:=HRb.out.lt;omega) (fun j hj=>by omega));have RB:=q0_ (HRb.out.fr FRM.out (fun h=>by omega));have y0:=RB.out.cell 0;have y1:=RB.out.cell 1;have z0:=RB.out.frozen 0;have z1:=RB.out.frozen 1;simp only[q1_,q2_,q3_] at y0 y1;go_wp2;refine bodyPost_ret (v:=.tuple #[.agg #[.string ByteArray.empty,.slice none 0 0],.int .i64 22,.int .i64 x.line]) ?_ rfl ⟨?_,?_⟩
      ·simp[results,results78,go_sem, *]
       first | done | rfl
      ·rw[show zbS text=(22,x.line,ByteArray.empty,[]) by rw[HPV.out,HPG.out]]
       exact zl0.zero _ _ _ _
      ·exact BELW.trans ((((Fr.refl (fun j=>j=w.heap.size) W5).setCell (p:=⟨w.heap.size,0,none⟩) (.inl rfl) _).setCell (p:=⟨w.heap.size,1,none⟩) (.inl rfl) _).below_of (by have:=RB.out.lt;omega) (fun j hj=>by omega))
     | some nm'=>
      have HPG:Hid (zdL R=zsr nm' (zb3 (R.length-(0+zil R 0)) (R.drop (0+zil R 0)) [])):=by
       show (match zhd (zgi R 0) with | none=>(Sum.inr _:(ByteArray×List za_) ⊕ Int) | some nm=>match zb3 R.length (R.drop (zbl R).length) [] with | .inl l=>.inl (nm,l) | .inr k=>.inr k)=_
       rw[hHW,Nat.zero_add];have e:=zeh R.length (R.length-zil R 0) (R.drop (zbl R).length) [] (by rw[List.length_drop];omega) (by rw[List.length_drop];exact Nat.le_refl _);simp only;rw[e]
       show _=zsr nm' (zb3 (R.length-zil R 0) (R.drop (zbl R).length) [])
       cases zb3 (R.length-zil R 0) (R.drop (zbl R).length) []<;>rfl
      have hlp:1≤zil R 0:=by
       obtain⟨t,rfl⟩:=HRx.out;exact zeQ
      have l0:wr.cell? ⟨lb,0,none⟩=some (.pointer (some ⟨b,0,none⟩)):=by
       obtain⟨⟨A,c,hb,_⟩,_,_⟩:=HL.out;exact hb.cell 0
      go_wp2_with fail;refine (HPk.out).mono ?_;rintro r w3 ⟨rfl,b3⟩;have F3:=q0_ (HL23.out.trans (Fr.b0 b3) q4_);have X3:Hid (Blk (w3.alloc (.cells #[.string x.text,.int .i64 x.line,.int .i64 x.col] 194)) w3.heap.size 194 #[.string x.text,.int .i64 x.line,.int .i64 x.col]):=Blk.new _ _ _;have x1:=X3.out.cell 1;simp only[q1_,q2_,q3_] at x1;have F4:Hid (Fr (fun _=>False) wr (w3.alloc (.cells #[.string x.text,.int .i64 x.line,.int .i64 x.col] 194))):=F3.out.trans (Fr.none_alloc _ _) q4_;have L4:=q0_ (HL.out.fr0 F4.out);have B4:Hid (Below w.heap.size w (w3.alloc (.cells #[.string x.text,.int .i64 x.line,.int .i64 x.col] 194))):=HBel.out.trans (F4.out.below_of (by have:=HRb.out.lt;omega) q4_);clear b3;go_wp2_with fail;have HHd:=q0_ (zgB lb b lo 0 R ByteArray.empty [] _ L4.out hWS);rw[hHW] at HHd;refine HHd.out.mono ?_;rintro r W5 ⟨⟨rfl,hl5'⟩,f5⟩;have FRM:Hid (Fr (fun j=>j=b∨j=lb) wr W5):=(F4.out.mono q4_).trans f5 (fun j hj=>.inl hj);have BELW:Below w.heap.size w W5:=HBel.out.trans (FRM.out.below_of (by have:=HRb.out.lt;omega) (fun j hj=>by omega));have HL5:=q0_ hl5';clear hl5' f5;go_wp2
      go_roundw
      case rel=>exact⟨false,0+zil R 0,nm',[],rfl,HL5.out,(by show _≤_;simp),(fun h=>by cases h),(fun _=>HPG.out),HRb.out.fr FRM.out (fun h=>by omega),BELW⟩
      case measure=>
       rw[zd5 HL5.out.words,zd5 HL.out.words];obtain⟨t,ht⟩:=HRx.out
       have:0<R.length:=by rw[ht];simp
       omega
   | false=>
    have HLen:=q0_ (zla b lo k R wr HL.out.words)
    obtain⟨v,hv⟩:∃ v,(R.length:Int)-(k:Int)=v:=⟨_,rfl⟩
    rw[hv] at HLen
    cases hx:R[k]? with
    | none=>
     have hle:R.length≤k:=List.getElem?_eq_none_iff.1 hx
     have hv0:¬ (0:Int)<v:=by omega
     have hv1:decide ((0:Int)<v)=false:=q9_ hv0
     have HPG:Hid (zdL R=.inl (nm,l)):=by show _=_;rw[hnf.out rfl,zl8 hle];rfl
     have l0:wr.cell? ⟨lb,0,none⟩=some (.pointer (some ⟨b,0,none⟩)):=by
      obtain⟨⟨A,c,hb,_⟩,_,_⟩:=HL.out;exact hb.cell 0
     clear hx hv hle;go_wp2_with fail;refine HLen.out.mono ?_;rintro r w2 ⟨rfl,b2⟩;have F2:=q0_ (Fr.b0 b2);obtain⟨⟨A,c,hb,ho⟩,_,_⟩:=HL.out.fr0 F2.out
     obtain⟨m,hm⟩:∃ m,l.length=m:=⟨_,rfl⟩
     rw[hm] at hb ho;have e1:=hb.cell 1;have e2:=hb.cell 2;have HO:=q0_ ho;have Hm:=q0_ hm;have RB:=q0_ (HRb.out.fr F2.out (fun h=>h));have y0:=RB.out.cell 0;have y1:=RB.out.cell 1;have z0:=RB.out.frozen 0;have z1:=RB.out.frozen 1;simp only[q1_,q2_,q3_] at y0 y1 e1 e2;have BELW:Below w.heap.size w w2:=HBel.out.trans (F2.out.below_of (by have:=HRb.out.lt;omega) q4_);clear b2 hb ho hm;go_wp2;refine bodyPost_ret (v:=.tuple #[.agg #[.string nm,.slice A m c],.int .i64 0,.int .i64 0]) ?_ rfl ⟨?_,?_⟩
     ·simp[results,results78,go_sem, *]
     ·rw[show zbS text=(0,0,nm,l) by rw[HPV.out,HPG.out]]
      refine⟨A,c,by rw[Hm.out],?_,?_,?_⟩
      ·rw[Hm.out]
       obtain⟨_,_,e0,h1,_⟩:=za5 HO.out
       cases e0
       exact h1
      ·rw[Hm.out]
       exact (Rd.of_own HO.out).fr (((Fr.refl (fun j=>j=w.heap.size) w2).setCell (p:=⟨w.heap.size,0,none⟩) (.inl rfl) _).setCell (p:=⟨w.heap.size,1,none⟩) (.inl rfl) _) (fun j hj e=>by have:=zq1 HO.out j (by rw[← Hm.out];rw[Hm.out];exact hj);omega)
      ·rw[Hm.out]
       exact zaT (zaf HO.out (((Fr.refl (fun j=>j=w.heap.size) w2).setCell (p:=⟨w.heap.size,0,none⟩) (.inl rfl) _).setCell (p:=⟨w.heap.size,1,none⟩) (.inl rfl) _) (fun j hj e=>by have:=(HO.out.lt j hj).1;omega)) (by omega)
     ·exact BELW.trans ((((Fr.refl (fun j=>j=w.heap.size) w2).setCell (p:=⟨w.heap.size,0,none⟩) (.inl rfl) _).setCell (p:=⟨w.heap.size,1,none⟩) (.inl rfl) _).below_of (by have:=RB.out.lt;omega) (fun j hj=>by omega))
    | some x=>
     have hlt:k<R.length:=(List.getElem?_eq_some_iff.1 hx).1
     have hv0:(0:Int)<v:=by omega
     have hv1:decide ((0:Int)<v)=true:=qa_ hv0;have hstep:=zkf (acc:=l) hx;have hpar:=hnf.out rfl;rw[hstep] at hpar
     have HPeek:Hid (∀ W,Fr (fun _=>False) wr W→Calls prog 122 #[.pointer (some ⟨b,0,none⟩)] W fun r w'=>r=.returned (.tuple #[.agg #[.string x.text,.int .i64 x.line,.int .i64 x.col],.bool true])∧Below W.heap.size W w'):=fun W f=>by
      have:=zeI b lo k R W (HL.out.words.fr0 f);rw[zfo hx] at this;exact this
     have hlp:1≤zil R k:=by
      unfold zil;have hk2:R.drop k=R[k]::R.drop (k+1):=List.drop_eq_getElem_cons hlt;rw[hk2];exact zeQ
     cases hTW:zfb (zgi R k) l with
     | none=>
      have HPG:Hid (zdL R=.inr x.line):=by show _=_;rw[hpar,hTW];rfl
      clear hx hv hstep hpar
      have l0:wr.cell? ⟨lb,0,none⟩=some (.pointer (some ⟨b,0,none⟩)):=by
       obtain⟨⟨A,c,hb,_⟩,_,_⟩:=HL.out;exact hb.cell 0
      go_wp2_with fail;refine HLen.out.mono ?_;rintro r w2 ⟨rfl,b2⟩;have HL23:=q0_ (Fr.b0 b2);have HPk:=q0_ (HPeek.out w2 HL23.out);have l0:w2.cell? ⟨lb,0,none⟩=some (.pointer (some ⟨b,0,none⟩)):=HL23.out.cell l0 (fun h=>h);clear b2;go_wp2_with fail;refine (HPk.out).mono ?_;rintro r w3 ⟨rfl,b3⟩;have F3:=q0_ (HL23.out.trans (Fr.b0 b3) q4_);have X3:Hid (Blk (w3.alloc (.cells #[.string x.text,.int .i64 x.line,.int .i64 x.col] 194)) w3.heap.size 194 #[.string x.text,.int .i64 x.line,.int .i64 x.col]):=Blk.new _ _ _;have x1:=X3.out.cell 1;simp only[q1_,q2_,q3_] at x1;have F4:Hid (Fr (fun _=>False) wr (w3.alloc (.cells #[.string x.text,.int .i64 x.line,.int .i64 x.col] 194))):=F3.out.trans (Fr.none_alloc _ _) q4_;have L4:=q0_ (HL.out.fr0 F4.out);have B4:Hid (Below w.heap.size w (w3.alloc (.cells #[.string x.text,.int .i64 x.line,.int .i64 x.col] 194))):=HBel.out.trans (F4.out.below_of (by have:=HRb.out.lt;omega) q4_);clear b3;go_wp2_with fail;have HTi:=q0_ (zjb lb b lo k R nm l _ L4.out hWS hl5.out);rw[hTW] at HTi;refine HTi.out.mono ?_;rintro r W5 ⟨h5,f5⟩;obtain rfl:=h5;have FRM:Hid (Fr (fun j=>lo≤j) wr W5):=(F4.out.mono q4_).trans f5 (fun j hj=>.inl hj);have BELW:Below w.heap.size w W5:=HBel.out.trans (FRM.out.below_of (by have:=HRb.out.lt;omega) (fun j hj=>by omega));have RB:=q0_ (HRb.out.fr FRM.out (fun h=>by omega));have y0:=RB.out.cell 0;have y1:=RB.out.cell 1;have z0:=RB.out.frozen 0;have z1:=RB.out.frozen 1;simp only[q1_,q2_,q3_] at y0 y1;go_wp2;refine bodyPost_ret (v:=.tuple #[.agg #[.string ByteArray.empty,.slice none 0 0],.int .i64 22,.int .i64 x.line]) ?_ rfl ⟨?_,?_⟩
      ·simp[results,results78,go_sem, *]
       first | done | rfl
      ·rw[show zbS text=(22,x.line,ByteArray.empty,[]) by rw[HPV.out,HPG.out]]
       exact zl0.zero _ _ _ _
      ·exact BELW.trans ((((Fr.refl (fun j=>j=w.heap.size) W5).setCell (p:=⟨w.heap.size,0,none⟩) (.inl rfl) _).setCell (p:=⟨w.heap.size,1,none⟩) (.inl rfl) _).below_of (by have:=RB.out.lt;omega) (fun j hj=>by omega))
     | some l'=>
      have HPG:Hid (zdL R=zsr nm (zb3 (R.length-(k+zil R k)) (R.drop (k+zil R k)) l')):=by show _=_;rw[hpar,hTW]
      have hl5':=znH hTW hl5.out;clear hx hv hstep hpar
      have l0:wr.cell? ⟨lb,0,none⟩=some (.pointer (some ⟨b,0,none⟩)):=by
       obtain⟨⟨A,c,hb,_⟩,_,_⟩:=HL.out;exact hb.cell 0
      go_wp2_with fail;refine HLen.out.mono ?_;rintro r w2 ⟨rfl,b2⟩;have HL23:=q0_ (Fr.b0 b2);have HPk:=q0_ (HPeek.out w2 HL23.out);have l0:w2.cell? ⟨lb,0,none⟩=some (.pointer (some ⟨b,0,none⟩)):=HL23.out.cell l0 (fun h=>h);clear b2;go_wp2_with fail;refine (HPk.out).mono ?_;rintro r w3 ⟨rfl,b3⟩;have F3:=q0_ (HL23.out.trans (Fr.b0 b3) q4_);have X3:Hid (Blk (w3.alloc (.cells #[.string x.text,.int .i64 x.line,.int .i64 x.col] 194)) w3.heap.size 194 #[.string x.text,.int .i64 x.line,.int .i64 x.col]):=Blk.new _ _ _;have x1:=X3.out.cell 1;simp only[q1_,q2_,q3_] at x1;have F4:Hid (Fr (fun _=>False) wr (w3.alloc (.cells #[.string x.text,.int .i64 x.line,.int .i64 x.col] 194))):=F3.out.trans (Fr.none_alloc _ _) q4_;have L4:=q0_ (HL.out.fr0 F4.out);have B4:Hid (Below w.heap.size w (w3.alloc (.cells #[.string x.text,.int .i64 x.line,.int .i64 x.col] 194))):=HBel.out.trans (F4.out.below_of (by have:=HRb.out.lt;omega) q4_);clear b3;go_wp2_with fail;have HTi:=q0_ (zjb lb b lo k R nm l _ L4.out hWS hl5.out);rw[hTW] at HTi;refine HTi.out.mono ?_;rintro r W5 ⟨⟨h5,hL5⟩,f5⟩;obtain rfl:=h5;have FRM:Hid (Fr (fun j=>lo≤j) wr W5):=(F4.out.mono q4_).trans f5 (fun j hj=>.inl hj);have BELW:Below w.heap.size w W5:=HBel.out.trans (FRM.out.below_of (by have:=HRb.out.lt;omega) (fun j hj=>by omega));have HL5:=q0_ hL5;clear hL5 f5;go_wp2
      go_roundw
      case rel=>exact⟨false,k+zil R k,nm,l',rfl,HL5.out,hl5',(fun h=>by cases h),(fun _=>HPG.out),HRb.out.fr FRM.out (fun h=>by omega),BELW⟩
      case measure=>
       rw[zd5 HL5.out.words,zd5 HL.out.words];omega
def zqT(V:Int×ByteArray×List za_)(lo:Nat)(r:Ending)(w':World):Prop:=∃ k,zl0 V.1 k V.2.1 V.2.2 lo r w'
theorem zhL{Q:List zao}{x:zao}(h:x∈zbl Q):x∈Q:=by
 have:=zis (R:=Q) (k:=0) (x:=x) h;exact this
theorem zfJ{N:Nat}:∀ (f:Nat) (Q:List zao) (acc l:List za_),(∀ x∈Q,x.text.size≤N)→(∀ t∈acc,t.name.size≤N)→zb3 f Q acc=.inl l→∀ t∈l,t.name.size≤N
 | 0,_,acc,l,_,ha,h=>by
  injection h with h
  subst h;exact ha
 | f+1,[],acc,l,_,ha,h=>by
  injection h with h
  subst h;exact ha
 | f+1,x::Q,acc,l,hq,ha,h=>by
  unfold zb3 at h
  cases ht:zfb ((zbl (x::Q)).map zao.text) acc with
  | none=>rw[ht] at h;cases h
  | some acc'=>
   rw[ht] at h;refine zfJ f _ acc' l (fun y hy=>hq y (List.mem_of_mem_drop hy)) (fun t hta=>?_) h;unfold zfb at ht
   split at ht
   ·rename_i hL
    split at ht
    ·injection ht with ht
     subst ht
     rcases List.mem_append.1 hta with hta | hta
     ·exact ha t hta
     ·rw[List.mem_singleton] at hta
      subst hta
      have hm:∀ z∈(zbl (x::Q)).map zao.text,z.size≤N:=fun z hz=>by
       obtain⟨y,hy,rfl⟩:=List.mem_map.1 hz;exact hq y (zhL hy)
      rw[hL] at hm;exact hm _ (by simp)
    ·cases ht
   ·cases ht
theorem zkC(text:ByteArray):(zbS text).2.2.1.size≤maxLen∧∀ t∈(zbS text).2.2.2,t.name.size≤maxLen:=by
 unfold zbS
 cases hV:zlM text with
 | inr ek=>
  obtain⟨e,k⟩:=ek;exact⟨by simp,fun t h=>by cases h⟩
 | inl R=>
  have hW:=zhT hV;simp only
  cases hP:zdL R with
  | inr k=>exact⟨by simp,fun t h=>by cases h⟩
  | inl p=>
   obtain⟨nm,l⟩:=p;simp only;unfold zdL at hP
   cases hh:zhd ((zbl R).map zao.text) with
   | none=>rw[hh] at hP;cases hP
   | some nm'=>
    rw[hh] at hP;simp only at hP
    cases ht:zb3 R.length (R.drop (zbl R).length) [] with
    | inr k=>rw[ht] at hP;cases hP
    | inl l'=>
     rw[ht] at hP
     injection hP with hP
     injection hP with h1 h2
     subst h1 h2;refine⟨?_,fun t hta=>?_⟩
     ·unfold zhd at hh
      split at hh
      ·rename_i hL
       split at hh
       ·injection hh with hh
        subst hh
        have hm:∀ z∈(zbl R).map zao.text,z.size≤4000:=fun z hz=>by
         obtain⟨y,hy,rfl⟩:=List.mem_map.1 hz;exact (hW.2 y (zhL hy)).1
        rw[hL] at hm;exact Nat.le_trans (hm _ (List.mem_cons_of_mem _ (List.mem_cons_self ..))) (by unfold maxLen;omega)
       ·cases hh
      ·cases hh
     ·have:=zfJ (N:=4000) _ _ _ _ (fun x hx=>(hW.2 x (List.mem_of_mem_drop hx)).1) (fun t h=>by cases h) ht t hta
      exact Nat.le_trans this (by unfold maxLen;omega)
theorem zig(text:ByteArray)(hs:text.size≤1099511627776)(w:World)(hmx:MaxL w):
  Calls prog 38 #[.string text] w fun r w'=>zqT (zaY text) w.heap.size r w'∧Below w.heap.size w w':=by
 have RB0:Hid (Blk (w.alloc (.cells #[.string ByteArray.empty,.slice none 0 0] 51)) w.heap.size 51 #[.string ByteArray.empty,.slice none 0 0]):=Blk.new _ _ _;have F0:Hid (Fr (fun _=>False) w (w.alloc (.cells #[.string ByteArray.empty,.slice none 0 0] 51))):=Fr.none_alloc _ _;have HP:=q0_ (zon text hs (w.alloc (.cells #[.string ByteArray.empty,.slice none 0 0] 51)) (hmx.fr F0.out (fun h=>h)));have HSz:=q0_ (zkC text)
 have hsz0:(w.alloc (.cells #[.string ByteArray.empty,.slice none 0 0] 51)).heap.size=w.heap.size+1:=by simp
 have HRV:Hid (zaY text=match zbS text with | (e,_,nm,l)=>if e=0 then (if zak nm l then (0,nm,l) else (23,ByteArray.empty,[])) else (e,ByteArray.empty,[])):=rfl
 obtain⟨⟨e,at_,nm,l⟩,hV⟩:∃ v,zbS text=v:=⟨_,rfl⟩
 rw[hV] at HP HSz HRV;clear hV;unfold zl0 at HP;dsimp only at HP
 obtain⟨n,hn⟩:∃ n,l.length=n:=⟨_,rfl⟩
 have HN:=q0_ hn
 by_cases he:e=0
 ·subst he
  rw[hn] at HP;go_enter func38,ntmps38;go_wp2_with fail;refine HP.out.mono ?_;rintro r w1 ⟨⟨A,c,rfl,hnc,hrd,had⟩,b1⟩;have RB1:=q0_ (RB0.out.below b1);have F1:=q0_ (F0.out.trans (Fr.b0 b1) q4_)
  have hw1:w.heap.size+1≤w1.heap.size:=by have:=b1.size;omega
  have Hrd:=q0_ hrd;have Had:=q0_ had;clear b1 hrd had;have X2:Hid (Blk (w1.alloc (.cells #[.string nm,.slice A n c] 51)) w1.heap.size 51 #[.string nm,.slice A n c]):=Blk.new _ _ _;have F2:Hid (Fr (fun _=>False) w1 (w1.alloc (.cells #[.string nm,.slice A n c] 51))):=Fr.none_alloc _ _;have HCk:=q0_ (zdV nm HSz.out.1 l A n c (w1.alloc (.cells #[.string nm,.slice A n c] 51)) (Hrd.out.fr0 F2.out) hnc HSz.out.2);unfold zfS at HCk;have x0:=X2.out.cell 0;have x1:=X2.out.cell 1;simp only[q1_,q2_,q3_] at x0 x1
  cases hck:zak nm l
  ·rw[hck] at HCk
   have hV:Hid (zaY text=(23,ByteArray.empty,[])):=by show _=_;rw[HRV.out];simp[hck]
   clear hck;go_wp2_with fail;refine HCk.out.mono ?_;rintro r w3 ⟨⟨kk,rfl⟩,b3⟩;have RB3:=q0_ ((RB1.out.fr F2.out (fun h=>h)).below b3);have BEL:Hid (Below w.heap.size w w3):=((F1.out.trans F2.out q4_).trans (Fr.b0 b3) q4_).below q4_;have y0:=RB3.out.cell 0;have yz0:=RB3.out.frozen 0;have y1:=RB3.out.cell 1;have yz1:=RB3.out.frozen 1;simp only[q1_,q2_,q3_] at y0 y1;clear b3 x0 x1;unfold zfw;go_wp2;refine bodyPost_ret (v:=.tuple #[.agg #[.string ByteArray.empty,.slice none 0 0],.int .i64 23,.int .i64 kk]) ?_ rfl ⟨?_,?_⟩
   ·simp[results,results38,go_sem, *]
    first | done | rfl
   ·rw[hV.out]
    exact⟨kk,zl0.zero _ _ _ _⟩
   ·exact BEL.out.trans ((((Fr.refl (fun j=>j=w.heap.size) w3).setCell (p:=⟨w.heap.size,0,none⟩) (.inl rfl) _).setCell (p:=⟨w.heap.size,1,none⟩) (.inl rfl) _).below_of (by have:=RB3.out.lt;omega) (fun j hj=>by omega))
  ·rw[hck] at HCk
   have hV:Hid (zaY text=(0,nm,l)):=by show _=_;rw[HRV.out];simp[hck]
   clear hck;go_wp2_with fail;refine HCk.out.mono ?_;rintro r w3 ⟨⟨kk,rfl⟩,b3⟩;have RB3:=q0_ ((RB1.out.fr F2.out (fun h=>h)).below b3);have F3:=q0_ (F2.out.trans (Fr.b0 b3) q4_);have BEL:Hid (Below w.heap.size w w3):=((F1.out.trans F2.out q4_).trans (Fr.b0 b3) q4_).below q4_;have X3:=q0_ (X2.out.below b3);clear x0 x1;have x0:=X3.out.cell 0;have x1:=X3.out.cell 1;have y0:=RB3.out.cell 0;have yz0:=RB3.out.frozen 0;have y1:=RB3.out.cell 1;have yz1:=RB3.out.frozen 1;simp only[q1_,q2_,q3_] at y0 y1 x0 x1;clear b3;unfold zfw;go_wp2;refine bodyPost_ret (v:=.tuple #[.agg #[.string nm,.slice A n c],.int .i64 0,.int .i64 0]) ?_ rfl ⟨?_,?_⟩
   ·simp[results,results38,go_sem, *]
   ·rw[hV.out]
    refine⟨0,A,c,by rw[HN.out],by rw[HN.out];exact hnc,?_,?_⟩
    ·rw[HN.out]
     exact (Hrd.out.fr0 F3.out).fr (((Fr.refl (fun j=>j=w.heap.size) w3).setCell (p:=⟨w.heap.size,0,none⟩) (.inl rfl) _).setCell (p:=⟨w.heap.size,1,none⟩) (.inl rfl) _) (fun j hj e=>by have:=zq1 Had.out j hj;omega)
    ·rw[HN.out]
     exact zaT (zaf (zac Had.out F3.out) (((Fr.refl (fun j=>j=w.heap.size) w3).setCell (p:=⟨w.heap.size,0,none⟩) (.inl rfl) _).setCell (p:=⟨w.heap.size,1,none⟩) (.inl rfl) _) (fun j hj e=>by have:=(Had.out.lt j hj).1;omega)) (by omega)
   ·exact BEL.out.trans ((((Fr.refl (fun j=>j=w.heap.size) w3).setCell (p:=⟨w.heap.size,0,none⟩) (.inl rfl) _).setCell (p:=⟨w.heap.size,1,none⟩) (.inl rfl) _).below_of (by have:=RB3.out.lt;omega) (fun j hj=>by omega))
 ·have he0:(e != 0)=true:=by simpa using he
  have hV:Hid (zaY text=(e,ByteArray.empty,[])):=by show _=_;rw[HRV.out];simp[he]
  rw[hn] at HP;go_enter func38,ntmps38;go_wp2_with fail;refine HP.out.mono ?_;rintro r w1 ⟨⟨A,c,rfl,hnc,hrd,had⟩,b1⟩;have RB1:=q0_ (RB0.out.below b1);have F1:=q0_ (F0.out.trans (Fr.b0 b1) q4_);have F2:Hid (Fr (fun _=>False) w1 (w1.alloc (.cells #[.string nm,.slice A n c] 51))):=Fr.none_alloc _ _;have RB3:=q0_ (RB1.out.fr F2.out (fun h=>h));have BEL:Hid (Below w.heap.size w (w1.alloc (.cells #[.string nm,.slice A n c] 51))):=(F1.out.trans F2.out q4_).below q4_;clear b1 hrd had;have y0:=RB3.out.cell 0;have yz0:=RB3.out.frozen 0;have y1:=RB3.out.cell 1;have yz1:=RB3.out.frozen 1;simp only[q1_,q2_,q3_] at y0 y1;go_wp2;refine bodyPost_ret (v:=.tuple #[.agg #[.string ByteArray.empty,.slice none 0 0],.int .i64 e,.int .i64 at_]) ?_ rfl ⟨?_,?_⟩
  ·simp[results,results38,go_sem, *]
   first | done | rfl
  ·rw[hV.out]
   exact⟨at_,zl0.zero _ _ _ _⟩
  ·exact BEL.out.trans ((((Fr.refl (fun j=>j=w.heap.size) _).setCell (p:=⟨w.heap.size,0,none⟩) (.inl rfl) _).setCell (p:=⟨w.heap.size,1,none⟩) (.inl rfl) _).below_of (by have:=RB3.out.lt;omega) (fun j hj=>by omega))
end Go.Proofs.YtjhhodndlkpmhaaGreatDoor
