/- Walks of agg: Valid, one, both (of none), Of (of one value), Put, Get. -/
import Derived.Test.YtjhhodndlkpmhaaGreatDoorPkBack
import Derived.Test.YtjhhodndlkpmhaaGreatDoorPolB
namespace Go.Proofs.YtjhhodndlkpmhaaGreatDoor
set_option linter.all false
set_option maxHeartbeats 4000000
set_option maxRecDepth 100000
open Go.RowKit Tryz
structure zaL where
 count:Int
 hi:Int
 lo:Int
 min:Int
 max:Int
def zaL.cells(a:zaL):List Value:=[.int .i64 a.count,.int .i64 a.hi,.int .u64 a.lo,.int .i64 a.min,.int .i64 a.max]
def zaL.val(a:zaL):Value:=.agg #[.int .i64 a.count,.int .i64 a.hi,.int .u64 a.lo,.int .i64 a.min,.int .i64 a.max]
def zbh(x:Int):Prop:= -9223372036854775808≤x∧x≤9223372036854775807
def zaL.wf(a:zaL):Prop:=zbh a.count∧zbh a.hi∧(0≤a.lo∧a.lo≤18446744073709551615)∧zbh a.min∧zbh a.max
def zaC(a:zaL):Bool:=decide (1≤a.count)&&decide (a.count≤4611686018427387904)&&decide (a.min≤a.max)
def zfF:zaL:=⟨0,0,0,0,0⟩
theorem zci(a:zaL)(w:World):Calls prog 154 #[a.val] w fun r w'=>r=.returned (.bool (zaC a))∧Below w.heap.size w w':=by
 obtain⟨c,h,l,m,x⟩:=a;unfold zaL.val zaC;have hb:Hid (Below w.heap.size w (w.alloc (.cells #[.int .i64 c,.int .i64 h,.int .u64 l,.int .i64 m,.int .i64 x] 125))):=((Own.start w).skip (Fr.none_alloc w _)).bel
 by_cases h1:1≤c
 ·by_cases h2:c≤4611686018427387904
  ·go_enter func154,ntmps154
   go_wp2_with fail
   all_goals (try go_quiet (fail))
   all_goals go_wp2_with fail
   all_goals (go_ret<;>exact⟨by simp[*],by first | exact hb.out | exact ((Own.start w).skip ((Fr.none_alloc w _).drewN _)).bel⟩)
  ·have h2':decide (c≤4611686018427387904)=false:=q9_ h2
   go_enter func154,ntmps154;go_wp2_with fail
   all_goals (try go_quiet (fail))
   all_goals go_wp2_with fail
   all_goals (go_ret<;>exact⟨by simp[*],by first | exact hb.out | exact ((Own.start w).skip ((Fr.none_alloc w _).drewN _)).bel⟩)
 ·have h1':decide (1≤c)=false:=q9_ h1
  go_enter func154,ntmps154;go_wp2_with fail
  all_goals (try go_quiet (fail))
  all_goals go_wp2_with fail
  all_goals (go_ret<;>exact⟨by simp[*],by first | exact hb.out | exact ((Own.start w).skip ((Fr.none_alloc w _).drewN _)).bel⟩)
def zbd(v:Int):zaL:=⟨1,v / 9223372036854775808,v%18446744073709551616,v,v⟩
theorem zrt(v:Int)(hv:zbh v)(w:World):Calls prog 139 #[.int .i64 v] w fun r w'=>r=.returned (zbd v).val∧Below w.heap.size w w':=by
 obtain⟨h0,h1⟩:=hv
 have hu:IntKind.u64.wrap v=v%18446744073709551616:=by simp[IntKind.wrap,IntKind.signed,IntKind.bits]
 unfold zaL.val zbd;go_enter func139,ntmps139;go_wp2;refine bodyPost_ret (v:=.agg #[.int .i64 1,.int .i64 (v / 9223372036854775808),.int .u64 (v%18446744073709551616),.int .i64 v,.int .i64 v]) ?_ rfl ⟨rfl,((Own.start w).skip (Fr.none_alloc w _)).bel⟩;simp[results,results139,go_sem]
theorem zjQ(a b:zaL)(ha:a.count=0)(w:World):Calls prog 138 #[a.val,b.val] w fun r w'=>r=.returned b.val∧Below w.heap.size w w':=by
 obtain⟨c,h,l,m,x⟩:=a;obtain⟨c',h',l',m',x'⟩:=b;simp only at ha;subst ha;unfold zaL.val;go_enter func138,ntmps138;go_wp2;refine bodyPost_ret (v:=.agg #[.int .i64 c',.int .i64 h',.int .u64 l',.int .i64 m',.int .i64 x']) ?_ rfl ⟨rfl,((((Own.start w).skip (Fr.none_alloc w _)).skip (Fr.none_alloc _ _)).skip (Fr.none_alloc _ _)).bel⟩;simp[results,results138,go_sem]
theorem zjk(v:Int)(hv:zbh v)(A:Option Addr)(c:Nat)(w:World)(hr:Rd w 1 A 1 [.int .i64 v]):
  Calls prog 90 #[.slice A 1 c] w fun r w'=>r=.returned (zbd v).val∧Below w.heap.size w w':=by
 have H1:Hid (∀ w',Calls prog 139 #[.int .i64 v] w' fun r w''=>r=.returned (zbd v).val∧Below w'.heap.size w' w''):=fun w'=>zrt v hv w';have H2:Hid (∀ w',Calls prog 138 #[zfF.val,(zbd v).val] w' fun r w''=>r=.returned (zbd v).val∧Below w'.heap.size w' w''):=fun w'=>zjQ zfF (zbd v) rfl w';obtain⟨ad,rfl,hc⟩:=hr.2 (by decide);have c0:=hc 0 _ rfl
 have c0':w.cell? ad=some (.int .i64 v):=by have:=c0;simp only[Addr.add,if_true] at this;exact this
 have c2:=fun o1 o2=>(Fr.none_alloc (w.alloc o1) o2).cell ((Fr.none_alloc w o1).cell c0' (fun h=>h)) (fun h=>h);clear hr hc c0 hv c0';unfold zaL.val zbd zfF at H2;unfold zaL.val zbd at H1;unfold zaL.val zbd
 obtain⟨h,hh⟩:∃ h,v / 9223372036854775808=h:=⟨_,rfl⟩
 obtain⟨l,hl⟩:∃ l,v%18446744073709551616=l:=⟨_,rfl⟩
 rw[hh,hl] at H1 H2;rw[hh,hl];clear hh hl;simp only at H1 H2;go_enter func90,ntmps90;go_wp2_with fail;refine wp_loop_rounds 2 ?_;rw[rounds_succ];go_wp2_with fail
 obtain⟨W1,hW1⟩:∃ W1,W1=(w.alloc (.cells #[.int .i64 0,.int .i64 0,.int .u64 0,.int .i64 0,.int .i64 0] 125)).alloc (.cells #[.int .i64 0,.int .i64 0,.int .u64 0,.int .i64 0,.int .i64 0] 125):=⟨_,rfl⟩
 rw[← hW1];have b0:Blk W1 w.heap.size 125 #[.int .i64 0,.int .i64 0,.int .u64 0,.int .i64 0,.int .i64 0]:=hW1▸(Blk.new _ _ _).alloc _;have b1:Blk W1 (w.heap.size+1) 125 #[.int .i64 0,.int .i64 0,.int .u64 0,.int .i64 0,.int .i64 0]:=hW1▸Blk.new' (by simp) _ _;have o1:Own w W1 (fun _=>False):=hW1▸((Own.start w).skip (Fr.none_alloc _ _)).skip (Fr.none_alloc _ _);have B0:=q0_ b0;have B1:=q0_ b1;have O1:=q0_ o1;clear b0 b1 o1 hW1 c2
 have HS:Hid (∀ w',Fr (fun _=>False) W1 w'→(w'.cell? ⟨w.heap.size+1,0,none⟩=some (.int .i64 0)∧w'.cell? ⟨w.heap.size+1,1,none⟩=some (.int .i64 0)∧w'.cell? ⟨w.heap.size+1,2,none⟩=some (.int .u64 0)∧w'.cell? ⟨w.heap.size+1,3,none⟩=some (.int .i64 0)∧w'.cell? ⟨w.heap.size+1,4,none⟩=some (.int .i64 0))∧(w'.frozen? ⟨w.heap.size+1,0,none⟩=false∧w'.frozen? ⟨w.heap.size+1,1,none⟩=false∧w'.frozen? ⟨w.heap.size+1,2,none⟩=false∧w'.frozen? ⟨w.heap.size+1,3,none⟩=false∧w'.frozen? ⟨w.heap.size+1,4,none⟩=false)):=
  fun w' h=>by
   have b:=B1.out.fr h (fun h=>h);exact⟨⟨b.cell 0,b.cell 1,b.cell 2,b.cell 3,b.cell 4⟩,b.frozen 0,b.frozen 1,b.frozen 2,b.frozen 3,b.frozen 4⟩
 obtain⟨⟨a0,a1,a2,a3,a4⟩,_⟩:=HS.out W1.drew ((Fr.refl _ _).drew);have F0:Fr (fun _=>False) W1 W1.drew:=(Fr.refl _ _).drew
 go_region_with (first | (go_at_call 139;refine (H1.out _).mono ?_;rintro r w5 ⟨rfl,b5⟩;have f5:=F0.trans (Fr.b0 b5) q4_;clear b5;clear a0 a1 a2 a3 a4;obtain⟨⟨a0,a1,a2,a3,a4⟩,_⟩:=HS.out w5 f5) | (go_at_call 138;refine (H2.out _).mono ?_;rintro r w6 ⟨rfl,b6⟩;have f6:=f5.trans (Fr.b0 b6) q4_;clear b6;clear a0 a1 a2 a3 a4;obtain⟨⟨a0,a1,a2,a3,a4⟩,g0,g1,g2,g3,g4⟩:=HS.out w6 f6))
 all_goals
  obtain⟨W2,hW2⟩:∃ W2,W2=((((w6.setCell ⟨w.heap.size+1,0,none⟩ (.int .i64 1)).setCell ⟨w.heap.size+1,1,none⟩ (.int .i64 h)).setCell ⟨w.heap.size+1,2,none⟩ (.int .u64 l)).setCell ⟨w.heap.size+1,3,none⟩ (.int .i64 v)).setCell ⟨w.heap.size+1,4,none⟩ (.int .i64 v):=⟨_,rfl⟩
  rw[← hW2];have B2:Blk W2 (w.heap.size+1) 125 #[.int .i64 1,.int .i64 h,.int .u64 l,.int .i64 v,.int .i64 v]:=hW2▸(B1.out.fr f6 (fun h=>h)).set5;have F2:Fr (fun k=>k=w.heap.size+1) W1 W2:=hW2▸Fr.set5 (F:=fun k=>k=w.heap.size+1) (g:=w.heap.size+1) (f6.mono q4_) (.inl rfl) _ _ _ _ _;have R2:=B0.out.fr F2 (by omega);have O2:=q0_ ((O1.out.also (G:=fun k=>k=w.heap.size+1) (fun k hk=>by omega)).fr F2);clear a0 a1 a2 a3 a4 g0 g1 g2 g3 g4 hW2 F0 f5 f6 F2;have a0:=B2.cell 0;have a1:=B2.cell 1;have a2:=B2.cell 2;have a3:=B2.cell 3;have a4:=B2.cell 4;have b0:=R2.cell 0;have b1:=R2.cell 1;have b2:=R2.cell 2;have b3:=R2.cell 3;have b4:=R2.cell 4;have g0:=R2.frozen 0;have g1:=R2.frozen 1;have g2:=R2.frozen 2;have g3:=R2.frozen 3;have g4:=R2.frozen 4;simp only[q1_,q2_,q3_] at a0 a1 a2 a3 a4 b0 b1 b2 b3 b4;clear B2 R2;go_wp2_with fail
  try rw[rounds_succ]
  go_wp2_with fail;have o3:=(O2.out.also (G:=fun k=>k=w.heap.size) (fun k hk=>by omega)).fr (Fr.set5 (F:=fun k=>k=w.heap.size) (g:=w.heap.size) (Fr.refl _ W2) (.inl rfl) (.int .i64 1) (.int .i64 h) (.int .u64 l) (.int .i64 v) (.int .i64 v));refine bodyPost_ret (v:=.agg #[.int .i64 1,.int .i64 h,.int .u64 l,.int .i64 v,.int .i64 v]) ?_ rfl ⟨rfl,o3.bel⟩;simp[results,results90,go_sem, *]
def zpp(a:zaL):List UInt8:=le8 [a.count,a.hi]++le a.lo.toNat 8++le8 [a.min,a.max]
theorem ziG(a:zaL):(zpp a).length=40:=by simp[zpp,zdr,zaQ]
theorem zng(a:zaL)(ha:a.wf)(w:World):
  Calls prog 117 #[a.val] w fun r w'=>r=.returned (bif zaC a then .tuple #[.string (zal (zpp a)),.int .i64 0] else .tuple #[.string {data:=#[]},.int .i64 1])∧Below w.heap.size w w':=by
 have HV:Hid (∀ w',Calls prog 154 #[a.val] w' fun r w''=>r=.returned (.bool (zaC a))∧Below w'.heap.size w' w''):=fun w'=>zci a w';obtain⟨c,h,l,m,x⟩:=a;have Ha:=q0_ ha;clear ha
 cases hk:zaC ⟨c,h,l,m,x⟩
 ·rw[hk] at HV
  clear hk;unfold zaL.val at HV ⊢;go_enter func117,ntmps117;go_wp2_with fail;refine (HV.out _).mono ?_;rintro r w1 ⟨rfl,b1⟩;have O1:=q0_ (((Own.start w).skip (Fr.none_alloc w (.cells #[.int .i64 c,.int .i64 h,.int .u64 l,.int .i64 m,.int .i64 x] 125))).below b1);clear b1;go_wp2
  go_ret2
  exact⟨rfl,O1.out.bel⟩
 ·rw[hk] at HV
  clear hk;unfold zaL.val at HV ⊢;have B0:=q0_ (Blk.new w 125 #[.int .i64 c,.int .i64 h,.int .u64 l,.int .i64 m,.int .i64 x]);go_enter func117,ntmps117;go_wp2_with fail;refine (HV.out _).mono ?_;rintro r w1 ⟨rfl,b1⟩;have O1:=q0_ (((Own.start w).skip (Fr.none_alloc w (.cells #[.int .i64 c,.int .i64 h,.int .u64 l,.int .i64 m,.int .i64 x] 125))).below b1);have B1:=q0_ (B0.out.below b1);have c0:=fun o=>(B1.out.alloc o).cell 0;have c1:=fun o=>(B1.out.alloc o).cell 1;simp only[q1_,q2_,q3_] at c0 c1;clear b1;go_wp2_with fail;have p0:=(Pk.new w1).1;have q0:=((Own.start w1).skip (Fr.none_alloc w1 (.cells #[.int .i64 0,.slice none 0 0] 63))).also (Pk.new w1).2;refine (zeM _ _ 0 [] [c,h] _ 2 2 _ (p0.fr (Fr.none_alloc _ _) (fun _ _ h=>h)) (Rd.new' (by simp) _ _ _ rfl) (zlZ (by simp) p0.lt) (by simp)).mono ?_;rw[show pW 0 [] (le8 [c,h])=le8 [c,h] from rfl];rintro r w2 ⟨rfl,F1,p1,m1⟩;have Q1:=q0_ ((q0.skip (Fr.none_alloc _ _)).mv m1);have P1:=q0_ p1;clear p0 q0 m1 p1 c0 c1;have c2:=(B1.out.below Q1.out.bel).cell 2;simp only[q1_,q2_,q3_] at c2;go_wp2_with fail;refine (zf8 _ _ 0 _ [l] _ 1 1 _ (P1.out.fr (Fr.none_alloc _ _) (fun _ _ h=>h)) (Rd.new _ _ _ _ rfl) (zew P1.out.lt) (by have:=Ha.out.2.2.1.1;simpa using this) (by simp[zdr])).mono ?_;rw[zkD];rintro r w3 ⟨rfl,F2,p2,m2⟩;have Q2:=q0_ ((Q1.out.skip (Fr.none_alloc _ _)).mv m2);have P2:=q0_ p2;clear m2 p2 c2 P1 Q1;have c3:=(B1.out.below Q2.out.bel).cell 3;have c4:=(B1.out.below Q2.out.bel).cell 4;simp only[q1_,q2_,q3_] at c3 c4;go_wp2_with fail;refine (zeM _ _ 0 _ [m,x] _ 2 2 _ (P2.out.fr (Fr.none_alloc _ _) (fun _ _ h=>h)) (Rd.new _ _ _ _ rfl) (zew P2.out.lt) (by simp[zdr,zaQ])).mono ?_;rw[zkD];rintro r w4 ⟨rfl,F3,p3,m3⟩;have Q3:=q0_ ((Q2.out.skip (Fr.none_alloc _ _)).mv m3);have P3:=q0_ p3;clear m3 p3 c3 c4 P2 Q2;have HD:=q0_ (zoX w1.heap.size F3 (zpp ⟨c,h,l,m,x⟩) _ w4 (by have:=P3.out;simpa[zpp] using this) rfl);go_wp2_with fail;refine (HD.out).mono ?_;rintro r w5 ⟨rfl,rfl⟩;have O5:=q0_ (O1.out.below Q3.out.bel);clear HD;go_wp2
  go_ret2
  exact⟨rfl,O5.out.bel⟩
def ziF(l:List UInt8):zaL:=⟨sgn (zbE (l.take 8)),sgn (zbE ((l.drop 8).take 8)),zbE ((l.drop 16).take 8),sgn (zbE ((l.drop 24).take 8)),sgn (zbE ((l.drop 32).take 8))⟩
def zcV(l:List UInt8):zaL×Int:=if l.length=40 then (bif zaC (ziF l) then (ziF l,0) else (zfF,6)) else (zfF,5)
theorem zh5{b:List UInt8}{n:Nat}(h:n≤b.length):zay 0 b n=(0,b.drop n,b.take n):=by
 unfold zay;rw[if_pos rfl,if_neg (by omega)]
theorem znh(l:List UInt8)(hl:l.length≤1099511627776)(w:World):
  Calls prog 141 #[.string (zal l)] w fun r w'=>r=.returned (.tuple #[(zcV l).1.val,.int .i64 (zcV l).2])∧Below w.heap.size w w':=by
 have hz:=zam l
 by_cases h40:l.length=40
 ·unfold zcV
  rw[if_pos h40]
  have hz2:((zal l).size:Int)=40:=by omega
  have HV:Hid (∀ w',Calls prog 154 #[(ziF l).val] w' fun r w''=>r=.returned (.bool (zaC (ziF l)))∧Below w'.heap.size w' w''):=fun w'=>zci (ziF l) w';have HF:Hid (∀ w',Calls prog 49 #[.string (zal l)] w' fun r w''=>∃ g,r=.returned (.pointer (some ⟨g,0,none⟩))∧Up w'' g 0 l∧Below w'.heap.size w' w''∧w'.heap.size≤g):=fun w'=>zeS l w' hl
  have HI:Hid (∀ (g k:Nat) w',k+8≤40→Up w' g 0 (l.drop k)→Calls prog 99 #[.pointer (some ⟨g,0,none⟩)] w' fun r w''=>r=.returned (.int .i64 (sgn (zbE ((l.drop k).take 8))))∧Up w'' g 0 (l.drop (k+8))∧Fr (fun j=>j=g) w' w''):=fun g k w' hk h=>by
   have:=zkR g 0 (l.drop k) w' h (by rw[List.length_drop];omega);rw[zh5 (by rw[List.length_drop];omega),List.drop_drop] at this;exact this
  have HW:Hid (∀ (g k:Nat) w',k+8≤40→Up w' g 0 (l.drop k)→Calls prog 98 #[.pointer (some ⟨g,0,none⟩)] w' fun r w''=>r=.returned (.int .u64 (zbE ((l.drop k).take 8)))∧Up w'' g 0 (l.drop (k+8))∧Fr (fun j=>j=g) w' w''):=fun g k w' hk h=>by
   have:=zh3 g 0 (l.drop k) w' h (by rw[List.length_drop];omega);rw[zh5 (by rw[List.length_drop];omega),List.drop_drop] at this;exact this
  obtain⟨S,hS⟩:∃ S,zal l=S:=⟨_,rfl⟩
  rw[hS] at hz2 HF ⊢;have H1:=q0_ (fun g w' h=>HI.out g 0 w' (by decide) h);have H2:=q0_ (fun g w' h=>HI.out g 8 w' (by decide) h);have H3:=q0_ (fun g w' h=>HW.out g 16 w' (by decide) h);have H4:=q0_ (fun g w' h=>HI.out g 24 w' (by decide) h);have H5:=q0_ (fun g w' h=>HI.out g 32 w' (by decide) h);have hof:ziF l=⟨sgn (zbE ((l.drop 0).take 8)),sgn (zbE ((l.drop 8).take 8)),zbE ((l.drop 16).take 8),sgn (zbE ((l.drop 24).take 8)),sgn (zbE ((l.drop 32).take 8))⟩:=rfl
  obtain⟨v1,e1⟩:∃ v,sgn (zbE ((l.drop 0).take 8))=v:=⟨_,rfl⟩
  obtain⟨v2,e2⟩:∃ v,sgn (zbE ((l.drop 8).take 8))=v:=⟨_,rfl⟩
  obtain⟨v3,e3⟩:∃ v:Int,(zbE ((l.drop 16).take 8):Int)=v:=⟨_,rfl⟩
  obtain⟨v4,e4⟩:∃ v,sgn (zbE ((l.drop 24).take 8))=v:=⟨_,rfl⟩
  obtain⟨v5,e5⟩:∃ v,sgn (zbE ((l.drop 32).take 8))=v:=⟨_,rfl⟩
  rw[e1] at H1;rw[e2] at H2;rw[e3] at H3;rw[e4] at H4;rw[e5] at H5;rw[e1,e2,e3,e4,e5] at hof;rw[hof] at HV ⊢;clear HI HW e1 e2 e3 e4 e5 hof;unfold zaL.val at HV ⊢;clear hz h40 hS hl;go_enter func141,ntmps141;go_wp2_with fail;refine (HF.out _).mono ?_;rintro r w1 ⟨g,rfl,u1,b1,hg⟩;have B1:=q0_ ((Blk.new w 125 #[.int .i64 0,.int .i64 0,.int .u64 0,.int .i64 0,.int .i64 0]).below b1)
  have hgn:Hid (w.heap.size<g):=by have h:=hg;simp at h;exact h
  have O1:=q0_ ((((Own.start w).skip (Fr.none_alloc w (.cells #[.int .i64 0,.int .i64 0,.int .u64 0,.int .i64 0,.int .i64 0] 125))).below b1).also (G:=fun j=>j=g) (fun j hj=>by have:=hgn.out;omega));have U1:=q0_ (show Up w1 g 0 (l.drop 0) from u1);clear u1 b1 hg HF;go_wp2_with fail;refine (H1.out g w1 U1.out).mono ?_;rintro r w2 ⟨rfl,u2,f2⟩;have U2:=q0_ u2;have B2:=q0_ (B1.out.fr f2 (by have:=hgn.out;omega));have O2:=q0_ (O1.out.fr f2);clear u2 f2 U1 B1 O1;go_wp2_with fail;refine (H2.out g w2 U2.out).mono ?_;rintro r w3 ⟨rfl,u3,f3⟩;have U3:=q0_ u3;have B3:=q0_ (B2.out.fr f3 (by have:=hgn.out;omega));have O3:=q0_ (O2.out.fr f3);clear u3 f3 U2 B2 O2;go_wp2_with fail;refine (H3.out g w3 U3.out).mono ?_;rintro r w4 ⟨rfl,u4,f4⟩;have U4:=q0_ u4;have B4:=q0_ (B3.out.fr f4 (by have:=hgn.out;omega));have O4:=q0_ (O3.out.fr f4);clear u4 f4 U3 B3 O3;go_wp2_with fail;refine (H4.out g w4 U4.out).mono ?_;rintro r w5 ⟨rfl,u5,f5⟩;have U5:=q0_ u5;have B5:=q0_ (B4.out.fr f5 (by have:=hgn.out;omega));have O5:=q0_ (O4.out.fr f5);clear u5 f5 U4 B4 O4;go_wp2_with fail;refine (H5.out g w5 U5.out).mono ?_;rintro r w6 ⟨rfl,u6,f6⟩;have U6:=q0_ u6;have B6:=q0_ (B5.out.fr f6 (by have:=hgn.out;omega));have O6:=q0_ (O5.out.fr f6);clear u6 f6 U5 B5 O5;go_wp2_with fail;refine (HV.out _).mono ?_;rintro r w7 ⟨rfl,b7⟩;clear HV H1 H2 H3 H4 H5;have C7:=q0_ ((Blk.new w6 125 #[.int .i64 v1,.int .i64 v2,.int .u64 v3,.int .i64 v4,.int .i64 v5]).below b7);have B7:=q0_ ((B6.out.alloc (.cells #[.int .i64 v1,.int .i64 v2,.int .u64 v3,.int .i64 v4,.int .i64 v5] 125)).below b7);have O7:=q0_ ((O6.out.skip (Fr.none_alloc w6 (.cells #[.int .i64 v1,.int .i64 v2,.int .u64 v3,.int .i64 v4,.int .i64 v5] 125))).below b7);have a0:=C7.out.cell 0;have a1:=C7.out.cell 1;have a2:=C7.out.cell 2;have a3:=C7.out.cell 3;have a4:=C7.out.cell 4;have b0:=B7.out.cell 0;have b1:=B7.out.cell 1;have b2:=B7.out.cell 2;have b3:=B7.out.cell 3;have b4:=B7.out.cell 4;have g0:=B7.out.frozen 0;have g1:=B7.out.frozen 1;have g2:=B7.out.frozen 2;have g3:=B7.out.frozen 3;have g4:=B7.out.frozen 4;simp only[q1_,q2_,q3_] at a0 a1 a2 a3 a4 b0 b1 b2 b3 b4;clear b7 U6 O6 B6
  cases hk:zaC ⟨v1,v2,v3,v4,v5⟩
  all_goals have Hk:=q0_ hk
  all_goals clear hk
  ·have o3:=(O7.out.also (G:=fun k=>k=w.heap.size) (fun k hk=>by omega)).fr (Fr.set5 (F:=fun k=>k=w.heap.size) (g:=w.heap.size) (Fr.refl _ w7) (.inl rfl) (.int .i64 0) (.int .i64 0) (.int .u64 0) (.int .i64 0) (.int .i64 0))
   have O8:=q0_ o3;clear o3;go_wp2;refine bodyPost_ret (v:=.tuple #[.agg #[.int .i64 0,.int .i64 0,.int .u64 0,.int .i64 0,.int .i64 0],.int .i64 6]) ?_ rfl ⟨by rw[Hk.out];rfl,O8.out.bel⟩;simp[results,results141,go_sem, *]
  ·have o3:=(O7.out.also (G:=fun k=>k=w.heap.size) (fun k hk=>by omega)).fr (Fr.set5 (F:=fun k=>k=w.heap.size) (g:=w.heap.size) (Fr.refl _ w7) (.inl rfl) (.int .i64 v1) (.int .i64 v2) (.int .u64 v3) (.int .i64 v4) (.int .i64 v5))
   have O8:=q0_ o3;clear o3;go_wp2;refine bodyPost_ret (v:=.tuple #[.agg #[.int .i64 v1,.int .i64 v2,.int .u64 v3,.int .i64 v4,.int .i64 v5],.int .i64 0]) ?_ rfl ⟨by rw[Hk.out];rfl,O8.out.bel⟩;simp[results,results141,go_sem, *]
 ·unfold zcV zaL.val zfF
  rw[if_neg h40]
  have hz2:(((zal l).size:Int) != 40)=true:=by simp;omega
  obtain⟨S,hS⟩:∃ S,zal l=S:=⟨_,rfl⟩
  rw[hS] at hz2 ⊢;clear hz h40 hS hl;have O1:=q0_ ((((Own.start w).skip (Fr.none_alloc w (.cells #[.int .i64 0,.int .i64 0,.int .u64 0,.int .i64 0,.int .i64 0] 125)))).bel);go_enter func141,ntmps141;go_wp2;refine bodyPost_ret (v:=.tuple #[.agg #[.int .i64 0,.int .i64 0,.int .u64 0,.int .i64 0,.int .i64 0],.int .i64 5]) ?_ rfl ⟨rfl,O1.out⟩;simp[results,results141,go_sem]
structure zae where
 name:ByteArray
 start:Int
 agg:zaL
def zae.cells(r:zae):List Value:=[.string r.name,.int .i64 r.start,.int .i64 r.agg.count,.int .i64 r.agg.hi,.int .u64 r.agg.lo,.int .i64 r.agg.min,.int .i64 r.agg.max]
def zae.val(r:zae):Value:=.agg #[.string r.name,.int .i64 r.start,.int .i64 r.agg.count,.int .i64 r.agg.hi,.int .u64 r.agg.lo,.int .i64 r.agg.min,.int .i64 r.agg.max]
def zae.wf(r:zae):Prop:=zbh r.start∧r.agg.wf∧r.name.size≤maxLen
def zf_(t:Int):Bool:=decide (0≤t)&&decide (t≤1099511627776)
def za0(r:zae):Bool:=zaD r.name&&zf_ r.start&&zaC r.agg
theorem zpL(t:Int)(w:World):
  Calls prog 153 #[.int .i64 t] w fun r w'=>r=.returned (.bool (zf_ t))∧w=w':=by
 by_cases h1:0≤t
 ·by_cases h2:t≤1099511627776
  ·rw[show zf_ t=true by simp[zf_,h1,h2]]
   go_enter func153,ntmps153;go_wp2_with fail
   all_goals (go_ret<;>simp[*])
  ·rw[show zf_ t=false by simp[zf_,h2]]
   go_enter func153,ntmps153;go_wp2_with fail
   all_goals (go_ret<;>simp[*])
 ·rw[show zf_ t=false by simp[zf_,h1]]
  go_enter func153,ntmps153;go_wp2_with fail
  all_goals (go_ret<;>simp[*])
theorem zi7(r:zae)(hn:r.name.size≤maxLen)(w:World):
  Calls prog 116 #[r.val] w fun e w'=>e=.returned (.bool (za0 r))∧Below w.heap.size w w':=by
 have HT:=q0_ (fun w'=>zpL r.start w');have HV:=q0_ (fun w'=>zci r.agg w');have HN:Hid (∀ (k c:Nat) (w':World) (t:TypeId),k=w'.heap.size→Calls prog 125 #[.slice (some ⟨k,0,none⟩) 1 c] (w'.alloc (.cells #[.string r.name] t)) fun e w''=>e=.returned (.bool (zaD r.name))∧w'.alloc (.cells #[.string r.name] t)=w''):=fun k c w' t hk=>zbV r.name hn k c w' t hk;have hok:Hid (za0 r=(zaD r.name&&zf_ r.start&&zaC r.agg)):=rfl;obtain⟨nm,st,c,h,l,m,x⟩:=r;unfold zae.val;unfold zaL.val at HV;have B0:=q0_ (Blk.new w 127 #[.string nm,.int .i64 st,.int .i64 c,.int .i64 h,.int .u64 l,.int .i64 m,.int .i64 x]);have O:=q0_ ((Own.start w).skip (Fr.none_alloc w (.cells #[.string nm,.int .i64 st,.int .i64 c,.int .i64 h,.int .u64 l,.int .i64 m,.int .i64 x] 127)));simp only at HT HV HN hok;clear hn;go_enter func116,ntmps116;go_wp2_with fail;refine (HN.out _ _ _ _ (by simp)).mono ?_;rintro e w1 ⟨rfl,rfl⟩;have B1:=q0_ (B0.out.alloc (.cells #[.string nm] 9));have O1:=q0_ (O.out.skip (Fr.none_alloc _ (.cells #[.string nm] 9)));have b1:=B1.out.cell 1;have b2:=B1.out.cell 2;have b3:=B1.out.cell 3;have b4:=B1.out.cell 4;have b5:=B1.out.cell 5;have b6:=B1.out.cell 6;simp only[q1_,q2_,q3_] at b1 b2 b3 b4 b5 b6
 cases hv:zaD nm
 ·have Hok:Hid (za0 ⟨nm,st,⟨c,h,l,m,x⟩⟩=false):=by have:=hok.out;rw[hv,Bool.false_and,Bool.false_and] at this;exact this
  clear hv hok;go_wp2;go_ret;exact⟨by rw[Hok.out];rfl,O1.out.bel⟩
 ·cases ht:zf_ st
  ·have Hok:Hid (za0 ⟨nm,st,⟨c,h,l,m,x⟩⟩=false):=by have:=hok.out;rw[ht,Bool.and_false,Bool.false_and] at this;exact this
   rw[ht] at HT;clear hv hok ht;go_wp2_with fail;refine (HT.out _).mono ?_;rintro e w2 ⟨rfl,rfl⟩;go_wp2;go_ret;exact⟨by rw[Hok.out];rfl,O1.out.bel⟩
  ·have Hok:Hid (za0 ⟨nm,st,⟨c,h,l,m,x⟩⟩=zaC ⟨c,h,l,m,x⟩):=by have:=hok.out;rw[hv,ht,Bool.true_and,Bool.true_and] at this;exact this
   rw[ht] at HT;clear hv hok ht;go_wp2_with fail;refine (HT.out _).mono ?_;rintro e w2 ⟨rfl,rfl⟩;go_wp2_with fail;refine (HV.out _).mono ?_;rintro e w3 ⟨rfl,b⟩;have O3:=q0_ (O1.out.below b);clear b b1 b2 b3 b4 b5 b6;go_wp2;go_ret;exact⟨by rw[Hok.out];rfl,O3.out.bel⟩
def zdD(r:zae):List UInt8:=ze_ r.name++le8 [r.start]++zpp r.agg
theorem zfW(r:zae)(h:r.name.size≤15):(zdD r).length=64:=by simp[zdD,zdO _ h,zdr,ziG]
theorem zdu(a b:List UInt8):zal a++zal b=zal (a++b):=by
 simp[zal,ByteArray.ext_iff]
theorem zdE{s:ByteArray}(h:zaD s=true):s.size≤15:=by
 rcases Nat.lt_or_ge 15 s.size with h1 | h1
 ·rw[zg_ h1] at h;cases h
 ·exact h1
theorem zmD{l:List UInt8}{s:ByteArray}(h:s.size≤15):zdM 0 l [s]=(0,l++ze_ s):=by
 simp only[zdM];simp;omega
theorem zoj(r:zae)(hr:r.wf)(w:World):
  Calls prog 75 #[r.val] w fun e w'=>e=.returned (bif za0 r then .tuple #[.string (zal (zdD r)),.int .i64 0] else .tuple #[.string {data:=#[]},.int .i64 1])∧Below w.heap.size w w':=by
 have HV:=q0_ (fun w'=>zi7 r hr.2.2 w');have HP:=q0_ (fun w'=>zng r.agg hr.2.1 w')
 cases hk:za0 r
 ·rw[hk] at HV
  obtain⟨nm,st,c,h,l,m,x⟩:=r;clear hk HP hr;unfold zae.val at HV ⊢;go_enter func75,ntmps75;go_wp2_with fail;refine (HV.out _).mono ?_;rintro r w1 ⟨rfl,b1⟩;have O1:=q0_ (((Own.start w).skip (Fr.none_alloc w (.cells #[.string nm,.int .i64 st,.int .i64 c,.int .i64 h,.int .u64 l,.int .i64 m,.int .i64 x] 127))).below b1);clear b1;go_wp2
  go_ret2
  exact⟨rfl,O1.out.bel⟩
 ·rw[hk] at HV
  have hok:zaD r.name=true∧zf_ r.start=true∧zaC r.agg=true:=by unfold za0 at hk;simp only[Bool.and_eq_true] at hk;exact⟨hk.1.1,hk.1.2,hk.2⟩
  rw[hok.2.2] at HP;have Hnm:=q0_ (zdE hok.1);have HB:Hid (zdD r=(ze_ r.name++le8 [r.start])++zpp r.agg):=rfl;obtain⟨nm,st,c,h,l,m,x⟩:=r;clear hk hr hok;unfold zae.val at HV ⊢;unfold zaL.val at HP;have B0:=q0_ (Blk.new w 127 #[.string nm,.int .i64 st,.int .i64 c,.int .i64 h,.int .u64 l,.int .i64 m,.int .i64 x]);simp only at HP Hnm HB
  obtain⟨T,hT⟩:∃ T,zal (zpp ⟨c,h,l,m,x⟩)=T:=⟨_,rfl⟩
  have hT2:T.size≤40:=by rw[← hT,zam,ziG];exact Nat.le_refl _
  simp only[cond_true] at HP;rw[hT] at HP;have HT:=q0_ hT;clear hT;go_enter func75,ntmps75;go_wp2_with fail;refine (HV.out _).mono ?_;rintro r w1 ⟨rfl,b1⟩;have O1:=q0_ (((Own.start w).skip (Fr.none_alloc w (.cells #[.string nm,.int .i64 st,.int .i64 c,.int .i64 h,.int .u64 l,.int .i64 m,.int .i64 x] 127))).below b1);have B1:=q0_ (B0.out.below b1);have c2:=B1.out.cell 2;have c3:=B1.out.cell 3;have c4:=B1.out.cell 4;have c5:=B1.out.cell 5;have c6:=B1.out.cell 6;simp only[q1_,q2_,q3_] at c2 c3 c4 c5 c6;clear b1;go_wp2_with fail;refine (HP.out _).mono ?_;rintro r w2 ⟨rfl,b2⟩;have O2:=q0_ (O1.out.below b2);have B2:=q0_ (B1.out.below b2);clear b2 c2 c3 c4 c5 c6;have c0:=fun o=>(B2.out.alloc o).cell 0;simp only[q1_,q2_,q3_] at c0;go_wp2_with fail;have p0:=(Pk.new w2).1;have q0:=((Own.start w2).skip (Fr.none_alloc w2 (.cells #[.int .i64 0,.slice none 0 0] 63))).also (Pk.new w2).2;refine (zov _ _ 0 [] [nm] _ 1 1 _ (p0.fr (Fr.none_alloc _ _) (fun _ _ h=>h)) (Rd.new' (by simp) _ _ _ rfl) (zlZ (by simp) p0.lt) (by simp) (by simp;have:=Hnm.out;omega)).mono ?_;rw[zmD Hnm.out,List.nil_append];rintro r w3 ⟨rfl,F1,p1,m1⟩;have Q1:=q0_ ((q0.skip (Fr.none_alloc _ _)).mv m1);have P1:=q0_ p1;clear p0 q0 m1 p1 c0;have c1:=(B2.out.below Q1.out.bel).cell 1;simp only[q1_,q2_,q3_] at c1;go_wp2_with fail;refine (zeM _ _ 0 _ [st] _ 1 1 _ (P1.out.fr (Fr.none_alloc _ _) (fun _ _ h=>h)) (Rd.new _ _ _ _ rfl) (zew P1.out.lt) (by simp[zdO _ Hnm.out])).mono ?_;rw[zkD];rintro r w4 ⟨rfl,F2,p2,m2⟩;have Q2:=q0_ ((Q1.out.skip (Fr.none_alloc _ _)).mv m2);have P2:=q0_ p2;clear m2 p2 c1 P1 Q1
  obtain⟨S,hS⟩:∃ S,zal (ze_ nm++le8 [st])=S:=⟨_,rfl⟩
  have HD:=q0_ (zoX w2.heap.size F2 (ze_ nm++le8 [st]) S w4 P2.out hS)
  have hS2:Hid (S++T=zal (zdD ⟨nm,st,⟨c,h,l,m,x⟩⟩)):=by
   show _=_
   rw[← hS, ← HT.out,zdu,HB.out]
  have hS3:S.size≤24:=by rw[← hS,zam,q8_,zdO _ Hnm.out,zdr];simp
  clear hS HB;go_wp2_with fail;refine (HD.out).mono ?_;rintro r w5 ⟨rfl,rfl⟩;have O5:=q0_ (O2.out.below Q2.out.bel);clear HD;go_wp2
  go_ret2
  exact⟨by first | (rw[← hS2.out];rfl) | rfl,O5.out.bel⟩
def za1(l:List zae):List Value:=l.flatMap zae.cells
theorem zcU(r:zae):r.cells.length=7:=rfl
theorem Rd.rec_{w:World}{n k:Nat}{A:Option Addr}{l:List zae}(h:Rd w 7 A n (za1 l))(hk:k<n):
  ∃ ad r,A=some ad∧l[k]? =some r∧w.cell? (ad.add (k*7))=some (.string r.name)∧w.cell? ⟨(ad.add (k*7)).block,(ad.add (k*7)).off+1,none⟩=some (.int .i64 r.start)∧w.cell? ⟨(ad.add (k*7)).block,(ad.add (k*7)).off+2,none⟩=some (.int .i64 r.agg.count)∧w.cell? ⟨(ad.add (k*7)).block,(ad.add (k*7)).off+3,none⟩=some (.int .i64 r.agg.hi)∧w.cell? ⟨(ad.add (k*7)).block,(ad.add (k*7)).off+4,none⟩=some (.int .u64 r.agg.lo)∧w.cell? ⟨(ad.add (k*7)).block,(ad.add (k*7)).off+5,none⟩=some (.int .i64 r.agg.min)∧w.cell? ⟨(ad.add (k*7)).block,(ad.add (k*7)).off+6,none⟩=some (.int .i64 r.agg.max):=by
 obtain⟨ad,r,e,hr,hc⟩:=Rd.elem zcU h hk (by decide);refine⟨ad,r,e,hr,?_,?_,?_,?_,?_,?_,?_⟩
 ·have:=hc 0 _ rfl;rwa[zaZ] at this
 ·have:=hc 1 _ rfl;rwa[zaV _ _ (by decide)] at this
 ·have:=hc 2 _ rfl;rwa[zaV _ _ (by decide)] at this
 ·have:=hc 3 _ rfl;rwa[zaV _ _ (by decide)] at this
 ·have:=hc 4 _ rfl;rwa[zaV _ _ (by decide)] at this
 ·have:=hc 5 _ rfl;rwa[zaV _ _ (by decide)] at this
 ·have:=hc 6 _ rfl;rwa[zaV _ _ (by decide)] at this
theorem Rd.recs_len{w:World}{n:Nat}{A:Option Addr}{l:List zae}(h:Rd w 7 A n (za1 l)):l.length=n:=Rd.elems_len zcU (by decide) h
theorem zez{r:zae}(h:za0 r=true):r.name.size≤15:=by
 unfold za0 at h;simp only[Bool.and_eq_true] at h;exact zdE h.1.1
theorem zeG{l:List zae}(h:l.all za0=true):(l.flatMap zdD).length=64*l.length:=by
 induction l with
 | nil=>rfl
 | cons r l ih=>
  rw[List.all_cons,Bool.and_eq_true] at h;rw[List.flatMap_cons,q8_,ih h.2,zfW r (zez h.1),List.length_cons];omega
theorem zlS{α:Type}{p:α→Bool}{l:List α}{k:Nat}{x:α}(h:l[k]? =some x):(l.take (k+1)).all p=((l.take k).all p&&p x):=by
 rw[zan h,List.all_append];simp
theorem zjU{α:Type}{p:α→Bool}{l:List α}{k:Nat}{x:α}(h:l[k]? =some x)(hp:p x=false):l.all p=false:=by
 rw[List.all_eq_false];exact⟨x,zab h,by simp[hp]⟩
theorem zjy{α β:Type}{f:α→List β}{l:List α}{k:Nat}{x:α}(h:l[k]? =some x):(l.take (k+1)).flatMap f=(l.take k).flatMap f++f x:=by
 rw[zan h,List.flatMap_append];simp
theorem zms(l:List zae)(hl:∀ r∈l,r.wf)(A:Option Addr)(n c:Nat)(w:World)(hr:Rd w 7 A n (za1 l))(hn:n≤1099511627776):
  Calls prog 29 #[.slice A n c] w fun e w'=>e=.returned (bif l.all za0 then .tuple #[.string (zal (l.flatMap zdD)),.int .i64 0] else .tuple #[.string {data:=#[]},.int .i64 1])∧Below w.heap.size w w':=by
 have HP:Hid (∀ r∈l,∀ w',Calls prog 75 #[r.val] w' fun e w''=>e=.returned (bif za0 r then .tuple #[.string (zal (zdD r)),.int .i64 0] else .tuple #[.string {data:=#[]},.int .i64 1])∧Below w'.heap.size w' w''):=fun r h w'=>zoj r (hl r h) w';have Hr:=q0_ hr;have Hl:=q0_ hr.recs_len;clear hr hl;go_enter func29,ntmps29;go_wp2_with fail
 go_loopw [4,11] (fun o i wr=>∃ k:Nat,k≤n∧i=.int .i64 k∧o=.string (zal ((l.take k).flatMap zdD))∧Hid ((l.take k).all za0=true)∧Own w wr (fun _=>False)) (fun _ i _=>n-(intOf i).toNat)
 case atStart=>exact⟨0,Nat.zero_le _,rfl,rfl,rfl,Own.start w⟩
 case round=>
  obtain⟨k,hk,rfl,rfl,hall,ho⟩:=hrel;have Ho:=q0_ ho
  by_cases hlt:k<n
  ·obtain⟨ad,r,rfl,hu,d0,d1,d2,d3,d4,d5,d6⟩:=(Hr.out.fr0 (Fr.b0 ho.bel)).rec_ hlt
   have HPr:=q0_ (HP.out r (zab hu));have Hu:=q0_ hu
   have hlen:(zal ((l.take k).flatMap zdD)).size≤70368744177664:=by
    rw[zam,zeG hall.out,List.length_take];omega
   obtain⟨S,hS⟩:∃ S,zal ((l.take k).flatMap zdD)=S:=⟨_,rfl⟩
   rw[hS] at hlen ⊢;have HS:=q0_ hS;clear hu ho hS
   cases hok:za0 r
   ·have HF:=q0_ (zjU Hu.out hok)
    rw[hok] at HPr;unfold zae.val at HPr;clear hok;go_wp2_with fail;refine (HPr.out _).mono ?_;rintro e w1 ⟨rfl,b1⟩;have O1:=q0_ ((Ho.out.skip (Fr.none_alloc _ _)).below b1);clear b1 d0 d1 d2 d3 d4 d5 d6;go_wp2
    go_ret2
    exact⟨by rw[HF.out];rfl,O1.out.bel⟩
   ·have HT:Hid ((l.take (k+1)).all za0=true):=by
     show _=_
     rw[zlS Hu.out,hall.out,hok];rfl
    have hrl:(zal (zdD r)).size≤64:=by rw[zam,zfW r (zez hok)];exact Nat.le_refl _
    obtain⟨T,hT⟩:∃ T,zal (zdD r)=T:=⟨_,rfl⟩
    rw[hok,hT] at HPr;rw[hT] at hrl
    have HC:Hid (S++T=zal ((l.take (k+1)).flatMap zdD)):=by
     show _=_
     rw[← HS.out, ← hT,zdu,zjy Hu.out]
    unfold zae.val at HPr;clear hok hT;go_wp2_with fail;refine (HPr.out _).mono ?_;rintro e w1 ⟨rfl,b1⟩;have O1:=q0_ ((Ho.out.skip (Fr.none_alloc _ _)).below b1);clear b1 d0 d1 d2 d3 d4 d5 d6;go_wp2
    go_roundw
    case rel=>exact⟨k+1,by omega,by go_num,by rw[HC.out],HT.out,O1.out⟩
    case measure=>simp[intOf];omega
  ·obtain rfl:k=n:=by omega
   have HT:=q0_ (show l.take k=l from za3 (by rw[Hl.out];exact Nat.le_refl _))
   have HF:Hid (l.all za0=true):=by have:=hall.out;rwa[HT.out] at this
   rw[HT.out];clear ho;go_wp2
   go_ret2
   exact⟨by rw[HF.out];rfl,Ho.out.bel⟩
structure zas where
 name:ByteArray
 time:Int
 value:Int
def zas.cells(s:zas):List Value:=[.string s.name,.int .i64 s.time,.int .i64 s.value]
def zas.val(s:zas):Value:=.agg #[.string s.name,.int .i64 s.time,.int .i64 s.value]
def zas.wf(s:zas):Prop:=zbh s.time∧zbh s.value∧s.name.size≤maxLen
def zdz(l:List zas):List Value:=l.flatMap zas.cells
theorem zlj(s:zas):s.cells.length=3:=rfl
theorem Rd.samp_{w:World}{n k:Nat}{A:Option Addr}{l:List zas}(h:Rd w 3 A n (zdz l))(hk:k<n):
  ∃ ad s,A=some ad∧l[k]? =some s∧w.cell? (ad.add (k*3))=some (.string s.name)∧w.cell? ⟨(ad.add (k*3)).block,(ad.add (k*3)).off+1,none⟩=some (.int .i64 s.time)∧w.cell? ⟨(ad.add (k*3)).block,(ad.add (k*3)).off+2,none⟩=some (.int .i64 s.value):=by
 obtain⟨ad,s,e,hr,hc⟩:=Rd.elem zlj h hk (by decide);refine⟨ad,s,e,hr,?_,?_,?_⟩
 ·have:=hc 0 _ rfl;rwa[zaZ] at this
 ·have:=hc 1 _ rfl;rwa[zaV _ _ (by decide)] at this
 ·have:=hc 2 _ rfl;rwa[zaV _ _ (by decide)] at this
theorem Rd.samps_len{w:World}{n:Nat}{A:Option Addr}{l:List zas}(h:Rd w 3 A n (zdz l)):l.length=n:=Rd.elems_len zlj (by decide) h
theorem Blk.set26{w:World}{g:Nat}{t:TypeId}{x0 x1 a0 b0 c0 d0 e0 a b c d e:Value}(h:Blk w g t #[x0,x1,a0,b0,c0,d0,e0]):Blk (((((w.setCell ⟨g,2,none⟩ a).setCell ⟨g,3,none⟩ b).setCell ⟨g,4,none⟩ c).setCell ⟨g,5,none⟩ d).setCell ⟨g,6,none⟩ e) g t #[x0,x1,a,b,c,d,e]:=by
 have:=((((h.set_ 2 a).set_ 3 b).set_ 4 c).set_ 5 d).set_ 6 e;simpa using this
theorem Fr.set26{w1 w:World}{F:Nat→Prop}(h:Fr F w1 w){g:Nat}(hg:F g∨w1.heap.size≤g)(a b c d e:Value):Fr F w1 (((((w.setCell ⟨g,2,none⟩ a).setCell ⟨g,3,none⟩ b).setCell ⟨g,4,none⟩ c).setCell ⟨g,5,none⟩ d).setCell ⟨g,6,none⟩ e):=
 ((((h.setCell (p:=⟨g,2,none⟩) hg a).setCell (p:=⟨g,3,none⟩) hg b).setCell (p:=⟨g,4,none⟩) hg c).setCell (p:=⟨g,5,none⟩) hg d).setCell (p:=⟨g,6,none⟩) hg e
theorem Fr.set7{w1 w:World}{F:Nat→Prop}(h:Fr F w1 w){g:Nat}(hg:F g∨w1.heap.size≤g)(x y a b c d e:Value):Fr F w1 (((((((w.setCell ⟨g,0,none⟩ x).setCell ⟨g,1,none⟩ y).setCell ⟨g,2,none⟩ a).setCell ⟨g,3,none⟩ b).setCell ⟨g,4,none⟩ c).setCell ⟨g,5,none⟩ d).setCell ⟨g,6,none⟩ e):=
 ((h.setCell (p:=⟨g,0,none⟩) hg x).setCell (p:=⟨g,1,none⟩) hg y).set26 hg a b c d e
theorem Blk.set7{w:World}{g:Nat}{t:TypeId}{x0 y0 a0 b0 c0 d0 e0 x y a b c d e:Value}(h:Blk w g t #[x0,y0,a0,b0,c0,d0,e0]):Blk (((((((w.setCell ⟨g,0,none⟩ x).setCell ⟨g,1,none⟩ y).setCell ⟨g,2,none⟩ a).setCell ⟨g,3,none⟩ b).setCell ⟨g,4,none⟩ c).setCell ⟨g,5,none⟩ d).setCell ⟨g,6,none⟩ e) g t #[x,y,a,b,c,d,e]:=by
 have:=((((((h.set_ 0 x).set_ 1 y).set_ 2 a).set_ 3 b).set_ 4 c).set_ 5 d).set_ 6 e;simpa using this
def zfg(l:List UInt8):zae×Int:=
 let n:=ze9 0 l
 let t:=zay n.1 n.2.1 8
 let r:=zay t.1 t.2.1 t.2.1.length
 let a:=zcV r.2.2
 (⟨zal n.2.2,sgn (zbE t.2.2),a.1⟩,a.2)
def zsq:zae:=⟨{data:=#[]},0,zfF⟩
def ziw(l:List UInt8):Bool:=decide ((zfg l).2=0)&&za0 (zfg l).1&&decide (zdD (zfg l).1=l)
theorem zjl{l:List UInt8}(h:l.length≤8):zbE l<18446744073709551616:=by
 have h1:=zdN l;have h2:256 ^ l.length≤256 ^ 8:=Nat.pow_le_pow_right (by decide) h
 have h3:(256:Nat) ^ 8=18446744073709551616:=by decide
 omega
theorem zs_{n:Nat}(h:n<18446744073709551616):zbh (sgn n):=by
 unfold sgn zbh
 split<;>omega
theorem zgn{l:List UInt8}(h:l.length≤8):zbh (sgn (zbE l)):=zs_ (zjl h)
theorem zdI(l:List UInt8):(l.take 8).length≤8:=by rw[List.length_take];omega
theorem zpn(l:List UInt8):(zcV l).1.wf:=by
 have h0:zfF.wf:=by unfold zfF zaL.wf zbh;decide
 unfold zcV
 split
 ·cases zaC (ziF l)
  ·exact h0
  ·exact⟨zgn (zdI _),zgn (zdI _),⟨by show (0:Int)≤((zbE _:Nat):Int);omega,by have:=zjl (zdI (l.drop 16));show ((zbE ((l.drop 16).take 8):Nat):Int)≤_;omega⟩,zgn (zdI _),zgn (zdI _)⟩
 ·exact h0
theorem znA(e:Int)(l:List UInt8):(ze9 e l).2.2.length≤16:=by
 have h:=zcc e l 16;unfold ze9
 split
 ·simp
 ·split
  ·rw[List.length_take,List.length_drop];omega
  ·simp
theorem zlo(l:List UInt8):(zfg l).1.wf:=by
 refine⟨zgn (zcc _ _ 8),zpn _,?_⟩
 show (zal (ze9 0 l).2.2).size≤maxLen
 rw[zam];have:=znA 0 l;unfold maxLen;omega
theorem zcZ(e:Int)(b:List UInt8)(n:Nat):(zay e b n).2.1.length≤b.length:=by
 unfold zay
 split
 ·split
  ·exact Nat.le_refl _
  ·show (b.drop n).length≤_;rw[List.length_drop];omega
 ·exact Nat.le_refl _
theorem zl6(e:Int)(b:List UInt8):(ze9 e b).2.1.length≤b.length:=by
 have h:=zcZ e b 16;unfold ze9
 split
 ·exact h
 ·split<;>exact h
theorem zrH(l:List UInt8)(hl:l.length≤1099511627776)(w:World):
  Calls prog 102 #[.string (zal l)] w fun r w'=>r=.returned (bif ziw l then .tuple #[(zfg l).1.val,.int .i64 0] else .tuple #[zsq.val,.int .i64 6])∧Below w.heap.size w w':=by
 have HF:Hid (∀ w',Calls prog 49 #[.string (zal l)] w' fun r w''=>∃ g,r=.returned (.pointer (some ⟨g,0,none⟩))∧Up w'' g 0 l∧Below w'.heap.size w' w''∧w'.heap.size≤g):=fun w'=>zeS l w' hl
 obtain⟨⟨e1,b1,nm⟩,hN⟩:∃ p,ze9 0 l=p:=⟨_,rfl⟩
 obtain⟨⟨e2,b2,ti⟩,hT⟩:∃ p,zay e1 b1 8=p:=⟨_,rfl⟩
 obtain⟨⟨e3,b3,rs⟩,hR⟩:∃ p,zay e2 b2 b2.length=p:=⟨_,rfl⟩
 obtain⟨⟨ag,ae⟩,hA⟩:∃ p,zcV rs=p:=⟨_,rfl⟩
 have hb1:b1.length≤1099511627776:=by have:=zl6 0 l;rw[hN] at this;simp only at this;omega
 have hb2:b2.length≤1099511627776:=by have:=zcZ e1 b1 8;rw[hT] at this;simp only at this;omega
 have hrs:rs.length≤1099511627776:=by have:=zcc e2 b2 b2.length;rw[hR] at this;simp only at this;omega
 have hRd:zfg l=(⟨zal nm,sgn (zbE ti),ag⟩,ae):=by simp only[zfg,hN,hT,hR,hA]
 have hwf:=zlo l;unfold ziw;rw[hRd] at hwf ⊢;simp only at hwf ⊢
 have HN:Hid (∀ g w',Up w' g 0 l→Calls prog 140 #[.pointer (some ⟨g,0,none⟩)] w' fun r w''=>r=.returned (.string (zal nm))∧Up w'' g e1 b1∧Fr (fun k=>k=g) w' w''):=fun g w' h=>by
  have:=zqg g 0 l w' h hl;rw[hN] at this;exact this
 have HI:Hid (∀ g w',Up w' g e1 b1→Calls prog 99 #[.pointer (some ⟨g,0,none⟩)] w' fun r w''=>r=.returned (.int .i64 (sgn (zbE ti)))∧Up w'' g e2 b2∧Fr (fun k=>k=g) w' w''):=fun g w' h=>by
  have:=zkR g e1 b1 w' h hb1;rw[hT] at this;exact this
 have HR:Hid (∀ g w',Up w' g e2 b2→Calls prog 53 #[.pointer (some ⟨g,0,none⟩)] w' fun r w''=>r=.returned (.string (zal rs))∧Up w'' g e3 b3∧Fr (fun k=>k=g) w' w''):=fun g w' h=>by
  have:=zln g e2 b2 w' h hb2;rw[hR] at this;exact this
 have HA:Hid (∀ w',Calls prog 141 #[.string (zal rs)] w' fun r w''=>r=.returned (.tuple #[ag.val,.int .i64 ae])∧Below w'.heap.size w' w''):=fun w'=>by
  have:=znh rs hrs w';rw[hA] at this;exact this
 have HP:=q0_ (fun w'=>zoj _ hwf w')
 obtain⟨rr,hrr⟩:∃ rr:zae,rr=⟨zal nm,sgn (zbE ti),ag⟩:=⟨_,rfl⟩
 obtain⟨G,hG0⟩:∃ G,(decide (ae=0)&&za0 ⟨zal nm,sgn (zbE ti),ag⟩&&decide (zdD ⟨zal nm,sgn (zbE ti),ag⟩=l))=G:=⟨_,rfl⟩
 rw[hG0]
 have hG:Hid (G=(decide (ae=0)&&za0 rr&&decide (zdD rr=l))):=by rw[hrr];exact hG0.symm
 clear hG0;rw[← hrr] at HP;have Hrr:=q0_ hrr
 have hlen:Hid (∀ r:zae,za0 r=true→(zal (zdD r)).size≤64):=fun r h=>by rw[zam,zfW r (zez h)];exact Nat.le_refl _
 have HE:Hid (za0 rr=true→((zal (zdD rr)).toList != (zal l).toList)= !decide (zdD rr=l)):=fun _=>by
  rw[Lib.toList_data,Lib.toList_data,za8,za8];rw[Bool.eq_iff_iff];simp
 obtain⟨c,h,lo,m,x⟩:=ag
 obtain⟨NM,hNM⟩:∃ NM,zal nm=NM:=⟨_,rfl⟩
 obtain⟨ST,hST⟩:∃ ST,sgn (zbE ti)=ST:=⟨_,rfl⟩
 obtain⟨RS,hRS⟩:∃ RS,zal rs=RS:=⟨_,rfl⟩
 obtain⟨S,hS⟩:∃ S,zal l=S:=⟨_,rfl⟩
 rw[hNM,hST] at Hrr;rw[hNM] at HN;rw[hST] at HI;rw[hRS] at HR HA;rw[hS] at HF HE ⊢;rw[hNM,hST]
 have HV:Hid (rr.val=.agg #[.string NM,.int .i64 ST,.int .i64 c,.int .i64 h,.int .u64 lo,.int .i64 m,.int .i64 x]):=by show _=_;rw[Hrr.out];rfl
 rw[HV.out] at HP;clear hrr hN hT hR hA hb1 hb2 hrs hRd hwf hNM hST hRS hS hl HV;unfold zaL.val at HA;unfold zae.val zsq zfF;go_enter func102,ntmps102;go_wp2_with fail;refine (HF.out _).mono ?_;rintro r w1 ⟨g,rfl,u1,f1,hg⟩;have B1:=q0_ ((Blk.new w 127 #[.string {data:=#[]},.int .i64 0,.int .i64 0,.int .i64 0,.int .u64 0,.int .i64 0,.int .i64 0]).below f1)
 have hgn:Hid (w.heap.size<g):=by have h:=hg;simp at h;exact h
 have O1:=q0_ ((((Own.start w).skip (Fr.none_alloc w (.cells #[.string {data:=#[]},.int .i64 0,.int .i64 0,.int .i64 0,.int .u64 0,.int .i64 0,.int .i64 0] 127))).below f1).also (G:=fun j=>j=g) (fun j hj=>by have:=hgn.out;omega));have U1:=q0_ u1;have G1:=q0_ u1.lt;clear u1 f1 hg HF;go_wp2_with fail;refine (HN.out g w1 U1.out).mono ?_;rintro r w2 ⟨rfl,u2,f2⟩;have U2:=q0_ u2;have B2:=q0_ (B1.out.fr f2 (by have:=hgn.out;omega));have O2:=q0_ (O1.out.fr f2);clear u2 f2 U1 B1 O1;go_wp2_with fail;refine (HI.out g w2 U2.out).mono ?_;rintro r w3 ⟨rfl,u3,f3⟩;have U3:=q0_ u3;have B3:=q0_ (B2.out.fr f3 (by have:=hgn.out;omega));have O3:=q0_ (O2.out.fr f3);clear u3 f3 U2 B2 O2;go_wp2_with fail;refine (HR.out g _ (U3.out.alloc (.cells #[.string NM,.int .i64 ST,.int .i64 0,.int .i64 0,.int .u64 0,.int .i64 0,.int .i64 0] 127))).mono ?_;rintro r w4 ⟨rfl,u4,f4⟩;have hg3:Hid (g<w3.heap.size):=U3.out.lt;have R4:=q0_ ((Blk.new w3 127 #[.string NM,.int .i64 ST,.int .i64 0,.int .i64 0,.int .u64 0,.int .i64 0,.int .i64 0]).fr f4 (by have:=hg3.out;omega));have B4:=q0_ ((B3.out.alloc (.cells #[.string NM,.int .i64 ST,.int .i64 0,.int .i64 0,.int .u64 0,.int .i64 0,.int .i64 0] 127)).fr f4 (by have:=hgn.out;omega));have O4:=q0_ ((O3.out.skip (Fr.none_alloc w3 (.cells #[.string NM,.int .i64 ST,.int .i64 0,.int .i64 0,.int .u64 0,.int .i64 0,.int .i64 0] 127))).fr f4);have hw3:Hid (w.heap.size<w3.heap.size):=B3.out.lt;clear u4 f4 U3 B3 O3;go_wp2_with fail;refine (HA.out w4).mono ?_;rintro r w5 ⟨rfl,f5⟩;have R5:=q0_ (R4.out.below f5);have B5:=q0_ (B4.out.below f5);have O5:=q0_ (O4.out.below f5);have hw5:Hid (w3.heap.size<w5.heap.size):=R5.out.lt;clear f5 R4 B4 O4 HN HI HR HA;have e0:=fun o=>(R5.out.alloc o).cell 0;have e1:=fun o=>(R5.out.alloc o).cell 1;have e2:=fun o=>(R5.out.alloc o).cell 2;have e3:=fun o=>(R5.out.alloc o).cell 3;have e4:=fun o=>(R5.out.alloc o).cell 4;have e5:=fun o=>(R5.out.alloc o).cell 5;have e6:=fun o=>(R5.out.alloc o).cell 6;have g2:=fun o=>(R5.out.alloc o).frozen 2;have g3:=fun o=>(R5.out.alloc o).frozen 3;have g4:=fun o=>(R5.out.alloc o).frozen 4;have g5:=fun o=>(R5.out.alloc o).frozen 5;have g6:=fun o=>(R5.out.alloc o).frozen 6;simp only[q1_,q2_,q3_] at e0 e1 e2 e3 e4 e5 e6;go_wp2_with fail
 obtain⟨W6,hW6⟩:∃ W6,W6=(((((w5.alloc (.cells #[.int .i64 c,.int .i64 h,.int .u64 lo,.int .i64 m,.int .i64 x] 125)).setCell ⟨w3.heap.size,2,none⟩ (.int .i64 c)).setCell ⟨w3.heap.size,3,none⟩ (.int .i64 h)).setCell ⟨w3.heap.size,4,none⟩ (.int .u64 lo)).setCell ⟨w3.heap.size,5,none⟩ (.int .i64 m)).setCell ⟨w3.heap.size,6,none⟩ (.int .i64 x):=⟨_,rfl⟩
 rw[← hW6];have R6:=q0_ (hW6▸(R5.out.alloc _).set26:Blk W6 w3.heap.size 127 #[.string NM,.int .i64 ST,.int .i64 c,.int .i64 h,.int .u64 lo,.int .i64 m,.int .i64 x]);have F6:Fr (fun k=>k=w3.heap.size) w5 W6:=hW6▸Fr.set26 (F:=fun k=>k=w3.heap.size) (g:=w3.heap.size) ((Fr.refl _ w5).alloc _) (.inl rfl) _ _ _ _ _;have B6:=q0_ (B5.out.fr F6 (by have:=hw3.out;omega));have O6:=q0_ ((O5.out.also (G:=fun k=>k=w3.heap.size) (fun k hk=>by have:=hw3.out;omega)).fr F6);clear hW6 F6 e0 e1 e2 e3 e4 e5 e6 g2 g3 g4 g5 g6 R5 B5 O5;refine (HP.out W6).mono ?_;rintro r w8 ⟨rfl,f8⟩;have R8:=R6.out.below f8;have B8:=B6.out.below f8;have O8:=q0_ (O6.out.below f8);have a0:=R8.cell 0;have a1:=R8.cell 1;have a2:=R8.cell 2;have a3:=R8.cell 3;have a4:=R8.cell 4;have a5:=R8.cell 5;have a6:=R8.cell 6;have b0:=B8.cell 0;have b1:=B8.cell 1;have b2:=B8.cell 2;have b3:=B8.cell 3;have b4:=B8.cell 4;have b5:=B8.cell 5;have b6:=B8.cell 6;have g0:=B8.frozen 0;have g1:=B8.frozen 1;have g2:=B8.frozen 2;have g3:=B8.frozen 3;have g4:=B8.frozen 4;have g5:=B8.frozen 5;have g6:=B8.frozen 6;simp only[q1_,q2_,q3_] at a0 a1 a2 a3 a4 a5 a6 b0 b1 b2 b3 b4 b5 b6;have B8':=q0_ B8;clear f8 R8 B8 R6 B6 O6 HP
 cases hok:za0 rr
 ·have HG:=q0_ (show G=false by rw[hG.out,hok,Bool.and_false,Bool.false_and])
  clear hok
  by_cases hae:(ae != 0)=true
  all_goals
   go_wp2_with fail;clear a0 a1 a2 a3 a4 a5 a6 b0 b1 b2 b3 b4 b5 b6 g0 g1 g2 g3 g4 g5 g6
   obtain⟨W9,hW9⟩:∃ W9,W9=((((((w8.setCell ⟨w.heap.size,0,none⟩ (.string {data:=#[]})).setCell ⟨w.heap.size,1,none⟩ (.int .i64 0)).setCell ⟨w.heap.size,2,none⟩ (.int .i64 0)).setCell ⟨w.heap.size,3,none⟩ (.int .i64 0)).setCell ⟨w.heap.size,4,none⟩ (.int .u64 0)).setCell ⟨w.heap.size,5,none⟩ (.int .i64 0)).setCell ⟨w.heap.size,6,none⟩ (.int .i64 0):=⟨_,rfl⟩
   rw[← hW9];have B9:=B8'.out.set7 (x:=(.string {data:=#[]})) (y:=(.int .i64 0)) (a:=(.int .i64 0)) (b:=(.int .i64 0)) (c:=(.int .u64 0)) (d:=(.int .i64 0)) (e:=(.int .i64 0));have O9:=(O8.out.also (G:=fun k=>k=w.heap.size) (fun k hk=>by omega)).fr (Fr.set7 (F:=fun k=>k=w.heap.size) (g:=w.heap.size) (Fr.refl _ w8) (.inl rfl) (.string {data:=#[]}) (.int .i64 0) (.int .i64 0) (.int .i64 0) (.int .u64 0) (.int .i64 0) (.int .i64 0));rw[← hW9] at B9 O9;have b0:=B9.cell 0;have b1:=B9.cell 1;have b2:=B9.cell 2;have b3:=B9.cell 3;have b4:=B9.cell 4;have b5:=B9.cell 5;have b6:=B9.cell 6;simp only[q1_,q2_,q3_] at b0 b1 b2 b3 b4 b5 b6;refine bodyPost_ret (v:=.tuple #[.agg #[.string {data:=#[]},.int .i64 0,.int .i64 0,.int .i64 0,.int .u64 0,.int .i64 0,.int .i64 0],.int .i64 6]) ?_ rfl ⟨by rw[HG.out];rfl,O9.bel⟩;simp[results,results102,go_sem,b0,b1,b2,b3,b4,b5,b6]
 ·have Hok:=q0_ hok
  have hE:=HE.out hok;have hsz:=hlen.out rr hok
  obtain⟨T,hT⟩:∃ T,zal (zdD rr)=T:=⟨_,rfl⟩
  rw[hT] at hE hsz ⊢
  by_cases hae:ae=0
  ·subst hae
   by_cases heq:zdD rr=l
   ·have HG:=q0_ (show G=true by rw[hG.out,hok,qa_ heq];rfl)
    rw[qa_ heq,Bool.not_true] at hE
    have hE2:(T.toList==S.toList)=true:=by simpa using hE
    clear hok hT heq;go_wp2_with fail;clear a0 a1 a2 a3 a4 a5 a6 b0 b1 b2 b3 b4 b5 b6 g0 g1 g2 g3 g4 g5 g6
    obtain⟨W9,hW9⟩:∃ W9,W9=((((((w8.setCell ⟨w.heap.size,0,none⟩ (.string NM)).setCell ⟨w.heap.size,1,none⟩ (.int .i64 ST)).setCell ⟨w.heap.size,2,none⟩ (.int .i64 c)).setCell ⟨w.heap.size,3,none⟩ (.int .i64 h)).setCell ⟨w.heap.size,4,none⟩ (.int .u64 lo)).setCell ⟨w.heap.size,5,none⟩ (.int .i64 m)).setCell ⟨w.heap.size,6,none⟩ (.int .i64 x):=⟨_,rfl⟩
    rw[← hW9];have B9:=B8'.out.set7 (x:=(.string NM)) (y:=(.int .i64 ST)) (a:=(.int .i64 c)) (b:=(.int .i64 h)) (c:=(.int .u64 lo)) (d:=(.int .i64 m)) (e:=(.int .i64 x));have O9:=(O8.out.also (G:=fun k=>k=w.heap.size) (fun k hk=>by omega)).fr (Fr.set7 (F:=fun k=>k=w.heap.size) (g:=w.heap.size) (Fr.refl _ w8) (.inl rfl) (.string NM) (.int .i64 ST) (.int .i64 c) (.int .i64 h) (.int .u64 lo) (.int .i64 m) (.int .i64 x));rw[← hW9] at B9 O9;have b0:=B9.cell 0;have b1:=B9.cell 1;have b2:=B9.cell 2;have b3:=B9.cell 3;have b4:=B9.cell 4;have b5:=B9.cell 5;have b6:=B9.cell 6;simp only[q1_,q2_,q3_] at b0 b1 b2 b3 b4 b5 b6;refine bodyPost_ret (v:=.tuple #[.agg #[.string NM,.int .i64 ST,.int .i64 c,.int .i64 h,.int .u64 lo,.int .i64 m,.int .i64 x],.int .i64 0]) ?_ rfl ⟨by rw[HG.out];rfl,O9.bel⟩;simp[results,results102,go_sem,b0,b1,b2,b3,b4,b5,b6]
   ·have HG:=q0_ (show G=false by rw[hG.out,q9_ heq,Bool.and_false])
    rw[q9_ heq,Bool.not_false] at hE
    have hE2:(T.toList==S.toList)=false:=by simpa using hE
    clear hok hT heq;go_wp2_with fail;clear a0 a1 a2 a3 a4 a5 a6 b0 b1 b2 b3 b4 b5 b6 g0 g1 g2 g3 g4 g5 g6
    obtain⟨W9,hW9⟩:∃ W9,W9=((((((w8.setCell ⟨w.heap.size,0,none⟩ (.string {data:=#[]})).setCell ⟨w.heap.size,1,none⟩ (.int .i64 0)).setCell ⟨w.heap.size,2,none⟩ (.int .i64 0)).setCell ⟨w.heap.size,3,none⟩ (.int .i64 0)).setCell ⟨w.heap.size,4,none⟩ (.int .u64 0)).setCell ⟨w.heap.size,5,none⟩ (.int .i64 0)).setCell ⟨w.heap.size,6,none⟩ (.int .i64 0):=⟨_,rfl⟩
    rw[← hW9];have B9:=B8'.out.set7 (x:=(.string {data:=#[]})) (y:=(.int .i64 0)) (a:=(.int .i64 0)) (b:=(.int .i64 0)) (c:=(.int .u64 0)) (d:=(.int .i64 0)) (e:=(.int .i64 0));have O9:=(O8.out.also (G:=fun k=>k=w.heap.size) (fun k hk=>by omega)).fr (Fr.set7 (F:=fun k=>k=w.heap.size) (g:=w.heap.size) (Fr.refl _ w8) (.inl rfl) (.string {data:=#[]}) (.int .i64 0) (.int .i64 0) (.int .i64 0) (.int .u64 0) (.int .i64 0) (.int .i64 0));rw[← hW9] at B9 O9;have b0:=B9.cell 0;have b1:=B9.cell 1;have b2:=B9.cell 2;have b3:=B9.cell 3;have b4:=B9.cell 4;have b5:=B9.cell 5;have b6:=B9.cell 6;simp only[q1_,q2_,q3_] at b0 b1 b2 b3 b4 b5 b6;refine bodyPost_ret (v:=.tuple #[.agg #[.string {data:=#[]},.int .i64 0,.int .i64 0,.int .i64 0,.int .u64 0,.int .i64 0,.int .i64 0],.int .i64 6]) ?_ rfl ⟨by rw[HG.out];rfl,O9.bel⟩;simp[results,results102,go_sem,b0,b1,b2,b3,b4,b5,b6]
  ·have HG:=q0_ (show G=false by rw[hG.out,q9_ hae,Bool.false_and,Bool.false_and])
   have hae2:(ae != 0)=true:=by simpa using hae
   clear hok hT hae;go_wp2_with fail;clear a0 a1 a2 a3 a4 a5 a6 b0 b1 b2 b3 b4 b5 b6 g0 g1 g2 g3 g4 g5 g6
   obtain⟨W9,hW9⟩:∃ W9,W9=((((((w8.setCell ⟨w.heap.size,0,none⟩ (.string {data:=#[]})).setCell ⟨w.heap.size,1,none⟩ (.int .i64 0)).setCell ⟨w.heap.size,2,none⟩ (.int .i64 0)).setCell ⟨w.heap.size,3,none⟩ (.int .i64 0)).setCell ⟨w.heap.size,4,none⟩ (.int .u64 0)).setCell ⟨w.heap.size,5,none⟩ (.int .i64 0)).setCell ⟨w.heap.size,6,none⟩ (.int .i64 0):=⟨_,rfl⟩
   rw[← hW9];have B9:=B8'.out.set7 (x:=(.string {data:=#[]})) (y:=(.int .i64 0)) (a:=(.int .i64 0)) (b:=(.int .i64 0)) (c:=(.int .u64 0)) (d:=(.int .i64 0)) (e:=(.int .i64 0));have O9:=(O8.out.also (G:=fun k=>k=w.heap.size) (fun k hk=>by omega)).fr (Fr.set7 (F:=fun k=>k=w.heap.size) (g:=w.heap.size) (Fr.refl _ w8) (.inl rfl) (.string {data:=#[]}) (.int .i64 0) (.int .i64 0) (.int .i64 0) (.int .u64 0) (.int .i64 0) (.int .i64 0));rw[← hW9] at B9 O9;have b0:=B9.cell 0;have b1:=B9.cell 1;have b2:=B9.cell 2;have b3:=B9.cell 3;have b4:=B9.cell 4;have b5:=B9.cell 5;have b6:=B9.cell 6;simp only[q1_,q2_,q3_] at b0 b1 b2 b3 b4 b5 b6;refine bodyPost_ret (v:=.tuple #[.agg #[.string {data:=#[]},.int .i64 0,.int .i64 0,.int .i64 0,.int .u64 0,.int .i64 0,.int .i64 0],.int .i64 6]) ?_ rfl ⟨by rw[HG.out];rfl,O9.bel⟩;simp[results,results102,go_sem,b0,b1,b2,b3,b4,b5,b6]
def zdt(size:Nat)(l:List UInt8)(k:Nat):List UInt8:=(l.drop (size*k)).take size
def zbo(l:List UInt8)(n:Nat):List zae:=(List.range n).map fun k=>(zfg (zdt 64 l k)).1
def zcA(l:List UInt8)(n:Nat):Bool:=(List.range n).all fun k=>ziw (zdt 64 l k)
theorem zkq(l:List UInt8)(k:Nat):zbo l (k+1)=zbo l k++[(zfg (zdt 64 l k)).1]:=by simp[zbo,List.range_succ]
theorem zks(l:List UInt8)(k:Nat):zcA l (k+1)=(zcA l k&&ziw (zdt 64 l k)):=by simp[zcA,List.range_succ]
theorem zi8{l:List UInt8}{k n:Nat}(hk:k<n)(h:ziw (zdt 64 l k)=false):zcA l n=false:=by
 unfold zcA;rw[List.all_eq_false];exact⟨k,List.mem_range.2 hk,by simp[h]⟩
theorem zlC:(prog.info? 127).map (fun i=>(i.zero,i.size,i.bytes))=some (some (.agg #[.string ByteArray.empty,.int .i64 0,.int .i64 0,.int .i64 0,.int .u64 0,.int .i64 0,.int .i64 0]),7,64):=by kernel_rfl
theorem zqS{A:Option Addr}{n c:Nat}:∀ k,adF A n k→zaE (.slice A n c) k:=by
 rintro k ⟨_,ad,rfl,rfl⟩
 rfl
theorem zmt(l:List UInt8)(n:Nat)(hl:l.length=64*n)(hn:l.length≤1099511627776)(w:World):
  Calls prog 54 #[.string (zal l)] w fun r w'=>(zcA l n=true→∃ A c,r=.returned (.tuple #[.slice A n c,.int .i64 0])∧n≤c∧Rd w' 7 A n (za1 (zbo l n))∧∀ k,adF A n k→w.heap.size≤k)∧(zcA l n=false→r=.returned (.tuple #[.slice none 0 0,.int .i64 6]))∧Below w.heap.size w w':=by
 have hz:=zam l
 have HG:Hid (∀ k w',k<n→Calls prog 102 #[.string ((zal l).extract (64*k) (64*k+64))] w' fun r w''=>r=.returned (bif ziw (zdt 64 l k) then .tuple #[(zfg (zdt 64 l k)).1.val,.int .i64 0] else .tuple #[zsq.val,.int .i64 6])∧Below w'.heap.size w' w''):=fun k w' hk=>by
  have hc:(zal l).extract (64*k) (64*k+64)=zal (zdt 64 l k):=by
   rw[zaP,List.drop_take,show 64*k+64-64*k=64 by omega];rfl
  rw[hc];exact zrH (zdt 64 l k) (by unfold zdt;rw[List.length_take];omega) w'
 obtain⟨S,hS⟩:∃ S,zal l=S:=⟨_,rfl⟩
 rw[hS] at hz HG ⊢
 have hsz:(S.size:Int)=64*(n:Int):=by omega
 have hmod:(S.size:Int)%64=0:=by omega
 have hmod2:(S.size:Int).tmod 64=0:=by rw[Int.tmod_eq_emod_of_nonneg (by omega)];exact hmod
 have hn2:n≤17179869184:=by omega
 have hsz2:S.size=64*n:=by omega
 have Hsz:=q0_ hsz2
 have hSb:S.size≤1099511627776:=by omega
 obtain⟨i0,hi,hz0,hz1,hz2⟩:=info_parts zlC;clear hS hz hl hn hsz hsz2;go_enter func54,ntmps54;go_wp2_with fail;clear hmod hmod2
 go_loopw [4,5] (fun o i wr=>∃ (k j:Nat) (R:Option Addr) (cs:Nat),k≤n∧i=.int .i64 j∧Hid (j=64*k)∧o=.slice R k cs∧wr.ownsRow 0 127 7 (.slice R k cs) k (za1 (zbo l k))∧Hid (zcA l k=true)∧Own w wr (zaE (.slice R k cs))) (fun _ i _=>S.size-(intOf i).toNat)
 case atStart=>exact⟨0,0,none,0,Nat.zero_le _,rfl,rfl,rfl,World.ownsRow_nil _ _ _ _,rfl,(Own.start w).also (fun k hk=>by cases hk)⟩
 case round=>
  obtain⟨k,j,R,cs,hk,rfl,hj,rfl,hrow,hall,ho⟩:=hrel;have Hrow:=q0_ hrow;have Ho:=q0_ ho;clear hrow ho
  by_cases hlt:k<n
  ·have hjn:j<S.size:=by have:=hj.out;have:=Hsz.out;omega
   have hjn2:j+64≤S.size:=by have:=hj.out;have:=Hsz.out;omega
   have hji:(j:Int)+64≤(S.size:Int):=by omega
   have HGk:=q0_ (HG.out k wr hlt);rw[← hj.out] at HGk
   have hto:((j:Int)+64).toNat=j+64:=by omega
   go_wp2_with fail;refine (HGk.out).mono ?_;rintro r w5 ⟨rfl,b5⟩;have O5:=q0_ (Ho.out.below b5);have R5:=q0_ (zac Hrow.out (Fr.b0 b5));clear b5 Hrow Ho HGk
   cases hok:ziw (zdt 64 l k)
   ·have HF:=q0_ (zi8 hlt hok)
    clear hok;unfold zsq zae.val zfF;go_wp2
    go_ret2
    exact⟨(fun h=>by rw[HF.out] at h;cases h),fun _=>rfl,(O5.out.skip (Fr.none_alloc _ _)).bel⟩
   ·have HT:Hid (zcA l (k+1)=true):=by show _=_;rw[zks,hall.out,hok];rfl
    have Hs:=q0_ (zkq l k)
    obtain⟨rr,hrr⟩:∃ rr,(zfg (zdt 64 l k)).1=rr:=⟨_,rfl⟩
    rw[hrr] at Hs ⊢
    have HRs:Hid (za1 (zbo l (k+1))=za1 (zbo l k)++rr.cells):=by
     show _=_
     rw[Hs.out];unfold za1;rw[List.flatMap_append];simp
    obtain⟨nm,st,⟨c,h,lo,m,x⟩⟩:=rr;clear hok hrr Hs;unfold zae.val
    go_wp2_with (at_builtin;refine zcX rfl _ _ 71 rfl 127 i0 _ 7 64 underlying71 hi hz0 hz1 hz2 rfl (by decide) (.slice R k cs) k _ rfl (zac (zac R5.out (Fr.none_alloc _ _)) (Fr.none_alloc _ _)) (some ⟨w5.heap.size+1,0,none⟩) 1 1 [.string nm,.int .i64 st,.int .i64 c,.int .i64 h,.int .u64 lo,.int .i64 m,.int .i64 x] rfl (Rd.newS (by simp) _ _ 1 7 rfl) (by simp[Value.oneCell']) ?q1 ?q2 ?_)
    case q1=>unfold maxLen;omega
    case q2=>omega
    intro R6 c6 w6 ho6 hm6;have Ho6:=q0_ ho6;have Hm6:=q0_ hm6;clear ho6 hm6
    go_wp2
    go_roundw
    case rel=>
     refine⟨k+1,j+64,R6,c6,by omega,by go_num,by have:=hj.out;show _=_;omega,by go_num,?_,HT.out,((O5.out.skip (Fr.none_alloc _ _)).skip (Fr.none_alloc _ _)).mv Hm6.out⟩;rw[HRs.out];exact Ho6.out
    case measure=>simp[intOf];omega
  ·obtain rfl:k=n:=by omega
   have hje:¬ (j:Int)<(S.size:Int):=by have:=hj.out;have:=Hsz.out;omega
   go_wp2
   go_ret2
   obtain⟨S2,cs2,e,hcs,_,hrs⟩:=za5 Hrow.out
   injection e with ea _ ec
   subst ea ec;exact⟨fun _=>⟨R,cs,rfl,hcs,hrs,fun j hj=>Ho.out.new j (zqS j hj)⟩,fun h=>(by rw[hall.out] at h;cases h),Ho.out.bel⟩
theorem zoB(x y:Int):le8 [x,y]=le (u64 x) 8++le (u64 y) 8:=by rw[zim,zim];simp[le8]
theorem zrC(x:Int):le8 [x]=le (u64 x) 8:=by rw[zim];simp[le8]
theorem zgm{x:Int}(h:zbh x):sgn (zbE (le (u64 x) 8))=x:=by rw[zlt _ (zr7 x),zrf h.1 h.2]
theorem tk8(x:Nat)(t:List UInt8):(le x 8++t).take 8=le x 8:=List.take_left' (zaQ x 8)
theorem dr8(x k:Nat)(t:List UInt8):(le x 8++t).drop (8+k)=t.drop k:=by
 rw[List.drop_append,zaQ,List.drop_eq_nil_of_le (by rw[zaQ];omega),List.nil_append,Nat.add_sub_cancel_left]
theorem zsG(x:Nat):(le x 8).take 8=le x 8:=List.take_of_length_le (by rw[zaQ];omega)
theorem zni{a:zaL}(h:a.wf):ziF (zpp a)=a:=by
 obtain⟨c,hi,lo,m,x⟩:=a;obtain⟨h1,h2,h3,h4,h5⟩:=h;simp only at h1 h2 h3 h4 h5;unfold ziF zpp;simp only;rw[zoB,zoB];simp only[List.append_assoc];rw[tk8,show (8:Nat)=8+0 from rfl,dr8,show (16:Nat)=8+(8+0) from rfl,dr8,dr8,show (24:Nat)=8+(8+(8+0)) from rfl,dr8,dr8,dr8,show (32:Nat)=8+(8+(8+(8+0))) from rfl,dr8,dr8,dr8,dr8];simp only[List.drop_zero,Nat.add_zero];rw[tk8,tk8,tk8,zsG,zgm h1,zgm h2,zgm h4,zgm h5,zlt _ (by omega)]
 congr 1
 omega
theorem zk8{a:zaL}(h:a.wf)(hok:zaC a=true):zcV (zpp a)=(a,0):=by
 unfold zcV;rw[if_pos (ziG a),zni h,hok]
 rfl
theorem zcG(s:ByteArray):zal s.data.toList=s:=by simp[zal]
theorem zl5(t:List UInt8):zay 0 t t.length=(0,[],t):=by rw[zh5 (Nat.le_refl _),List.drop_length,List.take_length]
theorem zku{r:zae}(h:za0 r=true):zaD r.name=true∧zf_ r.start=true∧zaC r.agg=true:=by
 unfold za0 at h;simp only[Bool.and_eq_true] at h;exact⟨h.1.1,h.1.2,h.2⟩
theorem zhr{r:zae}(h:r.wf)(hok:za0 r=true):zfg (zdD r)=(r,0):=by
 obtain⟨h1,h2,h3⟩:=zku hok;have hn:=zdE h1;unfold zfg zdD;rw[List.append_assoc,zmK hn];simp only;rw[zrC,zgd (zaQ _ 8)];simp only;rw[zl5];simp only;rw[zk8 h.2.1 h3,zgm h.1,zcG]
theorem zmV{r:zae}(h:r.wf)(hok:za0 r=true):ziw (zdD r)=true:=by
 unfold ziw;rw[zhr h hok];simp[hok]
theorem zhV{α:Type}{f:α→List UInt8}{size:Nat}{l:List α}(hf:∀ x∈l,(f x).length=size){k:Nat}{x:α}(h:l[k]? =some x):zdt size (l.flatMap f) k=f x:=by
 induction l generalizing k with
 | nil=>simp at h
 | cons a l ih=>
  have ha:=hf a (.head _);unfold zdt at ih ⊢;rw[List.flatMap_cons]
  rcases k with _ | k
  ·simp only[q3_,Option.some.injEq] at h
   subst h;rw[Nat.mul_zero,List.drop_zero,List.take_left' ha]
  ·simp only[q2_] at h
   rw[Nat.mul_succ,List.drop_append,ha,List.drop_eq_nil_of_le (by rw[ha];omega),List.nil_append,show size*k+size-size=size*k by omega];exact ih (fun y hy=>hf y (.tail _ hy)) h
theorem zk7{α:Type}{p:α→Bool}{l:List α}(h:l.all p=true){x:α}(hx:x∈l):p x=true:=(List.all_eq_true.1 h) x hx
theorem recs_len{l:List zae}(hok:l.all za0=true):∀ r∈l,(zdD r).length=64:=fun r hr=>zfW r (zez (zk7 hok hr))
theorem zkr{l:List zae}(hw:∀ r∈l,r.wf)(hok:l.all za0=true):zbo (l.flatMap zdD) l.length=l:=by
 apply List.ext_getElem?
 intro k;unfold zbo;rw[List.getElem?_map]
 rcases Nat.lt_or_ge k l.length with hk | hk
 ·have h:=q6_ hk
  have hm:=zab h;rw[List.getElem?_range hk,Option.map_some,zhV (recs_len hok) h,zhr (hw _ hm) (zk7 hok hm),h]
 ·rw[List.getElem?_eq_none (by simpa using hk),List.getElem?_eq_none hk];rfl
theorem zkt{l:List zae}(hw:∀ r∈l,r.wf)(hok:l.all za0=true):zcA (l.flatMap zdD) l.length=true:=by
 unfold zcA;rw[List.all_eq_true];intro k hk;have hk:=List.mem_range.1 hk;have h:=q6_ hk;have hm:=zab h;rw[zhV (recs_len hok) h,zmV (hw _ hm) (zk7 hok hm)]
theorem toList_inj{a b:ByteArray}(h:a.toList=b.toList):a=b:=by
 rw[Lib.toList_data,Lib.toList_data] at h
 cases a;cases b
 simp only at h
 congr
 exact Array.toList_inj.1 h
def zo_(x y:zas):Bool:=(x.name.toList==y.name.toList)&&((x.time==y.time)&&(x.value==y.value))
theorem zhq(x y:zas):zo_ x y=true↔x=y:=by
 obtain⟨a,b,c⟩:=x;obtain⟨a',b',c'⟩:=y;unfold zo_;simp only[Bool.and_eq_true,beq_iff_eq,zas.mk.injEq];exact⟨fun h=>⟨toList_inj h.1,h.2⟩,fun h=>⟨by rw[h.1],h.2⟩⟩
instance zsw:DecidableEq zas:=fun x y=>if h:zo_ x y=true then isTrue ((zhq x y).1 h) else isFalse fun e=>h ((zhq x y).2 e)
def zr1(x y:zaL):Bool:=(x.count==y.count)&&((x.hi==y.hi)&&((x.lo==y.lo)&&((x.min==y.min)&&(x.max==y.max))))
def zrn(x y:zae):Bool:=(x.name.toList==y.name.toList)&&((x.start==y.start)&&zr1 x.agg y.agg)
theorem zpo(x y:zaL):zr1 x y=true↔x=y:=by
 obtain⟨a,b,c,d,e⟩:=x;obtain⟨a',b',c',d',e'⟩:=y;unfold zr1;simp only[Bool.and_eq_true,beq_iff_eq,zaL.mk.injEq]
theorem zi9(x y:zae):zrn x y=true↔x=y:=by
 obtain⟨a,b,c⟩:=x;obtain⟨a',b',c'⟩:=y;unfold zrn;simp only[Bool.and_eq_true,beq_iff_eq,zae.mk.injEq,zpo];exact⟨fun h=>⟨toList_inj h.1,h.2⟩,fun h=>⟨by rw[h.1],h.2⟩⟩
instance zsD:DecidableEq zae:=fun x y=>if h:zrn x y=true then isTrue ((zi9 x y).1 h) else isFalse fun e=>h ((zi9 x y).2 e)
theorem zft(a:Int)(w:World):Calls prog 186 #[.int .i64 a] w fun r w'=>r=.returned (.bool false)∧w=w':=by
 go_enter func186,ntmps186;go_wp2;go_ret;exact⟨by simp,rfl⟩
theorem zcw(a:ByteArray)(w:World):Calls prog 185 #[.string a] w fun r w'=>r=.returned (.bool false)∧w=w':=by
 go_enter func185,ntmps185;go_wp2;go_ret;exact⟨by simp,rfl⟩
def zrS(a b:Int):Int:=if a<b then -1 else if b<a then 1 else 0
theorem zm7(a b:Int)(w:World):Calls prog 152 #[.int .i64 a,.int .i64 b] w fun r w'=>r=.returned (.int .i64 (zrS a b))∧w=w':=by
 unfold zrS
 by_cases h1:a<b
 ·rw[if_pos h1]
  go_enter func152,ntmps152;go_wp2_with fail;refine (zft a w).mono ?_;rintro r w' ⟨rfl,rfl⟩;go_wp2_with fail;refine (zft b w).mono ?_;rintro r w' ⟨rfl,rfl⟩;go_wp2;go_ret;exact⟨rfl,rfl⟩
 ·rw[if_neg h1]
  by_cases h2:b<a
  ·rw[if_pos h2]
   go_enter func152,ntmps152;go_wp2_with fail;refine (zft a w).mono ?_;rintro r w' ⟨rfl,rfl⟩;go_wp2_with fail;refine (zft b w).mono ?_;rintro r w' ⟨rfl,rfl⟩;go_wp2;go_ret;exact⟨rfl,rfl⟩
  ·rw[if_neg h2]
   go_enter func152,ntmps152;go_wp2_with fail;refine (zft a w).mono ?_;rintro r w' ⟨rfl,rfl⟩;go_wp2_with fail;refine (zft b w).mono ?_;rintro r w' ⟨rfl,rfl⟩;go_wp2;go_ret;exact⟨rfl,rfl⟩
def zrQ(a b:ByteArray):Int:=if Op.bytesLess a.toList b.toList=true then -1 else if (a.toList==b.toList)=true then 0 else 1
theorem zm6(a b:ByteArray)(w:World):Calls prog 151 #[.string a,.string b] w fun r w'=>r=.returned (.int .i64 (zrQ a b))∧w=w':=by
 unfold zrQ
 by_cases h1:Op.bytesLess a.toList b.toList=true
 ·rw[if_pos h1]
  go_enter func151,ntmps151;go_wp2_with fail;refine (zcw a w).mono ?_;rintro r w' ⟨rfl,rfl⟩;go_wp2_with fail;refine (zcw b w).mono ?_;rintro r w' ⟨rfl,rfl⟩;go_wp2;go_ret;exact⟨rfl,rfl⟩
 ·rw[if_neg h1]
  have h1f:Op.bytesLess a.toList b.toList=false:=by simpa using h1
  clear h1
  cases h2:(a.toList==b.toList)
  ·rw[if_neg (by simp)]
   go_enter func151,ntmps151;go_wp2_with fail;refine (zcw a w).mono ?_;rintro r w' ⟨rfl,rfl⟩;go_wp2_with fail;refine (zcw b w).mono ?_;rintro r w' ⟨rfl,rfl⟩;go_wp2;go_ret;exact⟨rfl,rfl⟩
  ·rw[if_pos rfl]
   go_enter func151,ntmps151;go_wp2_with fail;refine (zcw a w).mono ?_;rintro r w' ⟨rfl,rfl⟩;go_wp2_with fail;refine (zcw b w).mono ?_;rintro r w' ⟨rfl,rfl⟩;go_wp2;go_ret;exact⟨rfl,rfl⟩
def orI(a b:Int):Int:=if a=0 then b else a
theorem zsg(a b:Int)(A:Option Addr)(c:Nat)(w:World)(hr:Rd w 1 A 2 [.int .i64 a,.int .i64 b]):Calls prog 150 #[.slice A 2 c] w fun r w'=>r=.returned (.int .i64 (orI a b))∧w=w':=by
 obtain⟨ad,rfl,hc⟩:=hr.2 (by omega);have c0:=hc 0 _ rfl;have c1:=hc 1 _ rfl;rw[zaZ] at c0;rw[zaV _ _ (by decide)] at c1;have H0:=q0_ c0;have H1:=q0_ c1;clear hr hc c0 c1;unfold orI
 by_cases ha:a=0
 ·rw[if_pos ha]
  subst ha
  by_cases hb:b=0
  ·subst hb
   go_enter func150,ntmps150;go_wp2_with fail
   go_loop [8] (fun i=>∃ k:Nat,k≤2∧i=.int .i64 k) (fun i=>2-(intOf i).toNat)
   case atStart=>exact⟨0,by omega,rfl⟩
   case round=>
    obtain⟨k,hk,rfl⟩:=hrel;have c0:=H0.out;have c1:=H1.out
    rcases (show k=0∨k=1∨k=2 by omega) with rfl | rfl | rfl
    ·go_wp2
     go_round
     case rel=>exact⟨1,by omega,by first | rfl | go_num⟩
     case measure=>simp[intOf]
    ·go_wp2
     go_round
     case rel=>exact⟨2,by omega,by first | rfl | go_num⟩
     case measure=>simp[intOf]
    ·go_wp2
     go_ret;exact⟨rfl,rfl⟩
  ·have hb0:(b != 0)=true:=by simpa using hb
   clear hb;go_enter func150,ntmps150;go_wp2_with fail
   go_loop [8] (fun i=>∃ k:Nat,k≤1∧i=.int .i64 k) (fun i=>2-(intOf i).toNat)
   case atStart=>exact⟨0,by omega,rfl⟩
   case round=>
    obtain⟨k,hk,rfl⟩:=hrel;have c0:=H0.out;have c1:=H1.out
    rcases (show k=0∨k=1 by omega) with rfl | rfl
    ·go_wp2
     go_round
     case rel=>exact⟨1,by omega,by first | rfl | go_num⟩
     case measure=>simp[intOf]
    ·go_wp2
     go_ret;exact⟨rfl,rfl⟩
 ·rw[if_neg ha]
  have ha0:(a != 0)=true:=by simpa using ha
  clear ha;go_enter func150,ntmps150;go_wp2_with fail
  go_loop [8] (fun i=>i=.int .i64 0) (fun i=>2-(intOf i).toNat)
  case atStart=>exact rfl
  case round=>
   obtain rfl:=hrel;have c0:=H0.out
   go_wp2
   go_ret;exact⟨rfl,rfl⟩
def zeH(a b:zae):Int:=orI (zrQ a.name b.name) (zrS a.start b.start)
end Go.Proofs.YtjhhodndlkpmhaaGreatDoor
