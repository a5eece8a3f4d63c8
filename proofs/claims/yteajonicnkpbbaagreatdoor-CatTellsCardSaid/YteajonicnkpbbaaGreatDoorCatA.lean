/- Walks of cat: within, taken, Pending, plain, change, entry. -/
import Derived.Test.YteajonicnkpbbaaGreatDoorTiersP
namespace Go.Proofs.YteajonicnkpbbaaGreatDoor
set_option linter.all false
set_option maxHeartbeats 8000000
set_option maxRecDepth 100000
open Go.RowKit Tryz
theorem zaj(n most:Int)(w:World):Calls prog 120 #[.int .i64 n,.int .i64 most] w fun r w'=>r=.returned (.bool (inB n most))∧w=w':=by
 have go:∀ b1 b2:Bool,decide (0≤n)=b1→decide (n≤most)=b2→Calls prog 120 #[.int .i64 n,.int .i64 most] w fun r w'=>r=.returned (.bool (b1&&b2))∧w=w':=by
  intro b1 b2 e1 e2
  cases b1<;>cases b2<;>(
   go_enter func120,ntmps120;go_wp2;go_ret
   exact⟨by first | rfl | simp[*],rfl⟩)
 exact go _ _ rfl rfl
theorem zhJ(nm:ByteArray)(hnm:nm.size≤maxLen)(l:List zaa)(A:Option Addr)(n c:Nat)(w:World)(hr:Rd w 4 A n (zaf l))(hnc:n≤c)(hsz:∀ t∈l,t.name.size≤maxLen):
  Calls prog 121 #[.agg #[.string nm,.slice A n c]] w fun r w'=>r=.returned (.bool (zal nm l))∧Below w.heap.size w w':=by
 have f1:Fr (fun _=>False) w (w.alloc (.cells #[.string nm,.slice A n c] 25)):=Fr.none_alloc _ _;have HK:=q0_ (zeD nm hnm l A n c _ (hr.fr0 f1) hnc hsz);have F1:=q0_ f1;have X1:=Blk.new w 25 #[.string nm,.slice A n c];have x0:=X1.cell 0;have x1:=X1.cell 1;simp only[q1_,q2_,q3_] at x0 x1;unfold zdw zeg at HK;clear hr f1 X1
 cases hc:zal nm l<;>(
  rw[hc] at HK;clear hc;go_enter func121,ntmps121;go_wp2_with fail;refine HK.out.mono ?_;rintro r w2 ⟨⟨k,rfl⟩,b2⟩;have B2:=q0_ (F1.out.trans (Fr.b0 b2) q4_);clear b2 x0 x1;go_wp2;go_ret
  exact⟨by first | rfl | simp,B2.out.below q4_⟩)
theorem zos(n:Nat):((n:Int)==0)=decide (n=0):=by
 cases n<;>simp<;>omega
section
variable {w:World} {c:zbf} {a:zfI}
theorem zje(h:zcn w c a):Calls prog 40 #[.agg #[.int .u64 c.gen,.int .u64 c.id,.int .i64 c.now,.string c.nm,.slice a.pA a.pn a.pc,.slice a.fA a.fn a.fc,.string c.nm2,.slice a.tA a.tn a.tc,.slice a.sA a.sn a.sc,.int .i64 c.bound,.int .i64 c.done,.slice a.eA a.en a.ec]] w fun r w'=>r=.returned (.bool (zbV c))∧Below w.heap.size w w':=by
 obtain⟨W1,hW1⟩:∃ W1,W1=w.alloc (.cells #[.int .u64 c.gen,.int .u64 c.id,.int .i64 c.now,.string c.nm,.slice a.pA a.pn a.pc,.slice a.fA a.fn a.fc,.string c.nm2,.slice a.tA a.tn a.tc,.slice a.sA a.sn a.sc,.int .i64 c.bound,.int .i64 c.done,.slice a.eA a.en a.ec] 29):=⟨_,rfl⟩
 have HW1:=q0_ hW1
 have F1:Hid (Fr (fun _=>False) w W1):=by show Fr _ _ _;rw[hW1];exact Fr.none_alloc _ _
 have X1:Hid (Blk W1 w.heap.size 29 #[.int .u64 c.gen,.int .u64 c.id,.int .i64 c.now,.string c.nm,.slice a.pA a.pn a.pc,.slice a.fA a.fn a.fc,.string c.nm2,.slice a.tA a.tn a.tc,.slice a.sA a.sn a.sc,.int .i64 c.bound,.int .i64 c.done,.slice a.eA a.en a.ec]):=by show Blk _ _ _ _;rw[hW1];exact Blk.new _ _ _
 have HC:Hid (∀ W,Fr (fun _=>False) W1 W→W.cell? ⟨w.heap.size,0,none⟩=some (.int .u64 c.gen)∧W.cell? ⟨w.heap.size,1,none⟩=some (.int .u64 c.id)∧W.cell? ⟨w.heap.size,2,none⟩=some (.int .i64 c.now)∧W.cell? ⟨w.heap.size,3,none⟩=some (.string c.nm)∧W.cell? ⟨w.heap.size,4,none⟩=some (.slice a.pA a.pn a.pc)∧W.cell? ⟨w.heap.size,5,none⟩=some (.slice a.fA a.fn a.fc)∧W.cell? ⟨w.heap.size,6,none⟩=some (.string c.nm2)∧W.cell? ⟨w.heap.size,7,none⟩=some (.slice a.tA a.tn a.tc)∧W.cell? ⟨w.heap.size,8,none⟩=some (.slice a.sA a.sn a.sc)∧W.cell? ⟨w.heap.size,9,none⟩=some (.int .i64 c.bound)∧W.cell? ⟨w.heap.size,10,none⟩=some (.int .i64 c.done)∧W.cell? ⟨w.heap.size,11,none⟩=some (.slice a.eA a.en a.ec)):=fun W f=>by
  have b:=X1.out.fr f (fun h=>h);exact⟨b.cell 0,b.cell 1,b.cell 2,b.cell 3,b.cell 4,b.cell 5,b.cell 6,b.cell 7,b.cell 8,b.cell 9,b.cell 10,b.cell 11⟩
 have hP:Hid (zbV c=(!decide (c.nm2.size=0)||decide (0<a.tn))):=by show _=_;unfold zbV;rw[h.lt]
 clear h hW1
 by_cases h0:c.nm2=ByteArray.empty
 ·have hr:Hid (zbV c=decide (0<a.tn)):=by show _=_;rw[hP.out,h0];rfl
  rw[h0] at HC HW1 ⊢;clear h0;go_enter func40,ntmps40
  go_upto_region 1 with fail
  rw[← HW1.out];obtain⟨x0,x1,x2,x3,x4,x5,x6,x7,x8,x9,x10,x11⟩:=HC.out _ (Fr.refl _ W1);go_wp2;go_ret;exact⟨by rw[hr.out];rfl,F1.out.below q4_⟩
 ·have e0:¬ c.nm2.size=0:=fun e=>h0 (by
   have:c.nm2.data.toList=[]:=List.eq_nil_of_length_eq_zero (by rw[Array.length_toList];exact e)
   cases hq:c.nm2 with | mk d=>rw[hq] at this;congr;exact Array.toList_inj.1 this)
  have hr:Hid (zbV c=true):=by show _=_;rw[hP.out,q9_ e0];rfl
  have h1:¬ c.nm2.toList=[]:=fun e=>e0 (by
   rw[Lib.toList_data] at e
   show c.nm2.data.size=0
   rw[← Array.length_toList,e]
   rfl)
  go_enter func40,ntmps40
  go_upto_region 1 with fail
  rw[← HW1.out];obtain⟨x0,x1,x2,x3,x4,x5,x6,x7,x8,x9,x10,x11⟩:=HC.out _ (Fr.refl _ W1);go_wp2;go_ret;exact⟨by rw[hr.out];rfl,F1.out.below q4_⟩
theorem zlP(h:zcn w c a):Calls prog 47 #[.agg #[.int .u64 c.gen,.int .u64 c.id,.int .i64 c.now,.string c.nm,.slice a.pA a.pn a.pc,.slice a.fA a.fn a.fc,.string c.nm2,.slice a.tA a.tn a.tc,.slice a.sA a.sn a.sc,.int .i64 c.bound,.int .i64 c.done,.slice a.eA a.en a.ec]] w fun r w'=>r=.returned (.bool (zby c))∧Below w.heap.size w w':=by
 obtain⟨pA,pn,pc,fA,fn,fc,tA,tn,tc,sA,sn,sc,eA,en,ec⟩:=a;dsimp only
 obtain⟨W1,hW1⟩:∃ W1,W1=w.alloc (.cells #[.int .u64 c.gen,.int .u64 c.id,.int .i64 c.now,.string c.nm,.slice pA pn pc,.slice fA fn fc,.string c.nm2,.slice tA tn tc,.slice sA sn sc,.int .i64 c.bound,.int .i64 c.done,.slice eA en ec] 29):=⟨_,rfl⟩
 have HW1:=q0_ hW1
 have F1:Hid (Fr (fun _=>False) w W1):=by show Fr _ _ _;rw[hW1];exact Fr.none_alloc _ _
 have X1:Hid (Blk W1 w.heap.size 29 #[.int .u64 c.gen,.int .u64 c.id,.int .i64 c.now,.string c.nm,.slice pA pn pc,.slice fA fn fc,.string c.nm2,.slice tA tn tc,.slice sA sn sc,.int .i64 c.bound,.int .i64 c.done,.slice eA en ec]):=by show Blk _ _ _ _;rw[hW1];exact Blk.new _ _ _
 have HC:Hid (∀ W,Fr (fun _=>False) W1 W→W.cell? ⟨w.heap.size,0,none⟩=some (.int .u64 c.gen)∧W.cell? ⟨w.heap.size,1,none⟩=some (.int .u64 c.id)∧W.cell? ⟨w.heap.size,2,none⟩=some (.int .i64 c.now)∧W.cell? ⟨w.heap.size,3,none⟩=some (.string c.nm)∧W.cell? ⟨w.heap.size,4,none⟩=some (.slice pA pn pc)∧W.cell? ⟨w.heap.size,5,none⟩=some (.slice fA fn fc)∧W.cell? ⟨w.heap.size,6,none⟩=some (.string c.nm2)∧W.cell? ⟨w.heap.size,7,none⟩=some (.slice tA tn tc)∧W.cell? ⟨w.heap.size,8,none⟩=some (.slice sA sn sc)∧W.cell? ⟨w.heap.size,9,none⟩=some (.int .i64 c.bound)∧W.cell? ⟨w.heap.size,10,none⟩=some (.int .i64 c.done)∧W.cell? ⟨w.heap.size,11,none⟩=some (.slice eA en ec)):=fun W f=>by
  have b:=X1.out.fr f (fun h=>h);exact⟨b.cell 0,b.cell 1,b.cell 2,b.cell 3,b.cell 4,b.cell 5,b.cell 6,b.cell 7,b.cell 8,b.cell 9,b.cell 10,b.cell 11⟩
 have hlf:c.fl.length=fn:=h.lf;have hlp:c.pl.length=pn:=h.lp
 have hmf:fn≤9223372036854775807:=by have h1:fn≤fc∧fc≤maxLen:=h.cf;unfold maxLen at h1;omega
 have HR:Hid (Rd W1 1 fA fn (za6 c.fl)):=h.rf.fr0 F1.out;have HT:=q0_ (zhJ c.nm h.nm c.pl pA pn pc W1 (h.rp.fr0 F1.out) h.cp.1 (fun t ht=>(h.wp t ht).2.2.2));clear h hW1
 cases e0:decide (c.gen=0)
 rotate_left
 ·have hg:(c.gen==0)=true:=by simpa using e0
  have hr:Hid (zby c=false):=by show _=_;unfold zby;rw[e0];rfl
  clear e0;go_enter func47,ntmps47
  go_upto_region 1 with fail
  rw[← HW1.out];obtain⟨x0,x1,x2,x3,x4,x5,x6,x7,x8,x9,x10,x11⟩:=HC.out _ (Fr.refl _ W1);go_wp2;go_ret;exact⟨by rw[hr.out];rfl,F1.out.below q4_⟩
 have hg:(c.gen==0)=false:=by simpa using e0
 cases e1:inB c.now 1099511627776
 ·have hr:Hid (zby c=false):=by show _=_;unfold zby;rw[e0,e1];rfl
  have H1:=q0_ e1;clear e0 e1;go_enter func47,ntmps47
  go_upto_region 1 with fail
  rw[← HW1.out];obtain⟨x0,x1,x2,x3,x4,x5,x6,x7,x8,x9,x10,x11⟩:=HC.out _ (Fr.refl _ W1);go_wp2_with fail;refine (zaj _ _ _).mono ?_;rw[H1.out];rintro r w1 ⟨rfl,rfl⟩;go_wp2;go_ret;exact⟨by rw[hr.out];rfl,F1.out.below q4_⟩
 cases e2:zal c.nm c.pl
 ·have hr:Hid (zby c=false):=by show _=_;unfold zby;rw[e0,e1,e2];rfl
  have H1:=q0_ e1;have H2:=q0_ e2;clear e0 e1 e2;go_enter func47,ntmps47
  go_upto_region 1 with fail
  rw[← HW1.out];obtain⟨x0,x1,x2,x3,x4,x5,x6,x7,x8,x9,x10,x11⟩:=HC.out _ (Fr.refl _ W1);go_wp2_with fail;refine (zaj _ _ _).mono ?_;rw[H1.out];rintro r w1 ⟨rfl,rfl⟩;go_wp2_with fail;refine HT.out.mono ?_;rw[H2.out];rintro r w2 ⟨rfl,b2⟩;have F2:=q0_ (Fr.b0 b2);clear b2;clear x0 x1 x2 x3 x4 x5 x6 x7 x8 x9 x10 x11;obtain⟨x0,x1,x2,x3,x4,x5,x6,x7,x8,x9,x10,x11⟩:=HC.out _ F2.out;go_wp2;go_ret;exact⟨by rw[hr.out];rfl,(F1.out.trans F2.out q4_).below q4_⟩
 cases e3:decide (c.fl.length=c.pl.length)
 ·have hne:((fn:Int) != (pn:Int))=true:=by have:=of_decide_eq_false e3;simp;omega
  have hr:Hid (zby c=false):=by show _=_;unfold zby;rw[e0,e1,e2,e3];rfl
  have H1:=q0_ e1;have H2:=q0_ e2;clear e0 e1 e2 e3;go_enter func47,ntmps47
  go_upto_region 1 with fail
  rw[← HW1.out];obtain⟨x0,x1,x2,x3,x4,x5,x6,x7,x8,x9,x10,x11⟩:=HC.out _ (Fr.refl _ W1);go_wp2_with fail;refine (zaj _ _ _).mono ?_;rw[H1.out];rintro r w1 ⟨rfl,rfl⟩;go_wp2_with fail;refine HT.out.mono ?_;rw[H2.out];rintro r w2 ⟨rfl,b2⟩;have F2:=q0_ (Fr.b0 b2);clear b2;clear x0 x1 x2 x3 x4 x5 x6 x7 x8 x9 x10 x11;obtain⟨x0,x1,x2,x3,x4,x5,x6,x7,x8,x9,x10,x11⟩:=HC.out _ F2.out;go_wp2;go_ret;exact⟨by rw[hr.out];rfl,(F1.out.trans F2.out q4_).below q4_⟩
 have heq:((fn:Int) != (pn:Int))=false:=by have:=of_decide_eq_true e3;simp;omega
 obtain⟨bb,hbb⟩:∃ b,c.fl.all (fun f=>inB f 4611686018427387904)=b:=⟨_,rfl⟩
 have hr:Hid (zby c=bb):=by show _=_;unfold zby;rw[e0,e1,e2,e3,hbb];cases bb<;>rfl
 have Hbb:=q0_ hbb;have H1:=q0_ e1;have H2:=q0_ e2;clear e0 e1 e2 e3 hbb;go_enter func47,ntmps47
 go_upto_region 1 with fail
 rw[← HW1.out];obtain⟨x0,x1,x2,x3,x4,x5,x6,x7,x8,x9,x10,x11⟩:=HC.out _ (Fr.refl _ W1);go_wp2_with fail;refine (zaj _ _ _).mono ?_;rw[H1.out];rintro r w1 ⟨rfl,rfl⟩;go_wp2_with fail;refine HT.out.mono ?_;rw[H2.out];rintro r w2 ⟨rfl,b2⟩;have F2:=q0_ (Fr.b0 b2);clear b2;clear x0 x1 x2 x3 x4 x5 x6 x7 x8 x9 x10 x11;obtain⟨x0,x1,x2,x3,x4,x5,x6,x7,x8,x9,x10,x11⟩:=HC.out _ F2.out;go_wp2_with fail;clear x0 x1 x2 x3 x4 x5 x6 x7 x8 x9 x10 x11
 go_loopw [33] (fun i wr=>∃ k:Nat,k≤fn∧i=.int .i64 k∧Hid (Fr (fun _=>False) W1 wr)∧Hid ((c.fl.take k).all (fun f=>inB f 4611686018427387904)=true)) (fun i _=>fn-(intOf i).toNat)
 case atStart=>exact⟨0,Nat.zero_le _,rfl,F2,rfl⟩
 case round=>
  obtain⟨k,hk,rfl,hf,ha⟩:=hrel
  by_cases hlt:k<fn
  ·obtain⟨ad,v,rfl,hu,d⟩:=(HR.out.fr0 hf.out).at_map hlt
   have Hu:=q0_ hu;clear hu
   cases hv:(fun f=>inB f 4611686018427387904) v
   ·have Hv:=q0_ hv
    have hb:bb=false:=by
     rw[← Hbb.out];exact zaR (k:=k+1) (by rw[zao Hu.out ha.out];exact hv)
    subst hb;clear hv;go_wp2_with fail;refine (zaj _ _ _).mono ?_;have Hv2:inB v 4611686018427387904=_:=Hv.out;rw[Hv2];clear Hv2;rintro r w1 ⟨rfl,rfl⟩;go_wp2;go_ret;exact⟨by rw[hr.out];rfl,(F1.out.trans hf.out q4_).below q4_⟩
   ·have Hv:=q0_ hv
    clear hv;go_wp2_with fail;refine (zaj _ _ _).mono ?_;have Hv2:inB v 4611686018427387904=_:=Hv.out;rw[Hv2];clear Hv2;rintro r w1 ⟨rfl,rfl⟩;go_wp2
    go_roundw
    case rel=>exact⟨k+1,by omega,by go_num,hf,by
     show (c.fl.take (k+1)).all _=true
     rw[zao Hu.out ha.out]
     exact Hv.out⟩
    case measure=>simp[intOf];omega
  ·obtain rfl:fn=k:=by omega
   have hb:bb=true:=by
    rw[← Hbb.out];have:=ha.out;rwa[List.take_of_length_le (by omega)] at this
   subst hb;go_wp2;go_ret;exact⟨by rw[hr.out];rfl,(F1.out.trans hf.out q4_).below q4_⟩
theorem zj5(h:zcn w c a):Calls prog 48 #[.agg #[.int .u64 c.gen,.int .u64 c.id,.int .i64 c.now,.string c.nm,.slice a.pA a.pn a.pc,.slice a.fA a.fn a.fc,.string c.nm2,.slice a.tA a.tn a.tc,.slice a.sA a.sn a.sc,.int .i64 c.bound,.int .i64 c.done,.slice a.eA a.en a.ec]] w fun r w'=>r=.returned (.bool (zax c))∧Below w.heap.size w w':=by
 obtain⟨pA,pn,pc,fA,fn,fc,tA,tn,tc,sA,sn,sc,eA,en,ec⟩:=a;dsimp only
 obtain⟨W1,hW1⟩:∃ W1,W1=w.alloc (.cells #[.int .u64 c.gen,.int .u64 c.id,.int .i64 c.now,.string c.nm,.slice pA pn pc,.slice fA fn fc,.string c.nm2,.slice tA tn tc,.slice sA sn sc,.int .i64 c.bound,.int .i64 c.done,.slice eA en ec] 29):=⟨_,rfl⟩
 have HW1:=q0_ hW1
 have F1:Hid (Fr (fun _=>False) w W1):=by show Fr _ _ _;rw[hW1];exact Fr.none_alloc _ _
 have X1:Hid (Blk W1 w.heap.size 29 #[.int .u64 c.gen,.int .u64 c.id,.int .i64 c.now,.string c.nm,.slice pA pn pc,.slice fA fn fc,.string c.nm2,.slice tA tn tc,.slice sA sn sc,.int .i64 c.bound,.int .i64 c.done,.slice eA en ec]):=by show Blk _ _ _ _;rw[hW1];exact Blk.new _ _ _
 have HC:Hid (∀ W,Fr (fun _=>False) W1 W→W.cell? ⟨w.heap.size,0,none⟩=some (.int .u64 c.gen)∧W.cell? ⟨w.heap.size,1,none⟩=some (.int .u64 c.id)∧W.cell? ⟨w.heap.size,2,none⟩=some (.int .i64 c.now)∧W.cell? ⟨w.heap.size,3,none⟩=some (.string c.nm)∧W.cell? ⟨w.heap.size,4,none⟩=some (.slice pA pn pc)∧W.cell? ⟨w.heap.size,5,none⟩=some (.slice fA fn fc)∧W.cell? ⟨w.heap.size,6,none⟩=some (.string c.nm2)∧W.cell? ⟨w.heap.size,7,none⟩=some (.slice tA tn tc)∧W.cell? ⟨w.heap.size,8,none⟩=some (.slice sA sn sc)∧W.cell? ⟨w.heap.size,9,none⟩=some (.int .i64 c.bound)∧W.cell? ⟨w.heap.size,10,none⟩=some (.int .i64 c.done)∧W.cell? ⟨w.heap.size,11,none⟩=some (.slice eA en ec)):=fun W f=>by
  have b:=X1.out.fr f (fun h=>h);exact⟨b.cell 0,b.cell 1,b.cell 2,b.cell 3,b.cell 4,b.cell 5,b.cell 6,b.cell 7,b.cell 8,b.cell 9,b.cell 10,b.cell 11⟩
 have hls:c.src.length=sn:=h.ls;have hlt2:c.pl2.length=tn:=h.lt;have hlp:c.pl.length=pn:=h.lp
 have hms:sn≤9223372036854775807:=by have h1:sn≤sc∧sc≤maxLen:=h.cs;unfold maxLen at h1;omega
 have hmp:pn≤9223372036854775807:=by have h1:pn≤pc∧pc≤maxLen:=h.cp;unfold maxLen at h1;omega
 have HR:Hid (Rd W1 1 sA sn (za6 c.src)):=h.rs.fr0 F1.out;have HP:=q0_ (zje (h.fr0 F1.out));have HT:Hid (∀ W,Fr (fun _=>False) W1 W→Calls prog 121 #[.agg #[.string c.nm2,.slice tA tn tc]] W fun r w'=>r=.returned (.bool (zal c.nm2 c.pl2))∧Below W.heap.size W w'):=fun W f=>zhJ c.nm2 h.nm2 c.pl2 tA tn tc W ((h.rt.fr0 F1.out).fr0 f) h.ct.1 (fun t ht=>(h.wt t ht).2.2.2);clear h hW1
 cases hp0:zbV c
 ·have hp:=q0_ hp0
  have hb0:zax c=(decide (c.bound=0)&&(decide (c.done=0)&&decide (c.src.length=0))):=by unfold zax;rw[if_neg (by rw[hp0];decide)]
  clear hp0
  cases e1:decide (c.bound=0)
  ·have g1:(c.bound==0)=false:=by simpa using e1
   have hr:Hid (zax c=false):=by show _=_;rw[hb0,e1];rfl
   clear e1 hb0;go_enter func48,ntmps48
   go_upto_region 1 with fail
   rw[← HW1.out];obtain⟨x0,x1,x2,x3,x4,x5,x6,x7,x8,x9,x10,x11⟩:=HC.out _ (Fr.refl _ W1);go_wp2_with fail;refine HP.out.mono ?_;rw[hp.out];rintro r w2 ⟨rfl,b2⟩;have F2:=q0_ (Fr.b0 b2);clear b2;clear x0 x1 x2 x3 x4 x5 x6 x7 x8 x9 x10 x11;obtain⟨x0,x1,x2,x3,x4,x5,x6,x7,x8,x9,x10,x11⟩:=HC.out _ F2.out;go_wp2;go_ret;exact⟨by rw[hr.out];rfl,(F1.out.trans F2.out q4_).below q4_⟩
  have g1:(c.bound==0)=true:=by simpa using e1
  cases e2:decide (c.done=0)
  ·have g2:(c.done==0)=false:=by simpa using e2
   have hr:Hid (zax c=false):=by show _=_;rw[hb0,e1,e2];rfl
   clear e1 e2 hb0;go_enter func48,ntmps48
   go_upto_region 1 with fail
   rw[← HW1.out];obtain⟨x0,x1,x2,x3,x4,x5,x6,x7,x8,x9,x10,x11⟩:=HC.out _ (Fr.refl _ W1);go_wp2_with fail;refine HP.out.mono ?_;rw[hp.out];rintro r w2 ⟨rfl,b2⟩;have F2:=q0_ (Fr.b0 b2);clear b2;clear x0 x1 x2 x3 x4 x5 x6 x7 x8 x9 x10 x11;obtain⟨x0,x1,x2,x3,x4,x5,x6,x7,x8,x9,x10,x11⟩:=HC.out _ F2.out;go_wp2;go_ret;exact⟨by rw[hr.out];rfl,(F1.out.trans F2.out q4_).below q4_⟩
  have g2:(c.done==0)=true:=by simpa using e2
  have hr:Hid (zax c=decide (sn=0)):=by show _=_;rw[hb0,e1,e2,hls];rfl
  clear e1 e2 hb0;go_enter func48,ntmps48
  go_upto_region 1 with fail
  rw[← HW1.out];obtain⟨x0,x1,x2,x3,x4,x5,x6,x7,x8,x9,x10,x11⟩:=HC.out _ (Fr.refl _ W1);go_wp2_with fail;refine HP.out.mono ?_;rw[hp.out];rintro r w2 ⟨rfl,b2⟩;have F2:=q0_ (Fr.b0 b2);clear b2;clear x0 x1 x2 x3 x4 x5 x6 x7 x8 x9 x10 x11;obtain⟨x0,x1,x2,x3,x4,x5,x6,x7,x8,x9,x10,x11⟩:=HC.out _ F2.out;go_wp2;go_ret;exact⟨by rw[hr.out, ← zos];rfl,(F1.out.trans F2.out q4_).below q4_⟩
 ·have hp:=q0_ hp0
  clear hp0
  obtain⟨bb,hbb⟩:∃ b,c.src.all (fun s=>inB s ((c.pl.length:Int)-1))=b:=⟨_,rfl⟩
  have Hbb:=q0_ hbb;clear hbb;go_enter func48,ntmps48
  go_upto_region 1 with fail
  rw[← HW1.out];obtain⟨x0,x1,x2,x3,x4,x5,x6,x7,x8,x9,x10,x11⟩:=HC.out _ (Fr.refl _ W1);go_wp2_with fail;refine HP.out.mono ?_;rw[hp.out];rintro r w2 ⟨rfl,b2⟩;have F2:=q0_ (Fr.b0 b2);clear b2;clear x0 x1 x2 x3 x4 x5 x6 x7 x8 x9 x10 x11;obtain⟨x0,x1,x2,x3,x4,x5,x6,x7,x8,x9,x10,x11⟩:=HC.out _ F2.out;go_wp2_with fail;clear x0 x1 x2 x3 x4 x5 x6 x7 x8 x9 x10 x11
  go_loopw [25] (fun i wr=>∃ k:Nat,k≤sn∧i=.int .i64 k∧Hid (Fr (fun _=>False) W1 wr)∧Hid ((c.src.take k).all (fun s=>inB s ((c.pl.length:Int)-1))=true)) (fun i _=>sn-(intOf i).toNat)
  case atStart=>exact⟨0,Nat.zero_le _,rfl,F2,rfl⟩
  case round=>
   obtain⟨k,hk,rfl,hf,ha⟩:=hrel
   by_cases hlt:k<sn
   ·obtain⟨ad,v,rfl,hu,d⟩:=(HR.out.fr0 hf.out).at_map hlt
    have Hu:=q0_ hu;clear hu
    cases hv:(fun s=>inB s ((c.pl.length:Int)-1)) v
    ·have Hv:=q0_ hv
     have hb:bb=false:=by
      rw[← Hbb.out];exact zaR (k:=k+1) (by rw[zao Hu.out ha.out];exact hv)
     subst hb;clear hv;obtain⟨y0,y1,y2,y3,y4,y5,y6,y7,y8,y9,y10,y11⟩:=HC.out _ hf.out
     have hw:IntKind.i64.wrap ((pn:Int)-1)=(pn:Int)-1:=by simp[IntKind.wrap,IntKind.signed,IntKind.bits];omega
     go_wp2_with fail;refine (zaj _ _ _).mono ?_;have Hv2:=Hv.out;simp only[hlp] at Hv2;rw[Hv2];clear Hv2;rintro r w1 ⟨rfl,rfl⟩;go_wp2_with fail
     have hr:Hid (zax c=false):=by show _=_;unfold zax;rw[if_pos hp.out,Hbb.out];rfl
     go_ret;exact⟨by rw[hr.out];rfl,(F1.out.trans hf.out q4_).below q4_⟩
    ·have Hv:=q0_ hv
     clear hv;obtain⟨y0,y1,y2,y3,y4,y5,y6,y7,y8,y9,y10,y11⟩:=HC.out _ hf.out
     have hw:IntKind.i64.wrap ((pn:Int)-1)=(pn:Int)-1:=by simp[IntKind.wrap,IntKind.signed,IntKind.bits];omega
     go_wp2_with fail;refine (zaj _ _ _).mono ?_;have Hv2:=Hv.out;simp only[hlp] at Hv2;rw[Hv2];clear Hv2;rintro r w1 ⟨rfl,rfl⟩;go_wp2
     go_roundw
     case rel=>exact⟨k+1,by omega,by go_num,hf,by
      show (c.src.take (k+1)).all _=true
      rw[zao Hu.out ha.out]
      exact Hv.out⟩
     case measure=>simp[intOf];omega
   ·obtain rfl:sn=k:=by omega
    have hb:bb=true:=by
     rw[← Hbb.out];have:=ha.out;rwa[List.take_of_length_le (by omega)] at this
    subst hb
    have hbt:zax c=(zal c.nm2 c.pl2&&(decide (c.src.length=c.pl2.length)&&(inB c.bound 4096&&inB c.done 100))):=by unfold zax;rw[if_pos hp.out,Hbb.out];rfl
    obtain⟨y0,y1,y2,y3,y4,y5,y6,y7,y8,y9,y10,y11⟩:=HC.out _ hf.out
    cases e1:zal c.nm2 c.pl2
    ·have hr:Hid (zax c=false):=by show _=_;rw[hbt,e1];rfl
     have H1:=q0_ e1;clear e1 hbt;go_wp2_with fail;refine (HT.out _ hf.out).mono ?_;rw[H1.out];rintro r w2 ⟨rfl,b2⟩;have F2:Hid (Fr (fun _=>False) W1 w2):=hf.out.trans (Fr.b0 b2) q4_;clear b2 y0 y1 y2 y3 y4 y5 y6 y7 y8 y9 y10 y11;obtain⟨y0,y1,y2,y3,y4,y5,y6,y7,y8,y9,y10,y11⟩:=HC.out _ F2.out;go_wp2;go_ret;exact⟨by rw[hr.out];rfl,(F1.out.trans F2.out q4_).below q4_⟩
    cases e2:decide (c.src.length=c.pl2.length)
    ·have hne:((sn:Int)==(tn:Int))=false:=by have:=of_decide_eq_false e2;simp;omega
     have hr:Hid (zax c=false):=by show _=_;rw[hbt,e1,e2];rfl
     have H1:=q0_ e1;clear e1 e2 hbt;go_wp2_with fail;refine (HT.out _ hf.out).mono ?_;rw[H1.out];rintro r w2 ⟨rfl,b2⟩;have F2:Hid (Fr (fun _=>False) W1 w2):=hf.out.trans (Fr.b0 b2) q4_;clear b2 y0 y1 y2 y3 y4 y5 y6 y7 y8 y9 y10 y11;obtain⟨y0,y1,y2,y3,y4,y5,y6,y7,y8,y9,y10,y11⟩:=HC.out _ F2.out;go_wp2;go_ret;exact⟨by rw[hr.out];rfl,(F1.out.trans F2.out q4_).below q4_⟩
    have heq:((sn:Int)==(tn:Int))=true:=by have:=of_decide_eq_true e2;simp;omega
    cases e3:inB c.bound 4096
    ·have hr:Hid (zax c=false):=by show _=_;rw[hbt,e1,e2,e3];rfl
     have H1:=q0_ e1;have H3:=q0_ e3;clear e1 e2 e3 hbt;go_wp2_with fail;refine (HT.out _ hf.out).mono ?_;rw[H1.out];rintro r w2 ⟨rfl,b2⟩;have F2:Hid (Fr (fun _=>False) W1 w2):=hf.out.trans (Fr.b0 b2) q4_;clear b2 y0 y1 y2 y3 y4 y5 y6 y7 y8 y9 y10 y11;obtain⟨y0,y1,y2,y3,y4,y5,y6,y7,y8,y9,y10,y11⟩:=HC.out _ F2.out;go_wp2_with fail;refine (zaj _ _ _).mono ?_;rw[H3.out];rintro r w1 ⟨rfl,rfl⟩;go_wp2;go_ret;exact⟨by rw[hr.out];rfl,(F1.out.trans F2.out q4_).below q4_⟩
    cases e4:inB c.done 100
    ·have hr:Hid (zax c=false):=by show _=_;rw[hbt,e1,e2,e3,e4];rfl
     have H1:=q0_ e1;have H3:=q0_ e3;have H4:=q0_ e4;clear e1 e2 e3 e4 hbt;go_wp2_with fail;refine (HT.out _ hf.out).mono ?_;rw[H1.out];rintro r w2 ⟨rfl,b2⟩;have F2:Hid (Fr (fun _=>False) W1 w2):=hf.out.trans (Fr.b0 b2) q4_;clear b2 y0 y1 y2 y3 y4 y5 y6 y7 y8 y9 y10 y11;obtain⟨y0,y1,y2,y3,y4,y5,y6,y7,y8,y9,y10,y11⟩:=HC.out _ F2.out;go_wp2_with fail;refine (zaj _ _ _).mono ?_;rw[H3.out];rintro r w1 ⟨rfl,rfl⟩;go_wp2_with fail;refine (zaj _ _ _).mono ?_;rw[H4.out];rintro r w1 ⟨rfl,rfl⟩;go_wp2;go_ret;exact⟨by rw[hr.out];rfl,(F1.out.trans F2.out q4_).below q4_⟩
    ·have hr:Hid (zax c=true):=by show _=_;rw[hbt,e1,e2,e3,e4];rfl
     have H1:=q0_ e1;have H3:=q0_ e3;have H4:=q0_ e4;clear e1 e2 e3 e4 hbt;go_wp2_with fail;refine (HT.out _ hf.out).mono ?_;rw[H1.out];rintro r w2 ⟨rfl,b2⟩;have F2:Hid (Fr (fun _=>False) W1 w2):=hf.out.trans (Fr.b0 b2) q4_;clear b2 y0 y1 y2 y3 y4 y5 y6 y7 y8 y9 y10 y11;obtain⟨y0,y1,y2,y3,y4,y5,y6,y7,y8,y9,y10,y11⟩:=HC.out _ F2.out;go_wp2_with fail;refine (zaj _ _ _).mono ?_;rw[H3.out];rintro r w1 ⟨rfl,rfl⟩;go_wp2_with fail;refine (zaj _ _ _).mono ?_;rw[H4.out];rintro r w1 ⟨rfl,rfl⟩;go_wp2;go_ret;exact⟨by rw[hr.out];rfl,(F1.out.trans F2.out q4_).below q4_⟩
theorem zlT(h:zcn w c a)(x:za5)(hx:x.ok w):Calls prog 49 #[.agg #[.int .u64 c.gen,.int .u64 c.id,.int .i64 c.now,.string c.nm,.slice a.pA a.pn a.pc,.slice a.fA a.fn a.fc,.string c.nm2,.slice a.tA a.tn a.tc,.slice a.sA a.sn a.sc,.int .i64 c.bound,.int .i64 c.done,.slice a.eA a.en a.ec],.agg #[.int .u64 x.id,.int .i64 x.tier,.int .i64 x.shard,.int .i64 x.place,.int .i64 x.of_,.slice x.ba x.bn x.bc]] w fun r w'=>r=.returned (.bool (zaQ c.id x))∧Below w.heap.size w w':=by
 obtain⟨id,tier,shard,place,of_,ba,bn,bc,bl⟩:=x;dsimp only;have hlb:bl.length=bn:=hx.blen
 have hmb:bn≤9223372036854775807:=by have h1:bn≤bc:=hx.ble;have h2:bc≤maxLen:=hx.bmax;unfold maxLen at h2;omega
 obtain⟨W0,hW0⟩:∃ W0,W0=w.alloc (.cells #[.int .u64 c.gen,.int .u64 c.id,.int .i64 c.now,.string c.nm,.slice a.pA a.pn a.pc,.slice a.fA a.fn a.fc,.string c.nm2,.slice a.tA a.tn a.tc,.slice a.sA a.sn a.sc,.int .i64 c.bound,.int .i64 c.done,.slice a.eA a.en a.ec] 29):=⟨_,rfl⟩
 obtain⟨W1,hW1⟩:∃ W1,W1=W0.alloc (.cells #[.int .u64 id,.int .i64 tier,.int .i64 shard,.int .i64 place,.int .i64 of_,.slice ba bn bc] 56):=⟨_,rfl⟩
 have HW0:=q0_ hW0;have HW1:=q0_ hW1
 have F1:Hid (Fr (fun _=>False) w W1):=by show Fr _ _ _;rw[hW1,hW0];exact (Fr.none_alloc _ _).alloc _
 have X0:Hid (Blk W1 w.heap.size 29 #[.int .u64 c.gen,.int .u64 c.id,.int .i64 c.now,.string c.nm,.slice a.pA a.pn a.pc,.slice a.fA a.fn a.fc,.string c.nm2,.slice a.tA a.tn a.tc,.slice a.sA a.sn a.sc,.int .i64 c.bound,.int .i64 c.done,.slice a.eA a.en a.ec]):=by show Blk _ _ _ _;rw[hW1,hW0];exact (Blk.new _ _ _).alloc _
 have X1:Hid (Blk W1 (w.heap.size+1) 56 #[.int .u64 id,.int .i64 tier,.int .i64 shard,.int .i64 place,.int .i64 of_,.slice ba bn bc]):=by show Blk _ _ _ _;rw[hW1];exact Blk.new' (by rw[hW0];show _=(w.heap.push _).size;rw[Array.size_push]) _ _
 have HC:Hid (∀ W,Fr (fun _=>False) W1 W→W.cell? ⟨w.heap.size,1,none⟩=some (.int .u64 c.id)∧W.cell? ⟨w.heap.size+1,0,none⟩=some (.int .u64 id)∧W.cell? ⟨w.heap.size+1,1,none⟩=some (.int .i64 tier)∧W.cell? ⟨w.heap.size+1,2,none⟩=some (.int .i64 shard)∧W.cell? ⟨w.heap.size+1,3,none⟩=some (.int .i64 place)∧W.cell? ⟨w.heap.size+1,4,none⟩=some (.int .i64 of_)∧W.cell? ⟨w.heap.size+1,5,none⟩=some (.slice ba bn bc)):=fun W f=>by
  have b:=X0.out.fr f (fun h=>h);have d:=X1.out.fr f (fun h=>h);exact⟨b.cell 1,d.cell 0,d.cell 1,d.cell 2,d.cell 3,d.cell 4,d.cell 5⟩
 have HR:Hid (Rd W1 1 ba bn (za6 bl)):=Rd.fr0 (show Rd w 1 ba bn (za6 bl) from hx.b) F1.out;clear hx h hW0 hW1
 obtain⟨bb,hbb⟩:∃ b,bl.all (fun b=>inB b 4095)=b:=⟨_,rfl⟩
 have Hbb:=q0_ hbb;clear hbb;go_enter func49,ntmps49
 go_upto_region 1 with fail
 rw[← HW0.out, ← HW1.out];obtain⟨z0,e0,e1,e2,e3,e4,e5⟩:=HC.out _ (Fr.refl _ W1);go_wp2_with fail;clear z0 e0 e1 e2 e3 e4 e5
 go_loopw [11] (fun i wr=>∃ k:Nat,k≤bn∧i=.int .i64 k∧Hid (Fr (fun _=>False) W1 wr)∧Hid ((bl.take k).all (fun b=>inB b 4095)=true)) (fun i _=>bn-(intOf i).toNat)
 case atStart=>exact⟨0,Nat.zero_le _,rfl,(Fr.refl _ W1),rfl⟩
 case round=>
  obtain⟨k,hk,rfl,hf,ha⟩:=hrel
  by_cases hlt:k<bn
  ·obtain⟨ad,v,rfl,hu,d⟩:=(HR.out.fr0 hf.out).at_map hlt
   have Hu:=q0_ hu;clear hu
   cases hv:(fun b=>inB b 4095) v
   ·have Hv:=q0_ hv
    have hb:bb=false:=by
     rw[← Hbb.out];exact zaR (k:=k+1) (by rw[zao Hu.out ha.out];exact hv)
    subst hb;clear hv;go_wp2_with fail;refine (zaj _ _ _).mono ?_;have Hv2:inB v 4095=_:=Hv.out;rw[Hv2];clear Hv2;rintro r w1 ⟨rfl,rfl⟩;go_wp2_with fail
    have hr:Hid (zaQ c.id ⟨id,tier,shard,place,of_,some ad,bn,bc,bl⟩=false):=by show ((bl.all (fun b=>inB b 4095))&&_)=_;rw[Hbb.out];rfl
    go_ret;exact⟨by rw[hr.out];rfl,(F1.out.trans hf.out q4_).below q4_⟩
   ·have Hv:=q0_ hv
    clear hv;go_wp2_with fail;refine (zaj _ _ _).mono ?_;have Hv2:inB v 4095=_:=Hv.out;rw[Hv2];clear Hv2;rintro r w1 ⟨rfl,rfl⟩;go_wp2
    go_roundw
    case rel=>exact⟨k+1,by omega,by go_num,hf,by
     show (bl.take (k+1)).all _=true
     rw[zao Hu.out ha.out]
     exact Hv.out⟩
    case measure=>simp[intOf];omega
  ·obtain rfl:bn=k:=by omega
   have hb:bb=true:=by
    rw[← Hbb.out];have:=ha.out;rwa[List.take_of_length_le (by omega)] at this
   subst hb
   have hbt:zaQ c.id ⟨id,tier,shard,place,of_,ba,bn,bc,bl⟩=((inB tier 9&&(inB shard 7&&(decide (1≤id)&&decide (id≤c.id))))&&(decide (place=0)&&(decide (of_=bl.length)&&(decide (1≤of_)&&decide (of_≤4096))))):=by show ((bl.all (fun b=>inB b 4095))&&_)=_;rw[Hbb.out];rfl
   obtain⟨z0,e0,e1,e2,e3,e4,e5⟩:=HC.out _ hf.out
   cases q0:inB tier 9
   ·have hr:Hid (zaQ c.id ⟨id,tier,shard,place,of_,ba,bn,bc,bl⟩=false):=by show _=_;rw[hbt,q0];rfl
    have H0:=q0_ q0;clear hbt q0;go_wp2_with fail;refine (zaj _ _ _).mono ?_;rw[H0.out];rintro r w1 ⟨rfl,rfl⟩;go_wp2;go_ret;exact⟨by rw[hr.out];rfl,(F1.out.trans hf.out q4_).below q4_⟩
   cases q1:inB shard 7
   ·have hr:Hid (zaQ c.id ⟨id,tier,shard,place,of_,ba,bn,bc,bl⟩=false):=by show _=_;rw[hbt,q0,q1];rfl
    have H0:=q0_ q0;have H1:=q0_ q1;clear hbt q0 q1;go_wp2_with fail;refine (zaj _ _ _).mono ?_;rw[H0.out];rintro r w1 ⟨rfl,rfl⟩;go_wp2_with fail;refine (zaj _ _ _).mono ?_;rw[H1.out];rintro r w1 ⟨rfl,rfl⟩;go_wp2;go_ret;exact⟨by rw[hr.out];rfl,(F1.out.trans hf.out q4_).below q4_⟩
   cases q2:decide (1≤id)
   ·have hr:Hid (zaQ c.id ⟨id,tier,shard,place,of_,ba,bn,bc,bl⟩=false):=by show _=_;rw[hbt,q0,q1,q2];rfl
    have H0:=q0_ q0;have H1:=q0_ q1;have g2:¬ 1≤id:=of_decide_eq_false q2;clear hbt q0 q1 q2;go_wp2_with fail;refine (zaj _ _ _).mono ?_;rw[H0.out];rintro r w1 ⟨rfl,rfl⟩;go_wp2_with fail;refine (zaj _ _ _).mono ?_;rw[H1.out];rintro r w1 ⟨rfl,rfl⟩;go_wp2;go_ret;exact⟨by rw[hr.out];rfl,(F1.out.trans hf.out q4_).below q4_⟩
   cases q3:decide (id≤c.id)
   ·have hr:Hid (zaQ c.id ⟨id,tier,shard,place,of_,ba,bn,bc,bl⟩=false):=by show _=_;rw[hbt,q0,q1,q2,q3];rfl
    have H0:=q0_ q0;have H1:=q0_ q1;have g2:1≤id:=of_decide_eq_true q2;have g3:¬ id≤c.id:=of_decide_eq_false q3;clear hbt q0 q1 q2 q3;go_wp2_with fail;refine (zaj _ _ _).mono ?_;rw[H0.out];rintro r w1 ⟨rfl,rfl⟩;go_wp2_with fail;refine (zaj _ _ _).mono ?_;rw[H1.out];rintro r w1 ⟨rfl,rfl⟩;go_wp2;go_ret;exact⟨by rw[hr.out];rfl,(F1.out.trans hf.out q4_).below q4_⟩
   cases q4:decide (place=0)
   ·have hr:Hid (zaQ c.id ⟨id,tier,shard,place,of_,ba,bn,bc,bl⟩=false):=by show _=_;rw[hbt,q0,q1,q2,q3,q4];rfl
    have H0:=q0_ q0;have H1:=q0_ q1;have g2:1≤id:=of_decide_eq_true q2;have g3:id≤c.id:=of_decide_eq_true q3
    have g4:(place==0)=false:=by have:=of_decide_eq_false q4;simp;omega
    clear hbt q0 q1 q2 q3 q4;go_wp2_with fail;refine (zaj _ _ _).mono ?_;rw[H0.out];rintro r w1 ⟨rfl,rfl⟩;go_wp2_with fail;refine (zaj _ _ _).mono ?_;rw[H1.out];rintro r w1 ⟨rfl,rfl⟩;go_wp2;go_ret;exact⟨by rw[hr.out];rfl,(F1.out.trans hf.out q4_).below q4_⟩
   cases q5:decide (of_=bl.length)
   ·have hr:Hid (zaQ c.id ⟨id,tier,shard,place,of_,ba,bn,bc,bl⟩=false):=by show _=_;rw[hbt,q0,q1,q2,q3,q4,q5];rfl
    have H0:=q0_ q0;have H1:=q0_ q1;have g2:1≤id:=of_decide_eq_true q2;have g3:id≤c.id:=of_decide_eq_true q3
    have g4:(place==0)=true:=by have:=of_decide_eq_true q4;simp;omega
    have g5:(of_==(bn:Int))=false:=by have:=of_decide_eq_false q5;simp;omega
    clear hbt q0 q1 q2 q3 q4 q5;go_wp2_with fail;refine (zaj _ _ _).mono ?_;rw[H0.out];rintro r w1 ⟨rfl,rfl⟩;go_wp2_with fail;refine (zaj _ _ _).mono ?_;rw[H1.out];rintro r w1 ⟨rfl,rfl⟩;go_wp2;go_ret;exact⟨by rw[hr.out];rfl,(F1.out.trans hf.out q4_).below q4_⟩
   cases q6:decide (1≤of_)
   ·have hr:Hid (zaQ c.id ⟨id,tier,shard,place,of_,ba,bn,bc,bl⟩=false):=by show _=_;rw[hbt,q0,q1,q2,q3,q4,q5,q6];rfl
    have H0:=q0_ q0;have H1:=q0_ q1;have g2:1≤id:=of_decide_eq_true q2;have g3:id≤c.id:=of_decide_eq_true q3
    have g4:(place==0)=true:=by have:=of_decide_eq_true q4;simp;omega
    have g5:(of_==(bn:Int))=true:=by have:=of_decide_eq_true q5;simp;omega
    have g6:¬ 1≤of_:=of_decide_eq_false q6;clear hbt q0 q1 q2 q3 q4 q5 q6;go_wp2_with fail;refine (zaj _ _ _).mono ?_;rw[H0.out];rintro r w1 ⟨rfl,rfl⟩;go_wp2_with fail;refine (zaj _ _ _).mono ?_;rw[H1.out];rintro r w1 ⟨rfl,rfl⟩;go_wp2;go_ret;exact⟨by rw[hr.out];rfl,(F1.out.trans hf.out q4_).below q4_⟩
   ·have hr:Hid (zaQ c.id ⟨id,tier,shard,place,of_,ba,bn,bc,bl⟩=decide (of_≤4096)):=by show _=_;rw[hbt,q0,q1,q2,q3,q4,q5,q6];rfl
    have H0:=q0_ q0;have H1:=q0_ q1;have g2:1≤id:=of_decide_eq_true q2;have g3:id≤c.id:=of_decide_eq_true q3
    have g4:(place==0)=true:=by have:=of_decide_eq_true q4;simp;omega
    have g5:(of_==(bn:Int))=true:=by have:=of_decide_eq_true q5;simp;omega
    have g6:1≤of_:=of_decide_eq_true q6;clear hbt q0 q1 q2 q3 q4 q5 q6;go_wp2_with fail;refine (zaj _ _ _).mono ?_;rw[H0.out];rintro r w1 ⟨rfl,rfl⟩;go_wp2_with fail;refine (zaj _ _ _).mono ?_;rw[H1.out];rintro r w1 ⟨rfl,rfl⟩;go_wp2;go_ret;exact⟨by rw[hr.out];rfl,(F1.out.trans hf.out q4_).below q4_⟩
end
open Go.Maps (Keyed int_keyed keyOf_int_mk)
theorem zlW{cid:Int}{l:List za5}{k:Nat}(h:(l.take k).all (zaQ cid)=true)(hk:k≤l.length):(zai (l.take k)).length≤4096*k:=by
 have:∀ l:List za5,l.all (zaQ cid)=true→(zai l).length≤4096*l.length:=by
  intro l
  induction l with
  | nil=>intro _;simp[zai]
  | cons x l ih=>
   intro h;rw[List.all_cons,Bool.and_eq_true] at h;have a:=ih h.2;have b:=h.1;unfold zaQ at b;simp only[Bool.and_eq_true,decide_eq_true_eq] at b;have h1:x.of_=(x.bl.length:Int):=b.2.2.2.1;have h2:x.of_≤4096:=b.2.2.2.2.2;unfold zai at a ⊢;rw[List.flatMap_cons,q8_,List.length_cons];omega
 have:=this _ h;rw[List.length_take] at this
 have e:min k l.length=k:=by omega
 rwa[e] at this
section
variable {w:World} {c:zbf} {a:zfI}
theorem ze4(h:zcn w c a):Calls prog 13 #[.agg #[.int .u64 c.gen,.int .u64 c.id,.int .i64 c.now,.string c.nm,.slice a.pA a.pn a.pc,.slice a.fA a.fn a.fc,.string c.nm2,.slice a.tA a.tn a.tc,.slice a.sA a.sn a.sc,.int .i64 c.bound,.int .i64 c.done,.slice a.eA a.en a.ec]] w fun r w'=>r=.returned (.bool (zbd c))∧Below w.heap.size w w':=by
 obtain⟨pA,pn,pc,fA,fn,fc,tA,tn,tc,sA,sn,sc,eA,en,ec⟩:=a;dsimp only
 obtain⟨W1,hW1⟩:∃ W1,W1=w.alloc (.cells #[.int .u64 c.gen,.int .u64 c.id,.int .i64 c.now,.string c.nm,.slice pA pn pc,.slice fA fn fc,.string c.nm2,.slice tA tn tc,.slice sA sn sc,.int .i64 c.bound,.int .i64 c.done,.slice eA en ec] 29):=⟨_,rfl⟩
 have HW1:=q0_ hW1
 have F1:Hid (Fr (fun _=>False) w W1):=by show Fr _ _ _;rw[hW1];exact Fr.none_alloc _ _
 have X1:Hid (Blk W1 w.heap.size 29 #[.int .u64 c.gen,.int .u64 c.id,.int .i64 c.now,.string c.nm,.slice pA pn pc,.slice fA fn fc,.string c.nm2,.slice tA tn tc,.slice sA sn sc,.int .i64 c.bound,.int .i64 c.done,.slice eA en ec]):=by show Blk _ _ _ _;rw[hW1];exact Blk.new _ _ _
 have HC:Hid (∀ W,Fr (fun _=>False) W1 W→W.cell? ⟨w.heap.size,0,none⟩=some (.int .u64 c.gen)∧W.cell? ⟨w.heap.size,1,none⟩=some (.int .u64 c.id)∧W.cell? ⟨w.heap.size,2,none⟩=some (.int .i64 c.now)∧W.cell? ⟨w.heap.size,3,none⟩=some (.string c.nm)∧W.cell? ⟨w.heap.size,4,none⟩=some (.slice pA pn pc)∧W.cell? ⟨w.heap.size,5,none⟩=some (.slice fA fn fc)∧W.cell? ⟨w.heap.size,6,none⟩=some (.string c.nm2)∧W.cell? ⟨w.heap.size,7,none⟩=some (.slice tA tn tc)∧W.cell? ⟨w.heap.size,8,none⟩=some (.slice sA sn sc)∧W.cell? ⟨w.heap.size,9,none⟩=some (.int .i64 c.bound)∧W.cell? ⟨w.heap.size,10,none⟩=some (.int .i64 c.done)∧W.cell? ⟨w.heap.size,11,none⟩=some (.slice eA en ec)):=fun W f=>by
  have b:=X1.out.fr f (fun h=>h);exact⟨b.cell 0,b.cell 1,b.cell 2,b.cell 3,b.cell 4,b.cell 5,b.cell 6,b.cell 7,b.cell 8,b.cell 9,b.cell 10,b.cell 11⟩
 have hle:c.es.length=en:=h.le;have HP:=q0_ (zlP (h.fr0 F1.out));have HQ:=q0_ (fun (W:World) (f:Fr (fun _=>False) W1 W)=>zj5 ((h.fr0 F1.out).fr0 f));have HIn:Hid (∀ W,Fr (fun _=>False) w W→zcn W c ⟨pA,pn,pc,fA,fn,fc,tA,tn,tc,sA,sn,sc,eA,en,ec⟩):=fun W f=>h.fr0 f;have hmm:= @run_makeMap prog;clear h hW1
 cases e1:zby c
 ·have hr:Hid (zbd c=false):=by show _=_;unfold zbd;rw[e1];rfl
  have H1:=q0_ e1;clear e1 hmm;go_enter func13,ntmps13
  go_upto_region 1 with fail
  rw[← HW1.out];obtain⟨x0,x1,x2,x3,x4,x5,x6,x7,x8,x9,x10,x11⟩:=HC.out _ (Fr.refl _ W1);go_wp2_with fail;refine HP.out.mono ?_;rw[H1.out];rintro r w1 ⟨rfl,b1⟩;have F2:=q0_ (Fr.b0 b1);clear b1;clear x0 x1 x2 x3 x4 x5 x6 x7 x8 x9 x10 x11;obtain⟨x0,x1,x2,x3,x4,x5,x6,x7,x8,x9,x10,x11⟩:=HC.out _ F2.out;go_wp2;go_ret;exact⟨by rw[hr.out];rfl,(F1.out.trans F2.out q4_).below q4_⟩
 cases e2:zax c
 ·have hr:Hid (zbd c=false):=by show _=_;unfold zbd;rw[e1,e2];rfl
  have H1:=q0_ e1;have H2:=q0_ e2;clear e1 e2 hmm;go_enter func13,ntmps13
  go_upto_region 1 with fail
  rw[← HW1.out];obtain⟨x0,x1,x2,x3,x4,x5,x6,x7,x8,x9,x10,x11⟩:=HC.out _ (Fr.refl _ W1);go_wp2_with fail;refine HP.out.mono ?_;rw[H1.out];rintro r w1 ⟨rfl,b1⟩;have F2:=q0_ (Fr.b0 b1);clear b1;clear x0 x1 x2 x3 x4 x5 x6 x7 x8 x9 x10 x11;obtain⟨x0,x1,x2,x3,x4,x5,x6,x7,x8,x9,x10,x11⟩:=HC.out _ F2.out;go_wp2_with fail;refine (HQ.out w1 F2.out).mono ?_;rw[H2.out];rintro r w2 ⟨rfl,b2⟩;have F3:Hid (Fr (fun _=>False) W1 w2):=F2.out.trans (Fr.b0 b2) q4_;clear b2;clear x0 x1 x2 x3 x4 x5 x6 x7 x8 x9 x10 x11;obtain⟨x0,x1,x2,x3,x4,x5,x6,x7,x8,x9,x10,x11⟩:=HC.out _ F3.out;go_wp2;go_ret;exact⟨by rw[hr.out];rfl,(F1.out.trans F3.out q4_).below q4_⟩
 cases e3:decide (c.es.length≤90)
 ·have hne:¬ ((en:Int)≤90):=by have:=of_decide_eq_false e3;omega
  have hr:Hid (zbd c=false):=by show _=_;unfold zbd;rw[e1,e2,e3];rfl
  have H1:=q0_ e1;have H2:=q0_ e2;clear e1 e2 e3 hmm;go_enter func13,ntmps13
  go_upto_region 1 with fail
  rw[← HW1.out];obtain⟨x0,x1,x2,x3,x4,x5,x6,x7,x8,x9,x10,x11⟩:=HC.out _ (Fr.refl _ W1);go_wp2_with fail;refine HP.out.mono ?_;rw[H1.out];rintro r w1 ⟨rfl,b1⟩;have F2:=q0_ (Fr.b0 b1);clear b1;clear x0 x1 x2 x3 x4 x5 x6 x7 x8 x9 x10 x11;obtain⟨x0,x1,x2,x3,x4,x5,x6,x7,x8,x9,x10,x11⟩:=HC.out _ F2.out;go_wp2_with fail;refine (HQ.out w1 F2.out).mono ?_;rw[H2.out];rintro r w2 ⟨rfl,b2⟩;have F3:Hid (Fr (fun _=>False) W1 w2):=F2.out.trans (Fr.b0 b2) q4_;clear b2;clear x0 x1 x2 x3 x4 x5 x6 x7 x8 x9 x10 x11;obtain⟨x0,x1,x2,x3,x4,x5,x6,x7,x8,x9,x10,x11⟩:=HC.out _ F3.out;go_wp2;go_ret;exact⟨by rw[hr.out];rfl,(F1.out.trans F3.out q4_).below q4_⟩
 have hn9:en≤90:=by have:=of_decide_eq_true e3;omega
 have Hn9:=q0_ hn9;have H1:=q0_ e1;have H2:=q0_ e2;have Hn:=q0_ e3;have Hle:=q0_ hle;clear e1 e2 e3;go_enter func13,ntmps13
 go_upto_region 1 with fail
 rw[← HW1.out];obtain⟨x0,x1,x2,x3,x4,x5,x6,x7,x8,x9,x10,x11⟩:=HC.out _ (Fr.refl _ W1);go_wp2_with fail;refine HP.out.mono ?_;rw[H1.out];rintro r w1 ⟨rfl,b1⟩;have F2:=q0_ (Fr.b0 b1);clear b1;clear x0 x1 x2 x3 x4 x5 x6 x7 x8 x9 x10 x11;obtain⟨x0,x1,x2,x3,x4,x5,x6,x7,x8,x9,x10,x11⟩:=HC.out _ F2.out;go_wp2_with fail;refine (HQ.out w1 F2.out).mono ?_;rw[H2.out];rintro r w2 ⟨rfl,b2⟩;have F3:Hid (Fr (fun _=>False) W1 w2):=F2.out.trans (Fr.b0 b2) q4_;clear b2;clear x0 x1 x2 x3 x4 x5 x6 x7 x8 x9 x10 x11;obtain⟨x0,x1,x2,x3,x4,x5,x6,x7,x8,x9,x10,x11⟩:=HC.out _ F3.out
 go_upto_region 4 with fail
 obtain⟨Wm,hWm⟩:∃ Wm,Wm=(w2.alloc (.map #[] 0)).alloc (.map #[] 0):=⟨_,rfl⟩
 rw[← hWm]
 have FWm:Hid (Fr (fun _=>False) W1 Wm):=by show Fr _ _ _;rw[hWm];exact (F3.out.alloc _).alloc _
 have Fm:Hid (Fr (fun _=>False) w Wm):=F1.out.trans FWm.out q4_;have H2m:Hid (w.heap.size≤w2.heap.size):=(F1.out.trans F3.out q4_).size;have H3m:Hid (W1.heap.size≤w2.heap.size):=F3.out.size
 have H4m:Hid (Wm.heap.size=w2.heap.size+2):=by show _=_;rw[hWm];show ((w2.heap.push _).push _).size=_;rw[Array.size_push,Array.size_push]
 have SI:Hid (zgT Wm w2.heap.size []):=by show zgT _ _ _;rw[hWm];exact (zgT.made w2).fr (Fr.none_alloc _ _) (fun h=>h)
 have SP:Hid (zjk Wm (w2.heap.size+1) []):=by
  have:=zjk.made (w2.alloc (.map #[] 0));rw[← hWm] at this
  have e:(w2.alloc (.map #[] 0)).heap.size=w2.heap.size+1:=by show (w2.heap.push _).size=_;rw[Array.size_push]
  rw[e] at this;exact this
 clear hWm hmm x0 x1 x2 x3 x4 x5 x6 x7 x8 x9 x10 x11;obtain⟨x0,x1,x2,x3,x4,x5,x6,x7,x8,x9,x10,x11⟩:=HC.out _ FWm.out;go_wp2_with fail;clear x0 x1 x2 x3 x4 x5 x6 x7 x8 x9 x10 x11
 go_loopw [5,29] (fun s5 s29 wr=>∃ k:Nat,k≤en∧s29=.int .i64 k∧s5=.int .i64 ((zai (c.es.take k)).length:Nat)∧Hid ((c.es.take k).all (zaQ c.id)=true)∧zgT wr w2.heap.size (zai (c.es.take k))∧zjk wr (w2.heap.size+1) (zaM (c.es.take k))∧Fr (fun j=>j=w2.heap.size∨j=w2.heap.size+1) Wm wr) (fun _ i _=>en-(intOf i).toNat)
 case atStart=>exact⟨0,Nat.zero_le _,rfl,rfl,rfl,SI.out,SP.out,Fr.refl _ _⟩
 case round=>
  obtain⟨k,hk,rfl,rfl,hall,hsi,hsp,hf⟩:=hrel;have Fwr:Hid (Fr (fun _=>False) w wr):=Fm.out.trans hf (fun i hi=>.inr (by have:=H2m.out;omega));have FWr:Hid (Fr (fun _=>False) W1 wr):=FWm.out.trans hf (fun i hi=>.inr (by have:=H3m.out;omega));have Hsi:=q0_ hsi;have Hsp:=q0_ hsp;have Hf:=q0_ hf;clear hsi hsp hf
  by_cases hlt:k<en
  ·obtain⟨ad,⟨id,tier,shard,place,of_,ba,bn,bc,bl⟩,rfl,hu,d0,d1,d2,d3,d4,d5⟩:=(HIn.out _ Fwr.out).re.ent hlt
   dsimp only at d0 d1 d2 d3 d4 d5;have Hu:=q0_ hu;have hok:=(HIn.out _ Fwr.out).we _ (zab hu);clear hu
   go_upto_region 8 with fail
   obtain⟨W3,hW3⟩:∃ W3,W3=wr.alloc (.cells #[.int .u64 id,.int .i64 tier,.int .i64 shard,.int .i64 place,.int .i64 of_,.slice ba bn bc] 56):=⟨_,rfl⟩
   rw[← hW3]
   have F3:Hid (Fr (fun _=>False) wr W3):=by show Fr _ _ _;rw[hW3];exact Fr.none_alloc _ _
   have X3:Hid (Blk W3 wr.heap.size 56 #[.int .u64 id,.int .i64 tier,.int .i64 shard,.int .i64 place,.int .i64 of_,.slice ba bn bc]):=by show Blk _ _ _ _;rw[hW3];exact Blk.new _ _ _
   have HE:Hid (∀ W,Fr (fun j=>j=w2.heap.size∨j=w2.heap.size+1) W3 W→W.cell? ⟨wr.heap.size,0,none⟩=some (.int .u64 id)∧W.cell? ⟨wr.heap.size,1,none⟩=some (.int .i64 tier)∧W.cell? ⟨wr.heap.size,2,none⟩=some (.int .i64 shard)∧W.cell? ⟨wr.heap.size,3,none⟩=some (.int .i64 place)∧W.cell? ⟨wr.heap.size,4,none⟩=some (.int .i64 of_)∧W.cell? ⟨wr.heap.size,5,none⟩=some (.slice ba bn bc)):=fun W f=>by
    have hs:=Hf.out.size;have b:=X3.out.fr f (fun h=>by have:=H4m.out;omega);exact⟨b.cell 0,b.cell 1,b.cell 2,b.cell 3,b.cell 4,b.cell 5⟩
   have HK:=q0_ (zlT (HIn.out W3 (Fwr.out.trans F3.out q4_)) _ (hok.fr0 F3.out));have Hok:=q0_ hok;clear hW3 d0 d1 d2 d3 d4 d5 hok;obtain⟨x0,x1,x2,x3,x4,x5,x6,x7,x8,x9,x10,x11⟩:=HC.out _ (FWr.out.trans F3.out q4_);obtain⟨z0,z1,z2,z3,z4,z5⟩:=HE.out _ (Fr.refl _ W3)
   cases he:zaQ c.id ⟨id,tier,shard,place,of_,ba,bn,bc,bl⟩
   ·rw[he] at HK
    have hr:Hid (zbd c=false):=by
     have:c.es.all (zaQ c.id)=false:=zaR (k:=k+1) (by rw[zao Hu.out hall.out,he])
     show _=_
     unfold zbd;rw[H1.out,H2.out,Hn.out,this]
     rfl
    clear he;go_wp2_with fail;refine HK.out.mono ?_;rintro r w4 ⟨rfl,b4⟩;have F4:Hid (Fr (fun _=>False) w w4):=(Fwr.out.trans F3.out q4_).trans (Fr.b0 b4) q4_;clear b4;go_wp2;go_ret;exact⟨by rw[hr.out];rfl,F4.out.below q4_⟩
   ·rw[he] at HK
    have He:=q0_ he;clear he;go_wp2_with fail;refine HK.out.mono ?_;rintro r w4 ⟨rfl,b4⟩;have F4:Hid (Fr (fun _=>False) wr w4):=F3.out.trans (Fr.b0 b4) q4_;have F34:Hid (Fr (fun _=>False) W3 w4):=Fr.b0 b4;clear b4 x0 x1 x2 x3 x4 x5 x6 x7 x8 x9 x10 x11 z0 z1 z2 z3 z4 z5;have Hp4:=q0_ (Hsp.out.fr F4.out (fun h=>h));have Hi4:=q0_ (Hsi.out.fr F4.out (fun h=>h));obtain⟨z0,z1,z2,z3,z4,z5⟩:=HE.out _ (F34.out.mono q4_);have hkey:keyOf prog 116 (.agg #[.int .i64 tier,.int .i64 shard])=some (zgM tier shard):=zi_ Hok.out.tier Hok.out.shard
    have hpl:(zaM (c.es.take k)).length<maxLen:=by unfold zaM maxLen;rw[List.length_map,List.length_take];have:=Hn9.out;omega
    go_wp2_with (first
     | (at_mapUpdate;go_loud (refine wpList_mapUpdate_own _ rfl _ _ _ 113 rfl 116 115 ziW underlying113 _ (w2.heap.size+1) _ _ rfl Hp4.out hpl _ _ _ rfl rfl hkey _ [] unitElem_mk ?_;intro w5 hown5 hgrow5;have F5:=q0_ (zkL hgrow5);obtain⟨t0,t1,t2,t3,t4,t5⟩:=HE.out w5 ((F34.out.mono q4_).trans F5.out (fun _ h=>.inl (.inr h)))))
     | go_in)
    clear t0 t1 t2 t3 t4 t5;have hlb:bl.length=bn:=Hok.out.blen
    have hmb:bn≤4096:=by
     have h:=He.out;unfold zaQ at h;simp only[Bool.and_eq_true,decide_eq_true_eq] at h;have h1:of_=(bl.length:Int):=h.2.2.2.1;have h2:of_≤4096:=h.2.2.2.2.2;omega
    have Hbl:=q0_ hlb;have HB:=q0_ hmb
    have Hp5:Hid (zjk w5 (w2.heap.size+1) (zaM (c.es.take (k+1)))):=by
     show zjk _ _ _
     unfold zaM;rw[zan Hu.out,List.map_append,List.map_singleton];exact zjk.snoc (x:=(tier,shard)) hown5
    have Hi5:Hid (zgT w5 w2.heap.size (zai (c.es.take k))):=Hi4.out.fr F5.out (by omega)
    have HR5:Hid (∀ W,Fr (fun j=>j=w2.heap.size) w5 W→Rd W 1 ba bn (za6 bl)):=fun W f=>by
     have hs:=Hf.out.size;have f2:Fr (fun _=>False) w W:=((Fwr.out.trans F4.out q4_).trans F5.out (fun i hi=>.inr (by have:=H2m.out;omega))).trans f (fun i hi=>.inr (by have:=H2m.out;omega));exact ((HIn.out _ f2).we _ (zab Hu.out)).b
    have Hbw:Hid (∀ v∈bl,zbT v):=Hok.out.bwf;have hbs:(zai (c.es.take k)).length≤4096*k:=zlW hall.out (by omega);have Hbs:=q0_ hbs;clear hown5 hgrow5 hlb hmb hpl hkey Hp4 Hi4 HK hbs z0 z1 z2 z3 z4 z5
    go_loopw [49] (fun s wi=>∃ j:Nat,j≤bn∧s=.int .i64 j∧zgT wi w2.heap.size (zai (c.es.take k)++bl.take j)∧Fr (fun j=>j=w2.heap.size) w5 wi) (fun s _=>bn-(intOf s).toNat)
    case atStart=>exact⟨0,Nat.zero_le _,rfl,by rw[List.take_zero,List.append_nil];exact Hi5.out,Fr.refl _ _⟩
    case round=>
     obtain⟨j,hj,rfl,hsj,hfj⟩:=hrel;have Hsj:=q0_ hsj;have Hfj:=q0_ hfj
     by_cases hjl:j<bn
     ·obtain⟨ad2,v,rfl,hv,d⟩:=(HR5.out _ hfj).at_map hjl
      have Hv:=q0_ hv;clear hv hsj hfj;have hmb:bn≤4096:=HB.out;have hkey:keyOf prog 3 (.int .i64 v)=some (zpx v):=keyOf_int_mk underlying3 (zqk (Hbw.out v (zab Hv.out)))
      have hpl:(zai (c.es.take k)++bl.take j).length<maxLen:=by unfold maxLen;rw[q8_,List.length_take];have:=Hbs.out;have:=Hn9.out;omega
      go_wp2_with (first
       | (at_mapUpdate;refine wpList_mapUpdate_own _ rfl _ _ _ 112 rfl 3 115 zp2 underlying112 _ w2.heap.size _ _ rfl Hsj.out hpl _ _ _ rfl rfl hkey _ [] unitElem_mk ?_;intro w6 hown6 hgrow6)
       | go_in)
      have H6:Hid (zgT w6 w2.heap.size (zai (c.es.take k)++bl.take (j+1))):=by
       show zgT _ _ _
       rw[zan Hv.out, ← List.append_assoc];exact zgT.snoc hown6
      have F6:Hid (Fr (fun j=>j=w2.heap.size) w5 w6):=Hfj.out.trans (zkL hgrow6) (fun _ h=>.inl h);clear hown6 hgrow6 hkey hpl
      go_roundw
      case rel=>exact⟨j+1,by omega,by go_num,H6.out,F6.out⟩
      case measure=>simp[intOf];omega
     ·obtain rfl:bn=j:=by omega
      have Hs7:Hid (zgT wr w2.heap.size (zai (c.es.take (k+1)))):=by
       show zgT _ _ _
       have e:zai (c.es.take (k+1))=zai (c.es.take k)++bl:=by
        unfold zai;rw[zan Hu.out,List.flatMap_append];simp
       rw[e];have:=Hsj.out;rw[show bl.take bn=bl from List.take_of_length_le (by rw[Hbl.out];exact Nat.le_refl _)] at this;exact this
      have Hp7:Hid (zjk wr (w2.heap.size+1) (zaM (c.es.take (k+1)))):=Hp5.out.fr Hfj.out (by omega);have F7:Hid (Fr (fun j=>j=w2.heap.size∨j=w2.heap.size+1) Wm wr):=((Hf.out.trans F4.out q4_).trans F5.out (fun _ h=>.inl (.inr h))).trans Hfj.out (fun _ h=>.inl (.inl h));obtain⟨t0,t1,t2,t3,t4,t5⟩:=HE.out wr (((F34.out.mono q4_).trans F5.out (fun _ h=>.inl (.inr h))).trans Hfj.out (fun _ h=>.inl (.inl h)))
      have hw:IntKind.i64.wrap (((zai (c.es.take k)).length:Int)+(bn:Int))=((zai (c.es.take (k+1))).length:Int):=by
       have e:(zai (c.es.take (k+1))).length=(zai (c.es.take k)).length+bn:=by
        unfold zai;rw[zan Hu.out,List.flatMap_append,q8_];simp[Hbl.out]
       rw[e];have h1:=Hbs.out;have h2:=HB.out;have h3:=Hn9.out;simp[IntKind.wrap,IntKind.signed,IntKind.bits];omega
      clear hsj hfj;go_wp2_with fail;clear t0 t1 t2 t3 t4 t5
      go_roundw
      case rel=>exact⟨k+1,by omega,by go_num,by first | rfl | (rw[hw]),by
       show (c.es.take (k+1)).all _=true
       rw[zao Hu.out hall.out]
       exact He.out,Hs7.out,Hp7.out,F7.out⟩
      case measure=>simp[intOf];omega
  ·obtain rfl:en=k:=by omega
   have hte:c.es.take en=c.es:=List.take_of_length_le (by rw[Hle.out];exact Nat.le_refl _);have hsi:=Hsi.out;have hsp:=Hsp.out;have hall2:=hall.out;rw[hte] at hsi hsp hall2;rw[hte]
   obtain⟨s1,hs1,hl1⟩:=hsi.len (fun v hv=>by
    unfold zai at hv;obtain⟨x,hx,hv⟩:=List.mem_flatMap.1 hv
    exact ((HIn.out _ Fwr.out).we x hx).bwf v hv)
   obtain⟨s2,hs2,hl2⟩:=hsp.len (fun v hv=>by
    unfold zaM at hv;obtain⟨x,hx,rfl⟩:=List.mem_map.1 hv
    exact⟨((HIn.out _ Fwr.out).we x hx).tier,((HIn.out _ Fwr.out).we x hx).shard⟩)
   have hpl:(zaM c.es).length=en:=by unfold zaM;rw[List.length_map];exact Hle.out
   have hcb:zbd c=(decide (zaM c.es).Nodup&&decide (zai c.es).Nodup):=by
    unfold zbd;rw[H1.out,H2.out,Hn.out,hall2]
    rfl
   clear hsi hsp hte hall2;obtain⟨x0,x1,x2,x3,x4,x5,x6,x7,x8,x9,x10,x11⟩:=HC.out _ FWr.out
   cases eP:decide (zaM c.es).Nodup
   ·have g2:((s2:Int)==(en:Int))=false:=by
     have:=of_decide_eq_false eP;rw[← hs2,hpl] at this;simp;omega
    have hr:Hid (zbd c=false):=by show _=_;rw[hcb,eP];rfl
    clear eP hcb hs1 hs2;go_wp2;go_ret;exact⟨by rw[hr.out];rfl,Fwr.out.below q4_⟩
   ·have g2:((s2:Int)==(en:Int))=true:=by
     have:=of_decide_eq_true eP;rw[← hs2,hpl] at this;simp;omega
    have hr:Hid (zbd c=((s1:Int)==((zai c.es).length:Int))):=by
     show _=_
     rw[hcb,eP]
     show decide _=_
     rw[decide_eq_decide.2 hs1.symm]
     by_cases e:s1=(zai c.es).length
     ·simp[e]
     ·rw[q9_ e]
      symm
      simp;omega
    clear eP hcb hs1 hs2;go_wp2;go_ret;exact⟨by rw[hr.out];rfl,Fwr.out.below q4_⟩
end
def zfr(n m:Int):Int:=if n<0∨n<m then -1 else n-m
theorem zn8(n m:Int)(g:Nat)(W:World)(hn:n≤300∧ -1≤n)(hm:0≤m)(hc:W.cell? ⟨g,0,none⟩=some (.int .i64 m)):
  Calls prog 36 #[.int .i64 n,.slice (some ⟨g,0,none⟩) 1 1] W fun r w'=>r=.returned (.int .i64 (zfr n m))∧W=w':=by
 have Hc:=q0_ hc;clear hc
 by_cases h0:n<0
 ·have e:zfr n m= -1:=by unfold zfr;rw[if_pos (.inl h0)]
  rw[e];go_enter func36,ntmps36;go_wp2_with fail
  go_loopw [0,5] (fun q i wr=>i=.int .i64 0∧q=.int .i64 n∧W=wr) (fun _ _ _=>0)
  case atStart=>exact⟨rfl,rfl,rfl⟩
  case round=>
   obtain⟨rfl,rfl,rfl⟩:=hrel;go_wp2;go_ret;exact⟨rfl,rfl⟩
 ·by_cases h1:n<m
  ·have e:zfr n m= -1:=by unfold zfr;rw[if_pos (.inr h1)]
   rw[e];go_enter func36,ntmps36;go_wp2_with fail
   go_loopw [0,5] (fun q i wr=>i=.int .i64 0∧q=.int .i64 n∧W=wr) (fun _ _ _=>0)
   case atStart=>exact⟨rfl,rfl,rfl⟩
   case round=>
    obtain⟨rfl,rfl,rfl⟩:=hrel;have c0:=Hc.out;go_wp2;go_ret;exact⟨rfl,rfl⟩
  ·have e:zfr n m=n-m:=by unfold zfr;rw[if_neg (by omega)]
   rw[e];go_enter func36,ntmps36;go_wp2_with fail
   go_loopw [0,5] (fun q i wr=>∃ k:Nat,k≤1∧i=.int .i64 k∧q=.int .i64 (if k=0 then n else n-m)∧W=wr) (fun _ i _=>1-(intOf i).toNat)
   case atStart=>exact⟨0,by omega,rfl,rfl,rfl⟩
   case round=>
    obtain⟨k,hk,rfl,rfl,rfl⟩:=hrel
    by_cases hk0:k=0
    ·subst hk0
     have c0:=Hc.out;rw[if_pos rfl]
     have hw:IntKind.i64.wrap (n-m)=n-m:=by simp[IntKind.wrap,IntKind.signed,IntKind.bits];omega
     go_wp2
     go_roundw
     case rel=>exact⟨1,by omega,by first | rfl | go_num,by first | rfl | simp,by first | rfl | trivial⟩
     case measure=>simp[intOf]
    ·obtain rfl:k=1:=by omega
     rw[if_neg (by decide)];go_wp2;go_ret;exact⟨rfl,rfl⟩
section
variable {w:World} {c:zbf} {a:zfI}
def zdo(c:zbf):Prop:=c.es.length≤95∧(zai c.es).length≤300∧c.pl.length≤10∧c.nm.size≤60∧c.pl2.length≤10∧c.nm2.size≤60∧c.fl.length≤20∧c.src.length≤20
def za9(c:zbf)(r:Ending):Prop:=∃ b,r=.returned (.bool b)∧(b=true→zdo c)
theorem za9.no{c:zbf}:za9 c (.returned (.bool false)):=⟨false,rfl,fun h=>by cases h⟩
theorem za9.of{c:zbf}(b:Bool)(h:b=true→zdo c):za9 c (.returned (.bool b)):=⟨b,rfl,h⟩
theorem zlO(h:zcn w c a):Calls prog 7 #[.agg #[.int .u64 c.gen,.int .u64 c.id,.int .i64 c.now,.string c.nm,.slice a.pA a.pn a.pc,.slice a.fA a.fn a.fc,.string c.nm2,.slice a.tA a.tn a.tc,.slice a.sA a.sn a.sc,.int .i64 c.bound,.int .i64 c.done,.slice a.eA a.en a.ec]] w fun r w'=>za9 c r∧Below w.heap.size w w':=by
 obtain⟨pA,pn,pc,fA,fn,fc,tA,tn,tc,sA,sn,sc,eA,en,ec⟩:=a;dsimp only
 obtain⟨W1,hW1⟩:∃ W1,W1=w.alloc (.cells #[.int .u64 c.gen,.int .u64 c.id,.int .i64 c.now,.string c.nm,.slice pA pn pc,.slice fA fn fc,.string c.nm2,.slice tA tn tc,.slice sA sn sc,.int .i64 c.bound,.int .i64 c.done,.slice eA en ec] 29):=⟨_,rfl⟩
 have HW1:=q0_ hW1
 have F1:Hid (Fr (fun _=>False) w W1):=by show Fr _ _ _;rw[hW1];exact Fr.none_alloc _ _
 have X1:Hid (Blk W1 w.heap.size 29 #[.int .u64 c.gen,.int .u64 c.id,.int .i64 c.now,.string c.nm,.slice pA pn pc,.slice fA fn fc,.string c.nm2,.slice tA tn tc,.slice sA sn sc,.int .i64 c.bound,.int .i64 c.done,.slice eA en ec]):=by show Blk _ _ _ _;rw[hW1];exact Blk.new _ _ _
 have HC:Hid (∀ W,Fr (fun _=>False) W1 W→W.cell? ⟨w.heap.size,0,none⟩=some (.int .u64 c.gen)∧W.cell? ⟨w.heap.size,1,none⟩=some (.int .u64 c.id)∧W.cell? ⟨w.heap.size,2,none⟩=some (.int .i64 c.now)∧W.cell? ⟨w.heap.size,3,none⟩=some (.string c.nm)∧W.cell? ⟨w.heap.size,4,none⟩=some (.slice pA pn pc)∧W.cell? ⟨w.heap.size,5,none⟩=some (.slice fA fn fc)∧W.cell? ⟨w.heap.size,6,none⟩=some (.string c.nm2)∧W.cell? ⟨w.heap.size,7,none⟩=some (.slice tA tn tc)∧W.cell? ⟨w.heap.size,8,none⟩=some (.slice sA sn sc)∧W.cell? ⟨w.heap.size,9,none⟩=some (.int .i64 c.bound)∧W.cell? ⟨w.heap.size,10,none⟩=some (.int .i64 c.done)∧W.cell? ⟨w.heap.size,11,none⟩=some (.slice eA en ec)):=fun W f=>by
  have b:=X1.out.fr f (fun h=>h);exact⟨b.cell 0,b.cell 1,b.cell 2,b.cell 3,b.cell 4,b.cell 5,b.cell 6,b.cell 7,b.cell 8,b.cell 9,b.cell 10,b.cell 11⟩
 have Hle:Hid (c.es.length=en):=h.le;have Hlp:Hid (c.pl.length=pn):=h.lp;have Hlt:Hid (c.pl2.length=tn):=h.lt;have Hlf:Hid (c.fl.length=fn):=h.lf;have Hls:Hid (c.src.length=sn):=h.ls
 have hmx:en≤9223372036854775807:=by have h1:en≤ec∧ec≤maxLen:=h.ce;unfold maxLen at h1;omega
 have hmp:pn≤9223372036854775807:=by have h1:pn≤pc∧pc≤maxLen:=h.cp;unfold maxLen at h1;omega
 have hmt:tn≤9223372036854775807:=by have h1:tn≤tc∧tc≤maxLen:=h.ct;unfold maxLen at h1;omega
 have HS1:=q0_ (fun (W:World) (f:Fr (fun _=>False) W1 W)=>zhM c.nm c.pl pA pn pc W (Rd.fr0 (Rd.fr0 h.rp F1.out) f) hmp h.nm (fun t ht=>(h.wp t ht).2.2.2));have HS2:=q0_ (fun (W:World) (f:Fr (fun _=>False) W1 W)=>zhM c.nm2 c.pl2 tA tn tc W (Rd.fr0 (Rd.fr0 h.rt F1.out) f) hmt h.nm2 (fun t ht=>(h.wt t ht).2.2.2));have HRe:Hid (∀ W,Fr (fun _=>False) W1 W→Rd W 6 eA en (zbN c.es)):=fun W f=>Rd.fr0 (Rd.fr0 h.re F1.out) f;have Hbl:Hid (∀ x∈c.es,x.bl.length=x.bn):=fun x hx=>(h.we x hx).blen;unfold zdw at HS1 HS2;clear h hW1 hmp hmt;go_enter func7,ntmps7
 go_upto_region 1 with fail
 rw[← HW1.out]
 go_upto_region 2 with fail
 go_wp2_with fail
 go_loopw [3,4] (fun q i wr=>∃ (k:Nat) (z:Int),k≤en∧i=.int .i64 k∧q=.int .i64 z∧(z≤300∧ -1≤z)∧Hid (0≤z→((zai (c.es.take k)).length:Int)+z≤300)∧Hid (Fr (fun _=>False) W1 wr)) (fun _ i _=>en-(intOf i).toNat)
 case atStart=>exact⟨0,300,Nat.zero_le _,rfl,rfl,⟨by decide,by decide⟩,fun _=>by simp[zai],Fr.refl _ _⟩
 case round=>
  obtain⟨k,z,hk,rfl,rfl,hzr,hsum,hf⟩:=hrel
  by_cases hlt:k<en
  ·by_cases h120:k<120
   ·by_cases hz:0≤z
    ·obtain⟨ad,x,rfl,hu,_,_,_,_,_,d5⟩:=(HRe.out _ hf.out).ent hlt
     have Hu:=q0_ hu;have Hxl:=q0_ (Hbl.out x (zab hu))
     obtain⟨W5,hW5⟩:∃ W5,W5=wr.alloc (.cells #[.int .i64 x.bn] 3):=⟨_,rfl⟩
     have b5:Blk W5 wr.heap.size 3 #[.int .i64 x.bn]:=by rw[hW5];exact Blk.new _ _ _
     have HR:=q0_ (zn8 z x.bn wr.heap.size W5 hzr (by omega) (b5.cell 0))
     have F5:Hid (Fr (fun _=>False) W1 W5):=by show Fr _ _ _;rw[hW5];exact hf.out.alloc _
     have HW5:=q0_ hW5;clear hu b5 hW5;obtain⟨x0,x1,x2,x3,x4,x5,x6,x7,x8,x9,x10,x11⟩:=HC.out _ hf.out;go_wp2_with fail;rw[← HW5.out];refine HR.out.mono ?_;rintro r w6 ⟨rfl,rfl⟩
     have hz2:(zfr z x.bn≤300∧ -1≤zfr z x.bn)∧(0≤zfr z x.bn→((zai (c.es.take (k+1))).length:Int)+zfr z x.bn≤300):=by
      have hs:=hsum.out hz
      have e:(zai (c.es.take (k+1))).length=(zai (c.es.take k)).length+x.bn:=by
       unfold zai;rw[zan Hu.out,List.flatMap_append,q8_];simp[Hxl.out]
      rw[e];unfold zfr
      split<;>refine⟨⟨?_,?_⟩,?_⟩<;>omega
     have Hz2:=q0_ hz2;clear hz2 x0 x1 x2 x3 x4 x5 x6 x7 x8 x9 x10 x11;go_wp2
     go_roundw
     case rel=>exact⟨k+1,_,by omega,by go_num,rfl,Hz2.out.1,Hz2.out.2,F5.out⟩
     case measure=>simp[intOf];omega
    ·obtain⟨x0,x1,x2,x3,x4,x5,x6,x7,x8,x9,x10,x11⟩:=HC.out _ hf.out
     go_wp2_with fail;refine (HS1.out _ hf.out).mono ?_;rintro r w2 ⟨⟨b1,rfl,hb1⟩,bb⟩;have F2:Hid (Fr (fun _=>False) W1 w2):=hf.out.trans (Fr.b0 bb) q4_;have Hb1:=q0_ hb1;clear bb hb1;clear x0 x1 x2 x3 x4 x5 x6 x7 x8 x9 x10 x11;obtain⟨x0,x1,x2,x3,x4,x5,x6,x7,x8,x9,x10,x11⟩:=HC.out _ F2.out
     cases b1
     ·go_wp2
      go_ret;exact⟨za9.no,(F1.out.trans F2.out q4_).below q4_⟩
     go_wp2_with fail;refine (HS2.out _ F2.out).mono ?_;rintro r w3 ⟨⟨b2,rfl,hb2⟩,bb⟩;have F3:Hid (Fr (fun _=>False) W1 w3):=F2.out.trans (Fr.b0 bb) q4_;have Hb2:=q0_ hb2;clear bb hb2;clear x0 x1 x2 x3 x4 x5 x6 x7 x8 x9 x10 x11;obtain⟨x0,x1,x2,x3,x4,x5,x6,x7,x8,x9,x10,x11⟩:=HC.out _ F3.out
     cases b2
     ·go_wp2
      go_ret;exact⟨za9.no,(F1.out.trans F3.out q4_).below q4_⟩
     by_cases g1:(fn:Int)≤20
     rotate_left
     ·go_wp2
      go_ret;exact⟨za9.no,(F1.out.trans F3.out q4_).below q4_⟩
     by_cases g2:(sn:Int)≤20
     rotate_left
     ·go_wp2
      go_ret;exact⟨za9.no,(F1.out.trans F3.out q4_).below q4_⟩
     by_cases g3:(en:Int)≤95
     rotate_left
     ·go_wp2
      go_ret;exact⟨za9.no,(F1.out.trans F3.out q4_).below q4_⟩
     have hfin:decide (0≤z)=true→zdo c:=fun h=>by
      have hz:=of_decide_eq_true h
      have hk2:k=en:=by omega
      have h1:=hsum.out hz;rw[hk2,List.take_of_length_le (by rw[Hle.out];exact Nat.le_refl _)] at h1;have h2:=Hb1.out (by trivial);have h3:=Hb2.out (by trivial);have e1:=Hle.out;have e2:=Hlp.out;have e3:=Hlt.out;have e4:=Hlf.out;have e5:=Hls.out;exact⟨by omega,by omega,by omega,h2.2,by omega,h3.2,by omega,by omega⟩
     have Hfin:=q0_ hfin;clear hfin;go_wp2;go_ret;exact⟨za9.of _ Hfin.out,(F1.out.trans F3.out q4_).below q4_⟩
   ·obtain⟨x0,x1,x2,x3,x4,x5,x6,x7,x8,x9,x10,x11⟩:=HC.out _ hf.out
    go_wp2_with fail;refine (HS1.out _ hf.out).mono ?_;rintro r w2 ⟨⟨b1,rfl,hb1⟩,bb⟩;have F2:Hid (Fr (fun _=>False) W1 w2):=hf.out.trans (Fr.b0 bb) q4_;have Hb1:=q0_ hb1;clear bb hb1;clear x0 x1 x2 x3 x4 x5 x6 x7 x8 x9 x10 x11;obtain⟨x0,x1,x2,x3,x4,x5,x6,x7,x8,x9,x10,x11⟩:=HC.out _ F2.out
    cases b1
    ·go_wp2
     go_ret;exact⟨za9.no,(F1.out.trans F2.out q4_).below q4_⟩
    go_wp2_with fail;refine (HS2.out _ F2.out).mono ?_;rintro r w3 ⟨⟨b2,rfl,hb2⟩,bb⟩;have F3:Hid (Fr (fun _=>False) W1 w3):=F2.out.trans (Fr.b0 bb) q4_;have Hb2:=q0_ hb2;clear bb hb2;clear x0 x1 x2 x3 x4 x5 x6 x7 x8 x9 x10 x11;obtain⟨x0,x1,x2,x3,x4,x5,x6,x7,x8,x9,x10,x11⟩:=HC.out _ F3.out
    cases b2
    ·go_wp2
     go_ret;exact⟨za9.no,(F1.out.trans F3.out q4_).below q4_⟩
    by_cases g1:(fn:Int)≤20
    rotate_left
    ·go_wp2
     go_ret;exact⟨za9.no,(F1.out.trans F3.out q4_).below q4_⟩
    by_cases g2:(sn:Int)≤20
    rotate_left
    ·go_wp2
     go_ret;exact⟨za9.no,(F1.out.trans F3.out q4_).below q4_⟩
    by_cases g3:(en:Int)≤95
    rotate_left
    ·go_wp2
     go_ret;exact⟨za9.no,(F1.out.trans F3.out q4_).below q4_⟩
    exfalso
    omega
  ·obtain⟨x0,x1,x2,x3,x4,x5,x6,x7,x8,x9,x10,x11⟩:=HC.out _ hf.out
   go_wp2_with fail;refine (HS1.out _ hf.out).mono ?_;rintro r w2 ⟨⟨b1,rfl,hb1⟩,bb⟩;have F2:Hid (Fr (fun _=>False) W1 w2):=hf.out.trans (Fr.b0 bb) q4_;have Hb1:=q0_ hb1;clear bb hb1;clear x0 x1 x2 x3 x4 x5 x6 x7 x8 x9 x10 x11;obtain⟨x0,x1,x2,x3,x4,x5,x6,x7,x8,x9,x10,x11⟩:=HC.out _ F2.out
   cases b1
   ·go_wp2
    go_ret;exact⟨za9.no,(F1.out.trans F2.out q4_).below q4_⟩
   go_wp2_with fail;refine (HS2.out _ F2.out).mono ?_;rintro r w3 ⟨⟨b2,rfl,hb2⟩,bb⟩;have F3:Hid (Fr (fun _=>False) W1 w3):=F2.out.trans (Fr.b0 bb) q4_;have Hb2:=q0_ hb2;clear bb hb2;clear x0 x1 x2 x3 x4 x5 x6 x7 x8 x9 x10 x11;obtain⟨x0,x1,x2,x3,x4,x5,x6,x7,x8,x9,x10,x11⟩:=HC.out _ F3.out
   cases b2
   ·go_wp2
    go_ret;exact⟨za9.no,(F1.out.trans F3.out q4_).below q4_⟩
   by_cases g1:(fn:Int)≤20
   rotate_left
   ·go_wp2
    go_ret;exact⟨za9.no,(F1.out.trans F3.out q4_).below q4_⟩
   by_cases g2:(sn:Int)≤20
   rotate_left
   ·go_wp2
    go_ret;exact⟨za9.no,(F1.out.trans F3.out q4_).below q4_⟩
   by_cases g3:(en:Int)≤95
   rotate_left
   ·go_wp2
    go_ret;exact⟨za9.no,(F1.out.trans F3.out q4_).below q4_⟩
   have hfin:decide (0≤z)=true→zdo c:=fun h=>by
    have hz:=of_decide_eq_true h
    have hk2:k=en:=by omega
    have h1:=hsum.out hz;rw[hk2,List.take_of_length_le (by rw[Hle.out];exact Nat.le_refl _)] at h1;have h2:=Hb1.out (by trivial);have h3:=Hb2.out (by trivial);have e1:=Hle.out;have e2:=Hlp.out;have e3:=Hlt.out;have e4:=Hlf.out;have e5:=Hls.out;exact⟨by omega,by omega,by omega,h2.2,by omega,h3.2,by omega,by omega⟩
   have Hfin:=q0_ hfin;clear hfin;go_wp2;go_ret;exact⟨za9.of _ Hfin.out,(F1.out.trans F3.out q4_).below q4_⟩
end
end Go.Proofs.YteajonicnkpbbaaGreatDoor
