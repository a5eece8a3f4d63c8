/- Walks of cat: within, taken, Pending, plain, change, entry. -/
import Derived.Test.YtjhhodndlkpmhaaGreatDoorReadLaw
import Derived.Test.YtjhhodndlkpmhaaGreatDoorTabAddL
namespace Go.Proofs.YtjhhodndlkpmhaaGreatDoor
set_option linter.all false
set_option maxHeartbeats 8000000
set_option maxRecDepth 100000
open Go.RowKit Tryz
theorem zaj(n most:Int)(w:World):Calls prog 143 #[.int .i64 n,.int .i64 most] w fun r w'=>r=.returned (.bool (inB n most))∧w=w':=by
 have go:∀ b1 b2:Bool,decide (0≤n)=b1→decide (n≤most)=b2→Calls prog 143 #[.int .i64 n,.int .i64 most] w fun r w'=>r=.returned (.bool (b1&&b2))∧w=w':=by
  intro b1 b2 e1 e2
  cases b1<;>cases b2<;>(
   go_enter func143,ntmps143;go_wp2;go_ret
   exact⟨by first | rfl | simp[*],rfl⟩)
 exact go _ _ rfl rfl
theorem zhU(nm:ByteArray)(hnm:nm.size≤maxLen)(l:List za_)(A:Option Addr)(n c:Nat)(w:World)(hr:Rd w 4 A n (zah l))(hnc:n≤c)(hsz:∀ t∈l,t.name.size≤maxLen):
  Calls prog 144 #[.agg #[.string nm,.slice A n c]] w fun r w'=>r=.returned (.bool (zak nm l))∧Below w.heap.size w w':=by
 have f1:Fr (fun _=>False) w (w.alloc (.cells #[.string nm,.slice A n c] 51)):=Fr.none_alloc _ _;have HK:=q0_ (zdV nm hnm l A n c _ (hr.fr0 f1) hnc hsz);have F1:=q0_ f1;have X1:=Blk.new w 51 #[.string nm,.slice A n c];have x0:=X1.cell 0;have x1:=X1.cell 1;simp only[q1_,q2_,q3_] at x0 x1;unfold zfS zfw at HK;clear hr f1 X1
 cases hc:zak nm l<;>(
  rw[hc] at HK;clear hc;go_enter func144,ntmps144;go_wp2_with fail;refine HK.out.mono ?_;rintro r w2 ⟨⟨k,rfl⟩,b2⟩;have B2:=q0_ (F1.out.trans (Fr.b0 b2) q4_);clear b2 x0 x1;go_wp2;go_ret
  exact⟨by first | rfl | simp,B2.out.below q4_⟩)
theorem zqf(n:Nat):((n:Int)==0)=decide (n=0):=by
 cases n<;>simp<;>omega
section
variable {w:World} {c:zfH} {a:zqV}
theorem zjI(h:zex w c a):Calls prog 66 #[.agg #[.int .u64 c.gen,.int .u64 c.id,.int .i64 c.now,.string c.nm,.slice a.pA a.pn a.pc,.slice a.fA a.fn a.fc,.string c.nm2,.slice a.tA a.tn a.tc,.slice a.sA a.sn a.sc,.int .i64 c.bound,.int .i64 c.done,.slice a.eA a.en a.ec]] w fun r w'=>r=.returned (.bool (zfn c))∧Below w.heap.size w w':=by
 obtain⟨W1,hW1⟩:∃ W1,W1=w.alloc (.cells #[.int .u64 c.gen,.int .u64 c.id,.int .i64 c.now,.string c.nm,.slice a.pA a.pn a.pc,.slice a.fA a.fn a.fc,.string c.nm2,.slice a.tA a.tn a.tc,.slice a.sA a.sn a.sc,.int .i64 c.bound,.int .i64 c.done,.slice a.eA a.en a.ec] 55):=⟨_,rfl⟩
 have HW1:=q0_ hW1
 have F1:Hid (Fr (fun _=>False) w W1):=by show Fr _ _ _;rw[hW1];exact Fr.none_alloc _ _
 have X1:Hid (Blk W1 w.heap.size 55 #[.int .u64 c.gen,.int .u64 c.id,.int .i64 c.now,.string c.nm,.slice a.pA a.pn a.pc,.slice a.fA a.fn a.fc,.string c.nm2,.slice a.tA a.tn a.tc,.slice a.sA a.sn a.sc,.int .i64 c.bound,.int .i64 c.done,.slice a.eA a.en a.ec]):=by show Blk _ _ _ _;rw[hW1];exact Blk.new _ _ _
 have HC:Hid (∀ W,Fr (fun _=>False) W1 W→W.cell? ⟨w.heap.size,0,none⟩=some (.int .u64 c.gen)∧W.cell? ⟨w.heap.size,1,none⟩=some (.int .u64 c.id)∧W.cell? ⟨w.heap.size,2,none⟩=some (.int .i64 c.now)∧W.cell? ⟨w.heap.size,3,none⟩=some (.string c.nm)∧W.cell? ⟨w.heap.size,4,none⟩=some (.slice a.pA a.pn a.pc)∧W.cell? ⟨w.heap.size,5,none⟩=some (.slice a.fA a.fn a.fc)∧W.cell? ⟨w.heap.size,6,none⟩=some (.string c.nm2)∧W.cell? ⟨w.heap.size,7,none⟩=some (.slice a.tA a.tn a.tc)∧W.cell? ⟨w.heap.size,8,none⟩=some (.slice a.sA a.sn a.sc)∧W.cell? ⟨w.heap.size,9,none⟩=some (.int .i64 c.bound)∧W.cell? ⟨w.heap.size,10,none⟩=some (.int .i64 c.done)∧W.cell? ⟨w.heap.size,11,none⟩=some (.slice a.eA a.en a.ec)):=fun W f=>by
  have b:=X1.out.fr f (fun h=>h);exact⟨b.cell 0,b.cell 1,b.cell 2,b.cell 3,b.cell 4,b.cell 5,b.cell 6,b.cell 7,b.cell 8,b.cell 9,b.cell 10,b.cell 11⟩
 have hP:Hid (zfn c=(!decide (c.nm2.size=0)||decide (0<a.tn))):=by show _=_;unfold zfn;rw[h.lt]
 clear h hW1
 by_cases h0:c.nm2=ByteArray.empty
 ·have hr:Hid (zfn c=decide (0<a.tn)):=by show _=_;rw[hP.out,h0];rfl
  rw[h0] at HC HW1 ⊢;clear h0;go_enter func66,ntmps66
  go_upto_region 1 with fail
  rw[← HW1.out];obtain⟨x0,x1,x2,x3,x4,x5,x6,x7,x8,x9,x10,x11⟩:=HC.out _ (Fr.refl _ W1);go_wp2;go_ret;exact⟨by rw[hr.out];rfl,F1.out.below q4_⟩
 ·have e0:¬ c.nm2.size=0:=fun e=>h0 (by
   have:c.nm2.data.toList=[]:=List.eq_nil_of_length_eq_zero (by rw[Array.length_toList];exact e)
   cases hq:c.nm2 with | mk d=>rw[hq] at this;congr;exact Array.toList_inj.1 this)
  have hr:Hid (zfn c=true):=by show _=_;rw[hP.out,q9_ e0];rfl
  have h1:¬ c.nm2.toList=[]:=fun e=>e0 (by
   rw[Lib.toList_data] at e
   show c.nm2.data.size=0
   rw[← Array.length_toList,e]
   rfl)
  go_enter func66,ntmps66
  go_upto_region 1 with fail
  rw[← HW1.out];obtain⟨x0,x1,x2,x3,x4,x5,x6,x7,x8,x9,x10,x11⟩:=HC.out _ (Fr.refl _ W1);go_wp2;go_ret;exact⟨by rw[hr.out];rfl,F1.out.below q4_⟩
theorem zm5(h:zex w c a):Calls prog 106 #[.agg #[.int .u64 c.gen,.int .u64 c.id,.int .i64 c.now,.string c.nm,.slice a.pA a.pn a.pc,.slice a.fA a.fn a.fc,.string c.nm2,.slice a.tA a.tn a.tc,.slice a.sA a.sn a.sc,.int .i64 c.bound,.int .i64 c.done,.slice a.eA a.en a.ec]] w fun r w'=>r=.returned (.bool (zcn c))∧Below w.heap.size w w':=by
 obtain⟨pA,pn,pc,fA,fn,fc,tA,tn,tc,sA,sn,sc,eA,en,ec⟩:=a;dsimp only
 obtain⟨W1,hW1⟩:∃ W1,W1=w.alloc (.cells #[.int .u64 c.gen,.int .u64 c.id,.int .i64 c.now,.string c.nm,.slice pA pn pc,.slice fA fn fc,.string c.nm2,.slice tA tn tc,.slice sA sn sc,.int .i64 c.bound,.int .i64 c.done,.slice eA en ec] 55):=⟨_,rfl⟩
 have HW1:=q0_ hW1
 have F1:Hid (Fr (fun _=>False) w W1):=by show Fr _ _ _;rw[hW1];exact Fr.none_alloc _ _
 have X1:Hid (Blk W1 w.heap.size 55 #[.int .u64 c.gen,.int .u64 c.id,.int .i64 c.now,.string c.nm,.slice pA pn pc,.slice fA fn fc,.string c.nm2,.slice tA tn tc,.slice sA sn sc,.int .i64 c.bound,.int .i64 c.done,.slice eA en ec]):=by show Blk _ _ _ _;rw[hW1];exact Blk.new _ _ _
 have HC:Hid (∀ W,Fr (fun _=>False) W1 W→W.cell? ⟨w.heap.size,0,none⟩=some (.int .u64 c.gen)∧W.cell? ⟨w.heap.size,1,none⟩=some (.int .u64 c.id)∧W.cell? ⟨w.heap.size,2,none⟩=some (.int .i64 c.now)∧W.cell? ⟨w.heap.size,3,none⟩=some (.string c.nm)∧W.cell? ⟨w.heap.size,4,none⟩=some (.slice pA pn pc)∧W.cell? ⟨w.heap.size,5,none⟩=some (.slice fA fn fc)∧W.cell? ⟨w.heap.size,6,none⟩=some (.string c.nm2)∧W.cell? ⟨w.heap.size,7,none⟩=some (.slice tA tn tc)∧W.cell? ⟨w.heap.size,8,none⟩=some (.slice sA sn sc)∧W.cell? ⟨w.heap.size,9,none⟩=some (.int .i64 c.bound)∧W.cell? ⟨w.heap.size,10,none⟩=some (.int .i64 c.done)∧W.cell? ⟨w.heap.size,11,none⟩=some (.slice eA en ec)):=fun W f=>by
  have b:=X1.out.fr f (fun h=>h);exact⟨b.cell 0,b.cell 1,b.cell 2,b.cell 3,b.cell 4,b.cell 5,b.cell 6,b.cell 7,b.cell 8,b.cell 9,b.cell 10,b.cell 11⟩
 have hlf:c.fl.length=fn:=h.lf;have hlp:c.pl.length=pn:=h.lp
 have hmf:fn≤9223372036854775807:=by have h1:fn≤fc∧fc≤maxLen:=h.cf;unfold maxLen at h1;omega
 have HR:Hid (Rd W1 1 fA fn (zbg c.fl)):=h.rf.fr0 F1.out;have HT:=q0_ (zhU c.nm h.nm c.pl pA pn pc W1 (h.rp.fr0 F1.out) h.cp.1 (fun t ht=>(h.wp t ht).2.2.2));clear h hW1
 cases e0:decide (c.gen=0)
 rotate_left
 ·have hg:(c.gen==0)=true:=by simpa using e0
  have hr:Hid (zcn c=false):=by show _=_;unfold zcn;rw[e0];rfl
  clear e0;go_enter func106,ntmps106
  go_upto_region 1 with fail
  rw[← HW1.out];obtain⟨x0,x1,x2,x3,x4,x5,x6,x7,x8,x9,x10,x11⟩:=HC.out _ (Fr.refl _ W1);go_wp2;go_ret;exact⟨by rw[hr.out];rfl,F1.out.below q4_⟩
 have hg:(c.gen==0)=false:=by simpa using e0
 cases e1:inB c.now 1099511627776
 ·have hr:Hid (zcn c=false):=by show _=_;unfold zcn;rw[e0,e1];rfl
  have H1:=q0_ e1;clear e0 e1;go_enter func106,ntmps106
  go_upto_region 1 with fail
  rw[← HW1.out];obtain⟨x0,x1,x2,x3,x4,x5,x6,x7,x8,x9,x10,x11⟩:=HC.out _ (Fr.refl _ W1);go_wp2_with fail;refine (zaj _ _ _).mono ?_;rw[H1.out];rintro r w1 ⟨rfl,rfl⟩;go_wp2;go_ret;exact⟨by rw[hr.out];rfl,F1.out.below q4_⟩
 cases e2:zak c.nm c.pl
 ·have hr:Hid (zcn c=false):=by show _=_;unfold zcn;rw[e0,e1,e2];rfl
  have H1:=q0_ e1;have H2:=q0_ e2;clear e0 e1 e2;go_enter func106,ntmps106
  go_upto_region 1 with fail
  rw[← HW1.out];obtain⟨x0,x1,x2,x3,x4,x5,x6,x7,x8,x9,x10,x11⟩:=HC.out _ (Fr.refl _ W1);go_wp2_with fail;refine (zaj _ _ _).mono ?_;rw[H1.out];rintro r w1 ⟨rfl,rfl⟩;go_wp2_with fail;refine HT.out.mono ?_;rw[H2.out];rintro r w2 ⟨rfl,b2⟩;have F2:=q0_ (Fr.b0 b2);clear b2;clear x0 x1 x2 x3 x4 x5 x6 x7 x8 x9 x10 x11;obtain⟨x0,x1,x2,x3,x4,x5,x6,x7,x8,x9,x10,x11⟩:=HC.out _ F2.out;go_wp2;go_ret;exact⟨by rw[hr.out];rfl,(F1.out.trans F2.out q4_).below q4_⟩
 cases e3:decide (c.fl.length=c.pl.length)
 ·have hne:((fn:Int) != (pn:Int))=true:=by have:=of_decide_eq_false e3;simp;omega
  have hr:Hid (zcn c=false):=by show _=_;unfold zcn;rw[e0,e1,e2,e3];rfl
  have H1:=q0_ e1;have H2:=q0_ e2;clear e0 e1 e2 e3;go_enter func106,ntmps106
  go_upto_region 1 with fail
  rw[← HW1.out];obtain⟨x0,x1,x2,x3,x4,x5,x6,x7,x8,x9,x10,x11⟩:=HC.out _ (Fr.refl _ W1);go_wp2_with fail;refine (zaj _ _ _).mono ?_;rw[H1.out];rintro r w1 ⟨rfl,rfl⟩;go_wp2_with fail;refine HT.out.mono ?_;rw[H2.out];rintro r w2 ⟨rfl,b2⟩;have F2:=q0_ (Fr.b0 b2);clear b2;clear x0 x1 x2 x3 x4 x5 x6 x7 x8 x9 x10 x11;obtain⟨x0,x1,x2,x3,x4,x5,x6,x7,x8,x9,x10,x11⟩:=HC.out _ F2.out;go_wp2;go_ret;exact⟨by rw[hr.out];rfl,(F1.out.trans F2.out q4_).below q4_⟩
 have heq:((fn:Int) != (pn:Int))=false:=by have:=of_decide_eq_true e3;simp;omega
 obtain⟨bb,hbb⟩:∃ b,c.fl.all (fun f=>inB f 4611686018427387904)=b:=⟨_,rfl⟩
 have hr:Hid (zcn c=bb):=by show _=_;unfold zcn;rw[e0,e1,e2,e3,hbb];cases bb<;>rfl
 have Hbb:=q0_ hbb;have H1:=q0_ e1;have H2:=q0_ e2;clear e0 e1 e2 e3 hbb;go_enter func106,ntmps106
 go_upto_region 1 with fail
 rw[← HW1.out];obtain⟨x0,x1,x2,x3,x4,x5,x6,x7,x8,x9,x10,x11⟩:=HC.out _ (Fr.refl _ W1);go_wp2_with fail;refine (zaj _ _ _).mono ?_;rw[H1.out];rintro r w1 ⟨rfl,rfl⟩;go_wp2_with fail;refine HT.out.mono ?_;rw[H2.out];rintro r w2 ⟨rfl,b2⟩;have F2:=q0_ (Fr.b0 b2);clear b2;clear x0 x1 x2 x3 x4 x5 x6 x7 x8 x9 x10 x11;obtain⟨x0,x1,x2,x3,x4,x5,x6,x7,x8,x9,x10,x11⟩:=HC.out _ F2.out;go_wp2_with fail;clear x0 x1 x2 x3 x4 x5 x6 x7 x8 x9 x10 x11
 go_loopw [33] (fun i wr=>∃ k:Nat,k≤fn∧i=.int .i64 k∧Hid (Fr (fun _=>False) W1 wr)∧Hid ((c.fl.take k).all (fun f=>inB f 4611686018427387904)=true)) (fun i _=>fn-(intOf i).toNat)
 case atStart=>exact⟨0,Nat.zero_le _,rfl,F2,rfl⟩
 case round=>
  obtain⟨k,hk,rfl,hf,ha⟩:=hrel
  by_cases hlt:k<fn
  ·obtain⟨ad,v,rfl,hu,d⟩:=(HR.out.fr0 hf.out).at_map hlt
   have Hu:=q0_ hu;clear hu
   cases hv:(fun f=>inB f 4611686018427387904) v
   ·have Hv:=q0_ hv
    have hb:bb=false:=by
     rw[← Hbb.out];exact zaX (k:=k+1) (by rw[zax Hu.out ha.out];exact hv)
    subst hb;clear hv;go_wp2_with fail;refine (zaj _ _ _).mono ?_;have Hv2:inB v 4611686018427387904=_:=Hv.out;rw[Hv2];clear Hv2;rintro r w1 ⟨rfl,rfl⟩;go_wp2;go_ret;exact⟨by rw[hr.out];rfl,(F1.out.trans hf.out q4_).below q4_⟩
   ·have Hv:=q0_ hv
    clear hv;go_wp2_with fail;refine (zaj _ _ _).mono ?_;have Hv2:inB v 4611686018427387904=_:=Hv.out;rw[Hv2];clear Hv2;rintro r w1 ⟨rfl,rfl⟩;go_wp2
    go_roundw
    case rel=>exact⟨k+1,by omega,by go_num,hf,by
     show (c.fl.take (k+1)).all _=true
     rw[zax Hu.out ha.out]
     exact Hv.out⟩
    case measure=>simp[intOf];omega
  ·obtain rfl:fn=k:=by omega
   have hb:bb=true:=by
    rw[← Hbb.out];have:=ha.out;rwa[List.take_of_length_le (by omega)] at this
   subst hb;go_wp2;go_ret;exact⟨by rw[hr.out];rfl,(F1.out.trans hf.out q4_).below q4_⟩
theorem zk5(h:zex w c a):Calls prog 107 #[.agg #[.int .u64 c.gen,.int .u64 c.id,.int .i64 c.now,.string c.nm,.slice a.pA a.pn a.pc,.slice a.fA a.fn a.fc,.string c.nm2,.slice a.tA a.tn a.tc,.slice a.sA a.sn a.sc,.int .i64 c.bound,.int .i64 c.done,.slice a.eA a.en a.ec]] w fun r w'=>r=.returned (.bool (za9 c))∧Below w.heap.size w w':=by
 obtain⟨pA,pn,pc,fA,fn,fc,tA,tn,tc,sA,sn,sc,eA,en,ec⟩:=a;dsimp only
 obtain⟨W1,hW1⟩:∃ W1,W1=w.alloc (.cells #[.int .u64 c.gen,.int .u64 c.id,.int .i64 c.now,.string c.nm,.slice pA pn pc,.slice fA fn fc,.string c.nm2,.slice tA tn tc,.slice sA sn sc,.int .i64 c.bound,.int .i64 c.done,.slice eA en ec] 55):=⟨_,rfl⟩
 have HW1:=q0_ hW1
 have F1:Hid (Fr (fun _=>False) w W1):=by show Fr _ _ _;rw[hW1];exact Fr.none_alloc _ _
 have X1:Hid (Blk W1 w.heap.size 55 #[.int .u64 c.gen,.int .u64 c.id,.int .i64 c.now,.string c.nm,.slice pA pn pc,.slice fA fn fc,.string c.nm2,.slice tA tn tc,.slice sA sn sc,.int .i64 c.bound,.int .i64 c.done,.slice eA en ec]):=by show Blk _ _ _ _;rw[hW1];exact Blk.new _ _ _
 have HC:Hid (∀ W,Fr (fun _=>False) W1 W→W.cell? ⟨w.heap.size,0,none⟩=some (.int .u64 c.gen)∧W.cell? ⟨w.heap.size,1,none⟩=some (.int .u64 c.id)∧W.cell? ⟨w.heap.size,2,none⟩=some (.int .i64 c.now)∧W.cell? ⟨w.heap.size,3,none⟩=some (.string c.nm)∧W.cell? ⟨w.heap.size,4,none⟩=some (.slice pA pn pc)∧W.cell? ⟨w.heap.size,5,none⟩=some (.slice fA fn fc)∧W.cell? ⟨w.heap.size,6,none⟩=some (.string c.nm2)∧W.cell? ⟨w.heap.size,7,none⟩=some (.slice tA tn tc)∧W.cell? ⟨w.heap.size,8,none⟩=some (.slice sA sn sc)∧W.cell? ⟨w.heap.size,9,none⟩=some (.int .i64 c.bound)∧W.cell? ⟨w.heap.size,10,none⟩=some (.int .i64 c.done)∧W.cell? ⟨w.heap.size,11,none⟩=some (.slice eA en ec)):=fun W f=>by
  have b:=X1.out.fr f (fun h=>h);exact⟨b.cell 0,b.cell 1,b.cell 2,b.cell 3,b.cell 4,b.cell 5,b.cell 6,b.cell 7,b.cell 8,b.cell 9,b.cell 10,b.cell 11⟩
 have hls:c.src.length=sn:=h.ls;have hlt2:c.pl2.length=tn:=h.lt;have hlp:c.pl.length=pn:=h.lp
 have hms:sn≤9223372036854775807:=by have h1:sn≤sc∧sc≤maxLen:=h.cs;unfold maxLen at h1;omega
 have hmp:pn≤9223372036854775807:=by have h1:pn≤pc∧pc≤maxLen:=h.cp;unfold maxLen at h1;omega
 have HR:Hid (Rd W1 1 sA sn (zbg c.src)):=h.rs.fr0 F1.out;have HP:=q0_ (zjI (h.fr0 F1.out));have HT:Hid (∀ W,Fr (fun _=>False) W1 W→Calls prog 144 #[.agg #[.string c.nm2,.slice tA tn tc]] W fun r w'=>r=.returned (.bool (zak c.nm2 c.pl2))∧Below W.heap.size W w'):=fun W f=>zhU c.nm2 h.nm2 c.pl2 tA tn tc W ((h.rt.fr0 F1.out).fr0 f) h.ct.1 (fun t ht=>(h.wt t ht).2.2.2);clear h hW1
 cases hp0:zfn c
 ·have hp:=q0_ hp0
  have hb0:za9 c=(decide (c.bound=0)&&(decide (c.done=0)&&decide (c.src.length=0))):=by unfold za9;rw[if_neg (by rw[hp0];decide)]
  clear hp0
  cases e1:decide (c.bound=0)
  ·have g1:(c.bound==0)=false:=by simpa using e1
   have hr:Hid (za9 c=false):=by show _=_;rw[hb0,e1];rfl
   clear e1 hb0;go_enter func107,ntmps107
   go_upto_region 1 with fail
   rw[← HW1.out];obtain⟨x0,x1,x2,x3,x4,x5,x6,x7,x8,x9,x10,x11⟩:=HC.out _ (Fr.refl _ W1);go_wp2_with fail;refine HP.out.mono ?_;rw[hp.out];rintro r w2 ⟨rfl,b2⟩;have F2:=q0_ (Fr.b0 b2);clear b2;clear x0 x1 x2 x3 x4 x5 x6 x7 x8 x9 x10 x11;obtain⟨x0,x1,x2,x3,x4,x5,x6,x7,x8,x9,x10,x11⟩:=HC.out _ F2.out;go_wp2;go_ret;exact⟨by rw[hr.out];rfl,(F1.out.trans F2.out q4_).below q4_⟩
  have g1:(c.bound==0)=true:=by simpa using e1
  cases e2:decide (c.done=0)
  ·have g2:(c.done==0)=false:=by simpa using e2
   have hr:Hid (za9 c=false):=by show _=_;rw[hb0,e1,e2];rfl
   clear e1 e2 hb0;go_enter func107,ntmps107
   go_upto_region 1 with fail
   rw[← HW1.out];obtain⟨x0,x1,x2,x3,x4,x5,x6,x7,x8,x9,x10,x11⟩:=HC.out _ (Fr.refl _ W1);go_wp2_with fail;refine HP.out.mono ?_;rw[hp.out];rintro r w2 ⟨rfl,b2⟩;have F2:=q0_ (Fr.b0 b2);clear b2;clear x0 x1 x2 x3 x4 x5 x6 x7 x8 x9 x10 x11;obtain⟨x0,x1,x2,x3,x4,x5,x6,x7,x8,x9,x10,x11⟩:=HC.out _ F2.out;go_wp2;go_ret;exact⟨by rw[hr.out];rfl,(F1.out.trans F2.out q4_).below q4_⟩
  have g2:(c.done==0)=true:=by simpa using e2
  have hr:Hid (za9 c=decide (sn=0)):=by show _=_;rw[hb0,e1,e2,hls];rfl
  clear e1 e2 hb0;go_enter func107,ntmps107
  go_upto_region 1 with fail
  rw[← HW1.out];obtain⟨x0,x1,x2,x3,x4,x5,x6,x7,x8,x9,x10,x11⟩:=HC.out _ (Fr.refl _ W1);go_wp2_with fail;refine HP.out.mono ?_;rw[hp.out];rintro r w2 ⟨rfl,b2⟩;have F2:=q0_ (Fr.b0 b2);clear b2;clear x0 x1 x2 x3 x4 x5 x6 x7 x8 x9 x10 x11;obtain⟨x0,x1,x2,x3,x4,x5,x6,x7,x8,x9,x10,x11⟩:=HC.out _ F2.out;go_wp2;go_ret;exact⟨by rw[hr.out, ← zqf];rfl,(F1.out.trans F2.out q4_).below q4_⟩
 ·have hp:=q0_ hp0
  clear hp0
  obtain⟨bb,hbb⟩:∃ b,c.src.all (fun s=>inB s ((c.pl.length:Int)-1))=b:=⟨_,rfl⟩
  have Hbb:=q0_ hbb;clear hbb;go_enter func107,ntmps107
  go_upto_region 1 with fail
  rw[← HW1.out];obtain⟨x0,x1,x2,x3,x4,x5,x6,x7,x8,x9,x10,x11⟩:=HC.out _ (Fr.refl _ W1);go_wp2_with fail;refine HP.out.mono ?_;rw[hp.out];rintro r w2 ⟨rfl,b2⟩;have F2:=q0_ (Fr.b0 b2);clear b2;clear x0 x1 x2 x3 x4 x5 x6 x7 x8 x9 x10 x11;obtain⟨x0,x1,x2,x3,x4,x5,x6,x7,x8,x9,x10,x11⟩:=HC.out _ F2.out;go_wp2_with fail;clear x0 x1 x2 x3 x4 x5 x6 x7 x8 x9 x10 x11
  go_loopw [25] (fun i wr=>∃ k:Nat,k≤sn∧i=.int .i64 k∧Hid (Fr (fun _=>False) W1 wr)∧Hid ((c.src.take k).all (fun s=>inB s ((c.pl.length:Int)-1))=true)) (fun i _=>sn-(intOf i).toNat)
  case atStart=>exact⟨0,Nat.zero_le _,rfl,F2,rfl⟩
  case round=>
   obtain⟨k,hk,rfl,hf,ha⟩:=hrel
   by_cases hlt:k<sn
   ·obtain⟨ad,v,rfl,hu,d⟩:=(HR.out.fr0 hf.out).at_map hlt
    have Hu:=q0_ hu;clear hu
    cases hv:(fun s=>inB s ((c.pl.length:Int)-1)) v
    ·have Hv:=q0_ hv
     have hb:bb=false:=by
      rw[← Hbb.out];exact zaX (k:=k+1) (by rw[zax Hu.out ha.out];exact hv)
     subst hb;clear hv;obtain⟨y0,y1,y2,y3,y4,y5,y6,y7,y8,y9,y10,y11⟩:=HC.out _ hf.out
     have hw:IntKind.i64.wrap ((pn:Int)-1)=(pn:Int)-1:=by simp[IntKind.wrap,IntKind.signed,IntKind.bits];omega
     go_wp2_with fail;refine (zaj _ _ _).mono ?_;have Hv2:=Hv.out;simp only[hlp] at Hv2;rw[Hv2];clear Hv2;rintro r w1 ⟨rfl,rfl⟩;go_wp2_with fail
     have hr:Hid (za9 c=false):=by show _=_;unfold za9;rw[if_pos hp.out,Hbb.out];rfl
     go_ret;exact⟨by rw[hr.out];rfl,(F1.out.trans hf.out q4_).below q4_⟩
    ·have Hv:=q0_ hv
     clear hv;obtain⟨y0,y1,y2,y3,y4,y5,y6,y7,y8,y9,y10,y11⟩:=HC.out _ hf.out
     have hw:IntKind.i64.wrap ((pn:Int)-1)=(pn:Int)-1:=by simp[IntKind.wrap,IntKind.signed,IntKind.bits];omega
     go_wp2_with fail;refine (zaj _ _ _).mono ?_;have Hv2:=Hv.out;simp only[hlp] at Hv2;rw[Hv2];clear Hv2;rintro r w1 ⟨rfl,rfl⟩;go_wp2
     go_roundw
     case rel=>exact⟨k+1,by omega,by go_num,hf,by
      show (c.src.take (k+1)).all _=true
      rw[zax Hu.out ha.out]
      exact Hv.out⟩
     case measure=>simp[intOf];omega
   ·obtain rfl:sn=k:=by omega
    have hb:bb=true:=by
     rw[← Hbb.out];have:=ha.out;rwa[List.take_of_length_le (by omega)] at this
    subst hb
    have hbt:za9 c=(zak c.nm2 c.pl2&&(decide (c.src.length=c.pl2.length)&&(inB c.bound 4096&&inB c.done 100))):=by unfold za9;rw[if_pos hp.out,Hbb.out];rfl
    obtain⟨y0,y1,y2,y3,y4,y5,y6,y7,y8,y9,y10,y11⟩:=HC.out _ hf.out
    cases e1:zak c.nm2 c.pl2
    ·have hr:Hid (za9 c=false):=by show _=_;rw[hbt,e1];rfl
     have H1:=q0_ e1;clear e1 hbt;go_wp2_with fail;refine (HT.out _ hf.out).mono ?_;rw[H1.out];rintro r w2 ⟨rfl,b2⟩;have F2:Hid (Fr (fun _=>False) W1 w2):=hf.out.trans (Fr.b0 b2) q4_;clear b2 y0 y1 y2 y3 y4 y5 y6 y7 y8 y9 y10 y11;obtain⟨y0,y1,y2,y3,y4,y5,y6,y7,y8,y9,y10,y11⟩:=HC.out _ F2.out;go_wp2;go_ret;exact⟨by rw[hr.out];rfl,(F1.out.trans F2.out q4_).below q4_⟩
    cases e2:decide (c.src.length=c.pl2.length)
    ·have hne:((sn:Int)==(tn:Int))=false:=by have:=of_decide_eq_false e2;simp;omega
     have hr:Hid (za9 c=false):=by show _=_;rw[hbt,e1,e2];rfl
     have H1:=q0_ e1;clear e1 e2 hbt;go_wp2_with fail;refine (HT.out _ hf.out).mono ?_;rw[H1.out];rintro r w2 ⟨rfl,b2⟩;have F2:Hid (Fr (fun _=>False) W1 w2):=hf.out.trans (Fr.b0 b2) q4_;clear b2 y0 y1 y2 y3 y4 y5 y6 y7 y8 y9 y10 y11;obtain⟨y0,y1,y2,y3,y4,y5,y6,y7,y8,y9,y10,y11⟩:=HC.out _ F2.out;go_wp2;go_ret;exact⟨by rw[hr.out];rfl,(F1.out.trans F2.out q4_).below q4_⟩
    have heq:((sn:Int)==(tn:Int))=true:=by have:=of_decide_eq_true e2;simp;omega
    cases e3:inB c.bound 4096
    ·have hr:Hid (za9 c=false):=by show _=_;rw[hbt,e1,e2,e3];rfl
     have H1:=q0_ e1;have H3:=q0_ e3;clear e1 e2 e3 hbt;go_wp2_with fail;refine (HT.out _ hf.out).mono ?_;rw[H1.out];rintro r w2 ⟨rfl,b2⟩;have F2:Hid (Fr (fun _=>False) W1 w2):=hf.out.trans (Fr.b0 b2) q4_;clear b2 y0 y1 y2 y3 y4 y5 y6 y7 y8 y9 y10 y11;obtain⟨y0,y1,y2,y3,y4,y5,y6,y7,y8,y9,y10,y11⟩:=HC.out _ F2.out;go_wp2_with fail;refine (zaj _ _ _).mono ?_;rw[H3.out];rintro r w1 ⟨rfl,rfl⟩;go_wp2;go_ret;exact⟨by rw[hr.out];rfl,(F1.out.trans F2.out q4_).below q4_⟩
    cases e4:inB c.done 100
    ·have hr:Hid (za9 c=false):=by show _=_;rw[hbt,e1,e2,e3,e4];rfl
     have H1:=q0_ e1;have H3:=q0_ e3;have H4:=q0_ e4;clear e1 e2 e3 e4 hbt;go_wp2_with fail;refine (HT.out _ hf.out).mono ?_;rw[H1.out];rintro r w2 ⟨rfl,b2⟩;have F2:Hid (Fr (fun _=>False) W1 w2):=hf.out.trans (Fr.b0 b2) q4_;clear b2 y0 y1 y2 y3 y4 y5 y6 y7 y8 y9 y10 y11;obtain⟨y0,y1,y2,y3,y4,y5,y6,y7,y8,y9,y10,y11⟩:=HC.out _ F2.out;go_wp2_with fail;refine (zaj _ _ _).mono ?_;rw[H3.out];rintro r w1 ⟨rfl,rfl⟩;go_wp2_with fail;refine (zaj _ _ _).mono ?_;rw[H4.out];rintro r w1 ⟨rfl,rfl⟩;go_wp2;go_ret;exact⟨by rw[hr.out];rfl,(F1.out.trans F2.out q4_).below q4_⟩
    ·have hr:Hid (za9 c=true):=by show _=_;rw[hbt,e1,e2,e3,e4];rfl
     have H1:=q0_ e1;have H3:=q0_ e3;have H4:=q0_ e4;clear e1 e2 e3 e4 hbt;go_wp2_with fail;refine (HT.out _ hf.out).mono ?_;rw[H1.out];rintro r w2 ⟨rfl,b2⟩;have F2:Hid (Fr (fun _=>False) W1 w2):=hf.out.trans (Fr.b0 b2) q4_;clear b2 y0 y1 y2 y3 y4 y5 y6 y7 y8 y9 y10 y11;obtain⟨y0,y1,y2,y3,y4,y5,y6,y7,y8,y9,y10,y11⟩:=HC.out _ F2.out;go_wp2_with fail;refine (zaj _ _ _).mono ?_;rw[H3.out];rintro r w1 ⟨rfl,rfl⟩;go_wp2_with fail;refine (zaj _ _ _).mono ?_;rw[H4.out];rintro r w1 ⟨rfl,rfl⟩;go_wp2;go_ret;exact⟨by rw[hr.out];rfl,(F1.out.trans F2.out q4_).below q4_⟩
theorem zm9(h:zex w c a)(x:zdg)(hx:x.ok w):Calls prog 108 #[.agg #[.int .u64 c.gen,.int .u64 c.id,.int .i64 c.now,.string c.nm,.slice a.pA a.pn a.pc,.slice a.fA a.fn a.fc,.string c.nm2,.slice a.tA a.tn a.tc,.slice a.sA a.sn a.sc,.int .i64 c.bound,.int .i64 c.done,.slice a.eA a.en a.ec],.agg #[.int .u64 x.id,.int .i64 x.tier,.int .i64 x.shard,.int .i64 x.place,.int .i64 x.of_,.slice x.ba x.bn x.bc]] w fun r w'=>r=.returned (.bool (zbu c.id x))∧Below w.heap.size w w':=by
 obtain⟨id,tier,shard,place,of_,ba,bn,bc,bl⟩:=x;dsimp only;have hlb:bl.length=bn:=hx.blen
 have hmb:bn≤9223372036854775807:=by have h1:bn≤bc:=hx.ble;have h2:bc≤maxLen:=hx.bmax;unfold maxLen at h2;omega
 obtain⟨W0,hW0⟩:∃ W0,W0=w.alloc (.cells #[.int .u64 c.gen,.int .u64 c.id,.int .i64 c.now,.string c.nm,.slice a.pA a.pn a.pc,.slice a.fA a.fn a.fc,.string c.nm2,.slice a.tA a.tn a.tc,.slice a.sA a.sn a.sc,.int .i64 c.bound,.int .i64 c.done,.slice a.eA a.en a.ec] 55):=⟨_,rfl⟩
 obtain⟨W1,hW1⟩:∃ W1,W1=W0.alloc (.cells #[.int .u64 id,.int .i64 tier,.int .i64 shard,.int .i64 place,.int .i64 of_,.slice ba bn bc] 117):=⟨_,rfl⟩
 have HW0:=q0_ hW0;have HW1:=q0_ hW1
 have F1:Hid (Fr (fun _=>False) w W1):=by show Fr _ _ _;rw[hW1,hW0];exact (Fr.none_alloc _ _).alloc _
 have X0:Hid (Blk W1 w.heap.size 55 #[.int .u64 c.gen,.int .u64 c.id,.int .i64 c.now,.string c.nm,.slice a.pA a.pn a.pc,.slice a.fA a.fn a.fc,.string c.nm2,.slice a.tA a.tn a.tc,.slice a.sA a.sn a.sc,.int .i64 c.bound,.int .i64 c.done,.slice a.eA a.en a.ec]):=by show Blk _ _ _ _;rw[hW1,hW0];exact (Blk.new _ _ _).alloc _
 have X1:Hid (Blk W1 (w.heap.size+1) 117 #[.int .u64 id,.int .i64 tier,.int .i64 shard,.int .i64 place,.int .i64 of_,.slice ba bn bc]):=by show Blk _ _ _ _;rw[hW1];exact Blk.new' (by rw[hW0];show _=(w.heap.push _).size;rw[Array.size_push]) _ _
 have HC:Hid (∀ W,Fr (fun _=>False) W1 W→W.cell? ⟨w.heap.size,1,none⟩=some (.int .u64 c.id)∧W.cell? ⟨w.heap.size+1,0,none⟩=some (.int .u64 id)∧W.cell? ⟨w.heap.size+1,1,none⟩=some (.int .i64 tier)∧W.cell? ⟨w.heap.size+1,2,none⟩=some (.int .i64 shard)∧W.cell? ⟨w.heap.size+1,3,none⟩=some (.int .i64 place)∧W.cell? ⟨w.heap.size+1,4,none⟩=some (.int .i64 of_)∧W.cell? ⟨w.heap.size+1,5,none⟩=some (.slice ba bn bc)):=fun W f=>by
  have b:=X0.out.fr f (fun h=>h);have d:=X1.out.fr f (fun h=>h);exact⟨b.cell 1,d.cell 0,d.cell 1,d.cell 2,d.cell 3,d.cell 4,d.cell 5⟩
 have HR:Hid (Rd W1 1 ba bn (zbg bl)):=Rd.fr0 (show Rd w 1 ba bn (zbg bl) from hx.b) F1.out;clear hx h hW0 hW1
 obtain⟨bb,hbb⟩:∃ b,bl.all (fun b=>inB b 4095)=b:=⟨_,rfl⟩
 have Hbb:=q0_ hbb;clear hbb;go_enter func108,ntmps108
 go_upto_region 1 with fail
 rw[← HW0.out, ← HW1.out];obtain⟨z0,e0,e1,e2,e3,e4,e5⟩:=HC.out _ (Fr.refl _ W1);go_wp2_with fail;clear z0 e0 e1 e2 e3 e4 e5
 go_loopw [11] (fun i wr=>∃ k:Nat,k≤bn∧i=.int .i64 k∧Hid (Fr (fun _=>False) W1 wr)∧Hid ((bl.take k).all (fun b=>inB b 4095)=true)) (fun i _=>bn-(intOf i).toNat)
 case atStart=>exact⟨0,Nat.zero_le _,rfl,(Fr.refl _ W1),rfl⟩
 case round=>
  obtain⟨k,hk,rfl,hf,ha⟩:=hrel
  by_cases hlt:k<bn
  ·obtain⟨ad,v,rfl,hu,d⟩:=(HR.out.fr0 hf.out).at_map hlt
   have Hu:=q0_ hu;clear hu
   cases hv:(fun b=>inB b 4095) v
   ·have Hv:=q0_ hv
    have hb:bb=false:=by
     rw[← Hbb.out];exact zaX (k:=k+1) (by rw[zax Hu.out ha.out];exact hv)
    subst hb;clear hv;go_wp2_with fail;refine (zaj _ _ _).mono ?_;have Hv2:inB v 4095=_:=Hv.out;rw[Hv2];clear Hv2;rintro r w1 ⟨rfl,rfl⟩;go_wp2_with fail
    have hr:Hid (zbu c.id ⟨id,tier,shard,place,of_,some ad,bn,bc,bl⟩=false):=by show ((bl.all (fun b=>inB b 4095))&&_)=_;rw[Hbb.out];rfl
    go_ret;exact⟨by rw[hr.out];rfl,(F1.out.trans hf.out q4_).below q4_⟩
   ·have Hv:=q0_ hv
    clear hv;go_wp2_with fail;refine (zaj _ _ _).mono ?_;have Hv2:inB v 4095=_:=Hv.out;rw[Hv2];clear Hv2;rintro r w1 ⟨rfl,rfl⟩;go_wp2
    go_roundw
    case rel=>exact⟨k+1,by omega,by go_num,hf,by
     show (bl.take (k+1)).all _=true
     rw[zax Hu.out ha.out]
     exact Hv.out⟩
    case measure=>simp[intOf];omega
  ·obtain rfl:bn=k:=by omega
   have hb:bb=true:=by
    rw[← Hbb.out];have:=ha.out;rwa[List.take_of_length_le (by omega)] at this
   subst hb
   have hbt:zbu c.id ⟨id,tier,shard,place,of_,ba,bn,bc,bl⟩=((inB tier 9&&(inB shard 7&&(decide (1≤id)&&decide (id≤c.id))))&&(decide (place=0)&&(decide (of_=bl.length)&&(decide (1≤of_)&&decide (of_≤4096))))):=by show ((bl.all (fun b=>inB b 4095))&&_)=_;rw[Hbb.out];rfl
   obtain⟨z0,e0,e1,e2,e3,e4,e5⟩:=HC.out _ hf.out
   cases q0:inB tier 9
   ·have hr:Hid (zbu c.id ⟨id,tier,shard,place,of_,ba,bn,bc,bl⟩=false):=by show _=_;rw[hbt,q0];rfl
    have H0:=q0_ q0;clear hbt q0;go_wp2_with fail;refine (zaj _ _ _).mono ?_;rw[H0.out];rintro r w1 ⟨rfl,rfl⟩;go_wp2;go_ret;exact⟨by rw[hr.out];rfl,(F1.out.trans hf.out q4_).below q4_⟩
   cases q1:inB shard 7
   ·have hr:Hid (zbu c.id ⟨id,tier,shard,place,of_,ba,bn,bc,bl⟩=false):=by show _=_;rw[hbt,q0,q1];rfl
    have H0:=q0_ q0;have H1:=q0_ q1;clear hbt q0 q1;go_wp2_with fail;refine (zaj _ _ _).mono ?_;rw[H0.out];rintro r w1 ⟨rfl,rfl⟩;go_wp2_with fail;refine (zaj _ _ _).mono ?_;rw[H1.out];rintro r w1 ⟨rfl,rfl⟩;go_wp2;go_ret;exact⟨by rw[hr.out];rfl,(F1.out.trans hf.out q4_).below q4_⟩
   cases q2:decide (1≤id)
   ·have hr:Hid (zbu c.id ⟨id,tier,shard,place,of_,ba,bn,bc,bl⟩=false):=by show _=_;rw[hbt,q0,q1,q2];rfl
    have H0:=q0_ q0;have H1:=q0_ q1;have g2:¬ 1≤id:=of_decide_eq_false q2;clear hbt q0 q1 q2;go_wp2_with fail;refine (zaj _ _ _).mono ?_;rw[H0.out];rintro r w1 ⟨rfl,rfl⟩;go_wp2_with fail;refine (zaj _ _ _).mono ?_;rw[H1.out];rintro r w1 ⟨rfl,rfl⟩;go_wp2;go_ret;exact⟨by rw[hr.out];rfl,(F1.out.trans hf.out q4_).below q4_⟩
   cases q3:decide (id≤c.id)
   ·have hr:Hid (zbu c.id ⟨id,tier,shard,place,of_,ba,bn,bc,bl⟩=false):=by show _=_;rw[hbt,q0,q1,q2,q3];rfl
    have H0:=q0_ q0;have H1:=q0_ q1;have g2:1≤id:=of_decide_eq_true q2;have g3:¬ id≤c.id:=of_decide_eq_false q3;clear hbt q0 q1 q2 q3;go_wp2_with fail;refine (zaj _ _ _).mono ?_;rw[H0.out];rintro r w1 ⟨rfl,rfl⟩;go_wp2_with fail;refine (zaj _ _ _).mono ?_;rw[H1.out];rintro r w1 ⟨rfl,rfl⟩;go_wp2;go_ret;exact⟨by rw[hr.out];rfl,(F1.out.trans hf.out q4_).below q4_⟩
   cases q4:decide (place=0)
   ·have hr:Hid (zbu c.id ⟨id,tier,shard,place,of_,ba,bn,bc,bl⟩=false):=by show _=_;rw[hbt,q0,q1,q2,q3,q4];rfl
    have H0:=q0_ q0;have H1:=q0_ q1;have g2:1≤id:=of_decide_eq_true q2;have g3:id≤c.id:=of_decide_eq_true q3
    have g4:(place==0)=false:=by have:=of_decide_eq_false q4;simp;omega
    clear hbt q0 q1 q2 q3 q4;go_wp2_with fail;refine (zaj _ _ _).mono ?_;rw[H0.out];rintro r w1 ⟨rfl,rfl⟩;go_wp2_with fail;refine (zaj _ _ _).mono ?_;rw[H1.out];rintro r w1 ⟨rfl,rfl⟩;go_wp2;go_ret;exact⟨by rw[hr.out];rfl,(F1.out.trans hf.out q4_).below q4_⟩
   cases q5:decide (of_=bl.length)
   ·have hr:Hid (zbu c.id ⟨id,tier,shard,place,of_,ba,bn,bc,bl⟩=false):=by show _=_;rw[hbt,q0,q1,q2,q3,q4,q5];rfl
    have H0:=q0_ q0;have H1:=q0_ q1;have g2:1≤id:=of_decide_eq_true q2;have g3:id≤c.id:=of_decide_eq_true q3
    have g4:(place==0)=true:=by have:=of_decide_eq_true q4;simp;omega
    have g5:(of_==(bn:Int))=false:=by have:=of_decide_eq_false q5;simp;omega
    clear hbt q0 q1 q2 q3 q4 q5;go_wp2_with fail;refine (zaj _ _ _).mono ?_;rw[H0.out];rintro r w1 ⟨rfl,rfl⟩;go_wp2_with fail;refine (zaj _ _ _).mono ?_;rw[H1.out];rintro r w1 ⟨rfl,rfl⟩;go_wp2;go_ret;exact⟨by rw[hr.out];rfl,(F1.out.trans hf.out q4_).below q4_⟩
   cases q6:decide (1≤of_)
   ·have hr:Hid (zbu c.id ⟨id,tier,shard,place,of_,ba,bn,bc,bl⟩=false):=by show _=_;rw[hbt,q0,q1,q2,q3,q4,q5,q6];rfl
    have H0:=q0_ q0;have H1:=q0_ q1;have g2:1≤id:=of_decide_eq_true q2;have g3:id≤c.id:=of_decide_eq_true q3
    have g4:(place==0)=true:=by have:=of_decide_eq_true q4;simp;omega
    have g5:(of_==(bn:Int))=true:=by have:=of_decide_eq_true q5;simp;omega
    have g6:¬ 1≤of_:=of_decide_eq_false q6;clear hbt q0 q1 q2 q3 q4 q5 q6;go_wp2_with fail;refine (zaj _ _ _).mono ?_;rw[H0.out];rintro r w1 ⟨rfl,rfl⟩;go_wp2_with fail;refine (zaj _ _ _).mono ?_;rw[H1.out];rintro r w1 ⟨rfl,rfl⟩;go_wp2;go_ret;exact⟨by rw[hr.out];rfl,(F1.out.trans hf.out q4_).below q4_⟩
   ·have hr:Hid (zbu c.id ⟨id,tier,shard,place,of_,ba,bn,bc,bl⟩=decide (of_≤4096)):=by show _=_;rw[hbt,q0,q1,q2,q3,q4,q5,q6];rfl
    have H0:=q0_ q0;have H1:=q0_ q1;have g2:1≤id:=of_decide_eq_true q2;have g3:id≤c.id:=of_decide_eq_true q3
    have g4:(place==0)=true:=by have:=of_decide_eq_true q4;simp;omega
    have g5:(of_==(bn:Int))=true:=by have:=of_decide_eq_true q5;simp;omega
    have g6:1≤of_:=of_decide_eq_true q6;clear hbt q0 q1 q2 q3 q4 q5 q6;go_wp2_with fail;refine (zaj _ _ _).mono ?_;rw[H0.out];rintro r w1 ⟨rfl,rfl⟩;go_wp2_with fail;refine (zaj _ _ _).mono ?_;rw[H1.out];rintro r w1 ⟨rfl,rfl⟩;go_wp2;go_ret;exact⟨by rw[hr.out];rfl,(F1.out.trans hf.out q4_).below q4_⟩
end
open Go.Maps (Keyed int_keyed keyOf_int_mk)
theorem zne{cid:Int}{l:List zdg}{k:Nat}(h:(l.take k).all (zbu cid)=true)(hk:k≤l.length):(zaI (l.take k)).length≤4096*k:=by
 have:∀ l:List zdg,l.all (zbu cid)=true→(zaI l).length≤4096*l.length:=by
  intro l
  induction l with
  | nil=>intro _;simp[zaI]
  | cons x l ih=>
   intro h;rw[List.all_cons,Bool.and_eq_true] at h;have a:=ih h.2;have b:=h.1;unfold zbu at b;simp only[Bool.and_eq_true,decide_eq_true_eq] at b;have h1:x.of_=(x.bl.length:Int):=b.2.2.2.1;have h2:x.of_≤4096:=b.2.2.2.2.2;unfold zaI at a ⊢;rw[List.flatMap_cons,q8_,List.length_cons];omega
 have:=this _ h;rw[List.length_take] at this
 have e:min k l.length=k:=by omega
 rwa[e] at this
section
variable {w:World} {c:zfH} {a:zqV}
theorem zm4(h:zex w c a):Calls prog 64 #[.agg #[.int .u64 c.gen,.int .u64 c.id,.int .i64 c.now,.string c.nm,.slice a.pA a.pn a.pc,.slice a.fA a.fn a.fc,.string c.nm2,.slice a.tA a.tn a.tc,.slice a.sA a.sn a.sc,.int .i64 c.bound,.int .i64 c.done,.slice a.eA a.en a.ec]] w fun r w'=>r=.returned (.bool (zg7 c))∧Below w.heap.size w w':=by
 obtain⟨pA,pn,pc,fA,fn,fc,tA,tn,tc,sA,sn,sc,eA,en,ec⟩:=a;dsimp only
 obtain⟨W1,hW1⟩:∃ W1,W1=w.alloc (.cells #[.int .u64 c.gen,.int .u64 c.id,.int .i64 c.now,.string c.nm,.slice pA pn pc,.slice fA fn fc,.string c.nm2,.slice tA tn tc,.slice sA sn sc,.int .i64 c.bound,.int .i64 c.done,.slice eA en ec] 55):=⟨_,rfl⟩
 have HW1:=q0_ hW1
 have F1:Hid (Fr (fun _=>False) w W1):=by show Fr _ _ _;rw[hW1];exact Fr.none_alloc _ _
 have X1:Hid (Blk W1 w.heap.size 55 #[.int .u64 c.gen,.int .u64 c.id,.int .i64 c.now,.string c.nm,.slice pA pn pc,.slice fA fn fc,.string c.nm2,.slice tA tn tc,.slice sA sn sc,.int .i64 c.bound,.int .i64 c.done,.slice eA en ec]):=by show Blk _ _ _ _;rw[hW1];exact Blk.new _ _ _
 have HC:Hid (∀ W,Fr (fun _=>False) W1 W→W.cell? ⟨w.heap.size,0,none⟩=some (.int .u64 c.gen)∧W.cell? ⟨w.heap.size,1,none⟩=some (.int .u64 c.id)∧W.cell? ⟨w.heap.size,2,none⟩=some (.int .i64 c.now)∧W.cell? ⟨w.heap.size,3,none⟩=some (.string c.nm)∧W.cell? ⟨w.heap.size,4,none⟩=some (.slice pA pn pc)∧W.cell? ⟨w.heap.size,5,none⟩=some (.slice fA fn fc)∧W.cell? ⟨w.heap.size,6,none⟩=some (.string c.nm2)∧W.cell? ⟨w.heap.size,7,none⟩=some (.slice tA tn tc)∧W.cell? ⟨w.heap.size,8,none⟩=some (.slice sA sn sc)∧W.cell? ⟨w.heap.size,9,none⟩=some (.int .i64 c.bound)∧W.cell? ⟨w.heap.size,10,none⟩=some (.int .i64 c.done)∧W.cell? ⟨w.heap.size,11,none⟩=some (.slice eA en ec)):=fun W f=>by
  have b:=X1.out.fr f (fun h=>h);exact⟨b.cell 0,b.cell 1,b.cell 2,b.cell 3,b.cell 4,b.cell 5,b.cell 6,b.cell 7,b.cell 8,b.cell 9,b.cell 10,b.cell 11⟩
 have hle:c.es.length=en:=h.le;have HP:=q0_ (zm5 (h.fr0 F1.out));have HQ:=q0_ (fun (W:World) (f:Fr (fun _=>False) W1 W)=>zk5 ((h.fr0 F1.out).fr0 f));have HIn:Hid (∀ W,Fr (fun _=>False) w W→zex W c ⟨pA,pn,pc,fA,fn,fc,tA,tn,tc,sA,sn,sc,eA,en,ec⟩):=fun W f=>h.fr0 f;have hmm:= @run_makeMap prog;clear h hW1
 cases e1:zcn c
 ·have hr:Hid (zg7 c=false):=by show _=_;unfold zg7;rw[e1];rfl
  have H1:=q0_ e1;clear e1 hmm;go_enter func64,ntmps64
  go_upto_region 1 with fail
  rw[← HW1.out];obtain⟨x0,x1,x2,x3,x4,x5,x6,x7,x8,x9,x10,x11⟩:=HC.out _ (Fr.refl _ W1);go_wp2_with fail;refine HP.out.mono ?_;rw[H1.out];rintro r w1 ⟨rfl,b1⟩;have F2:=q0_ (Fr.b0 b1);clear b1;clear x0 x1 x2 x3 x4 x5 x6 x7 x8 x9 x10 x11;obtain⟨x0,x1,x2,x3,x4,x5,x6,x7,x8,x9,x10,x11⟩:=HC.out _ F2.out;go_wp2;go_ret;exact⟨by rw[hr.out];rfl,(F1.out.trans F2.out q4_).below q4_⟩
 cases e2:za9 c
 ·have hr:Hid (zg7 c=false):=by show _=_;unfold zg7;rw[e1,e2];rfl
  have H1:=q0_ e1;have H2:=q0_ e2;clear e1 e2 hmm;go_enter func64,ntmps64
  go_upto_region 1 with fail
  rw[← HW1.out];obtain⟨x0,x1,x2,x3,x4,x5,x6,x7,x8,x9,x10,x11⟩:=HC.out _ (Fr.refl _ W1);go_wp2_with fail;refine HP.out.mono ?_;rw[H1.out];rintro r w1 ⟨rfl,b1⟩;have F2:=q0_ (Fr.b0 b1);clear b1;clear x0 x1 x2 x3 x4 x5 x6 x7 x8 x9 x10 x11;obtain⟨x0,x1,x2,x3,x4,x5,x6,x7,x8,x9,x10,x11⟩:=HC.out _ F2.out;go_wp2_with fail;refine (HQ.out w1 F2.out).mono ?_;rw[H2.out];rintro r w2 ⟨rfl,b2⟩;have F3:Hid (Fr (fun _=>False) W1 w2):=F2.out.trans (Fr.b0 b2) q4_;clear b2;clear x0 x1 x2 x3 x4 x5 x6 x7 x8 x9 x10 x11;obtain⟨x0,x1,x2,x3,x4,x5,x6,x7,x8,x9,x10,x11⟩:=HC.out _ F3.out;go_wp2;go_ret;exact⟨by rw[hr.out];rfl,(F1.out.trans F3.out q4_).below q4_⟩
 cases e3:decide (c.es.length≤90)
 ·have hne:¬ ((en:Int)≤90):=by have:=of_decide_eq_false e3;omega
  have hr:Hid (zg7 c=false):=by show _=_;unfold zg7;rw[e1,e2,e3];rfl
  have H1:=q0_ e1;have H2:=q0_ e2;clear e1 e2 e3 hmm;go_enter func64,ntmps64
  go_upto_region 1 with fail
  rw[← HW1.out];obtain⟨x0,x1,x2,x3,x4,x5,x6,x7,x8,x9,x10,x11⟩:=HC.out _ (Fr.refl _ W1);go_wp2_with fail;refine HP.out.mono ?_;rw[H1.out];rintro r w1 ⟨rfl,b1⟩;have F2:=q0_ (Fr.b0 b1);clear b1;clear x0 x1 x2 x3 x4 x5 x6 x7 x8 x9 x10 x11;obtain⟨x0,x1,x2,x3,x4,x5,x6,x7,x8,x9,x10,x11⟩:=HC.out _ F2.out;go_wp2_with fail;refine (HQ.out w1 F2.out).mono ?_;rw[H2.out];rintro r w2 ⟨rfl,b2⟩;have F3:Hid (Fr (fun _=>False) W1 w2):=F2.out.trans (Fr.b0 b2) q4_;clear b2;clear x0 x1 x2 x3 x4 x5 x6 x7 x8 x9 x10 x11;obtain⟨x0,x1,x2,x3,x4,x5,x6,x7,x8,x9,x10,x11⟩:=HC.out _ F3.out;go_wp2;go_ret;exact⟨by rw[hr.out];rfl,(F1.out.trans F3.out q4_).below q4_⟩
 have hn9:en≤90:=by have:=of_decide_eq_true e3;omega
 have Hn9:=q0_ hn9;have H1:=q0_ e1;have H2:=q0_ e2;have Hn:=q0_ e3;have Hle:=q0_ hle;clear e1 e2 e3;go_enter func64,ntmps64
 go_upto_region 1 with fail
 rw[← HW1.out];obtain⟨x0,x1,x2,x3,x4,x5,x6,x7,x8,x9,x10,x11⟩:=HC.out _ (Fr.refl _ W1);go_wp2_with fail;refine HP.out.mono ?_;rw[H1.out];rintro r w1 ⟨rfl,b1⟩;have F2:=q0_ (Fr.b0 b1);clear b1;clear x0 x1 x2 x3 x4 x5 x6 x7 x8 x9 x10 x11;obtain⟨x0,x1,x2,x3,x4,x5,x6,x7,x8,x9,x10,x11⟩:=HC.out _ F2.out;go_wp2_with fail;refine (HQ.out w1 F2.out).mono ?_;rw[H2.out];rintro r w2 ⟨rfl,b2⟩;have F3:Hid (Fr (fun _=>False) W1 w2):=F2.out.trans (Fr.b0 b2) q4_;clear b2;clear x0 x1 x2 x3 x4 x5 x6 x7 x8 x9 x10 x11;obtain⟨x0,x1,x2,x3,x4,x5,x6,x7,x8,x9,x10,x11⟩:=HC.out _ F3.out
 go_upto_region 4 with fail
 obtain⟨Wm,hWm⟩:∃ Wm,Wm=(w2.alloc (.map #[] 0)).alloc (.map #[] 0):=⟨_,rfl⟩
 rw[← hWm]
 have FWm:Hid (Fr (fun _=>False) W1 Wm):=by show Fr _ _ _;rw[hWm];exact (F3.out.alloc _).alloc _
 have Fm:Hid (Fr (fun _=>False) w Wm):=F1.out.trans FWm.out q4_;have H2m:Hid (w.heap.size≤w2.heap.size):=(F1.out.trans F3.out q4_).size;have H3m:Hid (W1.heap.size≤w2.heap.size):=F3.out.size
 have H4m:Hid (Wm.heap.size=w2.heap.size+2):=by show _=_;rw[hWm];show ((w2.heap.push _).push _).size=_;rw[Array.size_push,Array.size_push]
 have SI:Hid (zhg Wm w2.heap.size []):=by show zhg _ _ _;rw[hWm];exact (zhg.made w2).fr (Fr.none_alloc _ _) (fun h=>h)
 have SP:Hid (zj5 Wm (w2.heap.size+1) []):=by
  have:=zj5.made (w2.alloc (.map #[] 0));rw[← hWm] at this
  have e:(w2.alloc (.map #[] 0)).heap.size=w2.heap.size+1:=by show (w2.heap.push _).size=_;rw[Array.size_push]
  rw[e] at this;exact this
 clear hWm hmm x0 x1 x2 x3 x4 x5 x6 x7 x8 x9 x10 x11;obtain⟨x0,x1,x2,x3,x4,x5,x6,x7,x8,x9,x10,x11⟩:=HC.out _ FWm.out;go_wp2_with fail;clear x0 x1 x2 x3 x4 x5 x6 x7 x8 x9 x10 x11
 go_loopw [5,29] (fun s5 s29 wr=>∃ k:Nat,k≤en∧s29=.int .i64 k∧s5=.int .i64 ((zaI (c.es.take k)).length:Nat)∧Hid ((c.es.take k).all (zbu c.id)=true)∧zhg wr w2.heap.size (zaI (c.es.take k))∧zj5 wr (w2.heap.size+1) (zbB (c.es.take k))∧Fr (fun j=>j=w2.heap.size∨j=w2.heap.size+1) Wm wr) (fun _ i _=>en-(intOf i).toNat)
 case atStart=>exact⟨0,Nat.zero_le _,rfl,rfl,rfl,SI.out,SP.out,Fr.refl _ _⟩
 case round=>
  obtain⟨k,hk,rfl,rfl,hall,hsi,hsp,hf⟩:=hrel;have Fwr:Hid (Fr (fun _=>False) w wr):=Fm.out.trans hf (fun i hi=>.inr (by have:=H2m.out;omega));have FWr:Hid (Fr (fun _=>False) W1 wr):=FWm.out.trans hf (fun i hi=>.inr (by have:=H3m.out;omega));have Hsi:=q0_ hsi;have Hsp:=q0_ hsp;have Hf:=q0_ hf;clear hsi hsp hf
  by_cases hlt:k<en
  ·obtain⟨ad,⟨id,tier,shard,place,of_,ba,bn,bc,bl⟩,rfl,hu,d0,d1,d2,d3,d4,d5⟩:=(HIn.out _ Fwr.out).re.ent hlt
   dsimp only at d0 d1 d2 d3 d4 d5;have Hu:=q0_ hu;have hok:=(HIn.out _ Fwr.out).we _ (zab hu);clear hu
   go_upto_region 8 with fail
   obtain⟨W3,hW3⟩:∃ W3,W3=wr.alloc (.cells #[.int .u64 id,.int .i64 tier,.int .i64 shard,.int .i64 place,.int .i64 of_,.slice ba bn bc] 117):=⟨_,rfl⟩
   rw[← hW3]
   have F3:Hid (Fr (fun _=>False) wr W3):=by show Fr _ _ _;rw[hW3];exact Fr.none_alloc _ _
   have X3:Hid (Blk W3 wr.heap.size 117 #[.int .u64 id,.int .i64 tier,.int .i64 shard,.int .i64 place,.int .i64 of_,.slice ba bn bc]):=by show Blk _ _ _ _;rw[hW3];exact Blk.new _ _ _
   have HE:Hid (∀ W,Fr (fun j=>j=w2.heap.size∨j=w2.heap.size+1) W3 W→W.cell? ⟨wr.heap.size,0,none⟩=some (.int .u64 id)∧W.cell? ⟨wr.heap.size,1,none⟩=some (.int .i64 tier)∧W.cell? ⟨wr.heap.size,2,none⟩=some (.int .i64 shard)∧W.cell? ⟨wr.heap.size,3,none⟩=some (.int .i64 place)∧W.cell? ⟨wr.heap.size,4,none⟩=some (.int .i64 of_)∧W.cell? ⟨wr.heap.size,5,none⟩=some (.slice ba bn bc)):=fun W f=>by
    have hs:=Hf.out.size;have b:=X3.out.fr f (fun h=>by have:=H4m.out;omega);exact⟨b.cell 0,b.cell 1,b.cell 2,b.cell 3,b.cell 4,b.cell 5⟩
   have HK:=q0_ (zm9 (HIn.out W3 (Fwr.out.trans F3.out q4_)) _ (hok.fr0 F3.out));have Hok:=q0_ hok;clear hW3 d0 d1 d2 d3 d4 d5 hok;obtain⟨x0,x1,x2,x3,x4,x5,x6,x7,x8,x9,x10,x11⟩:=HC.out _ (FWr.out.trans F3.out q4_);obtain⟨z0,z1,z2,z3,z4,z5⟩:=HE.out _ (Fr.refl _ W3)
   cases he:zbu c.id ⟨id,tier,shard,place,of_,ba,bn,bc,bl⟩
   ·rw[he] at HK
    have hr:Hid (zg7 c=false):=by
     have:c.es.all (zbu c.id)=false:=zaX (k:=k+1) (by rw[zax Hu.out hall.out,he])
     show _=_
     unfold zg7;rw[H1.out,H2.out,Hn.out,this]
     rfl
    clear he;go_wp2_with fail;refine HK.out.mono ?_;rintro r w4 ⟨rfl,b4⟩;have F4:Hid (Fr (fun _=>False) w w4):=(Fwr.out.trans F3.out q4_).trans (Fr.b0 b4) q4_;clear b4;go_wp2;go_ret;exact⟨by rw[hr.out];rfl,F4.out.below q4_⟩
   ·rw[he] at HK
    have He:=q0_ he;clear he;go_wp2_with fail;refine HK.out.mono ?_;rintro r w4 ⟨rfl,b4⟩;have F4:Hid (Fr (fun _=>False) wr w4):=F3.out.trans (Fr.b0 b4) q4_;have F34:Hid (Fr (fun _=>False) W3 w4):=Fr.b0 b4;clear b4 x0 x1 x2 x3 x4 x5 x6 x7 x8 x9 x10 x11 z0 z1 z2 z3 z4 z5;have Hp4:=q0_ (Hsp.out.fr F4.out (fun h=>h));have Hi4:=q0_ (Hsi.out.fr F4.out (fun h=>h));obtain⟨z0,z1,z2,z3,z4,z5⟩:=HE.out _ (F34.out.mono q4_);have hkey:keyOf prog 164 (.agg #[.int .i64 tier,.int .i64 shard])=some (zhb tier shard):=zin Hok.out.tier Hok.out.shard
    have hpl:(zbB (c.es.take k)).length<maxLen:=by unfold zbB maxLen;rw[List.length_map,List.length_take];have:=Hn9.out;omega
    go_wp2_with (first
     | (at_mapUpdate;go_loud (refine wpList_mapUpdate_own _ rfl _ _ _ 161 rfl 164 163 zjh underlying161 _ (w2.heap.size+1) _ _ rfl Hp4.out hpl _ _ _ rfl rfl hkey _ [] unitElem_mk ?_;intro w5 hown5 hgrow5;have F5:=q0_ (zcP hgrow5);obtain⟨t0,t1,t2,t3,t4,t5⟩:=HE.out w5 ((F34.out.mono q4_).trans F5.out (fun _ h=>.inl (.inr h)))))
     | go_in)
    clear t0 t1 t2 t3 t4 t5;have hlb:bl.length=bn:=Hok.out.blen
    have hmb:bn≤4096:=by
     have h:=He.out;unfold zbu at h;simp only[Bool.and_eq_true,decide_eq_true_eq] at h;have h1:of_=(bl.length:Int):=h.2.2.2.1;have h2:of_≤4096:=h.2.2.2.2.2;omega
    have Hbl:=q0_ hlb;have HB:=q0_ hmb
    have Hp5:Hid (zj5 w5 (w2.heap.size+1) (zbB (c.es.take (k+1)))):=by
     show zj5 _ _ _
     unfold zbB;rw[zan Hu.out,List.map_append,List.map_singleton];exact zj5.snoc (x:=(tier,shard)) hown5
    have Hi5:Hid (zhg w5 w2.heap.size (zaI (c.es.take k))):=Hi4.out.fr F5.out (by omega)
    have HR5:Hid (∀ W,Fr (fun j=>j=w2.heap.size) w5 W→Rd W 1 ba bn (zbg bl)):=fun W f=>by
     have hs:=Hf.out.size;have f2:Fr (fun _=>False) w W:=((Fwr.out.trans F4.out q4_).trans F5.out (fun i hi=>.inr (by have:=H2m.out;omega))).trans f (fun i hi=>.inr (by have:=H2m.out;omega));exact ((HIn.out _ f2).we _ (zab Hu.out)).b
    have Hbw:Hid (∀ v∈bl,zbh v):=Hok.out.bwf;have hbs:(zaI (c.es.take k)).length≤4096*k:=zne hall.out (by omega);have Hbs:=q0_ hbs;clear hown5 hgrow5 hlb hmb hpl hkey Hp4 Hi4 HK hbs z0 z1 z2 z3 z4 z5
    go_loopw [49] (fun s wi=>∃ j:Nat,j≤bn∧s=.int .i64 j∧zhg wi w2.heap.size (zaI (c.es.take k)++bl.take j)∧Fr (fun j=>j=w2.heap.size) w5 wi) (fun s _=>bn-(intOf s).toNat)
    case atStart=>exact⟨0,Nat.zero_le _,rfl,by rw[List.take_zero,List.append_nil];exact Hi5.out,Fr.refl _ _⟩
    case round=>
     obtain⟨j,hj,rfl,hsj,hfj⟩:=hrel;have Hsj:=q0_ hsj;have Hfj:=q0_ hfj
     by_cases hjl:j<bn
     ·obtain⟨ad2,v,rfl,hv,d⟩:=(HR5.out _ hfj).at_map hjl
      have Hv:=q0_ hv;clear hv hsj hfj;have hmb:bn≤4096:=HB.out;have hkey:keyOf prog 3 (.int .i64 v)=some (zrD v):=keyOf_int_mk underlying3 (zst (Hbw.out v (zab Hv.out)))
      have hpl:(zaI (c.es.take k)++bl.take j).length<maxLen:=by unfold maxLen;rw[q8_,List.length_take];have:=Hbs.out;have:=Hn9.out;omega
      go_wp2_with (first
       | (at_mapUpdate;refine wpList_mapUpdate_own _ rfl _ _ _ 160 rfl 3 163 zsi underlying160 _ w2.heap.size _ _ rfl Hsj.out hpl _ _ _ rfl rfl hkey _ [] unitElem_mk ?_;intro w6 hown6 hgrow6)
       | go_in)
      have H6:Hid (zhg w6 w2.heap.size (zaI (c.es.take k)++bl.take (j+1))):=by
       show zhg _ _ _
       rw[zan Hv.out, ← List.append_assoc];exact zhg.snoc hown6
      have F6:Hid (Fr (fun j=>j=w2.heap.size) w5 w6):=Hfj.out.trans (zcP hgrow6) (fun _ h=>.inl h);clear hown6 hgrow6 hkey hpl
      go_roundw
      case rel=>exact⟨j+1,by omega,by go_num,H6.out,F6.out⟩
      case measure=>simp[intOf];omega
     ·obtain rfl:bn=j:=by omega
      have Hs7:Hid (zhg wr w2.heap.size (zaI (c.es.take (k+1)))):=by
       show zhg _ _ _
       have e:zaI (c.es.take (k+1))=zaI (c.es.take k)++bl:=by
        unfold zaI;rw[zan Hu.out,List.flatMap_append];simp
       rw[e];have:=Hsj.out;rw[show bl.take bn=bl from List.take_of_length_le (by rw[Hbl.out];exact Nat.le_refl _)] at this;exact this
      have Hp7:Hid (zj5 wr (w2.heap.size+1) (zbB (c.es.take (k+1)))):=Hp5.out.fr Hfj.out (by omega);have F7:Hid (Fr (fun j=>j=w2.heap.size∨j=w2.heap.size+1) Wm wr):=((Hf.out.trans F4.out q4_).trans F5.out (fun _ h=>.inl (.inr h))).trans Hfj.out (fun _ h=>.inl (.inl h));obtain⟨t0,t1,t2,t3,t4,t5⟩:=HE.out wr (((F34.out.mono q4_).trans F5.out (fun _ h=>.inl (.inr h))).trans Hfj.out (fun _ h=>.inl (.inl h)))
      have hw:IntKind.i64.wrap (((zaI (c.es.take k)).length:Int)+(bn:Int))=((zaI (c.es.take (k+1))).length:Int):=by
       have e:(zaI (c.es.take (k+1))).length=(zaI (c.es.take k)).length+bn:=by
        unfold zaI;rw[zan Hu.out,List.flatMap_append,q8_];simp[Hbl.out]
       rw[e];have h1:=Hbs.out;have h2:=HB.out;have h3:=Hn9.out;simp[IntKind.wrap,IntKind.signed,IntKind.bits];omega
      clear hsj hfj;go_wp2_with fail;clear t0 t1 t2 t3 t4 t5
      go_roundw
      case rel=>exact⟨k+1,by omega,by go_num,by first | rfl | (rw[hw]),by
       show (c.es.take (k+1)).all _=true
       rw[zax Hu.out hall.out]
       exact He.out,Hs7.out,Hp7.out,F7.out⟩
      case measure=>simp[intOf];omega
  ·obtain rfl:en=k:=by omega
   have hte:c.es.take en=c.es:=List.take_of_length_le (by rw[Hle.out];exact Nat.le_refl _);have hsi:=Hsi.out;have hsp:=Hsp.out;have hall2:=hall.out;rw[hte] at hsi hsp hall2;rw[hte]
   obtain⟨s1,hs1,hl1⟩:=hsi.len (fun v hv=>by
    unfold zaI at hv;obtain⟨x,hx,hv⟩:=List.mem_flatMap.1 hv
    exact ((HIn.out _ Fwr.out).we x hx).bwf v hv)
   obtain⟨s2,hs2,hl2⟩:=hsp.len (fun v hv=>by
    unfold zbB at hv;obtain⟨x,hx,rfl⟩:=List.mem_map.1 hv
    exact⟨((HIn.out _ Fwr.out).we x hx).tier,((HIn.out _ Fwr.out).we x hx).shard⟩)
   have hpl:(zbB c.es).length=en:=by unfold zbB;rw[List.length_map];exact Hle.out
   have hcb:zg7 c=(decide (zbB c.es).Nodup&&decide (zaI c.es).Nodup):=by
    unfold zg7;rw[H1.out,H2.out,Hn.out,hall2]
    rfl
   clear hsi hsp hte hall2;obtain⟨x0,x1,x2,x3,x4,x5,x6,x7,x8,x9,x10,x11⟩:=HC.out _ FWr.out
   cases eP:decide (zbB c.es).Nodup
   ·have g2:((s2:Int)==(en:Int))=false:=by
     have:=of_decide_eq_false eP;rw[← hs2,hpl] at this;simp;omega
    have hr:Hid (zg7 c=false):=by show _=_;rw[hcb,eP];rfl
    clear eP hcb hs1 hs2;go_wp2;go_ret;exact⟨by rw[hr.out];rfl,Fwr.out.below q4_⟩
   ·have g2:((s2:Int)==(en:Int))=true:=by
     have:=of_decide_eq_true eP;rw[← hs2,hpl] at this;simp;omega
    have hr:Hid (zg7 c=((s1:Int)==((zaI c.es).length:Int))):=by
     show _=_
     rw[hcb,eP]
     show decide _=_
     rw[decide_eq_decide.2 hs1.symm]
     by_cases e:s1=(zaI c.es).length
     ·simp[e]
     ·rw[q9_ e]
      symm
      simp;omega
    clear eP hcb hs1 hs2;go_wp2;go_ret;exact⟨by rw[hr.out];rfl,Fwr.out.below q4_⟩
end
end Go.Proofs.YtjhhodndlkpmhaaGreatDoor
