/- Walk of cat.Put. -/
import Derived.Test.YteajonicnkpbbaaGreatDoorCatA
import Derived.Test.YteajonicnkpbbaaGreatDoorPrint
namespace Go.Proofs.YteajonicnkpbbaaGreatDoor
set_option linter.all false
set_option maxHeartbeats 8000000
set_option maxRecDepth 100000
open Go.RowKit Tryz
theorem PS.none{w W:World}{g:Nat}{l:List UInt8}(h:PS w W g (fun k=>k<w.heap.size) l):Fr (fun _=>False) w W:=h.fr.mono (fun k hk=>.inr (Nat.le_of_not_lt hk))
theorem zcb(k:Nat)(vs:List Int):(smB k vs).length=k*vs.length:=by
  induction vs with
  | nil=>rfl
  | cons v vs ih=>
    unfold smB at ih ⊢;rw[List.flatMap_cons,q8_,zbA,ih,List.length_cons,Nat.mul_add];omega
theorem zfL(s:ByteArray):(zcF s).length=2+s.size:=by
  unfold zcF;rw[q8_,zbA,zcP]
theorem zd_{nm:ByteArray}{l:List zaa}(h:zal nm l=true)(hw:∀ t∈l,t.wf):(zbl nm l).size≤1150:=by
  have h1:=zhb h;have h2:=ziT nm l (fun t ht=>⟨h1.2.2 t ht,hw t ht⟩);have h3:(zbl nm l).size=(zbx nm l).length:=rfl;omega
theorem zgz{c:zbf}(h:zbd c=true):zal c.nm c.pl=true∧c.fl.length≤5∧c.src.length≤5∧(∀ s∈c.src,0≤s∧s<256)∧(zbV c=true→zal c.nm2 c.pl2=true)∧c.es.length≤90∧c.es.all (zaQ c.id)=true:=by
  unfold zbd at h;simp only[Bool.and_eq_true,decide_eq_true_eq] at h;obtain⟨h1,h2,h3,h4,h5,h6⟩:=h;unfold zby at h1;simp only[Bool.and_eq_true,decide_eq_true_eq] at h1;obtain⟨⟨g1,g2,g3,g4⟩,g5⟩:=h1;have hl:=zcD g3;refine⟨g3,by omega,?_,?_,?_,h3,h4⟩
  · unfold zax at h2
    split at h2
    · simp only[Bool.and_eq_true,decide_eq_true_eq] at h2
      have:=zcD h2.2.1;omega
    · simp only[Bool.and_eq_true,decide_eq_true_eq] at h2
      omega
  · intro s hs
    unfold zax at h2
    split at h2
    · simp only[Bool.and_eq_true,decide_eq_true_eq] at h2
      have:=List.all_eq_true.1 h2.1 s hs;unfold inB at this;simp only[Bool.and_eq_true,decide_eq_true_eq] at this;omega
    · simp only[Bool.and_eq_true,decide_eq_true_eq] at h2
      have:=List.length_eq_zero_iff.1 h2.2.2;rw[this] at hs
      cases hs
  · intro hp
    unfold zax at h2;rw[if_pos hp] at h2;simp only[Bool.and_eq_true,decide_eq_true_eq] at h2;exact h2.2.1
theorem zgt{cid:Int}{x:za5}(h:zaQ cid x=true):(0≤x.tier∧x.tier<256)∧(0≤x.shard∧x.shard<256)∧x.bl.length≤4096∧∀ v∈x.bl,0≤v∧v<65536:=by
  unfold zaQ inB at h;simp only[Bool.and_eq_true,decide_eq_true_eq,List.all_eq_true] at h;obtain⟨h0,⟨h1,h2,h3⟩,h4,h5,h6,h7⟩:=h;refine⟨by omega,by omega,by omega,fun v hv=>?_⟩;have:=h0 v hv;omega
theorem zi7{cid:Int}{l:List za5}(h:l.all (zaQ cid)=true):(l.flatMap zi8).length≤8300*l.length:=by
  induction l with
  | nil=>simp
  | cons x l ih=>
    rw[List.all_cons,Bool.and_eq_true] at h;have a:=ih h.2;have b:=(zgt h.1).2.2.1;rw[List.flatMap_cons,q8_,List.length_cons]
    have hx:(zi8 x).length≤8300:=by
      unfold zi8;rw[q8_,q8_,q8_,zcb,zcb,zcb,zcb];simp only[List.length_cons,List.length_nil];omega
    omega
section
variable {w:World} {c:zbf} {a:zfI}
theorem zfF(h:zcn w c a)(hti:Tab w):Calls prog 12 #[.agg #[.int .u64 c.gen,.int .u64 c.id,.int .i64 c.now,.string c.nm,.slice a.pA a.pn a.pc,.slice a.fA a.fn a.fc,.string c.nm2,.slice a.tA a.tn a.tc,.slice a.sA a.sn a.sc,.int .i64 c.bound,.int .i64 c.done,.slice a.eA a.en a.ec]] w fun r w'=>r=.returned (.tuple #[.string (zh3 c).1,.int .i64 (zh3 c).2])∧Below w.heap.size w w':=by
  obtain⟨pA,pn,pc,fA,fn,fc,tA,tn,tc,sA,sn,sc,eA,en,ec⟩:=a;dsimp only
  obtain⟨W1,hW1⟩:∃ W1,W1=w.alloc (.cells #[.int .u64 c.gen,.int .u64 c.id,.int .i64 c.now,.string c.nm,.slice pA pn pc,.slice fA fn fc,.string c.nm2,.slice tA tn tc,.slice sA sn sc,.int .i64 c.bound,.int .i64 c.done,.slice eA en ec] 29):=⟨_,rfl⟩
  have HW1:=q0_ hW1
  have F1:Hid (Fr (fun _=>False) w W1):=by show Fr _ _ _;rw[hW1];exact Fr.none_alloc _ _
  have X1:Hid (Blk W1 w.heap.size 29 #[.int .u64 c.gen,.int .u64 c.id,.int .i64 c.now,.string c.nm,.slice pA pn pc,.slice fA fn fc,.string c.nm2,.slice tA tn tc,.slice sA sn sc,.int .i64 c.bound,.int .i64 c.done,.slice eA en ec]):=by show Blk _ _ _ _;rw[hW1];exact Blk.new _ _ _
  have HC:Hid (∀ W,Fr (fun _=>False) W1 W→W.cell? ⟨w.heap.size,0,none⟩=some (.int .u64 c.gen)∧W.cell? ⟨w.heap.size,1,none⟩=some (.int .u64 c.id)∧W.cell? ⟨w.heap.size,2,none⟩=some (.int .i64 c.now)∧W.cell? ⟨w.heap.size,3,none⟩=some (.string c.nm)∧W.cell? ⟨w.heap.size,4,none⟩=some (.slice pA pn pc)∧W.cell? ⟨w.heap.size,5,none⟩=some (.slice fA fn fc)∧W.cell? ⟨w.heap.size,6,none⟩=some (.string c.nm2)∧W.cell? ⟨w.heap.size,7,none⟩=some (.slice tA tn tc)∧W.cell? ⟨w.heap.size,8,none⟩=some (.slice sA sn sc)∧W.cell? ⟨w.heap.size,9,none⟩=some (.int .i64 c.bound)∧W.cell? ⟨w.heap.size,10,none⟩=some (.int .i64 c.done)∧W.cell? ⟨w.heap.size,11,none⟩=some (.slice eA en ec)):=fun W f=>by
    have b:=X1.out.fr f (fun h=>h);exact⟨b.cell 0,b.cell 1,b.cell 2,b.cell 3,b.cell 4,b.cell 5,b.cell 6,b.cell 7,b.cell 8,b.cell 9,b.cell 10,b.cell 11⟩
  have HV:=q0_ (ze4 (h.fr0 F1.out));have HQ:=q0_ (fun (W:World) (f:Fr (fun _=>False) W1 W)=>zje ((h.fr0 F1.out).fr0 f));have HIn0:=q0_ h;have HIn:Hid (∀ W,Fr (fun _=>False) w W→zcn W c ⟨pA,pn,pc,fA,fn,fc,tA,tn,tc,sA,sn,sc,eA,en,ec⟩):=fun W f=>h.fr0 f;have HT:Hid (∀ W,Fr (fun _=>False) W1 W→Tab W):=fun W f=>hti.below ((F1.out.trans f q4_).below q4_);clear hti hW1
  cases e1:zbd c
  · have hr:Hid (zh3 c=(ByteArray.empty,1)):=by show _=_;unfold zh3;rw[e1];rfl
    have H1:=q0_ e1;clear e1 h;go_enter func12,ntmps12
    go_upto_region 1 with fail
    rw[← HW1.out];obtain⟨x0,x1,x2,x3,x4,x5,x6,x7,x8,x9,x10,x11⟩:=HC.out _ (Fr.refl _ W1);go_wp2_with fail;refine HV.out.mono ?_;rw[H1.out];rintro r w1 ⟨rfl,b1⟩;have F2:=q0_ (Fr.b0 b1);clear b1;clear x0 x1 x2 x3 x4 x5 x6 x7 x8 x9 x10 x11;go_wp2
    go_ret2
    exact⟨by rw[hr.out];rfl,(F1.out.trans F2.out q4_).below q4_⟩
  obtain⟨q1,q2,q3,q4,q5,q6,q7⟩:=zgz e1;have hle:c.es.length=en:=h.le;have hlf:c.fl.length=fn:=h.lf;have hls:c.src.length=sn:=h.ls
  have HP1:Hid (∀ W,Fr (fun _=>False) W1 W→Calls prog 39 #[zdw c.nm pA pn pc] W fun r w'=>r=.returned (.tuple #[.string (zbl c.nm c.pl),.int .i64 0])∧Below W.heap.size W w'):=fun W f=>by
    have:=ziU c.nm h.nm c.pl pA pn pc W ((h.rp.fr0 F1.out).fr0 f) h.cp.1 h.wp (HT.out W f);rw[q1] at this;exact this
  have HP2:Hid (zbV c=true→∀ W,Fr (fun _=>False) W1 W→Calls prog 39 #[zdw c.nm2 tA tn tc] W fun r w'=>r=.returned (.tuple #[.string (zbl c.nm2 c.pl2),.int .i64 0])∧Below W.heap.size W w'):=fun hp W f=>by
    have:=ziU c.nm2 h.nm2 c.pl2 tA tn tc W ((h.rt.fr0 F1.out).fr0 f) h.ct.1 h.wt (HT.out W f);rw[q5 hp] at this;exact this
  have HT1:Hid ((zbl c.nm c.pl).size≤1150):=zd_ q1 (fun t ht=>h.wp t ht)
  have HT2:Hid ((zb0 c).size≤1150):=by
    show (zb0 c).size≤1150
    unfold zb0
    split
    · rename_i hp
      exact zd_ (q5 hp) (fun t ht=>h.wt t ht)
    · exact Nat.zero_le _
  have HRf:Hid (∀ W,Fr (fun _=>False) W1 W→Rd W 1 fA fn (za6 c.fl)):=fun W f=>Rd.fr0 (Rd.fr0 h.rf F1.out) f;have HRs:Hid (∀ W,Fr (fun _=>False) W1 W→Rd W 1 sA sn (za6 c.src)):=fun W f=>Rd.fr0 (Rd.fr0 h.rs F1.out) f;have HAf:Hid (∀ k,adF fA fn k→k<W1.heap.size):=fun k hk=>Nat.lt_of_lt_of_le (Rd.adlt h.rf (by decide) k hk) F1.out.size;have HAs:Hid (∀ k,adF sA sn k→k<W1.heap.size):=fun k hk=>Nat.lt_of_lt_of_le (Rd.adlt h.rs (by decide) k hk) F1.out.size
  have HG:Hid (∀ x∈[c.gen,c.id],0≤x):=by
    intro x hx;simp only[List.mem_cons,List.not_mem_nil,or_false] at hx
    rcases hx with rfl | rfl
    · exact h.gen.1
    · exact h.id.1
  have Hef:Hid (∀ v∈[(en:Int)],zbg 2 v=true):=by
    intro v hv;rw[List.mem_singleton] at hv;rw[hv];exact zhu (by omega)
  have Hfn:Hid (fn≤5):=by show _≤_;omega
  have Hsn:Hid (sn≤5):=by show _≤_;omega
  have Hn9:Hid (en≤90):=by show _≤_;omega
  have Hsf:Hid (∀ v∈c.src,zbg 1 v=true):=fun v hv=>zhv (q4 v hv);have Hen:=q0_ q7;have Hlf:=q0_ hlf;have Hls:=q0_ hls;have Hle:=q0_ hle;have H1:=q0_ e1;clear h q1 q2 q3 q4 q5 q6 q7 hle hlf hls;unfold zdw at HP1 HP2
  have hr:zh3 c=if 40000<(zea c).length then (ByteArray.empty,2) else (zaC (zea c),0):=by unfold zh3;rw[if_pos e1]
  have HR0:=q0_ hr;clear hr e1
  cases hp:zbV c<;>(
    have Hp:=q0_ hp;clear hp;go_enter func12,ntmps12
    go_upto_region 1 with fail
    rw[← HW1.out];obtain⟨x0,x1,x2,x3,x4,x5,x6,x7,x8,x9,x10,x11⟩:=HC.out _ (Fr.refl _ W1);go_wp2_with fail;refine HV.out.mono ?_;rw[H1.out];rintro r w1 ⟨rfl,b1⟩;have F2:=q0_ (Fr.b0 b1);clear b1;clear x0 x1 x2 x3 x4 x5 x6 x7 x8 x9 x10 x11;obtain⟨x0,x1,x2,x3,x4,x5,x6,x7,x8,x9,x10,x11⟩:=HC.out _ F2.out;go_wp2_with fail;refine (HP1.out _ F2.out).mono ?_;rintro r w2 ⟨rfl,b2⟩;have F3:Hid (Fr (fun _=>False) W1 w2):=F2.out.trans (Fr.b0 b2) q4_;clear b2;clear x0 x1 x2 x3 x4 x5 x6 x7 x8 x9 x10 x11;obtain⟨x0,x1,x2,x3,x4,x5,x6,x7,x8,x9,x10,x11⟩:=HC.out _ F3.out;go_wp2_with fail;refine (HQ.out _ F3.out).mono ?_;rw[Hp.out];rintro r w3 ⟨rfl,b3⟩;have F3b:Hid (Fr (fun _=>False) W1 w3):=F3.out.trans (Fr.b0 b3) q4_;clear b3;clear x0 x1 x2 x3 x4 x5 x6 x7 x8 x9 x10 x11;obtain⟨x0,x1,x2,x3,x4,x5,x6,x7,x8,x9,x10,x11⟩:=HC.out _ F3b.out
    first
      | (go_upto_region 7 with fail
         obtain⟨u0,hu0⟩:∃ u,u=w3:=⟨_,rfl⟩
         rw[← hu0]
         have F4:Hid (Fr (fun _=>False) W1 u0):=by show Fr _ _ _;rw[hu0];exact F3b.out
         clear hu0
         rw[show (⟨#[]⟩:ByteArray)=zb0 c by unfold zb0;rw[Hp.out];rfl])
      | (go_wp2_with fail
         refine (HP2.out Hp.out _ F3b.out).mono ?_;rintro r u0 ⟨rfl,b4⟩;have F4:Hid (Fr (fun _=>False) W1 u0):=F3b.out.trans (Fr.b0 b4) q4_;clear b4
         go_upto_region 7 with fail
         rw[show zbl c.nm2 c.pl2=zb0 c by unfold zb0;rw[if_pos Hp.out]])
    clear x0 x1 x2 x3 x4 x5 x6 x7 x8 x9 x10 x11;have H0:Hid (PS W1 (u0.alloc (.cells #[.int .i64 0,.slice none 0 0] 106)) u0.heap.size (fun k=>k<W1.heap.size) []):=PS.new (F4.out.mono q4_) (fun k hk=>Nat.lt_of_lt_of_le hk F4.out.size)
    go_upto_region 8 with fail
    obtain⟨g,hg⟩:∃ g,g=u0.heap.size:=⟨_,rfl⟩
    obtain⟨Wk,hWk⟩:∃ Wk,Wk=u0.alloc (.cells #[.int .i64 0,.slice none 0 0] 106):=⟨_,rfl⟩
    rw[← hWk, ← hg] at H0;rw[← hWk, ← hg]
    obtain⟨l0,hl0⟩:∃ l:List UInt8,l=[]:=⟨_,rfl⟩
    rw[← hl0] at H0
    have B0:Hid (l0.length≤0):=by show _≤_;rw[hl0];exact Nat.le_refl _
    have L0:=q0_ hl0;clear hg hWk hl0;have hw:=zku H0.out [c.gen,c.id] 2 rfl HG.out (by have:=B0.out;omega);simp only[List.map_cons,List.map_nil] at hw;have HW0:=q0_ hw;clear hw;obtain⟨x0,x1,_,_,_,_,_,_,_,_,_,_⟩:=HC.out _ H0.out.none;go_wp2_with fail;refine (show Calls _ _ _ _ _ from HW0.out).mono ?_;rintro r u1 ⟨rfl,hp⟩
    obtain⟨l1,hl⟩:∃ l,l=l0++smB 8 [c.gen,c.id]:=⟨_,rfl⟩
    have H1:Hid (PS W1 u1 g (fun k=>k<W1.heap.size) l1):=by show PS _ _ _ _ _;rw[hl];exact hp
    have B1:Hid (l1.length≤16):=by
      show _≤_
      rw[hl,q8_];have h1:=B0.out
      have h2:(smB 8 [c.gen,c.id]).length≤16:=by rw[zcb];exact Nat.le_refl _
      omega
    have L1:Hid (l1=l0++smB 8 [c.gen,c.id]):=hl;clear hp hl HW0 x0 x1;have hw:=zmH H1.out [c.now] 1 rfl (by have:=B1.out;omega);simp only[List.map_cons,List.map_nil] at hw;have HW1:=q0_ hw;clear hw;obtain⟨_,_,x2,_,_,_,_,_,_,_,_,_⟩:=HC.out _ H1.out.none;go_wp2_with fail;refine (show Calls _ _ _ _ _ from HW1.out).mono ?_;rintro r u2 ⟨rfl,hp⟩
    obtain⟨l2,hl⟩:∃ l,l=l1++le8 [c.now]:=⟨_,rfl⟩
    have H2:Hid (PS W1 u2 g (fun k=>k<W1.heap.size) l2):=by show PS _ _ _ _ _;rw[hl];exact hp
    have B2:Hid (l2.length≤24):=by
      show _≤_
      rw[hl,q8_];have h1:=B1.out
      have h2:(le8 [c.now]).length≤8:=by rw[zgd];exact Nat.le_refl _
      omega
    have L2:Hid (l2=l1++le8 [c.now]):=hl;clear hp hl HW1 x2;have hw:=zmG H2.out (zbl c.nm c.pl) (by have:=B2.out;omega) (by have:=HT1.out;omega);have HW2:=q0_ hw;clear hw;go_wp2_with fail;refine (show Calls _ _ _ _ _ from HW2.out).mono ?_;rintro r u3 ⟨rfl,hp⟩
    obtain⟨l3,hl⟩:∃ l,l=l2++zcF (zbl c.nm c.pl):=⟨_,rfl⟩
    have H3:Hid (PS W1 u3 g (fun k=>k<W1.heap.size) l3):=by show PS _ _ _ _ _;rw[hl];exact hp
    have B3:Hid (l3.length≤1224):=by
      show _≤_
      rw[hl,q8_];have h1:=B2.out
      have h2:(zcF (zbl c.nm c.pl)).length≤1200:=by rw[zfL];have:=HT1.out;omega
      omega
    have L3:Hid (l3=l2++zcF (zbl c.nm c.pl)):=hl;clear hp hl HW2;have hw:=zln H3.out c.fl fA fn fc (HRf.out _ H3.out.none) HAf.out (by have:=B3.out;have:=Hfn.out;omega);have HW3:=q0_ hw;clear hw;obtain⟨_,_,_,_,_,x5,_,_,_,_,_,_⟩:=HC.out _ H3.out.none;go_wp2_with fail;refine (show Calls _ _ _ _ _ from HW3.out).mono ?_;rintro r u4 ⟨rfl,hp⟩
    obtain⟨l4,hl⟩:∃ l,l=l3++le8 c.fl:=⟨_,rfl⟩
    have H4:Hid (PS W1 u4 g (fun k=>k<W1.heap.size) l4):=by show PS _ _ _ _ _;rw[hl];exact hp
    have B4:Hid (l4.length≤1264):=by
      show _≤_
      rw[hl,q8_];have h1:=B3.out
      have h2:(le8 c.fl).length≤40:=by rw[zgd,Hlf.out];have:=Hfn.out;omega
      omega
    have L4:Hid (l4=l3++le8 c.fl):=hl;clear hp hl HW3 x5;have hw:=zmG H4.out (zb0 c) (by have:=B4.out;omega) (by have:=HT2.out;omega);have HW4:=q0_ hw;clear hw;go_wp2_with fail;refine (show Calls _ _ _ _ _ from HW4.out).mono ?_;rintro r u5 ⟨rfl,hp⟩
    obtain⟨l5,hl⟩:∃ l,l=l4++zcF (zb0 c):=⟨_,rfl⟩
    have H5:Hid (PS W1 u5 g (fun k=>k<W1.heap.size) l5):=by show PS _ _ _ _ _;rw[hl];exact hp
    have B5:Hid (l5.length≤2464):=by
      show _≤_
      rw[hl,q8_];have h1:=B4.out
      have h2:(zcF (zb0 c)).length≤1200:=by rw[zfL];have:=HT2.out;omega
      omega
    have L5:Hid (l5=l4++zcF (zb0 c)):=hl;clear hp hl HW4;have hw:=zf3 H5.out 1 c.src sA sn sc (HRs.out _ H5.out.none) HAs.out rfl Hsf.out (by have:=B5.out;have:=Hsn.out;omega);have HW5:=q0_ hw;clear hw;obtain⟨_,_,_,_,_,_,_,_,x8,_,_,_⟩:=HC.out _ H5.out.none;go_wp2_with fail;refine (show Calls _ _ _ _ _ from HW5.out).mono ?_;rintro r u6 ⟨rfl,hp⟩
    obtain⟨l6,hl⟩:∃ l,l=l5++smB 1 c.src:=⟨_,rfl⟩
    have H6:Hid (PS W1 u6 g (fun k=>k<W1.heap.size) l6):=by show PS _ _ _ _ _;rw[hl];exact hp
    have B6:Hid (l6.length≤2469):=by
      show _≤_
      rw[hl,q8_];have h1:=B5.out
      have h2:(smB 1 c.src).length≤5:=by rw[zcb,Hls.out];have:=Hsn.out;omega
      omega
    have L6:Hid (l6=l5++smB 1 c.src):=hl;clear hp hl HW5 x8;have hw:=zmH H6.out [c.bound,c.done] 2 rfl (by have:=B6.out;omega);simp only[List.map_cons,List.map_nil] at hw;have HW6:=q0_ hw;clear hw;obtain⟨_,_,_,_,_,_,_,_,_,x9,x10,_⟩:=HC.out _ H6.out.none;go_wp2_with fail;refine (show Calls _ _ _ _ _ from HW6.out).mono ?_;rintro r u7 ⟨rfl,hp⟩
    obtain⟨l7,hl⟩:∃ l,l=l6++le8 [c.bound,c.done]:=⟨_,rfl⟩
    have H7:Hid (PS W1 u7 g (fun k=>k<W1.heap.size) l7):=by show PS _ _ _ _ _;rw[hl];exact hp
    have B7:Hid (l7.length≤2485):=by
      show _≤_
      rw[hl,q8_];have h1:=B6.out
      have h2:(le8 [c.bound,c.done]).length≤16:=by rw[zgd];exact Nat.le_refl _
      omega
    have L7:Hid (l7=l6++le8 [c.bound,c.done]):=hl;clear hp hl HW6 x9 x10;have hw:=zh6 H7.out 2 [(en:Int)] 1 rfl rfl Hef.out (by have:=B7.out;omega);simp only[List.map_cons,List.map_nil] at hw;have HW7:=q0_ hw;clear hw;obtain⟨_,_,_,_,_,_,_,_,_,_,_,x11⟩:=HC.out _ H7.out.none;go_wp2_with fail;refine (show Calls _ _ _ _ _ from HW7.out).mono ?_;rintro r u8 ⟨rfl,hp⟩
    obtain⟨l8,hl⟩:∃ l,l=l7++smB 2 [(en:Int)]:=⟨_,rfl⟩
    have H8:Hid (PS W1 u8 g (fun k=>k<W1.heap.size) l8):=by show PS _ _ _ _ _;rw[hl];exact hp
    have B8:Hid (l8.length≤2487):=by
      show _≤_
      rw[hl,q8_];have h1:=B7.out
      have h2:(smB 2 [(en:Int)]).length≤2:=by rw[zcb];exact Nat.le_refl _
      omega
    have L8:Hid (l8=l7++smB 2 [(en:Int)]):=hl;clear hp hl HW7 x11;obtain⟨_,_,_,_,_,_,_,_,_,_,_,x11⟩:=HC.out _ H8.out.none;go_wp2_with fail;clear x11
    go_loopw [61] (fun s wr=>∃ k:Nat,k≤en∧s=.int .i64 k∧PS W1 wr g (fun k=>k<W1.heap.size) (l8++(c.es.take k).flatMap zi8)) (fun s _=>en-(intOf s).toNat)
    case atStart=>exact⟨0,Nat.zero_le _,rfl,by rw[List.take_zero,List.flatMap_nil,List.append_nil];exact H8.out⟩
    case round=>
      obtain⟨k,hk,rfl,hps⟩:=hrel;have Hps:=q0_ hps;have FW:=q0_ hps.none;have Fw:Hid (Fr (fun _=>False) w wr):=F1.out.trans hps.none q4_;clear hps
      by_cases hlt:k<en
      · obtain⟨ad,⟨id,tier,shard,place,of_,ba,bn,bc,bl⟩,rfl,hu,d0,d1,d2,d3,d4,d5⟩:=(HIn.out _ Fw.out).re.ent hlt
        dsimp only at d0 d1 d2 d3 d4 d5;have Hu:=q0_ hu;have hokw:=HIn0.out.we _ (zab hu);have hen:=List.all_eq_true.1 Hen.out _ (zab hu);clear hu;obtain⟨e1,e2,e3,e4⟩:=zgt hen
        have HI:Hid (∀ x∈[id],0≤x):=by
          intro x hx;rw[List.mem_singleton] at hx;rw[hx];exact hokw.id.1
        have Hts:Hid (∀ v∈[tier,shard],zbg 1 v=true):=by
          intro v hv;simp only[List.mem_cons,List.not_mem_nil,or_false] at hv
          rcases hv with rfl | rfl
          · exact zhv e1
          · exact zhv e2
        have hblen:bl.length=bn:=hokw.blen
        have hbn4:bn≤4096:=by rw[← hblen];exact e3
        have Hbn:Hid (∀ v∈[(bn:Int)],zbg 2 v=true):=by
          intro v hv;rw[List.mem_singleton] at hv;rw[hv];exact zhu (by omega)
        have Hbl:Hid (∀ v∈bl,zbg 2 v=true):=fun v hv=>zhu (e4 v hv);have Hlb:=q0_ hblen;have HB:=q0_ hbn4;have hRb:Rd w 1 ba bn (za6 bl):=hokw.b;have HAb:Hid (∀ j,adF ba bn j→j<W1.heap.size∨j=wr.heap.size):=fun j hj=>.inl (Nat.lt_of_lt_of_le (hRb.adlt (by decide) j hj) F1.out.size);have HRb0:=q0_ hRb;clear hokw hen e1 e2 e3 e4 hblen hbn4 hRb
        go_upto_region 19 with fail
        obtain⟨W3,hW3⟩:∃ W3,W3=wr.alloc (.cells #[.int .u64 id,.int .i64 tier,.int .i64 shard,.int .i64 place,.int .i64 of_,.slice ba bn bc] 56):=⟨_,rfl⟩
        rw[← hW3]
        have F3:Hid (Fr (fun _=>False) wr W3):=by show Fr _ _ _;rw[hW3];exact Fr.none_alloc _ _
        have X3:Hid (Blk W3 wr.heap.size 56 #[.int .u64 id,.int .i64 tier,.int .i64 shard,.int .i64 place,.int .i64 of_,.slice ba bn bc]):=by show Blk _ _ _ _;rw[hW3];exact Blk.new _ _ _
        have HE:Hid (∀ W,Fr (fun j=>¬ (j<W1.heap.size∨j=wr.heap.size)) W3 W→W.cell? ⟨wr.heap.size,0,none⟩=some (.int .u64 id)∧W.cell? ⟨wr.heap.size,1,none⟩=some (.int .i64 tier)∧W.cell? ⟨wr.heap.size,2,none⟩=some (.int .i64 shard)∧W.cell? ⟨wr.heap.size,3,none⟩=some (.int .i64 place)∧W.cell? ⟨wr.heap.size,4,none⟩=some (.int .i64 of_)∧W.cell? ⟨wr.heap.size,5,none⟩=some (.slice ba bn bc)):=fun W f=>by
          have b:=X3.out.fr f (fun h=>h (.inr rfl));exact⟨b.cell 0,b.cell 1,b.cell 2,b.cell 3,b.cell 4,b.cell 5⟩
        have HRb:Hid (∀ W,Fr (fun j=>¬ (j<W1.heap.size∨j=wr.heap.size)) W3 W→Rd W 1 ba bn (za6 bl)):=fun W f=>((HRb0.out.fr0 Fw.out).fr0 F3.out).fr f (fun j hj h=>h (HAb.out j hj))
        obtain⟨m0,hm0⟩:∃ m,m=l8++(c.es.take k).flatMap zi8:=⟨_,rfl⟩
        have G0:Hid (PS W3 W3 g (fun k=>k<W1.heap.size∨k=wr.heap.size) m0):=by show PS _ _ _ _ _;rw[hW3,hm0];exact Hps.out.base _
        have C0:Hid (m0.length≤2487+8300*k):=by
          show _≤_
          rw[hm0,q8_];have h1:=B8.out
          have h2:=zi7 (cid:=c.id) (l:=c.es.take k) (by
            rw[List.all_eq_true];intro x hx
            exact List.all_eq_true.1 Hen.out _ (List.mem_of_mem_take hx))
          rw[List.length_take] at h2;omega
        have M0:=q0_ hm0
        have hk90:k≤90:=by have:=Hn9.out;omega
        clear hW3 d0 d1 d2 d3 d4 d5 hm0;have hw:=zku G0.out [id] 1 rfl HI.out (by have:=C0.out;omega);simp only[List.map_cons,List.map_nil] at hw;have HW:=q0_ hw;clear hw;obtain⟨z0,_,_,_,_,_⟩:=HE.out _ G0.out.fr;go_wp2_with fail;refine (show Calls _ _ _ _ _ from HW.out).mono ?_;rintro r v1 ⟨rfl,hp⟩
        obtain⟨m1,hl⟩:∃ l,l=m0++smB 8 [id]:=⟨_,rfl⟩
        have G1:Hid (PS W3 v1 g (fun k=>k<W1.heap.size∨k=wr.heap.size) m1):=by show PS _ _ _ _ _;rw[hl];exact hp
        have C1:Hid (m1.length≤2487+8300*k+8):=by
          show _≤_
          rw[hl,q8_];have h1:=C0.out
          have h2:(smB 8 [id]).length≤8:=by rw[zcb];exact Nat.le_refl _
          omega
        have M1:Hid (m1=m0++smB 8 [id]):=hl;clear hp hl HW z0;have hw:=zh6 G1.out 1 [tier,shard] 2 rfl rfl Hts.out (by have:=C1.out;omega);simp only[List.map_cons,List.map_nil] at hw;have HW:=q0_ hw;clear hw;obtain⟨_,z1,z2,_,_,_⟩:=HE.out _ G1.out.fr;go_wp2_with fail;refine (show Calls _ _ _ _ _ from HW.out).mono ?_;rintro r v2 ⟨rfl,hp⟩
        obtain⟨m2,hl⟩:∃ l,l=m1++smB 1 [tier,shard]:=⟨_,rfl⟩
        have G2:Hid (PS W3 v2 g (fun k=>k<W1.heap.size∨k=wr.heap.size) m2):=by show PS _ _ _ _ _;rw[hl];exact hp
        have C2:Hid (m2.length≤2487+8300*k+10):=by
          show _≤_
          rw[hl,q8_];have h1:=C1.out
          have h2:(smB 1 [tier,shard]).length≤2:=by rw[zcb];exact Nat.le_refl _
          omega
        have M2:Hid (m2=m1++smB 1 [tier,shard]):=hl;clear hp hl HW z1 z2;have hw:=zh6 G2.out 2 [(bn:Int)] 1 rfl rfl Hbn.out (by have:=C2.out;omega);simp only[List.map_cons,List.map_nil] at hw;have HW:=q0_ hw;clear hw;obtain⟨_,_,_,_,_,z5⟩:=HE.out _ G2.out.fr;go_wp2_with fail;refine (show Calls _ _ _ _ _ from HW.out).mono ?_;rintro r v3 ⟨rfl,hp⟩
        obtain⟨m3,hl⟩:∃ l,l=m2++smB 2 [(bn:Int)]:=⟨_,rfl⟩
        have G3:Hid (PS W3 v3 g (fun k=>k<W1.heap.size∨k=wr.heap.size) m3):=by show PS _ _ _ _ _;rw[hl];exact hp
        have C3:Hid (m3.length≤2487+8300*k+12):=by
          show _≤_
          rw[hl,q8_];have h1:=C2.out
          have h2:(smB 2 [(bn:Int)]).length≤2:=by rw[zcb];exact Nat.le_refl _
          omega
        have M3:Hid (m3=m2++smB 2 [(bn:Int)]):=hl;clear hp hl HW z5;have hw:=zf3 G3.out 2 bl ba bn bc (HRb.out _ G3.out.fr) HAb.out rfl Hbl.out (by have:=C3.out;have:=HB.out;omega);have HW:=q0_ hw;clear hw;obtain⟨_,_,_,_,_,z5⟩:=HE.out _ G3.out.fr;go_wp2_with fail;refine (show Calls _ _ _ _ _ from HW.out).mono ?_;rintro r v4 ⟨rfl,hp⟩
        obtain⟨m4,hl⟩:∃ l,l=m3++smB 2 bl:=⟨_,rfl⟩
        have G4:Hid (PS W3 v4 g (fun k=>k<W1.heap.size∨k=wr.heap.size) m4):=by show PS _ _ _ _ _;rw[hl];exact hp
        have C4:Hid (m4.length≤2487+8300*k+8204):=by
          show _≤_
          rw[hl,q8_];have h1:=C3.out
          have h2:(smB 2 bl).length≤8192:=by rw[zcb,Hlb.out];have:=HB.out;omega
          omega
        have M4:Hid (m4=m3++smB 2 bl):=hl;clear hp hl HW z5
        have hpe:m4=l8++(c.es.take (k+1)).flatMap zi8:=by
          rw[M4.out,M3.out,M2.out,M1.out,M0.out,zan Hu.out,List.flatMap_append];simp[zi8,Hlb.out,List.append_assoc]
        have G5:Hid (PS W1 v4 g (fun j=>j<W1.heap.size) (l8++(c.es.take (k+1)).flatMap zi8)):=by
          show PS _ _ _ _ _
          rw[← hpe];exact G4.out.back (Hps.out.fr.trans F3.out q4_) (fun j h=>.inl h) (fun j hj=>Nat.lt_of_lt_of_le hj (Nat.le_trans FW.out.size F3.out.size))
        clear hpe;go_wp2
        go_roundw
        case rel=>exact⟨k+1,by omega,by go_num,G5.out⟩
        case measure=>simp[intOf];omega
      · obtain rfl:en=k:=by omega
        have hpl:l8++(c.es.take en).flatMap zi8=zea c:=by
          rw[L8.out,L7.out,L6.out,L5.out,L4.out,L3.out,L2.out,L1.out,L0.out,List.take_of_length_le (by rw[Hle.out];exact Nat.le_refl _)];unfold zea zm7;rw[Hle.out,List.nil_append]
        have hb:(zea c).length≤1000000:=by
          rw[← hpl,q8_,List.take_of_length_le (by rw[Hle.out];exact Nat.le_refl _)];have h1:=B8.out;have h2:=zi7 Hen.out;rw[Hle.out] at h2;have:=Hn9.out;omega
        have HPS:=Hps.out;rw[hpl] at HPS;have HR1:=q0_ HR0.out
        obtain⟨P,hP⟩:∃ P,P=zea c:=⟨_,rfl⟩
        rw[← hP] at hb HPS HR1;have HLn:=q0_ (zpX HPS (by omega));have HDn:=q0_ (zpl HPS)
        obtain⟨pn_,hpn⟩:∃ m,m=P.length:=⟨_,rfl⟩
        rw[← hpn] at HLn HR1;clear hpl hb HPS hP hpn
        by_cases hgt:40000<pn_
        · have hgi:(40000:Int)<(pn_:Int):=by omega
          have HG2:=q0_ hgt;clear hgt;go_wp2_with fail;refine HLn.out.mono ?_;rintro r w8 ⟨rfl,rfl⟩;go_wp2
          go_ret2
          exact⟨by rw[HR1.out,if_pos HG2.out];rfl,Fw.out.below q4_⟩
        · have hgi:(pn_:Int)≤40000:=by omega
          have HG2:=q0_ hgt;clear hgt;go_wp2_with fail;refine HLn.out.mono ?_;rintro r w8 ⟨rfl,rfl⟩;go_wp2_with fail;refine HDn.out.mono ?_;rintro r w8 ⟨rfl,rfl⟩;go_wp2
          go_ret2
          exact⟨by rw[HR1.out,if_neg HG2.out];rfl,Fw.out.below q4_⟩)
end
structure zkh where
  id:Int
  tier:Int
  shard:Int
  place:Int
  of_:Int
  bl:List Int
def za5.p(x:za5):zkh:=⟨x.id,x.tier,x.shard,x.place,x.of_,x.bl⟩
structure zdL where
  gen:Int
  id:Int
  now:Int
  nm:ByteArray
  pl:List zaa
  fl:List Int
  nm2:ByteArray
  pl2:List zaa
  src:List Int
  bound:Int
  done:Int
  es:List zkh
def zbf.p(c:zbf):zdL:=⟨c.gen,c.id,c.now,c.nm,c.pl,c.fl,c.nm2,c.pl2,c.src,c.bound,c.done,c.es.map za5.p⟩
def zjm:RS→RS×zkh:=zbY zcA fun id=>zbY (zaB 1) fun tier=>zbY (zaB 1) fun shard=>zbY (zaB 2) fun n=>zbY (za4 (zaB 2) n.toNat) fun bl=>zis ⟨id,tier,shard,0,n,bl⟩
def zkv(e:Int)(t:ByteArray):Int×ByteArray×List zaa:=if t.size=0 then (e,ByteArray.empty,[]) else zaT t
def zdv:RS→RS×(Int×Int×zdL):=
  zbY zcA fun gen=>zbY zcA fun id=>zbY ze_ fun now=>zbY zdp fun t1=>zbY (zbq ze_ (zaT t1).2.2.length) fun fl=>zbY zdp fun t2=>
  zbY (zbq (zaB 1) (zkv (zaT t1).1 t2).2.2.length) fun src=>zbY ze_ fun bound=>zbY ze_ fun done=>zbY (zaB 2) fun n=>zbY (za4 zjm n.toNat) fun es=>
  zis ((zaT t1).1,(zkv (zaT t1).1 t2).1,⟨gen,id,now,(zaT t1).2.1,(zaT t1).2.2,fl,(zkv (zaT t1).1 t2).2.1,(zkv (zaT t1).1 t2).2.2,src,bound,done,es⟩)
theorem zil:zbg 1 0=true:=rfl
theorem zgq:zbg 2 0=true:=rfl
theorem za3.ent:za3 zjm:=
  za3.bind za3.word fun _=>za3.bind (za3.small zil) fun _=>za3.bind (za3.small zil) fun _=>za3.bind (za3.small zgq) fun _=>za3.bind (za3.while_ (za3.small zgq) _) fun _=>za3.ret _
theorem za3.read:za3 zdv:=
  za3.bind za3.word fun _=>za3.bind za3.word fun _=>za3.bind za3.int fun _=>za3.bind za3.text fun _=>za3.bind (za3.many za3.int _) fun _=>za3.bind za3.text fun _=>
  za3.bind (za3.many (za3.small zil) _) fun _=>za3.bind za3.int fun _=>za3.bind za3.int fun _=>za3.bind (za3.small zgq) fun _=>za3.bind (za3.while_ za3.ent _) fun _=>za3.ret _
theorem Enc.to{α:Type}{R:RS→RS×α}{l m:List UInt8}{a b:α}(h:Enc R l a)(hl:m=l)(ha:b=a):Enc R m b:=by rw[hl,ha];exact h
theorem Enc.ent{cid:Int}{x:za5}(h:zaQ cid x=true)(hi:0≤x.id∧x.id<18446744073709551616):Enc zjm (zi8 x) x.p:=by
  obtain⟨h1,h2,h3,h4⟩:=zgt h
  have hp:x.place=0∧x.of_=x.bl.length:=by
    unfold zaQ at h;simp only[Bool.and_eq_true,decide_eq_true_eq] at h;exact⟨h.2.2.1,h.2.2.2.1⟩
  have hm:Enc (za4 (zaB 2) (x.bl.length:Int).toNat) (smB 2 x.bl) x.bl:=Enc.while_ (za3.small zgq) (Enc.many (fun v hv=>Enc.small (zhu (h4 v hv))));refine Enc.to (Enc.bind (Enc.word hi) (Enc.bind (Enc.small (k:=1) (zhv h1)) (Enc.bind (Enc.small (k:=1) (zhv h2)) (Enc.bind (Enc.small (k:=2) (v:=(x.bl.length:Int)) (zhu (by omega))) (Enc.bind hm (Enc.ret _)))))) ?_ ?_
  · unfold zi8 smB
    simp
  · unfold za5.p
    rw[hp.1,hp.2]
theorem zoh(nm:ByteArray)(l:List zaa):(zbl nm l).size≠0:=by
  have h:(zbl nm l).size=(zbx nm l).length:=rfl;rw[h];unfold zbx;simp[zbI]
theorem Enc.read{c : zbf}(h : zbd c = true)(hg : 0 ≤ c.gen ∧ c.gen < 18446744073709551616)(hi : 0 ≤ c.id ∧ c.id < 18446744073709551616)(hw : ∀ t ∈ c.pl, t.wf)(hw2 : ∀ t ∈ c.pl2, t.wf)(hx : ∀ x ∈ c.es, 0 ≤ x.id ∧ x.id < 18446744073709551616) :
    Enc zdv (zea c) (0,0,c.p):=by
  obtain⟨q1,q2,q3,q4,q5,q6,q7⟩:=zgz h;have hb:=h;unfold zbd at hb;simp only[Bool.and_eq_true,decide_eq_true_eq] at hb;obtain⟨b1,b2,_⟩:=hb;unfold zby at b1;simp only[Bool.and_eq_true,decide_eq_true_eq,List.all_eq_true] at b1;obtain⟨⟨_,g2,_,g4⟩,g5⟩:=b1
  have hin:∀ {n m:Int},inB n m=true→m≤9223372036854775807→zbT n:=fun {n m} h hm=>by
    unfold inB at h;simp only[Bool.and_eq_true,decide_eq_true_eq] at h;exact⟨by omega,by omega⟩
  have hs1:(zbx c.nm c.pl).length≤1150:=zd_ q1 hw;have r1:zaT (zbl c.nm c.pl)=(0,c.nm,c.pl):=zg5 q1 (by omega)
  have r2:zkv (zaT (zbl c.nm c.pl)).1 (zb0 c)=(0,c.nm2,c.pl2):=by
    unfold zkv zb0
    by_cases hp:zbV c=true
    · rw[if_pos hp,if_neg (zoh _ _)]
      exact zg5 (q5 hp) (by have:(zbx c.nm2 c.pl2).length≤1150:=zd_ (q5 hp) hw2;omega)
    · rw[if_neg hp,if_pos (show ByteArray.empty.size=0 from rfl),r1]
      unfold zbV at hp;simp at hp;have e1:c.nm2=ByteArray.empty:=hp.1;rw[e1,hp.2]
  have hbd:zbT c.bound∧zbT c.done:=by
    unfold zax at b2
    split at b2
    · simp only[Bool.and_eq_true,decide_eq_true_eq] at b2
      exact⟨hin b2.2.2.2.1 (by decide),hin b2.2.2.2.2 (by decide)⟩
    · simp only[Bool.and_eq_true,decide_eq_true_eq] at b2
      rw[b2.1,b2.2.1];exact⟨⟨by decide,by decide⟩,⟨by decide,by decide⟩⟩
  have hsl:c.src.length=c.pl2.length:=by
    unfold zax at b2
    by_cases hp:zbV c=true
    · rw[if_pos hp] at b2
      simp only[Bool.and_eq_true,decide_eq_true_eq] at b2;exact b2.2.2.1
    · rw[if_neg hp] at b2
      simp only[Bool.and_eq_true,decide_eq_true_eq] at b2;unfold zbV at hp;simp at hp;rw[b2.2.2,hp.2];rfl
  have hts:(zb0 c).size≤60000:=by
    unfold zb0
    split
    · rename_i hp
      have:=zd_ (q5 hp) hw2;omega
    · exact Nat.zero_le _
  have m1:Enc (zbq ze_ (zaT (zbl c.nm c.pl)).2.2.length) (le8 c.fl) c.fl:=by
    rw[r1]
    show Enc (zbq ze_ c.pl.length) _ _
    rw[← g4];exact Enc.many (fun v hv=>Enc.int (hin (g5 v hv) (by decide)))
  have m2:Enc (zbq (zaB 1) (zkv (zaT (zbl c.nm c.pl)).1 (zb0 c)).2.2.length) (smB 1 c.src) c.src:=by
    rw[r2]
    show Enc (zbq (zaB 1) c.pl2.length) _ _
    rw[← hsl];exact Enc.many (fun v hv=>Enc.small (zhv (q4 v hv)))
  have m3:Enc (za4 zjm (c.es.length:Int).toNat) (c.es.flatMap zi8) (c.es.map za5.p):=by
    refine Enc.while_ za3.ent ?_
    show Enc (zbq zjm c.es.length) _ _
    have:∀ l:List za5,(∀ x∈l,zaQ c.id x=true∧(0≤x.id∧x.id<18446744073709551616))→Enc (zbq zjm l.length) (l.flatMap zi8) (l.map za5.p):=by
      intro l
      induction l with
      | nil=>intro _;exact Enc.ret _
      | cons x l ih=>
        intro h;have h1:=ih (fun y hy=>h y (List.mem_cons_of_mem _ hy));have h2:=Enc.bind (f:=fun a=>zbY (zbq zjm l.length) fun l=>zis (a::l)) (Enc.ent (h x (by simp)).1 (h x (by simp)).2) (Enc.bind (f:=fun l=>zis (x.p::l)) h1 (Enc.ret _));rw[List.append_nil] at h2;exact h2
    exact this _ (fun x hx2=>⟨List.all_eq_true.1 q7 x hx2,hx x hx2⟩)
  refine Enc.to (Enc.bind (Enc.word hg) (Enc.bind (Enc.word hi) (Enc.bind (Enc.int (hin g2 (by decide))) (Enc.bind (Enc.text (s:=zbl c.nm c.pl) (by have:(zbl c.nm c.pl).size=(zbx c.nm c.pl).length:=rfl;omega)) (Enc.bind m1 (Enc.bind (Enc.text hts) (Enc.bind m2 (Enc.bind (Enc.int hbd.1) (Enc.bind (Enc.int hbd.2) (Enc.bind (Enc.small (k:=2) (v:=(c.es.length:Int)) (zhu (by omega))) (Enc.bind m3 (Enc.ret _)))))))))))) ?_ ?_
  · unfold zea zm7 smB le8
    simp
  · rw[r2,r1]
    rfl
def zp8(cid:Int)(x:zkh):Bool:=
  x.bl.all (fun b=>inB b 4095)&&((inB x.tier 9&&(inB x.shard 7&&(decide (1≤x.id)&&decide (x.id≤cid))))&&(decide (x.place=0)&&(decide (x.of_=x.bl.length)&&(decide (1≤x.of_)&&decide (x.of_≤4096)))))
def zoj(c:zdL):Bool:= !decide (c.nm2.size=0)||decide (0<c.pl2.length)
def zqh(c:zdL):Bool:=
  ((!decide (c.gen=0)&&(inB c.now 1099511627776&&(zal c.nm c.pl&&decide (c.fl.length=c.pl.length))))&&c.fl.all (fun f=>inB f 4611686018427387904))&&
  ((if zoj c=true then c.src.all (fun s=>inB s ((c.pl.length:Int)-1))&&(zal c.nm2 c.pl2&&(decide (c.src.length=c.pl2.length)&&(inB c.bound 4096&&inB c.done 100)))
    else decide (c.bound=0)&&(decide (c.done=0)&&decide (c.src.length=0)))&&
  (decide (c.es.length≤90)&&(c.es.all (zp8 c.id)&&(decide (c.es.map fun x=>(x.tier,x.shard)).Nodup&&decide (c.es.flatMap zkh.bl).Nodup))))
def zqK(x:zkh):List UInt8:=smB 8 [x.id]++(smB 1 [x.tier,x.shard]++(smB 2 [(x.bl.length:Int)]++smB 2 x.bl))
def zpV(c:zdL):List UInt8:=smB 8 [c.gen,c.id]++le8 [c.now]++zcF (zbl c.nm c.pl)++le8 c.fl++zcF (if zoj c=true then zbl c.nm2 c.pl2 else ByteArray.empty)++smB 1 c.src++le8 [c.bound,c.done]++smB 2 [(c.es.length:Int)]++c.es.flatMap zqK
theorem zfn(c:zbf):zbd c=zqh c.p:=by
  unfold zbd zqh zby zax zaM zai zbf.p zoj zbV;simp only[List.length_map,List.all_map,List.map_map,List.flatMap_map]
  rfl
theorem zeq(c:zbf):zea c=zpV c.p:=by
  unfold zea zpV zm7 zb0 zbf.p zoj zbV;simp only[List.length_map,List.flatMap_map]
  rfl
structure zbf.rng(c:zbf):Prop where
  gen:0≤c.gen∧c.gen<18446744073709551616
  id:0≤c.id∧c.id<18446744073709551616
  pl:∀ t∈c.pl,t.wf
  pl2:∀ t∈c.pl2,t.wf
  es:∀ x∈c.es,0≤x.id∧x.id<18446744073709551616
theorem zcn.rng{w:World}{c:zbf}{a:zfI}(h:zcn w c a):c.rng:=⟨h.gen,h.id,h.wp,h.wt,fun x hx=>(h.we x hx).id⟩
theorem zbf.rng.read{c:zbf}(h:c.rng)(hb:zbd c=true):Enc zdv (zea c) (0,0,c.p):=Enc.read hb h.gen h.id h.pl h.pl2 h.es
theorem zn9{c:zbf}(hc:c.rng)(hb:zbd c=true){l:List UInt8}{z:UInt8}(h:zea c=l++[z]):(zdv ⟨0,l⟩).1.e≠0:=by
  intro he;obtain⟨_,h2⟩:=za3.read ⟨0,l⟩ he;have h3:=h2 [z];have h4:=hc.read hb [];rw[List.append_nil,h] at h4;dsimp only at h3;rw[h4] at h3;simp at h3
theorem zmF{c:zbf}(hc:c.rng)(hb:zbd c=true)(t:List UInt8):zdv ⟨0,zea c++t⟩=(⟨0,t⟩,(0,0,c.p)):=hc.read hb t
def zfk(b:List UInt8)(q:zdL):Prop:=(zdv ⟨0,b⟩).1.e=0∧(zdv ⟨0,b⟩).2=(0,0,q)∧zqh q=true∧(zpV q).length≤40000∧zpV q=b
theorem zfk.of{c:zbf}(hc:c.rng)(hb:zbd c=true)(hl:(zea c).length≤40000):zfk (zea c) c.p:=by
  have h:=hc.read hb [];rw[List.append_nil] at h;exact⟨by rw[h],by rw[h],by rw[← zfn];exact hb,by rw[← zeq];exact hl,(zeq c).symm⟩
theorem zfk.not_cut{c:zbf}(hc:c.rng)(hb:zbd c=true){l:List UInt8}{z:UInt8}(h:zea c=l++[z])(q:zdL):¬ zfk l q:=fun g=>zn9 hc hb h g.1
theorem zfk.not_more{c:zbf}(hc:c.rng)(hb:zbd c=true){t:List UInt8}(ht:t≠[])(q:zdL):¬ zfk (zea c++t) q:=fun g=>by
  have h:=zmF hc hb t;have h2:=g.2.1;rw[h] at h2;simp only[Prod.mk.injEq,true_and] at h2;have h3:=g.2.2.2.2;rw[← h2, ← zeq] at h3;have:=congrArg List.length h3;rw[q8_] at this;exact ht (List.length_eq_zero_iff.1 (by omega))
def UQ(W:World)(g:Nat)(s:RS):Prop:=Up W g s.e s.b∧s.b.length≤1099511627776
section
variable {W W':World} {g:Nat} {s:RS} {F:Nat→Prop}
theorem UQ.fr(h:UQ W g s)(f:Fr F W W')(hn:¬ F g):UQ W' g s:=⟨Blk.fr h.1 f hn,h.2⟩
theorem UQ.fr0(h:UQ W g s)(f:Fr (fun _=>False) W W'):UQ W' g s:=h.fr f (fun h=>h)
theorem zjs(k e:Int)(b:List UInt8):(zca k e b).2.1.length≤b.length:=by
  unfold zca
  split
  · split
    · exact zeP 0 b _
    · exact Nat.le_refl _
  · exact Nat.le_refl _
theorem zk5(e:Int)(b:List UInt8):(zd0 e b).2.1.length≤b.length:=by
  unfold zd0
  split
  · split
    · exact Nat.le_refl _
    · split
      · exact Nat.le_refl _
      · rw[List.length_drop];omega
  · exact Nat.le_refl _
theorem zk4(e:Int)(b:List UInt8):(zd0 e b).2.2.length≤65535:=by
  unfold zd0
  split
  · split
    · simp
    · split
      · simp
      · have h1:=zec (b.take 2)
        rw[List.length_take,Nat.min_eq_left (by omega)] at h1
        have:(256:Nat) ^ 2=65536:=by decide
        rw[List.length_take];omega
  · simp
theorem zg8(k:Int)(s:RS)(K:Nat)(hk:(256:Nat) ^ k.toNat=K):0≤(zaB k s).2∧(zaB k s).2<K:=by
  subst hk;unfold zaB;dsimp only;have hp:0<(256:Nat) ^ k.toNat:=Nat.pow_pos (by decide)
  have:(zca k s.e s.b).2.2<256 ^ k.toNat:=by
    unfold zca
    split
    · split
      · have h1:=zec (za7 0 s.b k.toNat).2.2
        have h2:=Nat.pow_le_pow_right (show 256>0 by decide) (zds 0 s.b k.toNat);dsimp only;omega
      · exact hp
    · exact hp
  exact⟨by omega,by omega⟩
theorem zd8(s:RS):0≤(zaB 1 s).2∧(zaB 1 s).2<256:=zg8 1 s 256 (by decide)
theorem zd7(s:RS):0≤(zaB 2 s).2∧(zaB 2 s).2<65536:=zg8 2 s 65536 (by decide)
theorem zhh(e:Int)(b:List UInt8):zcI (za7 e b 8).2.2<18446744073709551616:=by
  have h1:=zec (za7 e b 8).2.2;have h2:=Nat.pow_le_pow_right (show 256>0 by decide) (zds e b 8);rw[zqI] at h2;omega
theorem zfX(s:RS):0≤(zcA s).2∧(zcA s).2<18446744073709551616:=by
  have h:=zhh s.e s.b;have e:(zcA s).2=((zcI (za7 s.e s.b 8).2.2:Nat):Int):=rfl;rw[e];exact⟨by omega,by omega⟩
theorem zfB(s:RS):zbT (ze_ s).2:=by
  have h:=zhh s.e s.b;have e:(ze_ s).2=sgn (zcI (za7 s.e s.b 8).2.2):=rfl;rw[e];unfold sgn zbT
  split<;>exact⟨by omega,by omega⟩
theorem zg7(s:RS):(zdp s).2.size≤65535:=by
  show (zaC _).size≤_
  rw[zbC];exact zk4 s.e s.b
theorem zo7(h:UQ W g s):Calls prog 51 #[.pointer (some ⟨g,0,none⟩)] W fun r w'=>r=.returned (.int .u64 (zcA s).2)∧UQ w' g (zcA s).1∧Fr (fun k=>k=g) W w':=by
  refine (zki g s.e s.b W h.1 h.2).mono ?_;rintro r w' ⟨rfl,hu,hf⟩;exact⟨rfl,⟨hu,Nat.le_trans (zeP s.e s.b 8) h.2⟩,hf⟩
theorem zpR(h:UQ W g s):Calls prog 52 #[.pointer (some ⟨g,0,none⟩)] W fun r w'=>r=.returned (.int .i64 (ze_ s).2)∧UQ w' g (ze_ s).1∧Fr (fun k=>k=g) W w':=by
  refine (zpw g s.e s.b W h.1 h.2).mono ?_;rintro r w' ⟨rfl,hu,hf⟩;exact⟨rfl,⟨hu,Nat.le_trans (zeP s.e s.b 8) h.2⟩,hf⟩
theorem znW(k:Int)(h:UQ W g s):Calls prog 56 #[.pointer (some ⟨g,0,none⟩),.int .i64 k] W fun r w'=>r=.returned (.int .i64 (zaB k s).2)∧UQ w' g (zaB k s).1∧Fr (fun k=>k=g) W w':=by
  refine (zgV g s.e k s.b W h.1 h.2).mono ?_;rintro r w' ⟨rfl,hu,hf⟩;exact⟨rfl,⟨hu,Nat.le_trans (zjs k s.e s.b) h.2⟩,hf⟩
theorem zo8(h:UQ W g s):Calls prog 54 #[.pointer (some ⟨g,0,none⟩)] W fun r w'=>r=.returned (.string (zdp s).2)∧UQ w' g (zdp s).1∧Fr (fun k=>k=g) W w':=by
  refine (zl7 g s.e s.b W h.1 h.2).mono ?_;rintro r w' ⟨rfl,hu,hf⟩;exact⟨rfl,⟨hu,Nat.le_trans (zk5 s.e s.b) h.2⟩,hf⟩
theorem zfa(h:UQ W g s):Calls prog 55 #[.pointer (some ⟨g,0,none⟩)] W fun r w'=>r=.returned (.int .i64 s.e)∧W=w':=zpJ g s.e s.b W h.1
end
def WAt{α:Type}(R:RS→RS×α)(o:RS×List α)(m:Nat)(s:RS)(L:List α):Prop:=o=((za4 R m s).1,L++(za4 R m s).2)
def MAt{α:Type}(R:RS→RS×α)(o:RS×List α)(m:Nat)(s:RS)(L:List α):Prop:=o=((zbq R m s).1,L++(zbq R m s).2)
section
variable {α:Type} {R:RS→RS×α} {o:RS×List α} {m:Nat} {s:RS} {L:List α}
theorem WAt.start:WAt R (za4 R m s) m s []:=rfl
theorem MAt.start:MAt R (zbq R m s) m s []:=rfl
theorem WAt.step(h:WAt R o (m+1) s L)(he:s.e=0):WAt R o m (R s).1 (L++[(R s).2]):=by
  unfold WAt at h ⊢
  have e:za4 R (m+1) s=((za4 R m (R s).1).1,(R s).2::(za4 R m (R s).1).2):=by
    show (if s.e=0 then _ else _)=_
    rw[if_pos he]
    rfl
  rw[h,e,List.append_assoc]
  rfl
theorem MAt.step(h:MAt R o (m+1) s L):MAt R o m (R s).1 (L++[(R s).2]):=by
  unfold MAt at h ⊢;have e:zbq R (m+1) s=((zbq R m (R s).1).1,(R s).2::(zbq R m (R s).1).2):=rfl;rw[h,e,List.append_assoc]
  rfl
theorem WAt.stop(h:WAt R o m s L)(he:¬ s.e=0):o=(s,L):=by
  unfold WAt at h
  cases m with
  | zero=>rw[h];unfold za4;rw[List.append_nil]
  | succ m=>
    have e:za4 R (m+1) s=(s,[]):=by
      show (if s.e=0 then _ else _)=_
      rw[if_neg he]
    rw[h,e,List.append_nil]
theorem WAt.end_(h:WAt R o 0 s L):o=(s,L):=by
  unfold WAt za4 at h;rw[h,List.append_nil]
theorem MAt.end_(h:MAt R o 0 s L):o=(s,L):=by
  unfold MAt zbq zis at h;rw[h,List.append_nil]
end
def zeW:RS→RS×List zkh:=zbY (zaB 2) fun n=>za4 zjm n.toNat
def za5.row(x:za5):Value:=.slice x.ba x.bn x.bc
structure za1(w:World)(lo:Nat)(es:List za5)(A:Option Addr)(n c:Nat):Prop where
  row:w.ownsRow lo 56 6 (.slice A n c) n (zbN es)
  ok:∀ x∈es,x.ok w
  own:∀ x∈es,w.ownsRow lo 3 1 x.row x.bn (za6 x.bl)
  apart:es.Pairwise fun a b=>∀ k,zag a.row k→¬ zag b.row k
theorem za1.nil(w:World)(lo:Nat):za1 w lo [] none 0 0:=⟨World.ownsRow_nil _ _ _ _,fun x hx=>(by cases hx),fun x hx=>(by cases hx),List.Pairwise.nil⟩
theorem za1.fr{w w':World}{lo:Nat}{es:List za5}{A:Option Addr}{n c:Nat}{F:Nat→Prop}(h:za1 w lo es A n c)(f:Fr F w w')(hr:∀ k,zag (.slice A n c) k→¬ F k)(hx:∀ x∈es,∀ k,zag x.row k→¬ F k):za1 w' lo es A n c:=
  ⟨zad h.row f hr,fun x hm=>by
    have k:=h.ok x hm
    exact⟨k.id,k.tier,k.shard,k.place,k.of_,Rd.of_own (zad (h.own x hm) f (hx x hm)),k.blen,k.ble,k.bmax,k.bwf⟩,fun x hm=>zad (h.own x hm) f (hx x hm),h.apart⟩
theorem za1.fr0{w w':World}{lo:Nat}{es:List za5}{A:Option Addr}{n c:Nat}(h:za1 w lo es A n c)(f:Fr (fun _=>False) w w'):za1 w' lo es A n c:=h.fr f (fun _ _ h=>h) (fun _ _ _ _ h=>h)
theorem za1.up{w w':World}{lo g m:Nat}{es:List za5}{A:Option Addr}{n c:Nat}(h:za1 w lo es A n c)(f:Fr (fun j=>j=g∨m≤j) w w')(hm:w.heap.size≤m)(hg:g<lo):za1 w' lo es A n c:=
  h.fr f (fun k hk hF=>by have:=h.row.lt k hk;omega) (fun x hx k hk hF=>by have:=(h.own x hx).lt k hk;omega)
theorem za1.snoc{w w' : World}{lo m : Nat}{es : List za5}{A A' : Option Addr}{n c c' : Nat}{x : za5}(h : za1 w lo es A n c)(hlo : lo ≤ m)
    (hb:∀ y∈es,∀ k,zag y.row k→k<m) (hx:w.ownsRow m 3 1 x.row x.bn (za6 x.bl)) (ho:x.ok w)
    (hr:w'.ownsRow lo 56 6 (.slice A' (n+1) c') (n+1) (zbN es++x.cells)) (mv:Mv (zag (.slice A n c)) (zag (.slice A' (n+1) c')) w w'):za1 w' lo (es++[x]) A' (n+1) c':=by
  have hk:∀ y∈es++[x],w.ownsRow lo 3 1 y.row y.bn (za6 y.bl):=fun y hy=>by
    rcases List.mem_append.1 hy with hy | hy
    · exact h.own y hy
    · rw[List.mem_singleton] at hy;rw[hy];exact zaL hx hlo
  have hk2:∀ y∈es++[x],w'.ownsRow lo 3 1 y.row y.bn (za6 y.bl):=fun y hy=>zad (hk y hy) mv.fr (fun k a b=>zcZ (hk y hy) h.row (by decide) k a b)
  have ho2:∀ y∈es++[x],y.ok w:=fun y hy=>by
    rcases List.mem_append.1 hy with hy | hy
    · exact h.ok y hy
    · rw[List.mem_singleton] at hy;rw[hy];exact ho
  refine⟨?_,fun y hy=>?_,hk2,?_⟩
  · unfold zbN at hr ⊢
    rw[List.flatMap_append,List.flatMap_singleton];exact hr
  · have k:=ho2 y hy
    exact⟨k.id,k.tier,k.shard,k.place,k.of_,Rd.of_own (hk2 y hy),k.blen,k.ble,k.bmax,k.bwf⟩
  · rw[List.pairwise_append]
    refine⟨h.apart,List.pairwise_singleton _ _,fun a ha b hb' k h1 h2=>?_⟩;rw[List.mem_singleton] at hb';subst hb';have:=hb a ha k h1;have:=(hx.lt k h2).1;omega
theorem zaW{α β:Type}{R:RS→RS×α}{f:α→RS→RS×β}{s s':RS}{a:α}(h:R s=(s',a)):zbY R f s=f a s':=by
  show f (R s).2 (R s).1=_
  rw[h]
theorem za3.e{α:Type}{R:RS→RS×α}{s s':RS}{a:α}(h:za3 R)(q:R s=(s',a))(hz:s'.e=0):s.e=0:=(h s (by rw[q];exact hz)).1
theorem za3.ents:za3 zeW:=za3.bind (za3.small zgq) fun _=>za3.while_ za3.ent _
section
variable {s0 s1 s2 s3 s4 s5 s6 s7 s8 s9 s10:RS} {gen id now bound done e1 e2:Int} {t1 t2 nm nm2:ByteArray} {pl pl2:List zaa} {fl src:List Int} {es:List zkh}
theorem zoc(h1:zcA s0=(s1,gen))(h2:zcA s1=(s2,id))(h3:ze_ s2=(s3,now))(h4:zdp s3=(s4,t1))(hV:zaT t1=(e1,nm,pl)):(zdv s0).2.1=e1:=by
  have h:(zdv s0).2.1=(zaT (zdp (ze_ (zcA (zcA s0).1).1).1).2).1:=rfl;rw[h];simp only[h1,h2,h3,h4,hV]
theorem zob(h1:zcA s0=(s1,gen))(h2:zcA s1=(s2,id))(h3:ze_ s2=(s3,now))(h4:zdp s3=(s4,t1))(hV:zaT t1=(e1,nm,pl))(h5:zbq ze_ pl.length s4=(s5,fl))(h6:zdp s5=(s6,t2))(hp:zkv e1 t2=(e2,nm2,pl2)):(zdv s0).2.2.1=e2:=by
  unfold zdv;rw[zaW h1,zaW h2,zaW h3,zaW h4];simp only[hV];rw[zaW h5,zaW h6];simp only[hp]
  rfl
theorem zoa(h1 : zcA s0 = (s1, gen))(h2 : zcA s1 = (s2, id))(h3 : ze_ s2 = (s3, now))(h4 : zdp s3 = (s4, t1))(hV : zaT t1 = (e1, nm, pl))(h5 : zbq ze_ pl.length s4 = (s5, fl))(h6 : zdp s5 = (s6, t2))(hp : zkv e1 t2 = (e2, nm2, pl2))
    (h7:zbq (zaB 1) pl2.length s6=(s7,src)) (h8:ze_ s7=(s8,bound)) (h9:ze_ s8=(s9,done)) (h10:zeW s9=(s10,es)):zdv s0=(s10,(e1,e2,⟨gen,id,now,nm,pl,fl,nm2,pl2,src,bound,done,es⟩)):=by
  unfold zdv;rw[zaW h1,zaW h2,zaW h3,zaW h4];simp only[hV];rw[zaW h5,zaW h6];simp only[hp];rw[zaW h7,zaW h8,zaW h9];have h:∀ (K:List zkh→RS→RS×(Int×Int×zdL)),zbY (zaB 2) (fun n=>zbY (za4 zjm n.toNat) K) s9=K (zeW s9).2 (zeW s9).1:=fun _=>rfl;rw[h,h10]
  rfl
end
theorem zp6{b:List UInt8}{q:zdL}(h:zfk b q):(zdv ⟨0,b⟩).2.1=0:=by rw[h.2.1]
theorem zp5{b:List UInt8}{q:zdL}(h:zfk b q):(zdv ⟨0,b⟩).2.2.1=0:=by rw[h.2.1]
theorem zna{b:List UInt8}{q q':zdL}(h:zfk b q)(h':zfk b q'):q=q':=by
  have:=h.2.1;rw[h'.2.1] at this;simp only[Prod.mk.injEq,true_and] at this;exact this.symm
def zdY:Value:=.agg #[.int .u64 0,.int .u64 0,.int .i64 0,.string ByteArray.empty,.slice none 0 0,.slice none 0 0,.string ByteArray.empty,.slice none 0 0,.slice none 0 0,.int .i64 0,.int .i64 0,.slice none 0 0]
structure ze9(w:World)(lo:Nat)(c:zbf)(a:zfI):Prop where
  gen:0≤c.gen∧c.gen<18446744073709551616
  id:0≤c.id∧c.id<18446744073709551616
  now:zbT c.now
  bound:zbT c.bound
  done:zbT c.done
  nm:c.nm.size≤maxLen
  nm2:c.nm2.size≤maxLen
  op:w.ownsRow lo 99 4 (.slice a.pA a.pn a.pc) a.pn (zaf c.pl)
  ot:w.ownsRow lo 99 4 (.slice a.tA a.tn a.tc) a.tn (zaf c.pl2)
  of_:w.ownsRow lo 3 1 (.slice a.fA a.fn a.fc) a.fn (za6 c.fl)
  os:w.ownsRow lo 3 1 (.slice a.sA a.sn a.sc) a.sn (za6 c.src)
  ents:za1 w lo c.es a.eA a.en a.ec
  lp:c.pl.length=a.pn
  lf:c.fl.length=a.fn
  lt:c.pl2.length=a.tn
  ls:c.src.length=a.sn
  le:c.es.length=a.en
  wp:∀ t∈c.pl,t.wf
  wt:∀ t∈c.pl2,t.wf
  wf:∀ x∈c.fl,zbT x
  ws:∀ x∈c.src,zbT x
  fs:∀ k,zag (.slice a.fA a.fn a.fc) k→¬ zag (.slice a.sA a.sn a.sc) k
  fe:∀ x∈c.es,∀ k,zag (.slice a.fA a.fn a.fc) k→¬ zag x.row k
  se:∀ x∈c.es,∀ k,zag (.slice a.sA a.sn a.sc) k→¬ zag x.row k
  pt:∀ k,zag (.slice a.pA a.pn a.pc) k→¬ zag (.slice a.tA a.tn a.tc) k
theorem zcr{w:World}{lo n c size:Nat}{e:TypeId}{A:Option Addr}{xs:List Value}(h:w.ownsRow lo e size (.slice A n c) n xs):n≤c∧c≤maxLen:=by
  obtain⟨_,_,e,h1,h2,_⟩:=zam h
  injection e with e1 e2 e3
  subst e3;exact⟨h1,h2⟩
theorem ze9.cin{w:World}{lo:Nat}{c:zbf}{a:zfI}(h:ze9 w lo c a):zcn w c a:=
  ⟨h.gen,h.id,h.now,h.bound,h.done,h.nm,h.nm2,Rd.of_own h.op,Rd.of_own h.of_,Rd.of_own h.ot,Rd.of_own h.os,Rd.of_own h.ents.row,h.lp,h.lf,h.lt,h.ls,h.le,zcr h.op,zcr h.of_,zcr h.ot,zcr h.os,zcr h.ents.row,h.wp,h.wt,h.wf,h.ws,h.ents.ok⟩
theorem ze9.fr{w w':World}{lo:Nat}{c:zbf}{a:zfI}{F:Nat→Prop}(h:ze9 w lo c a)(f:Fr F w w')(hF:∀ k,lo≤k→¬ F k):ze9 w' lo c a:=
  {h with
    op:=zad h.op f (fun k hk=>hF k (h.op.lt k hk).1)
    ot:=zad h.ot f (fun k hk=>hF k (h.ot.lt k hk).1)
    of_:=zad h.of_ f (fun k hk=>hF k (h.of_.lt k hk).1)
    os:=zad h.os f (fun k hk=>hF k (h.os.lt k hk).1)
    ents:=h.ents.fr f (fun k hk=>hF k (h.ents.row.lt k hk).1) (fun x hx k hk=>hF k ((h.ents.own x hx).lt k hk).1)}
theorem zoz{b : List UInt8}{s10 : RS}{e1 e2 : Int}{c : zbf}{pt : ByteArray}{pe : Int}(h : zdv ⟨0, b⟩ = (s10, (e1, e2, c.p)))(he : s10.e = 0)(hes : e1 = 0 ∧ e2 = 0)(hp : zh3 c = (pt, pe)) :
    (∀ q,zfk b q→pe=0∧pt=zaC b)∧(pe=0→pt=zaC b→zfk b c.p):=by
  obtain⟨rfl,rfl⟩:=hes;unfold zh3 at hp;refine⟨fun q hq=>?_,fun h0 h1=>?_⟩
  · have h2:=hq.2.1
    rw[h] at h2;simp only[Prod.mk.injEq,true_and] at h2;subst h2;have h3:=hq.2.2.1;rw[← zfn] at h3;have h4:=hq.2.2.2.1;have h5:=hq.2.2.2.2;rw[← zeq] at h4 h5;rw[if_pos h3,if_neg (by omega),h5] at hp;have hp2:=Prod.mk.inj hp;exact⟨hp2.2.symm,hp2.1.symm⟩
  · subst h0 h1
    by_cases hc:zbd c=true
    · rw[if_pos hc] at hp
      by_cases h4:40000<(zea c).length
      · rw[if_pos h4] at hp
        exact absurd (Prod.mk.inj hp).2 (by decide)
      · rw[if_neg h4] at hp
        have a1:=(Prod.mk.inj hp).1
        have h5:zea c=b:=by
          have:=congrArg (fun s:ByteArray=>s.data.toList) a1;simpa[zeE] using this
        exact⟨by rw[h];exact he,by rw[h],by rw[← zfn];exact hc,by rw[← zeq];omega,by rw[← zeq];exact h5⟩
    · rw[if_neg hc] at hp
      exact absurd (Prod.mk.inj hp).2 (by decide)
def zqj(b:List UInt8)(lo:Nat)(r:Ending)(w':World):Prop:=
  (∃ c a,r=.returned (.tuple #[.agg (zbU c a),.int .i64 0])∧ze9 w' lo c a∧zfk b c.p)∨
  (∃ e,e≠0∧r=.returned (.tuple #[zdY,.int .i64 e])∧∀ q,¬ zfk b q)
end Go.Proofs.YteajonicnkpbbaaGreatDoor
