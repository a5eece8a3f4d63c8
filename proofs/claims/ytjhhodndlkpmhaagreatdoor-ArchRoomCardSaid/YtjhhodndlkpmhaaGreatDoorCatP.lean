/- Walk of cat.Put. -/
import Derived.Test.YtjhhodndlkpmhaaGreatDoorCatA
import Derived.Test.YtjhhodndlkpmhaaGreatDoorCatK
namespace Go.Proofs.YtjhhodndlkpmhaaGreatDoor
set_option linter.all false
set_option maxHeartbeats 8000000
set_option maxRecDepth 100000
open Go.RowKit Tryz
theorem PS.none{w W:World}{g:Nat}{l:List UInt8}(h:PS w W g (fun k=>k<w.heap.size) l):Fr (fun _=>False) w W:=h.fr.mono (fun k hk=>.inr (Nat.le_of_not_lt hk))
theorem zcl(k:Nat)(vs:List Int):(smB k vs).length=k*vs.length:=by
  induction vs with
  | nil=>rfl
  | cons v vs ih=>
    unfold smB at ih ⊢;rw[List.flatMap_cons,q8_,zaQ,ih,List.length_cons,Nat.mul_add];omega
theorem zeB(s:ByteArray):(zb6 s).length=2+s.size:=by
  unfold zb6;rw[q8_,zaQ,zlR]
theorem zls{nm:ByteArray}{l:List za_}(h:zak nm l=true)(hw:∀ t∈l,t.wf):(zcB nm l).size≤1150:=by
  have h1:=zhx h;have h2:=zjc nm l (fun t ht=>⟨h1.2.2 t ht,hw t ht⟩);have h3:(zcB nm l).size=(zb4 nm l).length:=rfl;omega
theorem zjO{c:zfH}(h:zg7 c=true):zak c.nm c.pl=true∧c.fl.length≤5∧c.src.length≤5∧(∀ s∈c.src,0≤s∧s<256)∧(zfn c=true→zak c.nm2 c.pl2=true)∧c.es.length≤90∧c.es.all (zbu c.id)=true:=by
  unfold zg7 at h;simp only[Bool.and_eq_true,decide_eq_true_eq] at h;obtain⟨h1,h2,h3,h4,h5,h6⟩:=h;unfold zcn at h1;simp only[Bool.and_eq_true,decide_eq_true_eq] at h1;obtain⟨⟨g1,g2,g3,g4⟩,g5⟩:=h1;have hl:=zch g3;refine⟨g3,by omega,?_,?_,?_,h3,h4⟩
  · unfold za9 at h2
    split at h2
    · simp only[Bool.and_eq_true,decide_eq_true_eq] at h2
      have:=zch h2.2.1;omega
    · simp only[Bool.and_eq_true,decide_eq_true_eq] at h2
      omega
  · intro s hs
    unfold za9 at h2
    split at h2
    · simp only[Bool.and_eq_true,decide_eq_true_eq] at h2
      have:=List.all_eq_true.1 h2.1 s hs;unfold inB at this;simp only[Bool.and_eq_true,decide_eq_true_eq] at this;omega
    · simp only[Bool.and_eq_true,decide_eq_true_eq] at h2
      have:=List.length_eq_zero_iff.1 h2.2.2;rw[this] at hs
      cases hs
  · intro hp
    unfold za9 at h2;rw[if_pos hp] at h2;simp only[Bool.and_eq_true,decide_eq_true_eq] at h2;exact h2.2.1
theorem zjE{cid:Int}{x:zdg}(h:zbu cid x=true):(0≤x.tier∧x.tier<256)∧(0≤x.shard∧x.shard<256)∧x.bl.length≤4096∧∀ v∈x.bl,0≤v∧v<65536:=by
  unfold zbu inB at h;simp only[Bool.and_eq_true,decide_eq_true_eq,List.all_eq_true] at h;obtain⟨h0,⟨h1,h2,h3⟩,h4,h5,h6,h7⟩:=h;refine⟨by omega,by omega,by omega,fun v hv=>?_⟩;have:=h0 v hv;omega
theorem zjD{cid:Int}{l:List zdg}(h:l.all (zbu cid)=true):(l.flatMap zpA).length≤8300*l.length:=by
  induction l with
  | nil=>simp
  | cons x l ih=>
    rw[List.all_cons,Bool.and_eq_true] at h;have a:=ih h.2;have b:=(zjE h.1).2.2.1;rw[List.flatMap_cons,q8_,List.length_cons]
    have hx:(zpA x).length≤8300:=by
      unfold zpA;rw[q8_,q8_,q8_,zcl,zcl,zcl,zcl];simp only[List.length_cons,List.length_nil];omega
    omega
section
variable {w:World} {c:zfH} {a:zqV}
theorem zlN(h:zex w c a)(hti:Tab w):Calls prog 25 #[.agg #[.int .u64 c.gen,.int .u64 c.id,.int .i64 c.now,.string c.nm,.slice a.pA a.pn a.pc,.slice a.fA a.fn a.fc,.string c.nm2,.slice a.tA a.tn a.tc,.slice a.sA a.sn a.sc,.int .i64 c.bound,.int .i64 c.done,.slice a.eA a.en a.ec]] w fun r w'=>r=.returned (.tuple #[.string (zok c).1,.int .i64 (zok c).2])∧Below w.heap.size w w':=by
  obtain⟨pA,pn,pc,fA,fn,fc,tA,tn,tc,sA,sn,sc,eA,en,ec⟩:=a;dsimp only
  obtain⟨W1,hW1⟩:∃ W1,W1=w.alloc (.cells #[.int .u64 c.gen,.int .u64 c.id,.int .i64 c.now,.string c.nm,.slice pA pn pc,.slice fA fn fc,.string c.nm2,.slice tA tn tc,.slice sA sn sc,.int .i64 c.bound,.int .i64 c.done,.slice eA en ec] 55):=⟨_,rfl⟩
  have HW1:=q0_ hW1
  have F1:Hid (Fr (fun _=>False) w W1):=by show Fr _ _ _;rw[hW1];exact Fr.none_alloc _ _
  have X1:Hid (Blk W1 w.heap.size 55 #[.int .u64 c.gen,.int .u64 c.id,.int .i64 c.now,.string c.nm,.slice pA pn pc,.slice fA fn fc,.string c.nm2,.slice tA tn tc,.slice sA sn sc,.int .i64 c.bound,.int .i64 c.done,.slice eA en ec]):=by show Blk _ _ _ _;rw[hW1];exact Blk.new _ _ _
  have HC:Hid (∀ W,Fr (fun _=>False) W1 W→W.cell? ⟨w.heap.size,0,none⟩=some (.int .u64 c.gen)∧W.cell? ⟨w.heap.size,1,none⟩=some (.int .u64 c.id)∧W.cell? ⟨w.heap.size,2,none⟩=some (.int .i64 c.now)∧W.cell? ⟨w.heap.size,3,none⟩=some (.string c.nm)∧W.cell? ⟨w.heap.size,4,none⟩=some (.slice pA pn pc)∧W.cell? ⟨w.heap.size,5,none⟩=some (.slice fA fn fc)∧W.cell? ⟨w.heap.size,6,none⟩=some (.string c.nm2)∧W.cell? ⟨w.heap.size,7,none⟩=some (.slice tA tn tc)∧W.cell? ⟨w.heap.size,8,none⟩=some (.slice sA sn sc)∧W.cell? ⟨w.heap.size,9,none⟩=some (.int .i64 c.bound)∧W.cell? ⟨w.heap.size,10,none⟩=some (.int .i64 c.done)∧W.cell? ⟨w.heap.size,11,none⟩=some (.slice eA en ec)):=fun W f=>by
    have b:=X1.out.fr f (fun h=>h);exact⟨b.cell 0,b.cell 1,b.cell 2,b.cell 3,b.cell 4,b.cell 5,b.cell 6,b.cell 7,b.cell 8,b.cell 9,b.cell 10,b.cell 11⟩
  have HV:=q0_ (zm4 (h.fr0 F1.out));have HQ:=q0_ (fun (W:World) (f:Fr (fun _=>False) W1 W)=>zjI ((h.fr0 F1.out).fr0 f));have HIn0:=q0_ h;have HIn:Hid (∀ W,Fr (fun _=>False) w W→zex W c ⟨pA,pn,pc,fA,fn,fc,tA,tn,tc,sA,sn,sc,eA,en,ec⟩):=fun W f=>h.fr0 f;have HT:Hid (∀ W,Fr (fun _=>False) W1 W→Tab W):=fun W f=>hti.below ((F1.out.trans f q4_).below q4_);clear hti hW1
  cases e1:zg7 c
  · have hr:Hid (zok c=(ByteArray.empty,1)):=by show _=_;unfold zok;rw[e1];rfl
    have H1:=q0_ e1;clear e1 h;go_enter func25,ntmps25
    go_upto_region 1 with fail
    rw[← HW1.out];obtain⟨x0,x1,x2,x3,x4,x5,x6,x7,x8,x9,x10,x11⟩:=HC.out _ (Fr.refl _ W1);go_wp2_with fail;refine HV.out.mono ?_;rw[H1.out];rintro r w1 ⟨rfl,b1⟩;have F2:=q0_ (Fr.b0 b1);clear b1;clear x0 x1 x2 x3 x4 x5 x6 x7 x8 x9 x10 x11;go_wp2
    go_ret2
    exact⟨by rw[hr.out];rfl,(F1.out.trans F2.out q4_).below q4_⟩
  obtain⟨q1,q2,q3,q4,q5,q6,q7⟩:=zjO e1;have hle:c.es.length=en:=h.le;have hlf:c.fl.length=fn:=h.lf;have hls:c.src.length=sn:=h.ls
  have HP1:Hid (∀ W,Fr (fun _=>False) W1 W→Calls prog 65 #[zfS c.nm pA pn pc] W fun r w'=>r=.returned (.tuple #[.string (zcB c.nm c.pl),.int .i64 0])∧Below W.heap.size W w'):=fun W f=>by
    have:=zjd c.nm h.nm c.pl pA pn pc W ((h.rp.fr0 F1.out).fr0 f) h.cp.1 h.wp (HT.out W f);rw[q1] at this;exact this
  have HP2:Hid (zfn c=true→∀ W,Fr (fun _=>False) W1 W→Calls prog 65 #[zfS c.nm2 tA tn tc] W fun r w'=>r=.returned (.tuple #[.string (zcB c.nm2 c.pl2),.int .i64 0])∧Below W.heap.size W w'):=fun hp W f=>by
    have:=zjd c.nm2 h.nm2 c.pl2 tA tn tc W ((h.rt.fr0 F1.out).fr0 f) h.ct.1 h.wt (HT.out W f);rw[q5 hp] at this;exact this
  have HT1:Hid ((zcB c.nm c.pl).size≤1150):=zls q1 (fun t ht=>h.wp t ht)
  have HT2:Hid ((zc0 c).size≤1150):=by
    show (zc0 c).size≤1150
    unfold zc0
    split
    · rename_i hp
      exact zls (q5 hp) (fun t ht=>h.wt t ht)
    · exact Nat.zero_le _
  have HRf:Hid (∀ W,Fr (fun _=>False) W1 W→Rd W 1 fA fn (zbg c.fl)):=fun W f=>Rd.fr0 (Rd.fr0 h.rf F1.out) f;have HRs:Hid (∀ W,Fr (fun _=>False) W1 W→Rd W 1 sA sn (zbg c.src)):=fun W f=>Rd.fr0 (Rd.fr0 h.rs F1.out) f;have HAf:Hid (∀ k,adF fA fn k→k<W1.heap.size):=fun k hk=>Nat.lt_of_lt_of_le (Rd.adlt h.rf (by decide) k hk) F1.out.size;have HAs:Hid (∀ k,adF sA sn k→k<W1.heap.size):=fun k hk=>Nat.lt_of_lt_of_le (Rd.adlt h.rs (by decide) k hk) F1.out.size
  have HG:Hid (∀ x∈[c.gen,c.id],0≤x):=by
    intro x hx;simp only[List.mem_cons,List.not_mem_nil,or_false] at hx
    rcases hx with rfl | rfl
    · exact h.gen.1
    · exact h.id.1
  have Hef:Hid (∀ v∈[(en:Int)],za7 2 v=true):=by
    intro v hv;rw[List.mem_singleton] at hv;rw[hv];exact zoJ (by omega)
  have Hfn:Hid (fn≤5):=by show _≤_;omega
  have Hsn:Hid (sn≤5):=by show _≤_;omega
  have Hn9:Hid (en≤90):=by show _≤_;omega
  have Hsf:Hid (∀ v∈c.src,za7 1 v=true):=fun v hv=>zjw (q4 v hv);have Hen:=q0_ q7;have Hlf:=q0_ hlf;have Hls:=q0_ hls;have Hle:=q0_ hle;have H1:=q0_ e1;clear h q1 q2 q3 q4 q5 q6 q7 hle hlf hls;unfold zfS at HP1 HP2
  have hr:zok c=if 40000<(zno c).length then (ByteArray.empty,2) else (zal (zno c),0):=by unfold zok;rw[if_pos e1]
  have HR0:=q0_ hr;clear hr e1
  cases hp:zfn c<;>(
    have Hp:=q0_ hp;clear hp;go_enter func25,ntmps25
    go_upto_region 1 with fail
    rw[← HW1.out];obtain⟨x0,x1,x2,x3,x4,x5,x6,x7,x8,x9,x10,x11⟩:=HC.out _ (Fr.refl _ W1);go_wp2_with fail;refine HV.out.mono ?_;rw[H1.out];rintro r w1 ⟨rfl,b1⟩;have F2:=q0_ (Fr.b0 b1);clear b1;clear x0 x1 x2 x3 x4 x5 x6 x7 x8 x9 x10 x11;obtain⟨x0,x1,x2,x3,x4,x5,x6,x7,x8,x9,x10,x11⟩:=HC.out _ F2.out;go_wp2_with fail;refine (HP1.out _ F2.out).mono ?_;rintro r w2 ⟨rfl,b2⟩;have F3:Hid (Fr (fun _=>False) W1 w2):=F2.out.trans (Fr.b0 b2) q4_;clear b2;clear x0 x1 x2 x3 x4 x5 x6 x7 x8 x9 x10 x11;obtain⟨x0,x1,x2,x3,x4,x5,x6,x7,x8,x9,x10,x11⟩:=HC.out _ F3.out;go_wp2_with fail;refine (HQ.out _ F3.out).mono ?_;rw[Hp.out];rintro r w3 ⟨rfl,b3⟩;have F3b:Hid (Fr (fun _=>False) W1 w3):=F3.out.trans (Fr.b0 b3) q4_;clear b3;clear x0 x1 x2 x3 x4 x5 x6 x7 x8 x9 x10 x11;obtain⟨x0,x1,x2,x3,x4,x5,x6,x7,x8,x9,x10,x11⟩:=HC.out _ F3b.out
    first
      | (go_upto_region 7 with fail
         obtain⟨u0,hu0⟩:∃ u,u=w3:=⟨_,rfl⟩
         rw[← hu0]
         have F4:Hid (Fr (fun _=>False) W1 u0):=by show Fr _ _ _;rw[hu0];exact F3b.out
         clear hu0
         rw[show (⟨#[]⟩:ByteArray)=zc0 c by unfold zc0;rw[Hp.out];rfl])
      | (go_wp2_with fail
         refine (HP2.out Hp.out _ F3b.out).mono ?_;rintro r u0 ⟨rfl,b4⟩;have F4:Hid (Fr (fun _=>False) W1 u0):=F3b.out.trans (Fr.b0 b4) q4_;clear b4
         go_upto_region 7 with fail
         rw[show zcB c.nm2 c.pl2=zc0 c by unfold zc0;rw[if_pos Hp.out]])
    clear x0 x1 x2 x3 x4 x5 x6 x7 x8 x9 x10 x11;have H0:Hid (PS W1 (u0.alloc (.cells #[.int .i64 0,.slice none 0 0] 63)) u0.heap.size (fun k=>k<W1.heap.size) []):=PS.new (F4.out.mono q4_) (fun k hk=>Nat.lt_of_lt_of_le hk F4.out.size)
    go_upto_region 8 with fail
    obtain⟨g,hg⟩:∃ g,g=u0.heap.size:=⟨_,rfl⟩
    obtain⟨Wk,hWk⟩:∃ Wk,Wk=u0.alloc (.cells #[.int .i64 0,.slice none 0 0] 63):=⟨_,rfl⟩
    rw[← hWk, ← hg] at H0;rw[← hWk, ← hg]
    obtain⟨l0,hl0⟩:∃ l:List UInt8,l=[]:=⟨_,rfl⟩
    rw[← hl0] at H0
    have B0:Hid (l0.length≤0):=by show _≤_;rw[hl0];exact Nat.le_refl _
    have L0:=q0_ hl0;clear hg hWk hl0;have hw:=zlr H0.out [c.gen,c.id] 2 rfl HG.out (by have:=B0.out;omega);simp only[List.map_cons,List.map_nil] at hw;have HW0:=q0_ hw;clear hw;obtain⟨x0,x1,_,_,_,_,_,_,_,_,_,_⟩:=HC.out _ H0.out.none;go_wp2_with fail;refine (show Calls _ _ _ _ _ from HW0.out).mono ?_;rintro r u1 ⟨rfl,hp⟩
    obtain⟨l1,hl⟩:∃ l,l=l0++smB 8 [c.gen,c.id]:=⟨_,rfl⟩
    have H1:Hid (PS W1 u1 g (fun k=>k<W1.heap.size) l1):=by show PS _ _ _ _ _;rw[hl];exact hp
    have B1:Hid (l1.length≤16):=by
      show _≤_
      rw[hl,q8_];have h1:=B0.out
      have h2:(smB 8 [c.gen,c.id]).length≤16:=by rw[zcl];exact Nat.le_refl _
      omega
    have L1:Hid (l1=l0++smB 8 [c.gen,c.id]):=hl;clear hp hl HW0 x0 x1;have hw:=zol H1.out [c.now] 1 rfl (by have:=B1.out;omega);simp only[List.map_cons,List.map_nil] at hw;have HW1:=q0_ hw;clear hw;obtain⟨_,_,x2,_,_,_,_,_,_,_,_,_⟩:=HC.out _ H1.out.none;go_wp2_with fail;refine (show Calls _ _ _ _ _ from HW1.out).mono ?_;rintro r u2 ⟨rfl,hp⟩
    obtain⟨l2,hl⟩:∃ l,l=l1++le8 [c.now]:=⟨_,rfl⟩
    have H2:Hid (PS W1 u2 g (fun k=>k<W1.heap.size) l2):=by show PS _ _ _ _ _;rw[hl];exact hp
    have B2:Hid (l2.length≤24):=by
      show _≤_
      rw[hl,q8_];have h1:=B1.out
      have h2:(le8 [c.now]).length≤8:=by rw[zdr];exact Nat.le_refl _
      omega
    have L2:Hid (l2=l1++le8 [c.now]):=hl;clear hp hl HW1 x2;have hw:=zkx H2.out (zcB c.nm c.pl) (by have:=B2.out;omega) (by have:=HT1.out;omega);have HW2:=q0_ hw;clear hw;go_wp2_with fail;refine (show Calls _ _ _ _ _ from HW2.out).mono ?_;rintro r u3 ⟨rfl,hp⟩
    obtain⟨l3,hl⟩:∃ l,l=l2++zb6 (zcB c.nm c.pl):=⟨_,rfl⟩
    have H3:Hid (PS W1 u3 g (fun k=>k<W1.heap.size) l3):=by show PS _ _ _ _ _;rw[hl];exact hp
    have B3:Hid (l3.length≤1224):=by
      show _≤_
      rw[hl,q8_];have h1:=B2.out
      have h2:(zb6 (zcB c.nm c.pl)).length≤1200:=by rw[zeB];have:=HT1.out;omega
      omega
    have L3:Hid (l3=l2++zb6 (zcB c.nm c.pl)):=hl;clear hp hl HW2;have hw:=zmz H3.out c.fl fA fn fc (HRf.out _ H3.out.none) HAf.out (by have:=B3.out;have:=Hfn.out;omega);have HW3:=q0_ hw;clear hw;obtain⟨_,_,_,_,_,x5,_,_,_,_,_,_⟩:=HC.out _ H3.out.none;go_wp2_with fail;refine (show Calls _ _ _ _ _ from HW3.out).mono ?_;rintro r u4 ⟨rfl,hp⟩
    obtain⟨l4,hl⟩:∃ l,l=l3++le8 c.fl:=⟨_,rfl⟩
    have H4:Hid (PS W1 u4 g (fun k=>k<W1.heap.size) l4):=by show PS _ _ _ _ _;rw[hl];exact hp
    have B4:Hid (l4.length≤1264):=by
      show _≤_
      rw[hl,q8_];have h1:=B3.out
      have h2:(le8 c.fl).length≤40:=by rw[zdr,Hlf.out];have:=Hfn.out;omega
      omega
    have L4:Hid (l4=l3++le8 c.fl):=hl;clear hp hl HW3 x5;have hw:=zkx H4.out (zc0 c) (by have:=B4.out;omega) (by have:=HT2.out;omega);have HW4:=q0_ hw;clear hw;go_wp2_with fail;refine (show Calls _ _ _ _ _ from HW4.out).mono ?_;rintro r u5 ⟨rfl,hp⟩
    obtain⟨l5,hl⟩:∃ l,l=l4++zb6 (zc0 c):=⟨_,rfl⟩
    have H5:Hid (PS W1 u5 g (fun k=>k<W1.heap.size) l5):=by show PS _ _ _ _ _;rw[hl];exact hp
    have B5:Hid (l5.length≤2464):=by
      show _≤_
      rw[hl,q8_];have h1:=B4.out
      have h2:(zb6 (zc0 c)).length≤1200:=by rw[zeB];have:=HT2.out;omega
      omega
    have L5:Hid (l5=l4++zb6 (zc0 c)):=hl;clear hp hl HW4;have hw:=zgA H5.out 1 c.src sA sn sc (HRs.out _ H5.out.none) HAs.out rfl Hsf.out (by have:=B5.out;have:=Hsn.out;omega);have HW5:=q0_ hw;clear hw;obtain⟨_,_,_,_,_,_,_,_,x8,_,_,_⟩:=HC.out _ H5.out.none;go_wp2_with fail;refine (show Calls _ _ _ _ _ from HW5.out).mono ?_;rintro r u6 ⟨rfl,hp⟩
    obtain⟨l6,hl⟩:∃ l,l=l5++smB 1 c.src:=⟨_,rfl⟩
    have H6:Hid (PS W1 u6 g (fun k=>k<W1.heap.size) l6):=by show PS _ _ _ _ _;rw[hl];exact hp
    have B6:Hid (l6.length≤2469):=by
      show _≤_
      rw[hl,q8_];have h1:=B5.out
      have h2:(smB 1 c.src).length≤5:=by rw[zcl,Hls.out];have:=Hsn.out;omega
      omega
    have L6:Hid (l6=l5++smB 1 c.src):=hl;clear hp hl HW5 x8;have hw:=zol H6.out [c.bound,c.done] 2 rfl (by have:=B6.out;omega);simp only[List.map_cons,List.map_nil] at hw;have HW6:=q0_ hw;clear hw;obtain⟨_,_,_,_,_,_,_,_,_,x9,x10,_⟩:=HC.out _ H6.out.none;go_wp2_with fail;refine (show Calls _ _ _ _ _ from HW6.out).mono ?_;rintro r u7 ⟨rfl,hp⟩
    obtain⟨l7,hl⟩:∃ l,l=l6++le8 [c.bound,c.done]:=⟨_,rfl⟩
    have H7:Hid (PS W1 u7 g (fun k=>k<W1.heap.size) l7):=by show PS _ _ _ _ _;rw[hl];exact hp
    have B7:Hid (l7.length≤2485):=by
      show _≤_
      rw[hl,q8_];have h1:=B6.out
      have h2:(le8 [c.bound,c.done]).length≤16:=by rw[zdr];exact Nat.le_refl _
      omega
    have L7:Hid (l7=l6++le8 [c.bound,c.done]):=hl;clear hp hl HW6 x9 x10;have hw:=zd4 H7.out 2 [(en:Int)] 1 rfl rfl Hef.out (by have:=B7.out;omega);simp only[List.map_cons,List.map_nil] at hw;have HW7:=q0_ hw;clear hw;obtain⟨_,_,_,_,_,_,_,_,_,_,_,x11⟩:=HC.out _ H7.out.none;go_wp2_with fail;refine (show Calls _ _ _ _ _ from HW7.out).mono ?_;rintro r u8 ⟨rfl,hp⟩
    obtain⟨l8,hl⟩:∃ l,l=l7++smB 2 [(en:Int)]:=⟨_,rfl⟩
    have H8:Hid (PS W1 u8 g (fun k=>k<W1.heap.size) l8):=by show PS _ _ _ _ _;rw[hl];exact hp
    have B8:Hid (l8.length≤2487):=by
      show _≤_
      rw[hl,q8_];have h1:=B7.out
      have h2:(smB 2 [(en:Int)]).length≤2:=by rw[zcl];exact Nat.le_refl _
      omega
    have L8:Hid (l8=l7++smB 2 [(en:Int)]):=hl;clear hp hl HW7 x11;obtain⟨_,_,_,_,_,_,_,_,_,_,_,x11⟩:=HC.out _ H8.out.none;go_wp2_with fail;clear x11
    go_loopw [61] (fun s wr=>∃ k:Nat,k≤en∧s=.int .i64 k∧PS W1 wr g (fun k=>k<W1.heap.size) (l8++(c.es.take k).flatMap zpA)) (fun s _=>en-(intOf s).toNat)
    case atStart=>exact⟨0,Nat.zero_le _,rfl,by rw[List.take_zero,List.flatMap_nil,List.append_nil];exact H8.out⟩
    case round=>
      obtain⟨k,hk,rfl,hps⟩:=hrel;have Hps:=q0_ hps;have FW:=q0_ hps.none;have Fw:Hid (Fr (fun _=>False) w wr):=F1.out.trans hps.none q4_;clear hps
      by_cases hlt:k<en
      · obtain⟨ad,⟨id,tier,shard,place,of_,ba,bn,bc,bl⟩,rfl,hu,d0,d1,d2,d3,d4,d5⟩:=(HIn.out _ Fw.out).re.ent hlt
        dsimp only at d0 d1 d2 d3 d4 d5;have Hu:=q0_ hu;have hokw:=HIn0.out.we _ (zab hu);have hen:=List.all_eq_true.1 Hen.out _ (zab hu);clear hu;obtain⟨e1,e2,e3,e4⟩:=zjE hen
        have HI:Hid (∀ x∈[id],0≤x):=by
          intro x hx;rw[List.mem_singleton] at hx;rw[hx];exact hokw.id.1
        have Hts:Hid (∀ v∈[tier,shard],za7 1 v=true):=by
          intro v hv;simp only[List.mem_cons,List.not_mem_nil,or_false] at hv
          rcases hv with rfl | rfl
          · exact zjw e1
          · exact zjw e2
        have hblen:bl.length=bn:=hokw.blen
        have hbn4:bn≤4096:=by rw[← hblen];exact e3
        have Hbn:Hid (∀ v∈[(bn:Int)],za7 2 v=true):=by
          intro v hv;rw[List.mem_singleton] at hv;rw[hv];exact zoJ (by omega)
        have Hbl:Hid (∀ v∈bl,za7 2 v=true):=fun v hv=>zoJ (e4 v hv);have Hlb:=q0_ hblen;have HB:=q0_ hbn4;have hRb:Rd w 1 ba bn (zbg bl):=hokw.b;have HAb:Hid (∀ j,adF ba bn j→j<W1.heap.size∨j=wr.heap.size):=fun j hj=>.inl (Nat.lt_of_lt_of_le (hRb.adlt (by decide) j hj) F1.out.size);have HRb0:=q0_ hRb;clear hokw hen e1 e2 e3 e4 hblen hbn4 hRb
        go_upto_region 19 with fail
        obtain⟨W3,hW3⟩:∃ W3,W3=wr.alloc (.cells #[.int .u64 id,.int .i64 tier,.int .i64 shard,.int .i64 place,.int .i64 of_,.slice ba bn bc] 117):=⟨_,rfl⟩
        rw[← hW3]
        have F3:Hid (Fr (fun _=>False) wr W3):=by show Fr _ _ _;rw[hW3];exact Fr.none_alloc _ _
        have X3:Hid (Blk W3 wr.heap.size 117 #[.int .u64 id,.int .i64 tier,.int .i64 shard,.int .i64 place,.int .i64 of_,.slice ba bn bc]):=by show Blk _ _ _ _;rw[hW3];exact Blk.new _ _ _
        have HE:Hid (∀ W,Fr (fun j=>¬ (j<W1.heap.size∨j=wr.heap.size)) W3 W→W.cell? ⟨wr.heap.size,0,none⟩=some (.int .u64 id)∧W.cell? ⟨wr.heap.size,1,none⟩=some (.int .i64 tier)∧W.cell? ⟨wr.heap.size,2,none⟩=some (.int .i64 shard)∧W.cell? ⟨wr.heap.size,3,none⟩=some (.int .i64 place)∧W.cell? ⟨wr.heap.size,4,none⟩=some (.int .i64 of_)∧W.cell? ⟨wr.heap.size,5,none⟩=some (.slice ba bn bc)):=fun W f=>by
          have b:=X3.out.fr f (fun h=>h (.inr rfl));exact⟨b.cell 0,b.cell 1,b.cell 2,b.cell 3,b.cell 4,b.cell 5⟩
        have HRb:Hid (∀ W,Fr (fun j=>¬ (j<W1.heap.size∨j=wr.heap.size)) W3 W→Rd W 1 ba bn (zbg bl)):=fun W f=>((HRb0.out.fr0 Fw.out).fr0 F3.out).fr f (fun j hj h=>h (HAb.out j hj))
        obtain⟨m0,hm0⟩:∃ m,m=l8++(c.es.take k).flatMap zpA:=⟨_,rfl⟩
        have G0:Hid (PS W3 W3 g (fun k=>k<W1.heap.size∨k=wr.heap.size) m0):=by show PS _ _ _ _ _;rw[hW3,hm0];exact Hps.out.base _
        have C0:Hid (m0.length≤2487+8300*k):=by
          show _≤_
          rw[hm0,q8_];have h1:=B8.out
          have h2:=zjD (cid:=c.id) (l:=c.es.take k) (by
            rw[List.all_eq_true];intro x hx
            exact List.all_eq_true.1 Hen.out _ (List.mem_of_mem_take hx))
          rw[List.length_take] at h2;omega
        have M0:=q0_ hm0
        have hk90:k≤90:=by have:=Hn9.out;omega
        clear hW3 d0 d1 d2 d3 d4 d5 hm0;have hw:=zlr G0.out [id] 1 rfl HI.out (by have:=C0.out;omega);simp only[List.map_cons,List.map_nil] at hw;have HW:=q0_ hw;clear hw;obtain⟨z0,_,_,_,_,_⟩:=HE.out _ G0.out.fr;go_wp2_with fail;refine (show Calls _ _ _ _ _ from HW.out).mono ?_;rintro r v1 ⟨rfl,hp⟩
        obtain⟨m1,hl⟩:∃ l,l=m0++smB 8 [id]:=⟨_,rfl⟩
        have G1:Hid (PS W3 v1 g (fun k=>k<W1.heap.size∨k=wr.heap.size) m1):=by show PS _ _ _ _ _;rw[hl];exact hp
        have C1:Hid (m1.length≤2487+8300*k+8):=by
          show _≤_
          rw[hl,q8_];have h1:=C0.out
          have h2:(smB 8 [id]).length≤8:=by rw[zcl];exact Nat.le_refl _
          omega
        have M1:Hid (m1=m0++smB 8 [id]):=hl;clear hp hl HW z0;have hw:=zd4 G1.out 1 [tier,shard] 2 rfl rfl Hts.out (by have:=C1.out;omega);simp only[List.map_cons,List.map_nil] at hw;have HW:=q0_ hw;clear hw;obtain⟨_,z1,z2,_,_,_⟩:=HE.out _ G1.out.fr;go_wp2_with fail;refine (show Calls _ _ _ _ _ from HW.out).mono ?_;rintro r v2 ⟨rfl,hp⟩
        obtain⟨m2,hl⟩:∃ l,l=m1++smB 1 [tier,shard]:=⟨_,rfl⟩
        have G2:Hid (PS W3 v2 g (fun k=>k<W1.heap.size∨k=wr.heap.size) m2):=by show PS _ _ _ _ _;rw[hl];exact hp
        have C2:Hid (m2.length≤2487+8300*k+10):=by
          show _≤_
          rw[hl,q8_];have h1:=C1.out
          have h2:(smB 1 [tier,shard]).length≤2:=by rw[zcl];exact Nat.le_refl _
          omega
        have M2:Hid (m2=m1++smB 1 [tier,shard]):=hl;clear hp hl HW z1 z2;have hw:=zd4 G2.out 2 [(bn:Int)] 1 rfl rfl Hbn.out (by have:=C2.out;omega);simp only[List.map_cons,List.map_nil] at hw;have HW:=q0_ hw;clear hw;obtain⟨_,_,_,_,_,z5⟩:=HE.out _ G2.out.fr;go_wp2_with fail;refine (show Calls _ _ _ _ _ from HW.out).mono ?_;rintro r v3 ⟨rfl,hp⟩
        obtain⟨m3,hl⟩:∃ l,l=m2++smB 2 [(bn:Int)]:=⟨_,rfl⟩
        have G3:Hid (PS W3 v3 g (fun k=>k<W1.heap.size∨k=wr.heap.size) m3):=by show PS _ _ _ _ _;rw[hl];exact hp
        have C3:Hid (m3.length≤2487+8300*k+12):=by
          show _≤_
          rw[hl,q8_];have h1:=C2.out
          have h2:(smB 2 [(bn:Int)]).length≤2:=by rw[zcl];exact Nat.le_refl _
          omega
        have M3:Hid (m3=m2++smB 2 [(bn:Int)]):=hl;clear hp hl HW z5;have hw:=zgA G3.out 2 bl ba bn bc (HRb.out _ G3.out.fr) HAb.out rfl Hbl.out (by have:=C3.out;have:=HB.out;omega);have HW:=q0_ hw;clear hw;obtain⟨_,_,_,_,_,z5⟩:=HE.out _ G3.out.fr;go_wp2_with fail;refine (show Calls _ _ _ _ _ from HW.out).mono ?_;rintro r v4 ⟨rfl,hp⟩
        obtain⟨m4,hl⟩:∃ l,l=m3++smB 2 bl:=⟨_,rfl⟩
        have G4:Hid (PS W3 v4 g (fun k=>k<W1.heap.size∨k=wr.heap.size) m4):=by show PS _ _ _ _ _;rw[hl];exact hp
        have C4:Hid (m4.length≤2487+8300*k+8204):=by
          show _≤_
          rw[hl,q8_];have h1:=C3.out
          have h2:(smB 2 bl).length≤8192:=by rw[zcl,Hlb.out];have:=HB.out;omega
          omega
        have M4:Hid (m4=m3++smB 2 bl):=hl;clear hp hl HW z5
        have hpe:m4=l8++(c.es.take (k+1)).flatMap zpA:=by
          rw[M4.out,M3.out,M2.out,M1.out,M0.out,zan Hu.out,List.flatMap_append];simp[zpA,Hlb.out,List.append_assoc]
        have G5:Hid (PS W1 v4 g (fun j=>j<W1.heap.size) (l8++(c.es.take (k+1)).flatMap zpA)):=by
          show PS _ _ _ _ _
          rw[← hpe];exact G4.out.back (Hps.out.fr.trans F3.out q4_) (fun j h=>.inl h) (fun j hj=>Nat.lt_of_lt_of_le hj (Nat.le_trans FW.out.size F3.out.size))
        clear hpe;go_wp2
        go_roundw
        case rel=>exact⟨k+1,by omega,by go_num,G5.out⟩
        case measure=>simp[intOf];omega
      · obtain rfl:en=k:=by omega
        have hpl:l8++(c.es.take en).flatMap zpA=zno c:=by
          rw[L8.out,L7.out,L6.out,L5.out,L4.out,L3.out,L2.out,L1.out,L0.out,List.take_of_length_le (by rw[Hle.out];exact Nat.le_refl _)];unfold zno zrF;rw[Hle.out,List.nil_append]
        have hb:(zno c).length≤1000000:=by
          rw[← hpl,q8_,List.take_of_length_le (by rw[Hle.out];exact Nat.le_refl _)];have h1:=B8.out;have h2:=zjD Hen.out;rw[Hle.out] at h2;have:=Hn9.out;omega
        have HPS:=Hps.out;rw[hpl] at HPS;have HR1:=q0_ HR0.out
        obtain⟨P,hP⟩:∃ P,P=zno c:=⟨_,rfl⟩
        rw[← hP] at hb HPS HR1;have HLn:=q0_ (zsd HPS (by omega));have HDn:=q0_ (zky HPS)
        obtain⟨pn_,hpn⟩:∃ m,m=P.length:=⟨_,rfl⟩
        rw[← hpn] at HLn HR1;clear hpl hb HPS hP hpn
        by_cases hgt:40000<pn_
        · have hgi:(40000:Int)<(pn_:Int):=by omega
          have HG2:=q0_ hgt;clear hgt;go_wp2_with fail;refine HLn.out.mono ?_;rintro r w8 ⟨rfl,rfl⟩;go_wp2
          go_ret2
          exact⟨by rw[HR1.out,if_pos HG2.out];rfl,Fw.out.below q4_⟩
        · have hgi:(pn_:Int)≤40000:=by omega
          have HG2:=q0_ hgt;clear hgt;go_wp2_with fail;refine HLn.out.mono ?_;rintro r w8 ⟨rfl,rfl⟩;go_wp2_with fail;refine HDn.out.mono ?_;rintro r w8 ⟨rfl,rfl⟩;go_wp2
          go_ret2
          exact⟨by rw[HR1.out,if_neg HG2.out];rfl,Fw.out.below q4_⟩)
end
def zjH(x:Int):Int:=if bits .and .u32 x 1=1 then bits .xor .u32 (x / 2) 3945912366 else x / 2
def zgY:Nat→Int→Int
  | 0,x=>x
  | n+1,x=>zjH (zgY n x)
def zk2(x:Int)(b:UInt8):Int:=zgY 8 (bits .xor .u32 x b.toNat)
def zqC(x:Int)(l:List UInt8):Int:=l.foldl zk2 x
def zqB(l:List UInt8):Int:=bits .xor .u32 (zqC (bits .xor .u32 0 4294967295) l) 4294967295
def zqo(x:Int):Prop:=0≤x∧x<4294967296
theorem zq5(a b:Int):zqo (bits .xor .u32 a b):=by
  unfold bits zqo;rw[IntKind.wrap_u32];omega
theorem zo1(x:Int)(l:List UInt8)(b:UInt8):zqC x (l++[b])=zk2 (zqC x l) b:=by simp[zqC]
theorem zoZ(l:List UInt8):zqo (zqB l):=zq5 _ _
def zgV(x:Int):List UInt8:=le x.toNat 4
theorem zjx(x:Int):(zgV x).length=4:=zaQ _ _
def zbZ(l:List UInt8):List UInt8:=l++zgV (zqB l)
theorem zfz(l:List UInt8):(zbZ l).length=l.length+4:=by unfold zbZ;rw[q8_,zjx]
def zbD(b:List UInt8):List UInt8×Int:=
  if b.length<4 then ([],5) else if b.drop (b.length-4)=zgV (zqB (b.take (b.length-4))) then (b.take (b.length-4),0) else ([],7)
theorem zfq(l:List UInt8):zbD (zbZ l)=(l,0):=by
  have h1:=zfz l
  have h2:(zbZ l).length-4=l.length:=by omega
  have h3:(zbZ l).take l.length=l:=List.take_left' rfl;have h4:(zbZ l).drop l.length=zgV (zqB l):=List.drop_left' rfl;unfold zbD;rw[if_neg (by omega),h2,h3,h4,if_pos rfl]
theorem zoI{x:Int}(h:zqo x):za7 4 x=true:=by unfold za7;unfold zqo at h;simp;omega
theorem zo0(x:Int){l:List UInt8}{k:Nat}{b:UInt8}(h:l[k]? =some b):zqC x (l.take (k+1))=zk2 (zqC x (l.take k)) b:=by rw[zan h,zo1]
theorem zqH(g : Nat)(x0 : Int)(s : ByteArray)(hs : s.size ≤ 1099511627776)(A : Option Addr)(c : Nat)(w : World)(hb : Blk w g 145 #[.int .u32 x0])(hr : Rd w 1 A 1 [.string s]) :
    Calls prog 93 #[.pointer (some ⟨g,0,none⟩),.slice A 1 c] w fun r w'=>r=.returned (.tuple #[])∧w'=w.setCell ⟨g,0,none⟩ (.int .u32 (bits .xor .u32 (zqC (bits .xor .u32 x0 4294967295) s.data.toList) 4294967295)):=by
  obtain⟨ad,rfl,hc⟩:=hr.2 (by omega);have c0:=hc 0 _ rfl;rw[zaZ] at c0;have b0:=hb.cell 0;have z0:=hb.frozen 0;simp only[q1_,q3_] at b0
  have hn:(s.size:Int)≤1099511627776:=by omega
  obtain⟨X,hX⟩:∃ X,bits .xor .u32 x0 4294967295=X:=⟨_,rfl⟩
  have HX:=q0_ hX
  obtain⟨Y,hY⟩:∃ Y,zqC X s.data.toList=Y:=⟨_,rfl⟩
  rw[hX,hY];have HY:=q0_ hY;clear hb hr hc hX hY hs;go_enter func93,ntmps93;go_wp2_with fail
  try rw[HX.out]
  go_loopw [4,18] (fun x i wr=>∃ (k:Nat) (v:Int),k≤1∧x=.int .u32 v∧i=.int .i64 k∧w=wr∧Hid ((k=0→v=X)∧(k=1→v=Y))) (fun _ i _=>1-(intOf i).toNat)
  case atStart=>exact⟨0,X,by omega,rfl,rfl,rfl,⟨fun _=>rfl,fun h=>by omega⟩⟩
  case round=>
    obtain⟨k,v,hk,rfl,rfl,rfl,hv⟩:=hrel
    by_cases h0:k=0
    · subst h0
      obtain rfl:=hv.out.1 rfl
      have hpos:((0:Nat):Int)<((1:Nat):Int):=by decide
      go_wp2_with fail
      go_loopw [4,24] (fun x i wr=>∃ (j:Nat) (u:Int),j≤s.size∧x=.int .u32 u∧i=.int .i64 j∧w=wr∧Hid (u=zqC v (s.data.toList.take j))) (fun _ i _=>s.size-(intOf i).toNat)
      case atStart=>exact⟨0,v,Nat.zero_le _,rfl,rfl,rfl,rfl⟩
      case round=>
        obtain⟨j,u,hj,rfl,rfl,rfl,hu⟩:=hrel
        by_cases hlj:j<s.size
        · have hb1:s[j].toNat<256:=s[j].toNat_lt
          have HB:=q0_ (zo0 v (zfC hlj));rw[← hu.out] at HB;go_wp2_with fail
          go_loopw [4,33] (fun x i wr=>∃ (m:Nat) (t:Int),m≤8∧x=.int .u32 t∧i=.int .i64 m∧w=wr∧Hid (t=zgY m (bits .xor .u32 u s[j].toNat))) (fun _ i _=>8-(intOf i).toNat)
          case atStart=>exact⟨0,_,Nat.zero_le _,rfl,rfl,rfl,rfl⟩
          case round=>
            obtain⟨m,t,hm,rfl,rfl,rfl,ht⟩:=hrel
            by_cases hlm:m<8
            · by_cases ho:bits .and .u32 t 1=1
              · go_wp2
                go_roundw
                case rel=>
                  refine⟨m+1,_,by omega,rfl,by go_num,by trivial,?_⟩
                  show _=zjH (zgY m _)
                  rw[← ht.out];unfold zjH;rw[if_pos ho]
                case measure=>simp[intOf];omega
              · go_wp2
                go_roundw
                case rel=>
                  refine⟨m+1,_,by omega,rfl,by go_num,by trivial,?_⟩
                  show _=zjH (zgY m _)
                  rw[← ht.out];unfold zjH;rw[if_neg ho]
                case measure=>simp[intOf];omega
            · obtain rfl:m=8:=by omega
              go_wp2
              go_roundw
              case rel=>
                refine⟨j+1,t,by omega,rfl,by go_num,by trivial,?_⟩
                show _=_
                rw[HB.out,ht.out]
                rfl
              case measure=>simp[intOf];omega
        · obtain rfl:j=s.size:=by omega
          go_wp2
          go_roundw
          case rel=>
            refine⟨1,u,by omega,rfl,by go_num,by trivial,⟨fun h=>by omega,fun _=>?_⟩⟩;rw[← HY.out,hu.out,za3 (by rw[zbj];exact Nat.le_refl _)]
          case measure=>simp[intOf]
    · obtain rfl:k=1:=by omega
      obtain rfl:=hv.out.2 rfl;go_wp2
      go_end0
      exact⟨rfl,rfl⟩
theorem zqz(g:Nat)(x:Int)(w:World)(h:w.cell? ⟨g,0,none⟩=some (.int .u32 x)):Calls prog 94 #[.pointer (some ⟨g,0,none⟩)] w fun r w'=>r=.returned (.int .u32 x)∧w=w':=by
  go_enter func94,ntmps94;go_wp2;go_ret;exact⟨rfl,rfl⟩
theorem zjG(s : ByteArray)(hs : s.size ≤ 1099511627776)(A : Option Addr)(c : Nat)(w : World)(hr : Rd w 1 A 1 [.string s]) :
    Calls prog 47 #[.slice A 1 c] w fun r w'=>r=.returned (.int .u32 (zqB s.data.toList))∧Below w.heap.size w w':=by
  obtain⟨W0,hW0⟩:∃ W0,W0=w.alloc (.cells #[.int .u32 0] 145):=⟨_,rfl⟩
  have B0:Blk W0 w.heap.size 145 #[.int .u32 0]:=by rw[hW0];exact Blk.new _ _ _
  have F0:Hid (Fr (fun _=>False) w W0):=by show Fr _ _ _;rw[hW0];exact Fr.none_alloc _ _
  have HA:Hid (Calls prog 93 #[.pointer (some ⟨w.heap.size,0,none⟩),.slice A 1 c] W0 fun r w'=>r=.returned (.tuple #[])∧Fr (fun _=>False) w w'∧w'.cell? ⟨w.heap.size,0,none⟩=some (.int .u32 (zqB s.data.toList))):=by
    refine (zqH w.heap.size 0 s hs A c W0 B0 (Rd.fr0 hr F0.out)).mono ?_;rintro r w' ⟨rfl,rfl⟩;exact⟨rfl,F0.out.setCell (p:=⟨w.heap.size,0,none⟩) (.inr (Nat.le_refl _)) _,(B0.set_ 0 _).cell 0⟩
  have HW:=q0_ hW0;clear hr hs B0 hW0
  obtain⟨V,hV⟩:∃ V,zqB s.data.toList=V:=⟨_,rfl⟩
  rw[hV] at HA ⊢;clear hV;go_enter func47,ntmps47
  go_upto_region 2 with fail
  rw[← HW.out];go_wp2_with fail;refine HA.out.mono ?_;rintro r w1 ⟨rfl,f1,c1⟩;have F1:=q0_ f1;have HV:=q0_ (zqz _ _ _ c1);clear f1 c1;go_wp2_with fail;refine HV.out.mono ?_;rintro r w2 ⟨rfl,rfl⟩;go_wp2;go_ret;exact⟨rfl,F1.out.below q4_⟩
theorem zlH(x : Int)(hx : zqo x)(w : World) :
    Calls prog 46 #[.int .u32 x] w fun r w'=>r=.returned (.string (zal (zgV x)))∧Below w.heap.size w w':=by
  obtain⟨g,hg⟩:∃ g,g=w.heap.size:=⟨_,rfl⟩
  obtain⟨W0,hW0⟩:∃ W0,W0=w.alloc (.cells #[.int .i64 0,.slice none 0 0] 63):=⟨_,rfl⟩
  have H0:Hid (PS w W0 g (fun k=>k<w.heap.size) []):=by show PS _ _ _ _ _;rw[hW0,hg];exact PS.new (Fr.refl _ _) (fun k hk=>hk)
  have hw:=zd4 H0.out 4 [x] 1 rfl rfl (fun v hv=>by rw[List.mem_singleton] at hv;rw[hv];exact zoI hx) (by decide);simp only[List.map_cons,List.map_nil] at hw;have HS:=q0_ hw;have HW:=q0_ hW0;have HG:=q0_ hg
  have HL:Hid (zgV x=[]++smB (Int.toNat 4) [x]):=by show _=_;unfold zgV smB;simp
  obtain⟨x0,x1⟩:=hx;clear hw hW0 hg;go_enter func46,ntmps46
  go_upto_region 2 with fail
  rw[← HW.out, ← HG.out];go_wp2_with fail;refine (show Calls _ _ _ _ _ from HS.out).mono ?_;rintro r w1 ⟨rfl,hp⟩;rw[← HL.out] at hp;have F1:=q0_ hp.none;have HD:=q0_ (zky hp)
  obtain⟨Z,hZ⟩:∃ Z,zal (zgV x)=Z:=⟨_,rfl⟩
  rw[hZ] at HD;have HZ:=q0_ hZ;clear hp hZ;go_wp2_with fail;refine HD.out.mono ?_;rintro r w2 ⟨rfl,rfl⟩;go_wp2;go_ret;exact⟨by rw[HZ.out];rfl,F1.out.below q4_⟩
theorem zn_(l : List UInt8)(hl : l.length ≤ 1099511627776)(w : World) :
    Calls prog 32 #[.string (zal l)] w fun r w'=>r=.returned (.string (zal (zbZ l)))∧Below w.heap.size w w':=by
  obtain⟨s,hs⟩:∃ s,zal l=s:=⟨_,rfl⟩
  obtain⟨V,hV⟩:∃ V,zqB l=V:=⟨_,rfl⟩
  obtain⟨T,hT⟩:∃ T,zal (zgV V)=T:=⟨_,rfl⟩
  have hsz:s.size≤1099511627776:=by rw[← hs,zam];exact hl
  have htz:T.size≤4:=by rw[← hT,zam,zjx];exact Nat.le_refl _
  have HR:Hid (s++T=zal (zbZ l)):=by show _=_;unfold zbZ;rw[← hs, ← hT, ← hV,zdu]
  have HO:Hid (Calls prog 47 #[.slice (some ⟨w.heap.size,0,none⟩) 1 1] (w.alloc (.cells #[.string s] 9)) fun r w'=>r=.returned (.int .u32 V)∧Below (w.alloc (.cells #[.string s] 9)).heap.size (w.alloc (.cells #[.string s] 9)) w'):=by
    have:=zjG s hsz (some ⟨w.heap.size,0,none⟩) 1 (w.alloc (.cells #[.string s] 9)) (Rd.new _ _ _ _ rfl);rw[← hs,za8,hV,hs] at this;exact this
  have HF:Hid (∀ W,Calls prog 46 #[.int .u32 V] W fun r w'=>r=.returned (.string T)∧Below W.heap.size W w'):=fun W=>by
    rw[← hT];exact zlH V (by rw[← hV];exact zoZ l) W
  have F0:Hid (Fr (fun _=>False) w (w.alloc (.cells #[.string s] 9))):=Fr.none_alloc _ _;rw[hs];clear hs hV hT hl;go_enter func32,ntmps32;go_wp2_with fail;refine (show Calls _ _ _ _ _ from HO.out).mono ?_;rintro r w1 ⟨rfl,b1⟩;have F1:Hid (Fr (fun _=>False) w w1):=F0.out.trans (Fr.b0 b1) q4_;clear b1;go_wp2_with fail;refine (HF.out _).mono ?_;rintro r w2 ⟨rfl,b2⟩;have F2:Hid (Fr (fun _=>False) w w2):=F1.out.trans (Fr.b0 b2) q4_;clear b2;go_wp2;go_ret;exact⟨by rw[← HR.out];rfl,F2.out.below q4_⟩
theorem zo2(b : List UInt8)(hb : b.length ≤ 1099511627776)(w : World) :
    Calls prog 19 #[.string (zal b)] w fun r w'=>r=.returned (.tuple #[.string (zal (zbD b).1),.int .i64 (zbD b).2])∧Below w.heap.size w w':=by
  obtain⟨s,hs⟩:∃ s,zal b=s:=⟨_,rfl⟩
  have hsz:s.size=b.length:=by rw[← hs,zam]
  rw[hs]
  by_cases h4:b.length<4
  · have hi:(s.size:Int)-4<0:=by omega
    have hs0:(s.size:Int)≤4:=by omega
    have HR:Hid (zbD b=([],5)):=by show _=_;unfold zbD;rw[if_pos h4]
    clear hsz hs h4 hb;go_enter func19,ntmps19;go_wp2
    go_ret2
    exact⟨by rw[HR.out];rfl,Below.refl _ _⟩
  obtain⟨m,hm⟩:∃ m,s.size=m+4:=⟨b.length-4,by omega⟩
  have hi:0≤(s.size:Int)-4:=by omega
  have hi2:(s.size:Int)-4=(m:Int):=by omega
  have hs1:(s.size:Int)≤1099511627776:=by omega
  have hm1:m≤s.size:=by omega
  have hm2:(m:Int)≤(s.size:Int):=by omega
  have hbm:b.length-4=m:=by omega
  obtain⟨u,hu⟩:∃ u,zal (b.take m)=u:=⟨_,rfl⟩
  obtain⟨v,hv⟩:∃ v,zal (b.drop m)=v:=⟨_,rfl⟩
  have e1:s.extract 0 m=u:=by rw[← hs,zaP, ← hu];simp
  have e2:s.extract m s.size=v:=by rw[hsz, ← hs,zaP,List.take_length,hv]
  have huz:u.size≤1099511627776:=by rw[← hu,zam,List.length_take];omega
  have ht:(b.take m).length≤1099511627776:=by rw[List.length_take];omega
  obtain⟨V,hV⟩:∃ V,zqB (b.take m)=V:=⟨_,rfl⟩
  obtain⟨T,hT⟩:∃ T,zal (zgV V)=T:=⟨_,rfl⟩
  have HO:Hid (∀ W W':World,Fr (fun _=>False) (W.alloc (.cells #[.string u] 9)) W'→Calls prog 47 #[.slice (some ⟨W.heap.size,0,none⟩) 1 1] W' fun r w'=>r=.returned (.int .u32 V)∧Below W'.heap.size W' w'):=fun W W' f=>by
    have:=zjG u huz (some ⟨W.heap.size,0,none⟩) 1 W' (Rd.fr0 (Rd.new _ _ _ _ rfl) f);rw[← hu,za8,hV] at this;exact this
  have HF:Hid (∀ W,Calls prog 46 #[.int .u32 V] W fun r w'=>r=.returned (.string T)∧Below W.heap.size W w'):=fun W=>by
    rw[← hT];exact zlH V (by rw[← hV];exact zoZ _) W
  have HC:Hid (∀ W,Calls prog 48 #[.string u] W fun r w'=>r=.returned (.string u)∧Below W.heap.size W w'):=fun W=>by
    rw[← hu];exact zjL (b.take m) W ht
  have HE1:=q0_ e1;have HE2:=q0_ e2
  have HR:Hid (zbD b=if v=T then (b.take m,0) else ([],7)):=by
    show _=_
    unfold zbD;rw[if_neg h4,hbm,hV, ← hv, ← hT]
    by_cases h:b.drop m=zgV V
    · rw[if_pos h,if_pos (by rw[h])]
    · rw[if_neg h,if_neg (fun e=>h (by have:=congrArg (fun s:ByteArray=>s.data.toList) e;simpa[za8] using this))]
  have Hu:=q0_ hu;clear hsz hs h4 hb huz ht hV hT e1 e2 hu hv hbm hm
  by_cases he:v=T
  · have c1:(v.toList==T.toList)=true:=by rw[he];exact beq_self_eq_true _
    have c2:(v.toList != T.toList)=false:=by simpa using c1
    have c3:v.toList=T.toList:=by rw[he]
    have HR1:Hid (zbD b=(b.take m,0)):=by show _=_;rw[HR.out,if_pos he]
    clear he HR;go_enter func19,ntmps19
    go_upto_region 4 with fail
    try simp only[hi2]
    refine wp_region_held_drew (S:=fun W'=>Fr (fun _=>False) w W') (by kernel_rfl) ((Fr.refl _ w).drew) (fun hY_=>?_);refine tl 0 ?v1 rfl ?q1 ?r1
    case q1=>intro W hSw;(try skip);go_simp;(try simp only[HE1.out,HE2.out]);try rfl
    refine tl 1 ?v2 rfl ?q2 ?r2
    case q2=>intro W hSw;(try skip);go_simp;(try simp only[HE1.out,HE2.out]);try rfl
    refine tl 2 ?v3 rfl ?q3 ?r3
    case q3=>intro W hSw;(try skip);go_simp;(try simp only[HE1.out,HE2.out]);try rfl
    refine tl 3 ?v4 rfl ?q4 ?r4
    case q4=>intro W hSw;(try skip);go_simp;(try simp only[HE1.out,HE2.out]);try rfl
    refine tl 4 ?v5 rfl ?q5 ?r5
    case q5=>intro W hSw;(try skip);go_simp;(try simp only[HE1.out,HE2.out]);try rfl
    refine tl 5 ?v6 rfl ?q6 ?r6
    case q6=>intro W hSw;(try skip);go_simp;(try simp only[HE1.out,HE2.out]);try rfl
    try simp only[Act.put,sA,sB,sC]
    refine rl 6 rfl (fun K hK=>?_);go_simp;refine hK.out _ _ (hY_.trans (Fr.none_alloc _ _) q4_) (fun hY_=>?_);clear hK K
    try simp only[Act.put,sA,sB,sC]
    refine rl 7 rfl (fun K hK=>?_);go_simp
    go_wp2_with (go_at_call 47;refine (HO.out w _ ((Fr.refl _ _).drew)).mono ?_;rintro r wa ⟨rfl,ba⟩)
    refine hK.out _ _ (hY_.trans (Fr.b0 ba) q4_) (fun hY_=>?_);clear hK K
    try simp only[Act.put,sA,sB,sC]
    refine rl 8 rfl (fun K hK=>?_);go_simp
    go_wp2_with (go_at_call 46;refine (HF.out _).mono ?_;rintro r wb ⟨rfl,bb⟩)
    refine hK.out _ _ (hY_.trans (Fr.b0 bb) q4_) (fun hY_=>?_);clear hK K;refine tl 9 ?v7 rfl ?q7 ?r7
    case q7=>intro W hSw;(try skip);go_simp;(try simp only[HE1.out,HE2.out]);try rfl
    refine tl 10 ?v8 rfl ?q8 ?r8
    case q8=>intro W hSw;(try skip);go_simp;(try simp only[HE1.out,HE2.out]);try rfl
    try simp only[Act.put,sA,sB,sC]
    refine wpAnyH_done (by kernel_rfl) ?_ _;have F4:=q0_ hY_;clear hY_;go_wp2_with fail
    try simp only[HE1.out]
    refine (HC.out _).mono ?_;rintro r w5 ⟨rfl,b5⟩;have F5:Hid (Fr (fun _=>False) w w5):=F4.out.trans (Fr.b0 b5) q4_;clear b5;go_wp2
    go_ret2
    exact⟨by rw[HR1.out, ← Hu.out];rfl,F5.out.below q4_⟩
  · have c1:(v.toList==T.toList)=false:=beq_eq_false_iff_ne.2 (fun h=>he (toList_inj h))
    have c2:(v.toList != T.toList)=true:=by simpa using c1
    have c3:¬ v.toList=T.toList:=fun h=>he (toList_inj h)
    have HR1:Hid (zbD b=([],7)):=by show _=_;rw[HR.out,if_neg he]
    clear he HR;go_enter func19,ntmps19
    go_upto_region 4 with fail
    try simp only[hi2]
    refine wp_region_held_drew (S:=fun W'=>Fr (fun _=>False) w W') (by kernel_rfl) ((Fr.refl _ w).drew) (fun hY_=>?_);refine tl 0 ?v9 rfl ?q9 ?r9
    case q9=>intro W hSw;(try skip);go_simp;(try simp only[HE1.out,HE2.out]);try rfl
    refine tl 1 ?v10 rfl ?q10 ?r10
    case q10=>intro W hSw;(try skip);go_simp;(try simp only[HE1.out,HE2.out]);try rfl
    refine tl 2 ?v11 rfl ?q11 ?r11
    case q11=>intro W hSw;(try skip);go_simp;(try simp only[HE1.out,HE2.out]);try rfl
    refine tl 3 ?v12 rfl ?q12 ?r12
    case q12=>intro W hSw;(try skip);go_simp;(try simp only[HE1.out,HE2.out]);try rfl
    refine tl 4 ?v13 rfl ?q13 ?r13
    case q13=>intro W hSw;(try skip);go_simp;(try simp only[HE1.out,HE2.out]);try rfl
    refine tl 5 ?v14 rfl ?q14 ?r14
    case q14=>intro W hSw;(try skip);go_simp;(try simp only[HE1.out,HE2.out]);try rfl
    try simp only[Act.put,sA,sB,sC]
    refine rl 6 rfl (fun K hK=>?_);go_simp;refine hK.out _ _ (hY_.trans (Fr.none_alloc _ _) q4_) (fun hY_=>?_);clear hK K
    try simp only[Act.put,sA,sB,sC]
    refine rl 7 rfl (fun K hK=>?_);go_simp
    go_wp2_with (go_at_call 47;refine (HO.out w _ ((Fr.refl _ _).drew)).mono ?_;rintro r wa ⟨rfl,ba⟩)
    refine hK.out _ _ (hY_.trans (Fr.b0 ba) q4_) (fun hY_=>?_);clear hK K
    try simp only[Act.put,sA,sB,sC]
    refine rl 8 rfl (fun K hK=>?_);go_simp
    go_wp2_with (go_at_call 46;refine (HF.out _).mono ?_;rintro r wb ⟨rfl,bb⟩)
    refine hK.out _ _ (hY_.trans (Fr.b0 bb) q4_) (fun hY_=>?_);clear hK K;refine tl 9 ?v15 rfl ?q15 ?r15
    case q15=>intro W hSw;(try skip);go_simp;(try simp only[HE1.out,HE2.out]);try rfl
    refine tl 10 ?v16 rfl ?q16 ?r16
    case q16=>intro W hSw;(try skip);go_simp;(try simp only[HE1.out,HE2.out]);try rfl
    try simp only[Act.put,sA,sB,sC]
    refine wpAnyH_done (by kernel_rfl) ?_ _;have F4:=q0_ hY_;clear hY_;go_wp2
    go_ret2
    exact⟨by rw[HR1.out];rfl,F4.out.below q4_⟩
structure zqU where
  id:Int
  tier:Int
  shard:Int
  place:Int
  of_:Int
  bl:List Int
def zdg.p(x:zdg):zqU:=⟨x.id,x.tier,x.shard,x.place,x.of_,x.bl⟩
structure zj8 where
  gen:Int
  id:Int
  now:Int
  nm:ByteArray
  pl:List za_
  fl:List Int
  nm2:ByteArray
  pl2:List za_
  src:List Int
  bound:Int
  done:Int
  es:List zqU
def zfH.p(c:zfH):zj8:=⟨c.gen,c.id,c.now,c.nm,c.pl,c.fl,c.nm2,c.pl2,c.src,c.bound,c.done,c.es.map zdg.p⟩
def zoi:RS→RS×zqU:=zb8 zcJ fun id=>zb8 (zai 1) fun tier=>zb8 (zai 1) fun shard=>zb8 (zai 2) fun n=>zb8 (zbb (zai 2) n.toNat) fun bl=>zpW ⟨id,tier,shard,0,n,bl⟩
def zom(e:Int)(t:ByteArray):Int×ByteArray×List za_:=if t.size=0 then (e,ByteArray.empty,[]) else zaY t
def zcI:RS→RS×(Int×Int×zj8):=
  zb8 zcJ fun gen=>zb8 zcJ fun id=>zb8 ze4 fun now=>zb8 zco fun t1=>zb8 (zbX ze4 (zaY t1).2.2.length) fun fl=>zb8 zco fun t2=>
  zb8 (zbX (zai 1) (zom (zaY t1).1 t2).2.2.length) fun src=>zb8 ze4 fun bound=>zb8 ze4 fun done=>zb8 (zai 2) fun n=>zb8 (zbb zoi n.toNat) fun es=>
  zpW ((zaY t1).1,(zom (zaY t1).1 t2).1,⟨gen,id,now,(zaY t1).2.1,(zaY t1).2.2,fl,(zom (zaY t1).1 t2).2.1,(zom (zaY t1).1 t2).2.2,src,bound,done,es⟩)
theorem zkW:za7 1 0=true:=rfl
theorem zkV:za7 2 0=true:=rfl
theorem zbK.ent:zbK zoi:=
  zbK.bind zbK.word fun _=>zbK.bind (zbK.small zkW) fun _=>zbK.bind (zbK.small zkW) fun _=>zbK.bind (zbK.small zkV) fun _=>zbK.bind (zbK.while_ (zbK.small zkV) _) fun _=>zbK.ret _
def zsl(cid:Int)(x:zqU):Bool:=
  x.bl.all (fun b=>inB b 4095)&&((inB x.tier 9&&(inB x.shard 7&&(decide (1≤x.id)&&decide (x.id≤cid))))&&(decide (x.place=0)&&(decide (x.of_=x.bl.length)&&(decide (1≤x.of_)&&decide (x.of_≤4096)))))
def zp7(c:zj8):Bool:= !decide (c.nm2.size=0)||decide (0<c.pl2.length)
def zo6(c:zj8):Bool:=
  ((!decide (c.gen=0)&&(inB c.now 1099511627776&&(zak c.nm c.pl&&decide (c.fl.length=c.pl.length))))&&c.fl.all (fun f=>inB f 4611686018427387904))&&
  ((if zp7 c=true then c.src.all (fun s=>inB s ((c.pl.length:Int)-1))&&(zak c.nm2 c.pl2&&(decide (c.src.length=c.pl2.length)&&(inB c.bound 4096&&inB c.done 100)))
    else decide (c.bound=0)&&(decide (c.done=0)&&decide (c.src.length=0)))&&
  (decide (c.es.length≤90)&&(c.es.all (zsl c.id)&&(decide (c.es.map fun x=>(x.tier,x.shard)).Nodup&&decide (c.es.flatMap zqU.bl).Nodup))))
def zsH(x:zqU):List UInt8:=smB 8 [x.id]++(smB 1 [x.tier,x.shard]++(smB 2 [(x.bl.length:Int)]++smB 2 x.bl))
def zha(c:zj8):List UInt8:=smB 8 [c.gen,c.id]++le8 [c.now]++zb6 (zcB c.nm c.pl)++le8 c.fl++zb6 (if zp7 c=true then zcB c.nm2 c.pl2 else ByteArray.empty)++smB 1 c.src++le8 [c.bound,c.done]++smB 2 [(c.es.length:Int)]++c.es.flatMap zsH
theorem zlQ(c:zfH):zg7 c=zo6 c.p:=by
  unfold zg7 zo6 zcn za9 zbB zaI zfH.p zp7 zfn;simp only[List.length_map,List.all_map,List.map_map,List.flatMap_map]
  rfl
theorem zlq(c:zfH):zno c=zha c.p:=by
  unfold zno zha zrF zc0 zfH.p zp7 zfn;simp only[List.length_map,List.flatMap_map]
  rfl
def zlF(b:List UInt8)(q:zj8):Prop:=(zcI ⟨0,b⟩).1.e=0∧(zcI ⟨0,b⟩).2=(0,0,q)∧zo6 q=true∧(zha q).length≤40000∧zha q=b
def UQ(W:World)(g:Nat)(s:RS):Prop:=Up W g s.e s.b∧s.b.length≤1099511627776
section
variable {W W':World} {g:Nat} {s:RS} {F:Nat→Prop}
theorem UQ.fr(h:UQ W g s)(f:Fr F W W')(hn:¬ F g):UQ W' g s:=⟨Blk.fr h.1 f hn,h.2⟩
theorem UQ.fr0(h:UQ W g s)(f:Fr (fun _=>False) W W'):UQ W' g s:=h.fr f (fun h=>h)
theorem zge(k e:Int)(b:List UInt8):(zb2 k e b).2.1.length≤b.length:=by
  unfold zb2
  split
  · split
    · exact zcZ 0 b _
    · exact Nat.le_refl _
  · exact Nat.le_refl _
theorem zhk(e:Int)(b:List UInt8):(zeg e b).2.1.length≤b.length:=by
  unfold zeg
  split
  · split
    · exact Nat.le_refl _
    · split
      · exact Nat.le_refl _
      · rw[List.length_drop];omega
  · exact Nat.le_refl _
theorem zl4(e:Int)(b:List UInt8):(zeg e b).2.2.length≤65535:=by
  unfold zeg
  split
  · split
    · simp
    · split
      · simp
      · have h1:=zdN (b.take 2)
        rw[List.length_take,Nat.min_eq_left (by omega)] at h1
        have:(256:Nat) ^ 2=65536:=by decide
        rw[List.length_take];omega
  · simp
theorem zfj(k:Int)(s:RS)(K:Nat)(hk:(256:Nat) ^ k.toNat=K):0≤(zai k s).2∧(zai k s).2<K:=by
  subst hk;unfold zai;dsimp only;have hp:0<(256:Nat) ^ k.toNat:=Nat.pow_pos (by decide)
  have:(zb2 k s.e s.b).2.2<256 ^ k.toNat:=by
    unfold zb2
    split
    · split
      · have h1:=zdN (zay 0 s.b k.toNat).2.2
        have h2:=Nat.pow_le_pow_right (show 256>0 by decide) (zcc 0 s.b k.toNat);dsimp only;omega
      · exact hp
    · exact hp
  exact⟨by omega,by omega⟩
theorem zdm(s:RS):0≤(zai 1 s).2∧(zai 1 s).2<256:=zfj 1 s 256 (by decide)
theorem zek(s:RS):0≤(zai 2 s).2∧(zai 2 s).2<65536:=zfj 2 s 65536 (by decide)
theorem zhA(e:Int)(b:List UInt8):zbE (zay e b 8).2.2<18446744073709551616:=by
  have h1:=zdN (zay e b 8).2.2;have h2:=Nat.pow_le_pow_right (show 256>0 by decide) (zcc e b 8);rw[zsE] at h2;omega
theorem zgt(s:RS):0≤(zcJ s).2∧(zcJ s).2<18446744073709551616:=by
  have h:=zhA s.e s.b;have e:(zcJ s).2=((zbE (zay s.e s.b 8).2.2:Nat):Int):=rfl;rw[e];exact⟨by omega,by omega⟩
theorem zfX(s:RS):zbh (ze4 s).2:=by
  have h:=zhA s.e s.b;have e:(ze4 s).2=sgn (zbE (zay s.e s.b 8).2.2):=rfl;rw[e];unfold sgn zbh
  split<;>exact⟨by omega,by omega⟩
theorem zfi(s:RS):(zco s).2.size≤65535:=by
  show (zal _).size≤_
  rw[zam];exact zl4 s.e s.b
theorem zq7(h:UQ W g s):Calls prog 98 #[.pointer (some ⟨g,0,none⟩)] W fun r w'=>r=.returned (.int .u64 (zcJ s).2)∧UQ w' g (zcJ s).1∧Fr (fun k=>k=g) W w':=by
  refine (zh3 g s.e s.b W h.1 h.2).mono ?_;rintro r w' ⟨rfl,hu,hf⟩;exact⟨rfl,⟨hu,Nat.le_trans (zcZ s.e s.b 8) h.2⟩,hf⟩
theorem zr6(h:UQ W g s):Calls prog 99 #[.pointer (some ⟨g,0,none⟩)] W fun r w'=>r=.returned (.int .i64 (ze4 s).2)∧UQ w' g (ze4 s).1∧Fr (fun k=>k=g) W w':=by
  refine (zkR g s.e s.b W h.1 h.2).mono ?_;rintro r w' ⟨rfl,hu,hf⟩;exact⟨rfl,⟨hu,Nat.le_trans (zcZ s.e s.b 8) h.2⟩,hf⟩
theorem zh4(k:Int)(h:UQ W g s):Calls prog 50 #[.pointer (some ⟨g,0,none⟩),.int .i64 k] W fun r w'=>r=.returned (.int .i64 (zai k s).2)∧UQ w' g (zai k s).1∧Fr (fun k=>k=g) W w':=by
  refine (zhi g s.e k s.b W h.1 h.2).mono ?_;rintro r w' ⟨rfl,hu,hf⟩;exact⟨rfl,⟨hu,Nat.le_trans (zge k s.e s.b) h.2⟩,hf⟩
theorem znv(h:UQ W g s):Calls prog 52 #[.pointer (some ⟨g,0,none⟩)] W fun r w'=>r=.returned (.string (zco s).2)∧UQ w' g (zco s).1∧Fr (fun k=>k=g) W w':=by
  refine (znt g s.e s.b W h.1 h.2).mono ?_;rintro r w' ⟨rfl,hu,hf⟩;exact⟨rfl,⟨hu,Nat.le_trans (zhk s.e s.b) h.2⟩,hf⟩
theorem zfI(h:UQ W g s):Calls prog 100 #[.pointer (some ⟨g,0,none⟩)] W fun r w'=>r=.returned (.int .i64 s.e)∧W=w':=zrV g s.e s.b W h.1
end
def WAt{α:Type}(R:RS→RS×α)(o:RS×List α)(m:Nat)(s:RS)(L:List α):Prop:=o=((zbb R m s).1,L++(zbb R m s).2)
def MAt{α:Type}(R:RS→RS×α)(o:RS×List α)(m:Nat)(s:RS)(L:List α):Prop:=o=((zbX R m s).1,L++(zbX R m s).2)
section
variable {α:Type} {R:RS→RS×α} {o:RS×List α} {m:Nat} {s:RS} {L:List α}
theorem WAt.start:WAt R (zbb R m s) m s []:=rfl
theorem MAt.start:MAt R (zbX R m s) m s []:=rfl
theorem WAt.step(h:WAt R o (m+1) s L)(he:s.e=0):WAt R o m (R s).1 (L++[(R s).2]):=by
  unfold WAt at h ⊢
  have e:zbb R (m+1) s=((zbb R m (R s).1).1,(R s).2::(zbb R m (R s).1).2):=by
    show (if s.e=0 then _ else _)=_
    rw[if_pos he]
    rfl
  rw[h,e,List.append_assoc]
  rfl
theorem MAt.step(h:MAt R o (m+1) s L):MAt R o m (R s).1 (L++[(R s).2]):=by
  unfold MAt at h ⊢;have e:zbX R (m+1) s=((zbX R m (R s).1).1,(R s).2::(zbX R m (R s).1).2):=rfl;rw[h,e,List.append_assoc]
  rfl
theorem WAt.stop(h:WAt R o m s L)(he:¬ s.e=0):o=(s,L):=by
  unfold WAt at h
  cases m with
  | zero=>rw[h];unfold zbb;rw[List.append_nil]
  | succ m=>
    have e:zbb R (m+1) s=(s,[]):=by
      show (if s.e=0 then _ else _)=_
      rw[if_neg he]
    rw[h,e,List.append_nil]
theorem WAt.end_(h:WAt R o 0 s L):o=(s,L):=by
  unfold WAt zbb at h;rw[h,List.append_nil]
theorem MAt.end_(h:MAt R o 0 s L):o=(s,L):=by
  unfold MAt zbX zpW at h;rw[h,List.append_nil]
end
def zfk:RS→RS×List zqU:=zb8 (zai 2) fun n=>zbb zoi n.toNat
def zdg.row(x:zdg):Value:=.slice x.ba x.bn x.bc
structure zba(w:World)(lo:Nat)(es:List zdg)(A:Option Addr)(n c:Nat):Prop where
  row:w.ownsRow lo 117 6 (.slice A n c) n (zfx es)
  ok:∀ x∈es,x.ok w
  own:∀ x∈es,w.ownsRow lo 3 1 x.row x.bn (zbg x.bl)
  apart:es.Pairwise fun a b=>∀ k,zaE a.row k→¬ zaE b.row k
theorem zba.nil(w:World)(lo:Nat):zba w lo [] none 0 0:=⟨World.ownsRow_nil _ _ _ _,fun x hx=>(by cases hx),fun x hx=>(by cases hx),List.Pairwise.nil⟩
theorem zba.fr{w w':World}{lo:Nat}{es:List zdg}{A:Option Addr}{n c:Nat}{F:Nat→Prop}(h:zba w lo es A n c)(f:Fr F w w')(hr:∀ k,zaE (.slice A n c) k→¬ F k)(hx:∀ x∈es,∀ k,zaE x.row k→¬ F k):zba w' lo es A n c:=
  ⟨zaf h.row f hr,fun x hm=>by
    have k:=h.ok x hm
    exact⟨k.id,k.tier,k.shard,k.place,k.of_,Rd.of_own (zaf (h.own x hm) f (hx x hm)),k.blen,k.ble,k.bmax,k.bwf⟩,fun x hm=>zaf (h.own x hm) f (hx x hm),h.apart⟩
theorem zba.fr0{w w':World}{lo:Nat}{es:List zdg}{A:Option Addr}{n c:Nat}(h:zba w lo es A n c)(f:Fr (fun _=>False) w w'):zba w' lo es A n c:=h.fr f (fun _ _ h=>h) (fun _ _ _ _ h=>h)
theorem zba.snoc{w w' : World}{lo m : Nat}{es : List zdg}{A A' : Option Addr}{n c c' : Nat}{x : zdg}(h : zba w lo es A n c)(hlo : lo ≤ m)
    (hb:∀ y∈es,∀ k,zaE y.row k→k<m) (hx:w.ownsRow m 3 1 x.row x.bn (zbg x.bl)) (ho:x.ok w)
    (hr:w'.ownsRow lo 117 6 (.slice A' (n+1) c') (n+1) (zfx es++x.cells)) (mv:Mv (zaE (.slice A n c)) (zaE (.slice A' (n+1) c')) w w'):zba w' lo (es++[x]) A' (n+1) c':=by
  have hk:∀ y∈es++[x],w.ownsRow lo 3 1 y.row y.bn (zbg y.bl):=fun y hy=>by
    rcases List.mem_append.1 hy with hy | hy
    · exact h.own y hy
    · rw[List.mem_singleton] at hy;rw[hy];exact zaT hx hlo
  have hk2:∀ y∈es++[x],w'.ownsRow lo 3 1 y.row y.bn (zbg y.bl):=fun y hy=>zaf (hk y hy) mv.fr (fun k a b=>zc6 (hk y hy) h.row (by decide) k a b)
  have ho2:∀ y∈es++[x],y.ok w:=fun y hy=>by
    rcases List.mem_append.1 hy with hy | hy
    · exact h.ok y hy
    · rw[List.mem_singleton] at hy;rw[hy];exact ho
  refine⟨?_,fun y hy=>?_,hk2,?_⟩
  · unfold zfx at hr ⊢
    rw[List.flatMap_append,List.flatMap_singleton];exact hr
  · have k:=ho2 y hy
    exact⟨k.id,k.tier,k.shard,k.place,k.of_,Rd.of_own (hk2 y hy),k.blen,k.ble,k.bmax,k.bwf⟩
  · rw[List.pairwise_append]
    refine⟨h.apart,List.pairwise_singleton _ _,fun a ha b hb' k h1 h2=>?_⟩;rw[List.mem_singleton] at hb';subst hb';have:=hb a ha k h1;have:=(hx.lt k h2).1;omega
theorem zaS{α β:Type}{R:RS→RS×α}{f:α→RS→RS×β}{s s':RS}{a:α}(h:R s=(s',a)):zb8 R f s=f a s':=by
  show f (R s).2 (R s).1=_
  rw[h]
theorem zbK.e{α:Type}{R:RS→RS×α}{s s':RS}{a:α}(h:zbK R)(q:R s=(s',a))(hz:s'.e=0):s.e=0:=(h s (by rw[q];exact hz)).1
theorem zbK.ents:zbK zfk:=zbK.bind (zbK.small zkV) fun _=>zbK.while_ zbK.ent _
section
variable {s0 s1 s2 s3 s4 s5 s6 s7 s8 s9 s10:RS} {gen id now bound done e1 e2:Int} {t1 t2 nm nm2:ByteArray} {pl pl2:List za_} {fl src:List Int} {es:List zqU}
theorem zp2(h1:zcJ s0=(s1,gen))(h2:zcJ s1=(s2,id))(h3:ze4 s2=(s3,now))(h4:zco s3=(s4,t1))(hV:zaY t1=(e1,nm,pl)):(zcI s0).2.1=e1:=by
  have h:(zcI s0).2.1=(zaY (zco (ze4 (zcJ (zcJ s0).1).1).1).2).1:=rfl;rw[h];simp only[h1,h2,h3,h4,hV]
theorem zp1(h1:zcJ s0=(s1,gen))(h2:zcJ s1=(s2,id))(h3:ze4 s2=(s3,now))(h4:zco s3=(s4,t1))(hV:zaY t1=(e1,nm,pl))(h5:zbX ze4 pl.length s4=(s5,fl))(h6:zco s5=(s6,t2))(hp:zom e1 t2=(e2,nm2,pl2)):(zcI s0).2.2.1=e2:=by
  unfold zcI;rw[zaS h1,zaS h2,zaS h3,zaS h4];simp only[hV];rw[zaS h5,zaS h6];simp only[hp]
  rfl
theorem zp0(h1 : zcJ s0 = (s1, gen))(h2 : zcJ s1 = (s2, id))(h3 : ze4 s2 = (s3, now))(h4 : zco s3 = (s4, t1))(hV : zaY t1 = (e1, nm, pl))(h5 : zbX ze4 pl.length s4 = (s5, fl))(h6 : zco s5 = (s6, t2))(hp : zom e1 t2 = (e2, nm2, pl2))
    (h7:zbX (zai 1) pl2.length s6=(s7,src)) (h8:ze4 s7=(s8,bound)) (h9:ze4 s8=(s9,done)) (h10:zfk s9=(s10,es)):zcI s0=(s10,(e1,e2,⟨gen,id,now,nm,pl,fl,nm2,pl2,src,bound,done,es⟩)):=by
  unfold zcI;rw[zaS h1,zaS h2,zaS h3,zaS h4];simp only[hV];rw[zaS h5,zaS h6];simp only[hp];rw[zaS h7,zaS h8,zaS h9];have h:∀ (K:List zqU→RS→RS×(Int×Int×zj8)),zb8 (zai 2) (fun n=>zb8 (zbb zoi n.toNat) K) s9=K (zfk s9).2 (zfk s9).1:=fun _=>rfl;rw[h,h10]
  rfl
end
theorem zsk{b:List UInt8}{q:zj8}(h:zlF b q):(zcI ⟨0,b⟩).2.1=0:=by rw[h.2.1]
theorem zsj{b:List UInt8}{q:zj8}(h:zlF b q):(zcI ⟨0,b⟩).2.2.1=0:=by rw[h.2.1]
def zj9:Value:=.agg #[.int .u64 0,.int .u64 0,.int .i64 0,.string ByteArray.empty,.slice none 0 0,.slice none 0 0,.string ByteArray.empty,.slice none 0 0,.slice none 0 0,.int .i64 0,.int .i64 0,.slice none 0 0]
structure zl_(w:World)(lo:Nat)(c:zfH)(a:zqV):Prop where
  gen:0≤c.gen∧c.gen<18446744073709551616
  id:0≤c.id∧c.id<18446744073709551616
  now:zbh c.now
  bound:zbh c.bound
  done:zbh c.done
  nm:c.nm.size≤maxLen
  nm2:c.nm2.size≤maxLen
  op:w.ownsRow lo 130 4 (.slice a.pA a.pn a.pc) a.pn (zah c.pl)
  ot:w.ownsRow lo 130 4 (.slice a.tA a.tn a.tc) a.tn (zah c.pl2)
  of_:w.ownsRow lo 3 1 (.slice a.fA a.fn a.fc) a.fn (zbg c.fl)
  os:w.ownsRow lo 3 1 (.slice a.sA a.sn a.sc) a.sn (zbg c.src)
  ents:zba w lo c.es a.eA a.en a.ec
  lp:c.pl.length=a.pn
  lf:c.fl.length=a.fn
  lt:c.pl2.length=a.tn
  ls:c.src.length=a.sn
  le:c.es.length=a.en
  wp:∀ t∈c.pl,t.wf
  wt:∀ t∈c.pl2,t.wf
  wf:∀ x∈c.fl,zbh x
  ws:∀ x∈c.src,zbh x
  fs:∀ k,zaE (.slice a.fA a.fn a.fc) k→¬ zaE (.slice a.sA a.sn a.sc) k
  fe:∀ x∈c.es,∀ k,zaE (.slice a.fA a.fn a.fc) k→¬ zaE x.row k
  se:∀ x∈c.es,∀ k,zaE (.slice a.sA a.sn a.sc) k→¬ zaE x.row k
  pt:∀ k,zaE (.slice a.pA a.pn a.pc) k→¬ zaE (.slice a.tA a.tn a.tc) k
theorem zcs{w:World}{lo n c size:Nat}{e:TypeId}{A:Option Addr}{xs:List Value}(h:w.ownsRow lo e size (.slice A n c) n xs):n≤c∧c≤maxLen:=by
  obtain⟨_,_,e,h1,h2,_⟩:=za5 h
  injection e with e1 e2 e3
  subst e3;exact⟨h1,h2⟩
theorem zl_.cin{w:World}{lo:Nat}{c:zfH}{a:zqV}(h:zl_ w lo c a):zex w c a:=
  ⟨h.gen,h.id,h.now,h.bound,h.done,h.nm,h.nm2,Rd.of_own h.op,Rd.of_own h.of_,Rd.of_own h.ot,Rd.of_own h.os,Rd.of_own h.ents.row,h.lp,h.lf,h.lt,h.ls,h.le,zcs h.op,zcs h.of_,zcs h.ot,zcs h.os,zcs h.ents.row,h.wp,h.wt,h.wf,h.ws,h.ents.ok⟩
theorem zl_.fr{w w':World}{lo:Nat}{c:zfH}{a:zqV}{F:Nat→Prop}(h:zl_ w lo c a)(f:Fr F w w')(hF:∀ k,lo≤k→¬ F k):zl_ w' lo c a:=
  {h with
    op:=zaf h.op f (fun k hk=>hF k (h.op.lt k hk).1)
    ot:=zaf h.ot f (fun k hk=>hF k (h.ot.lt k hk).1)
    of_:=zaf h.of_ f (fun k hk=>hF k (h.of_.lt k hk).1)
    os:=zaf h.os f (fun k hk=>hF k (h.os.lt k hk).1)
    ents:=h.ents.fr f (fun k hk=>hF k (h.ents.row.lt k hk).1) (fun x hx k hk=>hF k ((h.ents.own x hx).lt k hk).1)}
theorem zqq{b : List UInt8}{s10 : RS}{e1 e2 : Int}{c : zfH}{pt : ByteArray}{pe : Int}(h : zcI ⟨0, b⟩ = (s10, (e1, e2, c.p)))(he : s10.e = 0)(hes : e1 = 0 ∧ e2 = 0)(hp : zok c = (pt, pe)) :
    (∀ q,zlF b q→pe=0∧pt=zal b)∧(pe=0→pt=zal b→zlF b c.p):=by
  obtain⟨rfl,rfl⟩:=hes;unfold zok at hp;refine⟨fun q hq=>?_,fun h0 h1=>?_⟩
  · have h2:=hq.2.1
    rw[h] at h2;simp only[Prod.mk.injEq,true_and] at h2;subst h2;have h3:=hq.2.2.1;rw[← zlQ] at h3;have h4:=hq.2.2.2.1;have h5:=hq.2.2.2.2;rw[← zlq] at h4 h5;rw[if_pos h3,if_neg (by omega),h5] at hp;have hp2:=Prod.mk.inj hp;exact⟨hp2.2.symm,hp2.1.symm⟩
  · subst h0 h1
    by_cases hc:zg7 c=true
    · rw[if_pos hc] at hp
      by_cases h4:40000<(zno c).length
      · rw[if_pos h4] at hp
        exact absurd (Prod.mk.inj hp).2 (by decide)
      · rw[if_neg h4] at hp
        have a1:=(Prod.mk.inj hp).1
        have h5:zno c=b:=by
          have:=congrArg (fun s:ByteArray=>s.data.toList) a1;simpa[za8] using this
        exact⟨by rw[h];exact he,by rw[h],by rw[← zlQ];exact hc,by rw[← zlq];omega,by rw[← zlq];exact h5⟩
    · rw[if_neg hc] at hp
      exact absurd (Prod.mk.inj hp).2 (by decide)
def zsF(b:List UInt8)(lo:Nat)(r:Ending)(w':World):Prop:=
  (∃ c a,r=.returned (.tuple #[.agg (zd7 c a),.int .i64 0])∧zl_ w' lo c a∧zlF b c.p)∨
  (∃ e,e≠0∧r=.returned (.tuple #[zj9,.int .i64 e])∧∀ q,¬ zlF b q)
end Go.Proofs.YtjhhodndlkpmhaaGreatDoor
