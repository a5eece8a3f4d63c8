/- Walk of cat.Get. -/
import Derived.Test.YtjhhodndlkpmhaaGreatDoorCatE
namespace Go.Proofs.YtjhhodndlkpmhaaGreatDoor
set_option linter.all false
set_option maxHeartbeats 16000000
set_option maxRecDepth 100000
open Go.RowKit Tryz
theorem zn5{b:ByteArray}(h:b.size=0):b=ByteArray.empty:=ByteArray.size_eq_zero_iff.1 h
theorem zfP:ByteArray.empty.toList=[]:=by rw[Lib.toList_data];rfl
theorem zl7{b:ByteArray}(h:b.toList=[]):b=ByteArray.empty:=toList_inj (by rw[h,zfP])
theorem zba.le{w:World}{lo lo':Nat}{es:List zdg}{A:Option Addr}{n c:Nat}(h:zba w lo es A n c)(hl:lo'≤lo):zba w lo' es A n c:=⟨zaT h.row hl,h.ok,fun x hx=>zaT (h.own x hx) hl,h.apart⟩
theorem zqE(b:List UInt8)(hb0:b.length≤1099511627776)(w:World)(hmx0:MaxL w)(htab0:Tab w):
  Calls prog 51 #[.string (zal b)] w fun r w'=>zsF b (w.heap.size+1) r w'∧Below w.heap.size w w':=by
 have hmx:=q0_ hmx0;have htab:=q0_ htab0;have hb:=q0_ hb0
 obtain⟨⟨s1,gen⟩,h1⟩:∃ p,zcJ ⟨0,b⟩=p:=⟨_,rfl⟩
 obtain⟨⟨s2,id⟩,h2⟩:∃ p,zcJ s1=p:=⟨_,rfl⟩
 obtain⟨⟨s3,now⟩,h3⟩:∃ p,ze4 s2=p:=⟨_,rfl⟩
 obtain⟨⟨s4,t1⟩,h4⟩:∃ p,zco s3=p:=⟨_,rfl⟩
 obtain⟨⟨e1,nm,pl⟩,hV⟩:∃ p,zaY t1=p:=⟨_,rfl⟩
 obtain⟨n,hn⟩:∃ n,pl.length=n:=⟨_,rfl⟩
 have HVg:Hid (0≤gen∧gen<18446744073709551616):=by have:=zgt ⟨0,b⟩;rw[h1] at this;exact this
 have HVi:Hid (0≤id∧id<18446744073709551616):=by have:=zgt s1;rw[h2] at this;exact this
 have HVn:Hid (zbh now):=by have:=zfX s2;rw[h3] at this;exact this
 have HTz1:Hid (t1.size≤65535):=by have:=zfi s3;rw[h4] at this;exact this
 have HPs1:=q0_ (zgs hV)
 have hn4:n≤5:=by have:=HPs1.out.2.2;rw[hn] at this;exact this
 obtain⟨O5,hO5⟩:∃ o,zbX ze4 n s4=o:=⟨_,rfl⟩
 have HO5e:=q0_ hO5
 have HO5:Hid (MAt ze4 O5 (n-0) s4 []):=by
  show MAt _ _ _ _ _
  rw[← hO5];exact MAt.start
 have HA:=q0_ h1;have HB:=q0_ h2;have HC0:=q0_ h3;have HD:=q0_ h4;have HV1:=q0_ hV;have Hn:=q0_ hn;clear h1 h2 h3 h4 hV hn hO5 hmx0 htab0 hb0;obtain⟨i0,hi,hz0,hz1,hz2⟩:=info_parts zeN;unfold zsF zj9 zd7;go_enter func51,ntmps51
 go_upto_region 1 with fail
 obtain⟨W0,hW0⟩:∃ W,W=w.alloc (.cells #[.int .u64 0,.int .u64 0,.int .i64 0,.string {data:=#[]},.slice none 0 0,.slice none 0 0,.string {data:=#[]},.slice none 0 0,.slice none 0 0,.int .i64 0,.int .i64 0,.slice none 0 0] 55):=⟨_,rfl⟩
 rw[← hW0]
 have B0:Hid (Blk W0 w.heap.size 55 ZC):=by show Blk _ _ _ _;rw[hW0];exact Blk.new _ _ _
 have F0:Hid (Fr (fun _=>False) w W0):=by show Fr _ _ _;rw[hW0];exact Fr.none_alloc _ _
 clear hW0;go_wp2_with fail;refine (zeS b W0 hb.out).mono ?_;rintro r w1 ⟨g,rfl,u1,b1,hg⟩
 have U1:Hid (UQ w1 g ⟨0,b⟩):=⟨u1,hb.out⟩
 have F1:Hid (Fr (fun _=>False) w w1):=F0.out.trans (Fr.b0 b1) q4_;have B1:Hid (Blk w1 w.heap.size 55 ZC):=B0.out.below b1
 have Hgl:Hid (w.heap.size<g):=by have:=B0.out.lt;show _<_;omega
 clear u1 b1 hg B0 F0;go_wp2_with fail;refine (ze7 HA.out U1.out).mono ?_;rintro r w2 ⟨rfl,u2,f2⟩;go_wp2_with fail;refine (ze7 HB.out u2).mono ?_;rintro r w3 ⟨rfl,u3,f3⟩;go_wp2_with fail;refine (zdF HC0.out u3).mono ?_;rintro r w4 ⟨rfl,u4,f4⟩;have F4:Hid (Fr (fun i=>i=g) w1 w4):=(f2.trans f3 (fun _ h=>.inl h)).trans f4 (fun _ h=>.inl h);clear f2 f3 f4 u2 u3
 go_upto_region 3 with fail
 obtain⟨W4,hW4⟩:∃ W,W=w4.alloc (.cells #[.int .u64 gen,.int .u64 id,.int .i64 now,.string {data:=#[]},.slice none 0 0,.slice none 0 0,.string {data:=#[]},.slice none 0 0,.slice none 0 0,.int .i64 0,.int .i64 0,.slice none 0 0] 55):=⟨_,rfl⟩
 rw[← hW4]
 obtain⟨cb,hcb⟩:∃ x,x=w4.heap.size:=⟨_,rfl⟩
 rw[← hcb]
 have H4:Hid (GA w W4 g cb s3 #[.int .u64 gen,.int .u64 id,.int .i64 now,.string {data:=#[]},.slice none 0 0,.slice none 0 0,.string {data:=#[]},.slice none 0 0,.slice none 0 0,.int .i64 0,.int .i64 0,.slice none 0 0]):=by
  show GA _ _ _ _ _ _
  have hs:=F4.out.size;have hl:=B1.out.lt
  have fa:Fr (fun _=>False) w4 W4:=by rw[hW4];exact Fr.none_alloc _ _
  refine⟨(F1.out.trans F4.out (fun k hk=>.inr (by have:=Hgl.out;omega))).trans fa q4_,Hgl.out,by omega,(B1.out.fr F4.out (fun e=>by have:=Hgl.out;omega)).fr fa (fun h=>h),?_,u4.fr0 fa⟩;rw[hW4,hcb];exact Blk.new _ _ _
 clear hW4 hcb u4 F4 F1 B1 U1;go_wp2_with fail;refine (zhj HD.out H4.out.u).mono ?_;rintro r w5 ⟨rfl,uu,ff⟩;have H5:=q0_ (H4.out.read uu ff);have F5:=q0_ ff;clear uu ff;have HM5:Hid (MaxL w5):=hmx.out.fr H5.out.fr (fun h=>h);have HR1:=q0_ (zig t1 (by have:=HTz1.out;omega) w5 HM5.out);rw[HV1.out] at HR1;unfold zqT zl0 at HR1;dsimp only at HR1;rw[Hn.out] at HR1;go_wp2_with fail;refine HR1.out.mono ?_;rintro r w6 ⟨⟨k1,A,pc,rfl,_,_,hown⟩,b6⟩
 go_upto_region 4 with fail
 obtain⟨W6,hW6⟩:∃ W,W=w6.alloc (.cells #[.string nm,.slice A n pc] 51):=⟨_,rfl⟩
 rw[← hW6]
 obtain⟨pb,hpb⟩:∃ x,x=w6.heap.size:=⟨_,rfl⟩
 rw[← hpb]
 have fa:Fr (fun _=>False) w6 W6:=by rw[hW6];exact Fr.none_alloc _ _
 have P6:Blk W6 pb 51 #[.string nm,.slice A n pc]:=by rw[hW6,hpb];exact Blk.new _ _ _
 have H6:=q0_ ((H5.out.fr0 (Fr.b0 b6)).fr0 fa)
 have HA1:Hid (∀ W,Fr (fun i=>(i=g∨i=cb)∨i=w.heap.size) W6 W→W.ownsRow (w.heap.size+1) 130 4 (.slice A n pc) n (zah pl)):=fun W f=>by
  have h2:=H5.out.lt;exact zaT (zaf (zac hown fa) f (fun j hj hF=>by have h1:=(hown.lt j hj).1;omega)) (by omega)
 have hpc2:pb≠cb:=by have:=H5.out.lt;have:=(Fr.b0 b6).size;omega
 have p0:=P6.cell 0;have p1:=P6.cell 1;simp only[q1_,q2_,q3_] at p0 p1;have c3:W6.cell? ⟨cb,3,none⟩=some (.string {data:=#[]}):=H6.out.cb.cell 3;have c4:W6.cell? ⟨cb,4,none⟩=some (.slice none 0 0):=H6.out.cb.cell 4;have q3:=H6.out.cb.frozen 3;have q4:=H6.out.cb.frozen 4;have H7':=(H6.out.set_ 3 (.string nm)).set_ 4 (.slice A n pc);have hst7:Fr (fun i=>i=cb) W6 ((W6.setCell ⟨cb,3,none⟩ (.string nm)).setCell ⟨cb,4,none⟩ (.slice A n pc)):=((Fr.refl (fun i=>i=cb) W6).setCell (p:=⟨cb,3,none⟩) (.inl rfl) _).setCell (p:=⟨cb,4,none⟩) (.inl rfl) _;have P7:=P6.fr hst7 hpc2;clear hW6 hpb hown b6 fa
 go_upto_region 5 with fail
 obtain⟨W7,hW7⟩:∃ W,W=(W6.setCell ⟨cb,3,none⟩ (.string nm)).setCell ⟨cb,4,none⟩ (.slice A n pc):=⟨_,rfl⟩
 rw[← hW7] at H7' hst7 P7 ⊢
 have H7:Hid (GA w W7 g cb s4 #[.int .u64 gen,.int .u64 id,.int .i64 now,.string nm,.slice A n pc,.slice none 0 0,.string {data:=#[]},.slice none 0 0,.slice none 0 0,.int .i64 0,.int .i64 0,.slice none 0 0]):=by
  have:=H7'
  show GA _ _ _ _ _ _
  simpa using this
 have F7:=q0_ hst7;have HAl:Hid (∀ k,zaE (.slice A n pc) k→k<W7.heap.size):=fun k hk=>((HA1.out W7 (F7.out.mono (G:=(fun i=>(i=g∨i=cb)∨i=w.heap.size)) (fun k hk=>.inl (.inl (.inr hk))))).lt k hk).2;have p7:W7.cell? ⟨pb,1,none⟩=some (.slice A n pc):=P7.cell 1;have Hm:Hid (g<W7.heap.size∧cb<W7.heap.size∧w.heap.size<W7.heap.size):=H7.out.lt;clear H7' hst7 P7 P6 p0 p1 c3 c4 q3 q4 hW7 H6 H5 H4 F5;go_wp2_with fail;clear p7
 go_loopw [34] (fun i wr=>∃ (j:Nat) (R:Option Addr) (rc:Nat) (L:List Int) (t:RS),i=.int .i64 j∧j≤n∧L.length=j∧Hid (GA w wr g cb t #[.int .u64 gen,.int .u64 id,.int .i64 now,.string nm,.slice A n pc,.slice R j rc,.string {data:=#[]},.slice none 0 0,.slice none 0 0,.int .i64 0,.int .i64 0,.slice none 0 0])∧Hid (wr.ownsRow W7.heap.size 3 1 (.slice R j rc) j (zbg L))∧Hid (Fr (fun i=>i=g∨i=cb) W7 wr)∧Hid (MAt (ze4) O5 (n-j) t L)∧Hid (∀ y∈L,zbh y)) (fun i _=>n-(intOf i).toNat)
 case atStart=>exact⟨0,none,0,[],_,rfl,Nat.zero_le _,rfl,H7.out,World.ownsRow_nil _ _ _ _,Fr.refl _ _,HO5.out,fun y hy=>(by cases hy)⟩
 case round=>
  obtain⟨j,R,rc,L,t,rfl,hj,hll,hq,hr,hk,hat,hwf⟩:=hrel;have Hq:=q0_ hq.out;have Hr:=q0_ hr.out;have Hk:=q0_ hk.out;have Hat:=q0_ hat.out;have Hwf:=q0_ hwf.out;have Hll:=q0_ hll;have HC:Hid (∀ W,Fr (fun i=>i=g) wr W→W.cell? ⟨cb,5,none⟩=some (.slice R j rc)):=fun W f=>(Hq.out.cb.fr f (fun e=>Hq.out.gc e.symm)).cell 5;clear hq hr hk hat hwf hll
  by_cases hlt:j<n
  ·obtain⟨⟨t',v⟩,hsm⟩:∃ p,ze4 t=p:=⟨_,rfl⟩
   have hv:zbh v:=by
    have:=zfX t;rw[hsm] at this;exact this
   have Hv:=q0_ hv;have HSm:=q0_ hsm;have l0:=HC.out wr.drew (Fr.refl _ wr).drew;clear hsm hv;go_wp2_with fail;refine wp_region_any (by kernel_rfl) ?_;change wpAny _ _ _ _ _ _ _ (World.drew _);refine nl 0 ?v1 rfl ?q1 ?r1
   case q1=>intro W;go_simp;try rfl
   refine nl 2 ?v2 rfl ?q2 ?r2
   case q2=>intro W;go_simp;try rfl
   try simp only[Act.put,sA,sB,sC]
   refine wpAny_ready (rs:=[1,3]) (by kernel_rfl) (by simp) ?_;refine AllReady.cons (dg rfl) (fun K hK=>?_) ?_
   ·go_simp
    refine hK _ _ ?_;clear hK K
    try simp only[Act.put,sA,sB,sC]
    refine rn 3 rfl (fun K hK=>?_);go_simp
    go_wp2_with (go_at_call 99;refine (zdF HSm.out (Hq.out.u.fr0 (Fr.refl _ wr).drew)).mono ?_;rintro r w6 ⟨rfl,u6,f6⟩;have hf6:Fr (fun i=>i=g) wr w6:=(Fr.refl _ wr).drew.trans f6 (fun _ h=>.inl h);have l1:=HC.out w6 hf6;have l1a:=fun o=>HC.out (w6.alloc o) (hf6.alloc o);try dsimp only)
    refine rn 4 rfl (fun K hK=>?_);go_simp;refine hK _ _ ?_;clear hK K
    try simp only[Act.put,sA,sB,sC]
    refine rn 5 rfl (fun K hK=>?_);rw[if_pos (by rfl)];have hr6:=zac (zaf Hr.out hf6 (fun k hk e=>by have:=(Hr.out.lt k hk).1;have:=Hm.out;omega)) (Fr.none_alloc w6 (.cells #[.int .i64 v] 3));refine zaU _ _ 52 rfl 3 i0 (.int .i64 0) 1 8 underlying52 hi hz0 hz1 hz2 rfl (by decide) (.slice R j rc) j _ rfl W7.heap.size (Nat.le_trans Hk.out.size (hf6.alloc _).size) hr6 (some ⟨w6.heap.size,0,none⟩) 1 1 [.int .i64 v] rfl (Rd.new w6 [.int .i64 v] _ 1 rfl) (by simp[Value.oneCell']) (by unfold maxLen;omega) (by omega) (fun B7 c7 w7 h7 m7 _=>?_);obtain⟨⟨l3,z3⟩,hz1',hz2',hz3'⟩:=Hq.out.grow Hr.out Hm.out (p:=5) rfl u6 hf6 h7 m7
    have Hz1:Hid (GA w (w7.setCell ⟨cb,5,none⟩ (.slice B7 (j+1) c7)) g cb t' #[.int .u64 gen,.int .u64 id,.int .i64 now,.string nm,.slice A n pc,.slice B7 (j+1) c7,.string {data:=#[]},.slice none 0 0,.slice none 0 0,.int .i64 0,.int .i64 0,.slice none 0 0]):=by
     have:=hz1'
     show GA _ _ _ _ _ _
     simpa using this
    have Hz2:=q0_ hz2';have Hz3:=q0_ hz3';clear h7 m7 hz1' hz2' hz3' hr6;refine hK _ _ ?_;clear hK K;refine nl 6 ?v3 rfl ?q3 ?r3
    case q3=>intro W;go_simp;try rfl
    try simp only[Act.put,sA,sB,sC]
    refine rn 7 rfl (fun K hK=>?_);go_simp;refine hK _ _ ?_;clear hK K
    try simp only[Act.put,sA,sB,sC]
    refine wpAny_done (by kernel_rfl) ?_ _;clear l3 z3 l1 l1a u6 f6 hf6;go_wp2
    go_roundw
    case rel=>exact⟨j+1,B7,c7,L++[v],t',by go_num,by omega,by rw[q8_,List.length_singleton,Hll.out],Hz1.out,Hz2.out,Hk.out.trans Hz3.out (fun k hk=>by
     rcases hk with hk | hk
     ·exact .inl hk
     ·exact .inr (Hr.out.lt k hk).1),by
     have h:=Hat.out;rw[show n-j=(n-(j+1))+1 by omega] at h;have h2:=MAt.step h;rw[HSm.out] at h2
     exact h2,by
     intro y hy
     rcases List.mem_append.1 hy with hy | hy
     ·exact Hwf.out y hy
     ·rw[List.mem_singleton] at hy
      rw[hy]
      exact Hv.out⟩
    case measure=>simp[intOf];omega
   refine AllReady.cons (dg rfl) (fun K hK=>?_) ?_
   ·go_simp
    go_wp2_with (go_at_call 99;refine (zdF HSm.out (Hq.out.u.fr0 (Fr.refl _ wr).drew)).mono ?_;rintro r w6 ⟨rfl,u6,f6⟩;have hf6:Fr (fun i=>i=g) wr w6:=(Fr.refl _ wr).drew.trans f6 (fun _ h=>.inl h);have l1:=HC.out w6 hf6;have l1a:=fun o=>HC.out (w6.alloc o) (hf6.alloc o);try dsimp only)
    try simp only[Act.put,sA,sB,sC]
    refine wpAny_ready (rs:=[1,4]) (by kernel_rfl) (by simp) ?_;refine AllReady.cons (dg rfl) (fun K hK=>?_) ?_
    ·go_simp
     refine hK _ _ ?_;clear hK K
     try simp only[Act.put,sA,sB,sC]
     refine rn 4 rfl (fun K hK=>?_);go_simp;refine hK _ _ ?_;clear hK K
     try simp only[Act.put,sA,sB,sC]
     refine rn 5 rfl (fun K hK=>?_);rw[if_pos (by rfl)];have hr6:=zac (zaf Hr.out hf6 (fun k hk e=>by have:=(Hr.out.lt k hk).1;have:=Hm.out;omega)) (Fr.none_alloc w6 (.cells #[.int .i64 v] 3));refine zaU _ _ 52 rfl 3 i0 (.int .i64 0) 1 8 underlying52 hi hz0 hz1 hz2 rfl (by decide) (.slice R j rc) j _ rfl W7.heap.size (Nat.le_trans Hk.out.size (hf6.alloc _).size) hr6 (some ⟨w6.heap.size,0,none⟩) 1 1 [.int .i64 v] rfl (Rd.new w6 [.int .i64 v] _ 1 rfl) (by simp[Value.oneCell']) (by unfold maxLen;omega) (by omega) (fun B7 c7 w7 h7 m7 _=>?_);obtain⟨⟨l3,z3⟩,hz1',hz2',hz3'⟩:=Hq.out.grow Hr.out Hm.out (p:=5) rfl u6 hf6 h7 m7
     have Hz1:Hid (GA w (w7.setCell ⟨cb,5,none⟩ (.slice B7 (j+1) c7)) g cb t' #[.int .u64 gen,.int .u64 id,.int .i64 now,.string nm,.slice A n pc,.slice B7 (j+1) c7,.string {data:=#[]},.slice none 0 0,.slice none 0 0,.int .i64 0,.int .i64 0,.slice none 0 0]):=by
      have:=hz1'
      show GA _ _ _ _ _ _
      simpa using this
     have Hz2:=q0_ hz2';have Hz3:=q0_ hz3';clear h7 m7 hz1' hz2' hz3' hr6;refine hK _ _ ?_;clear hK K;refine nl 6 ?v4 rfl ?q4 ?r4
     case q4=>intro W;go_simp;try rfl
     try simp only[Act.put,sA,sB,sC]
     refine rn 7 rfl (fun K hK=>?_);go_simp;refine hK _ _ ?_;clear hK K
     try simp only[Act.put,sA,sB,sC]
     refine wpAny_done (by kernel_rfl) ?_ _;clear l3 z3 l1 l1a u6 f6 hf6;go_wp2
     go_roundw
     case rel=>exact⟨j+1,B7,c7,L++[v],t',by go_num,by omega,by rw[q8_,List.length_singleton,Hll.out],Hz1.out,Hz2.out,Hk.out.trans Hz3.out (fun k hk=>by
      rcases hk with hk | hk
      ·exact .inl hk
      ·exact .inr (Hr.out.lt k hk).1),by
      have h:=Hat.out;rw[show n-j=(n-(j+1))+1 by omega] at h;have h2:=MAt.step h;rw[HSm.out] at h2
      exact h2,by
      intro y hy
      rcases List.mem_append.1 hy with hy | hy
      ·exact Hwf.out y hy
      ·rw[List.mem_singleton] at hy
       rw[hy]
       exact Hv.out⟩
     case measure=>simp[intOf];omega
    refine AllReady.cons (dg rfl) (fun K hK=>?_) ?_
    ·go_simp
     refine hK _ _ ?_;clear hK K
     try simp only[Act.put,sA,sB,sC]
     refine rn 1 rfl (fun K hK=>?_);go_simp;refine hK _ _ ?_;clear hK K
     try simp only[Act.put,sA,sB,sC]
     refine rn 5 rfl (fun K hK=>?_);rw[if_pos (by rfl)];have hr6:=zac (zaf Hr.out hf6 (fun k hk e=>by have:=(Hr.out.lt k hk).1;have:=Hm.out;omega)) (Fr.none_alloc w6 (.cells #[.int .i64 v] 3));refine zaU _ _ 52 rfl 3 i0 (.int .i64 0) 1 8 underlying52 hi hz0 hz1 hz2 rfl (by decide) (.slice R j rc) j _ rfl W7.heap.size (Nat.le_trans Hk.out.size (hf6.alloc _).size) hr6 (some ⟨w6.heap.size,0,none⟩) 1 1 [.int .i64 v] rfl (Rd.new w6 [.int .i64 v] _ 1 rfl) (by simp[Value.oneCell']) (by unfold maxLen;omega) (by omega) (fun B7 c7 w7 h7 m7 _=>?_);obtain⟨⟨l3,z3⟩,hz1',hz2',hz3'⟩:=Hq.out.grow Hr.out Hm.out (p:=5) rfl u6 hf6 h7 m7
     have Hz1:Hid (GA w (w7.setCell ⟨cb,5,none⟩ (.slice B7 (j+1) c7)) g cb t' #[.int .u64 gen,.int .u64 id,.int .i64 now,.string nm,.slice A n pc,.slice B7 (j+1) c7,.string {data:=#[]},.slice none 0 0,.slice none 0 0,.int .i64 0,.int .i64 0,.slice none 0 0]):=by
      have:=hz1'
      show GA _ _ _ _ _ _
      simpa using this
     have Hz2:=q0_ hz2';have Hz3:=q0_ hz3';clear h7 m7 hz1' hz2' hz3' hr6;refine hK _ _ ?_;clear hK K;refine nl 6 ?v5 rfl ?q5 ?r5
     case q5=>intro W;go_simp;try rfl
     try simp only[Act.put,sA,sB,sC]
     refine rn 7 rfl (fun K hK=>?_);go_simp;refine hK _ _ ?_;clear hK K
     try simp only[Act.put,sA,sB,sC]
     refine wpAny_done (by kernel_rfl) ?_ _;clear l3 z3 l1 l1a u6 f6 hf6;go_wp2
     go_roundw
     case rel=>exact⟨j+1,B7,c7,L++[v],t',by go_num,by omega,by rw[q8_,List.length_singleton,Hll.out],Hz1.out,Hz2.out,Hk.out.trans Hz3.out (fun k hk=>by
      rcases hk with hk | hk
      ·exact .inl hk
      ·exact .inr (Hr.out.lt k hk).1),by
      have h:=Hat.out;rw[show n-j=(n-(j+1))+1 by omega] at h;have h2:=MAt.step h;rw[HSm.out] at h2
      exact h2,by
      intro y hy
      rcases List.mem_append.1 hy with hy | hy
      ·exact Hwf.out y hy
      ·rw[List.mem_singleton] at hy
       rw[hy]
       exact Hv.out⟩
     case measure=>simp[intOf];omega
    exact AllReady.nil
   exact AllReady.nil
  ·obtain rfl:n=j:=by omega
   have HO:Hid (O5=(t,L)):=by
    have h:=Hat.out;rw[Nat.sub_self] at h;exact h.end_
   clear hlt hj HC Hat;have HA8:=q0_ (fun (W:World) (f:Fr (fun i=>(i=g∨i=cb)∨i=w.heap.size) wr W)=>HA1.out W ((F7.out.mono (G:=(fun i=>(i=g∨i=cb)∨i=w.heap.size)) (fun k hk=>.inl (.inl (.inr hk)))).trans ((Hk.out.mono (G:=(fun i=>(i=g∨i=cb)∨i=w.heap.size)) (fun k hk=>.inl (.inl hk))).trans f (fun k hk=>.inl hk)) (fun k hk=>.inl hk)));have Hgs:Hid (W7.heap.size≤wr.heap.size):=Hk.out.size;have Hm7:=q0_ Hm.out
   obtain⟨W8,hW8⟩:∃ W,W=wr:=⟨_,rfl⟩
   rw[← hW8] at Hq Hr HA8 Hgs ⊢
   have HO5':Hid (zbX ze4 n s4=(t,L)):=by show _=_;rw[HO5e.out,HO.out]
   obtain⟨s5,hs5⟩:∃ s,s=t:=⟨_,rfl⟩
   obtain⟨fl,hfl⟩:∃ l,l=L:=⟨_,rfl⟩
   rw[← hs5] at Hq HO5';rw[← hfl] at Hr HO5' Hll Hwf;have H8:=q0_ Hq.out;have HRf:=q0_ Hr.out;have Hwfl:=q0_ Hwf.out;have Hfll:=q0_ Hll.out;clear hW8 hs5 hfl Hq Hr Hwf Hll HO Hk H7 HA1 Hm
   obtain⟨⟨s6,t2⟩,ht2⟩:∃ p,zco s5=p:=⟨_,rfl⟩
   obtain⟨⟨e2,nm2,pl2⟩,hp2⟩:∃ p,zom e1 t2=p:=⟨_,rfl⟩
   have HE1:=q0_ (zp2 HA.out HB.out HC0.out HD.out HV1.out);have HE2:=q0_ (zp1 HA.out HB.out HC0.out HD.out HV1.out (show zbX ze4 pl.length s4=(s5,fl) by rw[Hn.out];exact HO5'.out) ht2 hp2)
   have HTz2:Hid (t2.size≤65535):=by have:=zfi s5;rw[ht2] at this;exact this
   have HPs:=q0_ (zmA hp2);have HTx:=q0_ ht2;have HP2:=q0_ hp2;clear ht2 hp2
   go_upto_region 9 with fail
   go_cut [50] (fun s50 wx=>∃ b0:Bool,s50=.bool b0∧(b0=true→e1≠0)∧(b0=false→e1=0∨s5.e≠0)∧W8=wx)
   case first=>
    by_cases he1:e1=0
    ·have h2:(e1 != 0)=false:=by simpa using he1
     go_wp2
     try go_meet
     exact⟨_,rfl,fun h=>(by cases h),fun _=>.inl he1,rfl⟩
    ·have h2:(e1 != 0)=true:=by simpa using he1
     have HN:=q0_ he1;clear he1;go_wp2_with fail;refine (zfI H8.out.u).mono ?_;rintro r w9 ⟨rfl,rfl⟩;go_wp2
     try go_meet
     exact⟨_,rfl,fun _=>HN.out,fun h=>.inr (by simpa using h),rfl⟩
   case rest=>
   obtain⟨b0,rfl,hb0,hb1,rfl⟩:=hcut;have Hb0:=q0_ hb0;have Hb1:=q0_ hb1;clear hb0 hb1
   cases b0
   rotate_left
   ·have HN:=q0_ (Hb0.out rfl)
    have HNo:Hid (∀ q,¬ zlF b q):=fun q hq=>HN.out (by rw[← HE1.out];exact zsk hq);obtain⟨W9,_,hsa,_,B9,F9⟩:=zc1 (P:=prog) H8.out.rb #[.int .u64 0,.int .u64 0,.int .i64 0,.string {data:=#[]},.slice none 0 0,.slice none 0 0,.string {data:=#[]},.slice none 0 0,.slice none 0 0,.int .i64 0,.int .i64 0,.slice none 0 0] 12 rfl rfl (by simp[Value.oneCell']) zbG;have HLR:=q0_ (zdp (P:=prog) B9 12 rfl underlying55 zbG);have HSA:=q0_ hsa;have HF9:=q0_ F9;have HB9:=q0_ B9;clear F9 B9 hsa
    go_wp2_with (first | (with_reducible refine zbi rfl _ _ 55 rfl w.heap.size #[.int .u64 0,.int .u64 0,.int .i64 0,.string {data:=#[]},.slice none 0 0,.slice none 0 0,.string {data:=#[]},.slice none 0 0,.slice none 0 0,.int .i64 0,.int .i64 0,.slice none 0 0] W9 (by kernel_rfl) (by kernel_rfl) HSA.out ?_) | (with_reducible refine zbx rfl 55 rfl _ (zd6 _) ?_) | ((try simp only[Exit.inBlock,Exit.then]);with_reducible refine zbT (p:=2) (t:=55) (u:=3) (by kernel_rfl) w.heap.size #[.int .u64 0,.int .u64 0,.int .i64 0,.string {data:=#[]},.slice none 0 0,.slice none 0 0,.string {data:=#[]},.slice none 0 0,.slice none 0 0,.int .i64 0,.int .i64 0,.slice none 0 0] (.int .i64 (6)) (by kernel_rfl) (by kernel_rfl) HLR.out.2.2 (by kernel_rfl) ?_;exact⟨.inr ⟨6,by decide,rfl,HNo.out⟩,((H8.out.fr.trans HF9.out (fun k hk=>.inr (by omega)))).below q4_⟩))
   have Hc1:Hid (e1=0∨s5.e≠0):=Hb1.out rfl;clear Hb0 Hb1;go_wp2_with fail;refine (zhj HTx.out H8.out.u).mono ?_;rintro r w9 ⟨rfl,uu,ff⟩;have H9:=q0_ (H8.out.read uu ff);have FH9:=q0_ ff;clear uu ff
   obtain⟨bb,hbb⟩:∃ b,(!t2.toList.isEmpty)=b:=⟨_,rfl⟩
   go_upto_if 55 with fail
   have Hbb:=q0_ hbb;clear hbb
   go_cut [7] (fun s7 wx=>∃ (W11:World) (A2:Option Addr) (n2 pc2:Nat),W11=wx∧s7=.int .i64 e2∧pl2.length=n2∧Hid (GA w W11 g cb s6 #[.int .u64 gen,.int .u64 id,.int .i64 now,.string nm,.slice A n pc,.slice R n rc,.string nm2,.slice A2 n2 pc2,.slice none 0 0,.int .i64 0,.int .i64 0,.slice none 0 0])∧Hid (Fr (fun i=>i=g∨i=cb) w9 W11)∧Hid (∀ W,Fr (fun i=>(i=g∨i=cb)∨i=w.heap.size) W11 W→W.ownsRow w9.heap.size 130 4 (.slice A2 n2 pc2) n2 (zah pl2)))
   case first=>
    cases bb
    ·have hz:t2.size=0:=by
      have h:=Hbb.out;simp at h;rw[zl7 h];rfl
     have HPz:Hid (e2=e1∧nm2=ByteArray.empty∧pl2=[]):=by
      have h:=HP2.out;unfold zom at h;rw[if_pos hz] at h
      injection h with h1 h2
      injection h2 with h2 h3
      exact⟨h1.symm,h2.symm,h3.symm⟩
     clear hz;go_wp2
     try go_meet
     obtain⟨e_,nm_,pl_⟩:=HPz.out;subst e_ nm_ pl_;exact⟨_,none,0,0,rfl,rfl,rfl,H9.out,Fr.refl _ _,fun W f=>World.ownsRow_nil _ _ _ _⟩
    ·have hz:¬ t2.size=0:=fun h0=>by
      have h:=Hbb.out;rw[zn5 h0,zfP] at h
      cases h
     have HPz:Hid (zaY t2=(e2,nm2,pl2)):=by
      have h:=HP2.out;unfold zom at h;rw[if_neg hz] at h;exact h
     obtain⟨n2,hn2⟩:∃ n,pl2.length=n:=⟨_,rfl⟩
     have HM9:Hid (MaxL w9):=hmx.out.fr H9.out.fr (fun h=>h);have HR2:=q0_ (zig t2 (by have:=HTz2.out;omega) w9 HM9.out);rw[HPz.out] at HR2;unfold zqT zl0 at HR2;dsimp only at HR2;rw[hn2] at HR2;have Hn2:=q0_ hn2;clear hz hn2;go_wp2_with fail;refine HR2.out.mono ?_;rintro r w10 ⟨⟨k2,A2,pc2,rfl,_,_,hown⟩,b10⟩;have H10:=q0_ (H9.out.fr0 (Fr.b0 b10));have c6:w10.cell? ⟨cb,6,none⟩=some (.string {data:=#[]}):=H10.out.cb.cell 6;have c7:w10.cell? ⟨cb,7,none⟩=some (.slice none 0 0):=H10.out.cb.cell 7;have q6:=H10.out.cb.frozen 6;have q7:=H10.out.cb.frozen 7;have Hst:Hid (Fr (fun i=>i=g∨i=cb) w9 ((w10.setCell ⟨cb,6,none⟩ (.string nm2)).setCell ⟨cb,7,none⟩ (.slice A2 n2 pc2))):=(((Fr.b0 b10).mono (G:=(fun i=>i=g∨i=cb)) q4_).setCell (p:=⟨cb,6,none⟩) (.inl (.inr rfl)) _).setCell (p:=⟨cb,7,none⟩) (.inl (.inr rfl)) _;have H11:=q0_ ((H10.out.set_ 6 (.string nm2)).set_ 7 (.slice A2 n2 pc2));have Hown:=q0_ hown;clear b10 hown;go_wp2
     try go_meet
     refine⟨_,A2,n2,pc2,rfl,rfl,Hn2.out,?_,Hst.out,fun W f=>?_⟩
     ·show GA _ _ _ _ _ _
      have:=H11.out;simpa using this
     ·have f2:Fr (fun i=>i=cb) w10 ((w10.setCell ⟨cb,6,none⟩ (.string nm2)).setCell ⟨cb,7,none⟩ (.slice A2 n2 pc2)):=((Fr.refl (fun i=>i=cb) w10).setCell (p:=⟨cb,6,none⟩) (.inl rfl) _).setCell (p:=⟨cb,7,none⟩) (.inl rfl) _
      have h2:=H9.out.lt;exact zaf (zaf Hown.out f2 (fun j hj e=>by have:=(Hown.out.lt j hj).1;omega)) f (fun j hj hF=>by have:=(Hown.out.lt j hj).1;omega)
   case rest=>
   obtain⟨W11,A2,n2,pc2,rfl,rfl,hn2,h11,f11,ha2⟩:=hcut;have H11:=q0_ h11.out
   have HK11:Hid (∀ W,Fr (fun i=>(i=g∨i=cb)∨i=w.heap.size) W11 W→W.ownsRow (w.heap.size+1) 130 4 (.slice A n pc) n (zah pl)∧W.ownsRow W7.heap.size 3 1 (.slice R n rc) n (zbg fl)∧W.ownsRow W7.heap.size 130 4 (.slice A2 n2 pc2) n2 (zah pl2)):=fun W f=>by
    have f2:Fr (fun i=>(i=g∨i=cb)∨i=w.heap.size) W8 W:=((FH9.out.mono (G:=(fun i=>(i=g∨i=cb)∨i=w.heap.size)) (fun k hk=>.inl (.inl (.inl hk)))).trans (f11.out.mono (G:=(fun i=>(i=g∨i=cb)∨i=w.heap.size)) (fun k hk=>.inl (.inl hk))) (fun k hk=>.inl hk)).trans f (fun k hk=>.inl hk);refine⟨HA8.out W f2,zaf HRf.out f2 (fun j hj hF=>by have h1:=(HRf.out.lt j hj).1;have h2:=Hm7.out;omega),zaT (ha2.out W f) (Nat.le_trans Hgs.out FH9.out.size)⟩
   have HW711:Hid (W7.heap.size≤W11.heap.size):=Nat.le_trans Hgs.out (Nat.le_trans FH9.out.size f11.out.size);have HRl:Hid (∀ k,zaE (.slice R n rc) k→k<W11.heap.size):=fun k hk=>((HK11.out W11 (Fr.refl _ _)).2.1.lt k hk).2;have Hn2:=q0_ hn2;clear h11 f11 ha2 HA8 HRf H8 H9 FH9 hn2
   obtain⟨O6,hO6⟩:∃ o,zbX (zai 1) n2 s6=o:=⟨_,rfl⟩
   have HO6e:=q0_ hO6
   have HO6:Hid (MAt (zai 1) O6 (n2-0) s6 []):=by
    show MAt _ _ _ _ _
    rw[← hO6];exact MAt.start
   clear hO6
   go_upto_region 14 with fail
   go_cut [69] (fun s69 wx=>∃ b0:Bool,s69=.bool b0∧(b0=true→e2≠0)∧(b0=false→e2=0∨s6.e≠0)∧W11=wx)
   case first=>
    by_cases he1:e2=0
    ·have h2:(e2 != 0)=false:=by simpa using he1
     go_wp2
     try go_meet
     exact⟨_,rfl,fun h=>(by cases h),fun _=>.inl he1,rfl⟩
    ·have h2:(e2 != 0)=true:=by simpa using he1
     have HN:=q0_ he1;clear he1;go_wp2_with fail;refine (zfI H11.out.u).mono ?_;rintro r w9 ⟨rfl,rfl⟩;go_wp2
     try go_meet
     exact⟨_,rfl,fun _=>HN.out,fun h=>.inr (by simpa using h),rfl⟩
   case rest=>
   obtain⟨b0,rfl,hb0,hb1,rfl⟩:=hcut;have Hb0:=q0_ hb0;have Hb1:=q0_ hb1;clear hb0 hb1
   cases b0
   rotate_left
   ·have HN:=q0_ (Hb0.out rfl)
    have HNo:Hid (∀ q,¬ zlF b q):=fun q hq=>HN.out (by rw[← HE2.out];exact zsj hq);obtain⟨W9,_,hsa,_,B9,F9⟩:=zc1 (P:=prog) H11.out.rb #[.int .u64 0,.int .u64 0,.int .i64 0,.string {data:=#[]},.slice none 0 0,.slice none 0 0,.string {data:=#[]},.slice none 0 0,.slice none 0 0,.int .i64 0,.int .i64 0,.slice none 0 0] 12 rfl rfl (by simp[Value.oneCell']) zbG;have HLR:=q0_ (zdp (P:=prog) B9 12 rfl underlying55 zbG);have HSA:=q0_ hsa;have HF9:=q0_ F9;have HB9:=q0_ B9;clear F9 B9 hsa
    go_wp2_with (first | (with_reducible refine zbi rfl _ _ 55 rfl w.heap.size #[.int .u64 0,.int .u64 0,.int .i64 0,.string {data:=#[]},.slice none 0 0,.slice none 0 0,.string {data:=#[]},.slice none 0 0,.slice none 0 0,.int .i64 0,.int .i64 0,.slice none 0 0] W9 (by kernel_rfl) (by kernel_rfl) HSA.out ?_) | (with_reducible refine zbx rfl 55 rfl _ (zd6 _) ?_) | ((try simp only[Exit.inBlock,Exit.then]);with_reducible refine zbT (p:=2) (t:=55) (u:=3) (by kernel_rfl) w.heap.size #[.int .u64 0,.int .u64 0,.int .i64 0,.string {data:=#[]},.slice none 0 0,.slice none 0 0,.string {data:=#[]},.slice none 0 0,.slice none 0 0,.int .i64 0,.int .i64 0,.slice none 0 0] (.int .i64 (6)) (by kernel_rfl) (by kernel_rfl) HLR.out.2.2 (by kernel_rfl) ?_;exact⟨.inr ⟨6,by decide,rfl,HNo.out⟩,((H11.out.fr.trans HF9.out (fun k hk=>.inr (by omega)))).below q4_⟩))
   have Hc2:Hid (e2=0∨s6.e≠0):=Hb1.out rfl;clear Hb0 Hb1;have c7:W11.cell? ⟨cb,7,none⟩=some (.slice A2 n2 pc2):=H11.out.cb.cell 7;have Hm:Hid (g<W11.heap.size∧cb<W11.heap.size∧w.heap.size<W11.heap.size):=H11.out.lt
   have hn5:n2≤5:=by have:=HPs.out.2.2;rw[Hn2.out] at this;exact this
   go_wp2_with fail;clear c7
   go_loopw [75] (fun i wr=>∃ (j:Nat) (S:Option Addr) (sc:Nat) (L:List Int) (t:RS),i=.int .i64 j∧j≤n2∧L.length=j∧Hid (GA w wr g cb t #[.int .u64 gen,.int .u64 id,.int .i64 now,.string nm,.slice A n pc,.slice R n rc,.string nm2,.slice A2 n2 pc2,.slice S j sc,.int .i64 0,.int .i64 0,.slice none 0 0])∧Hid (wr.ownsRow W11.heap.size 3 1 (.slice S j sc) j (zbg L))∧Hid (Fr (fun i=>i=g∨i=cb) W11 wr)∧Hid (MAt (zai 1) O6 (n2-j) t L)∧Hid (∀ y∈L,zbh y)) (fun i _=>n2-(intOf i).toNat)
   case atStart=>exact⟨0,none,0,[],_,rfl,Nat.zero_le _,rfl,H11.out,World.ownsRow_nil _ _ _ _,Fr.refl _ _,HO6.out,fun y hy=>(by cases hy)⟩
   case round=>
    obtain⟨j,S,sc,L,t,rfl,hj,hll,hq,hr,hk,hat,hwf⟩:=hrel;have Hq:=q0_ hq.out;have Hr:=q0_ hr.out;have Hk:=q0_ hk.out;have Hat:=q0_ hat.out;have Hwf:=q0_ hwf.out;have Hll:=q0_ hll;have HC:Hid (∀ W,Fr (fun i=>i=g) wr W→W.cell? ⟨cb,8,none⟩=some (.slice S j sc)):=fun W f=>(Hq.out.cb.fr f (fun e=>Hq.out.gc e.symm)).cell 8;clear hq hr hk hat hwf hll
    by_cases hlt:j<n2
    ·obtain⟨⟨t',v⟩,hsm⟩:∃ p,zai 1 t=p:=⟨_,rfl⟩
     have hv:zbh v:=by
      have:=zdm t;rw[hsm] at this;exact⟨by omega,by omega⟩
     have Hv:=q0_ hv;have HSm:=q0_ hsm;have l0:=HC.out wr.drew (Fr.refl _ wr).drew;clear hsm hv;go_wp2_with fail;refine wp_region_any (by kernel_rfl) ?_;change wpAny _ _ _ _ _ _ _ (World.drew _);refine nl 0 ?v6 rfl ?q6 ?r6
     case q6=>intro W;go_simp;try rfl
     refine nl 2 ?v7 rfl ?q7 ?r7
     case q7=>intro W;go_simp;try rfl
     try simp only[Act.put,sA,sB,sC]
     refine wpAny_ready (rs:=[1,3]) (by kernel_rfl) (by simp) ?_;refine AllReady.cons (dg rfl) (fun K hK=>?_) ?_
     ·go_simp
      refine hK _ _ ?_;clear hK K
      try simp only[Act.put,sA,sB,sC]
      refine rn 3 rfl (fun K hK=>?_);go_simp
      go_wp2_with (go_at_call 50;refine (zbt HSm.out (Hq.out.u.fr0 (Fr.refl _ wr).drew)).mono ?_;rintro r w6 ⟨rfl,u6,f6⟩;have hf6:Fr (fun i=>i=g) wr w6:=(Fr.refl _ wr).drew.trans f6 (fun _ h=>.inl h);have l1:=HC.out w6 hf6;have l1a:=fun o=>HC.out (w6.alloc o) (hf6.alloc o);try dsimp only)
      refine rn 4 rfl (fun K hK=>?_);go_simp;refine hK _ _ ?_;clear hK K
      try simp only[Act.put,sA,sB,sC]
      refine rn 5 rfl (fun K hK=>?_);rw[if_pos (by rfl)];have hr6:=zac (zaf Hr.out hf6 (fun k hk e=>by have:=(Hr.out.lt k hk).1;have:=Hm.out;omega)) (Fr.none_alloc w6 (.cells #[.int .i64 v] 3));refine zaU _ _ 52 rfl 3 i0 (.int .i64 0) 1 8 underlying52 hi hz0 hz1 hz2 rfl (by decide) (.slice S j sc) j _ rfl W11.heap.size (Nat.le_trans Hk.out.size (hf6.alloc _).size) hr6 (some ⟨w6.heap.size,0,none⟩) 1 1 [.int .i64 v] rfl (Rd.new w6 [.int .i64 v] _ 1 rfl) (by simp[Value.oneCell']) (by unfold maxLen;omega) (by omega) (fun B7 c7 w7 h7 m7 _=>?_);obtain⟨⟨l3,z3⟩,hz1',hz2',hz3'⟩:=Hq.out.grow Hr.out Hm.out (p:=8) rfl u6 hf6 h7 m7
      have Hz1:Hid (GA w (w7.setCell ⟨cb,8,none⟩ (.slice B7 (j+1) c7)) g cb t' #[.int .u64 gen,.int .u64 id,.int .i64 now,.string nm,.slice A n pc,.slice R n rc,.string nm2,.slice A2 n2 pc2,.slice B7 (j+1) c7,.int .i64 0,.int .i64 0,.slice none 0 0]):=by
       have:=hz1'
       show GA _ _ _ _ _ _
       simpa using this
      have Hz2:=q0_ hz2';have Hz3:=q0_ hz3';clear h7 m7 hz1' hz2' hz3' hr6;refine hK _ _ ?_;clear hK K;refine nl 6 ?v8 rfl ?q8 ?r8
      case q8=>intro W;go_simp;try rfl
      try simp only[Act.put,sA,sB,sC]
      refine rn 7 rfl (fun K hK=>?_);go_simp;refine hK _ _ ?_;clear hK K
      try simp only[Act.put,sA,sB,sC]
      refine wpAny_done (by kernel_rfl) ?_ _;clear l3 z3 l1 l1a u6 f6 hf6;go_wp2
      go_roundw
      case rel=>exact⟨j+1,B7,c7,L++[v],t',by go_num,by omega,by rw[q8_,List.length_singleton,Hll.out],Hz1.out,Hz2.out,Hk.out.trans Hz3.out (fun k hk=>by
       rcases hk with hk | hk
       ·exact .inl hk
       ·exact .inr (Hr.out.lt k hk).1),by
       have h:=Hat.out;rw[show n2-j=(n2-(j+1))+1 by omega] at h;have h2:=MAt.step h;rw[HSm.out] at h2
       exact h2,by
       intro y hy
       rcases List.mem_append.1 hy with hy | hy
       ·exact Hwf.out y hy
       ·rw[List.mem_singleton] at hy
        rw[hy]
        exact Hv.out⟩
      case measure=>simp[intOf];omega
     refine AllReady.cons (dg rfl) (fun K hK=>?_) ?_
     ·go_simp
      go_wp2_with (go_at_call 50;refine (zbt HSm.out (Hq.out.u.fr0 (Fr.refl _ wr).drew)).mono ?_;rintro r w6 ⟨rfl,u6,f6⟩;have hf6:Fr (fun i=>i=g) wr w6:=(Fr.refl _ wr).drew.trans f6 (fun _ h=>.inl h);have l1:=HC.out w6 hf6;have l1a:=fun o=>HC.out (w6.alloc o) (hf6.alloc o);try dsimp only)
      try simp only[Act.put,sA,sB,sC]
      refine wpAny_ready (rs:=[1,4]) (by kernel_rfl) (by simp) ?_;refine AllReady.cons (dg rfl) (fun K hK=>?_) ?_
      ·go_simp
       refine hK _ _ ?_;clear hK K
       try simp only[Act.put,sA,sB,sC]
       refine rn 4 rfl (fun K hK=>?_);go_simp;refine hK _ _ ?_;clear hK K
       try simp only[Act.put,sA,sB,sC]
       refine rn 5 rfl (fun K hK=>?_);rw[if_pos (by rfl)];have hr6:=zac (zaf Hr.out hf6 (fun k hk e=>by have:=(Hr.out.lt k hk).1;have:=Hm.out;omega)) (Fr.none_alloc w6 (.cells #[.int .i64 v] 3));refine zaU _ _ 52 rfl 3 i0 (.int .i64 0) 1 8 underlying52 hi hz0 hz1 hz2 rfl (by decide) (.slice S j sc) j _ rfl W11.heap.size (Nat.le_trans Hk.out.size (hf6.alloc _).size) hr6 (some ⟨w6.heap.size,0,none⟩) 1 1 [.int .i64 v] rfl (Rd.new w6 [.int .i64 v] _ 1 rfl) (by simp[Value.oneCell']) (by unfold maxLen;omega) (by omega) (fun B7 c7 w7 h7 m7 _=>?_);obtain⟨⟨l3,z3⟩,hz1',hz2',hz3'⟩:=Hq.out.grow Hr.out Hm.out (p:=8) rfl u6 hf6 h7 m7
       have Hz1:Hid (GA w (w7.setCell ⟨cb,8,none⟩ (.slice B7 (j+1) c7)) g cb t' #[.int .u64 gen,.int .u64 id,.int .i64 now,.string nm,.slice A n pc,.slice R n rc,.string nm2,.slice A2 n2 pc2,.slice B7 (j+1) c7,.int .i64 0,.int .i64 0,.slice none 0 0]):=by
        have:=hz1'
        show GA _ _ _ _ _ _
        simpa using this
       have Hz2:=q0_ hz2';have Hz3:=q0_ hz3';clear h7 m7 hz1' hz2' hz3' hr6;refine hK _ _ ?_;clear hK K;refine nl 6 ?v9 rfl ?q9 ?r9
       case q9=>intro W;go_simp;try rfl
       try simp only[Act.put,sA,sB,sC]
       refine rn 7 rfl (fun K hK=>?_);go_simp;refine hK _ _ ?_;clear hK K
       try simp only[Act.put,sA,sB,sC]
       refine wpAny_done (by kernel_rfl) ?_ _;clear l3 z3 l1 l1a u6 f6 hf6;go_wp2
       go_roundw
       case rel=>exact⟨j+1,B7,c7,L++[v],t',by go_num,by omega,by rw[q8_,List.length_singleton,Hll.out],Hz1.out,Hz2.out,Hk.out.trans Hz3.out (fun k hk=>by
        rcases hk with hk | hk
        ·exact .inl hk
        ·exact .inr (Hr.out.lt k hk).1),by
        have h:=Hat.out;rw[show n2-j=(n2-(j+1))+1 by omega] at h;have h2:=MAt.step h;rw[HSm.out] at h2
        exact h2,by
        intro y hy
        rcases List.mem_append.1 hy with hy | hy
        ·exact Hwf.out y hy
        ·rw[List.mem_singleton] at hy
         rw[hy]
         exact Hv.out⟩
       case measure=>simp[intOf];omega
      refine AllReady.cons (dg rfl) (fun K hK=>?_) ?_
      ·go_simp
       refine hK _ _ ?_;clear hK K
       try simp only[Act.put,sA,sB,sC]
       refine rn 1 rfl (fun K hK=>?_);go_simp;refine hK _ _ ?_;clear hK K
       try simp only[Act.put,sA,sB,sC]
       refine rn 5 rfl (fun K hK=>?_);rw[if_pos (by rfl)];have hr6:=zac (zaf Hr.out hf6 (fun k hk e=>by have:=(Hr.out.lt k hk).1;have:=Hm.out;omega)) (Fr.none_alloc w6 (.cells #[.int .i64 v] 3));refine zaU _ _ 52 rfl 3 i0 (.int .i64 0) 1 8 underlying52 hi hz0 hz1 hz2 rfl (by decide) (.slice S j sc) j _ rfl W11.heap.size (Nat.le_trans Hk.out.size (hf6.alloc _).size) hr6 (some ⟨w6.heap.size,0,none⟩) 1 1 [.int .i64 v] rfl (Rd.new w6 [.int .i64 v] _ 1 rfl) (by simp[Value.oneCell']) (by unfold maxLen;omega) (by omega) (fun B7 c7 w7 h7 m7 _=>?_);obtain⟨⟨l3,z3⟩,hz1',hz2',hz3'⟩:=Hq.out.grow Hr.out Hm.out (p:=8) rfl u6 hf6 h7 m7
       have Hz1:Hid (GA w (w7.setCell ⟨cb,8,none⟩ (.slice B7 (j+1) c7)) g cb t' #[.int .u64 gen,.int .u64 id,.int .i64 now,.string nm,.slice A n pc,.slice R n rc,.string nm2,.slice A2 n2 pc2,.slice B7 (j+1) c7,.int .i64 0,.int .i64 0,.slice none 0 0]):=by
        have:=hz1'
        show GA _ _ _ _ _ _
        simpa using this
       have Hz2:=q0_ hz2';have Hz3:=q0_ hz3';clear h7 m7 hz1' hz2' hz3' hr6;refine hK _ _ ?_;clear hK K;refine nl 6 ?v10 rfl ?q10 ?r10
       case q10=>intro W;go_simp;try rfl
       try simp only[Act.put,sA,sB,sC]
       refine rn 7 rfl (fun K hK=>?_);go_simp;refine hK _ _ ?_;clear hK K
       try simp only[Act.put,sA,sB,sC]
       refine wpAny_done (by kernel_rfl) ?_ _;clear l3 z3 l1 l1a u6 f6 hf6;go_wp2
       go_roundw
       case rel=>exact⟨j+1,B7,c7,L++[v],t',by go_num,by omega,by rw[q8_,List.length_singleton,Hll.out],Hz1.out,Hz2.out,Hk.out.trans Hz3.out (fun k hk=>by
        rcases hk with hk | hk
        ·exact .inl hk
        ·exact .inr (Hr.out.lt k hk).1),by
        have h:=Hat.out;rw[show n2-j=(n2-(j+1))+1 by omega] at h;have h2:=MAt.step h;rw[HSm.out] at h2
        exact h2,by
        intro y hy
        rcases List.mem_append.1 hy with hy | hy
        ·exact Hwf.out y hy
        ·rw[List.mem_singleton] at hy
         rw[hy]
         exact Hv.out⟩
       case measure=>simp[intOf];omega
      exact AllReady.nil
     exact AllReady.nil
    ·obtain rfl:n2=j:=by omega
     have HO:Hid (O6=(t,L)):=by
      have h:=Hat.out;rw[Nat.sub_self] at h;exact h.end_
     clear hlt hj HC Hat
     have HK12:Hid (∀ W,Fr (fun i=>(i=g∨i=cb)∨i=w.heap.size) wr W→W.ownsRow (w.heap.size+1) 130 4 (.slice A n pc) n (zah pl)∧W.ownsRow W7.heap.size 3 1 (.slice R n rc) n (zbg fl)∧W.ownsRow W7.heap.size 130 4 (.slice A2 n2 pc2) n2 (zah pl2)∧W.ownsRow W11.heap.size 3 1 (.slice S n2 sc) n2 (zbg L)):=fun W f=>by
      obtain⟨a,b,c⟩:=HK11.out W ((Hk.out.mono (G:=(fun i=>(i=g∨i=cb)∨i=w.heap.size)) (fun k hk=>.inl (.inl hk))).trans f (fun k hk=>.inl hk));exact⟨a,b,c,zaf Hr.out f (fun j hj hF=>by have h1:=(Hr.out.lt j hj).1;have h2:=Hm.out;omega)⟩
     have HO6':Hid (zbX (zai 1) n2 s6=(t,L)):=by show _=_;rw[HO6e.out,HO.out]
     obtain⟨s7,hs7⟩:∃ s,s=t:=⟨_,rfl⟩
     obtain⟨src,hsrc⟩:∃ l,l=L:=⟨_,rfl⟩
     rw[← hs7] at Hq HO6';rw[← hsrc] at HK12 HO6' Hll Hwf;have H12:=q0_ Hq.out;have Hwsl:=q0_ Hwf.out;have Hsll:=q0_ Hll.out
     have Hms:Hid (W7.heap.size≤W11.heap.size∧W11.heap.size≤wr.heap.size):=⟨HW711.out,Hk.out.size⟩
     obtain⟨W12,hW12⟩:∃ W,W=wr:=⟨_,rfl⟩
     rw[← hW12] at H12 HK12 Hms ⊢;clear hs7 hsrc hW12 Hq Hr Hwf Hll HO Hk HK11 H11 Hm
     obtain⟨⟨s8,bound⟩,h8⟩:∃ p,ze4 s7=p:=⟨_,rfl⟩
     obtain⟨⟨s9,done⟩,h9⟩:∃ p,ze4 s8=p:=⟨_,rfl⟩
     have v8:=zfX s7;have v9:=zfX s8;rw[h8] at v8;rw[h9] at v9;have HV8:=q0_ v8;have HV9:=q0_ v9;have HX8:=q0_ h8;have HX9:=q0_ h9;clear h8 h9 v8 v9;go_wp2_with fail;refine (zdF HX8.out H12.out.u).mono ?_;rintro r w13 ⟨rfl,uu,ff⟩;have H13:=q0_ (H12.out.read uu ff);have FH13:=q0_ ff;clear uu ff;go_wp2_with fail;refine (zdF HX9.out H13.out.u).mono ?_;rintro r w14 ⟨rfl,uu,ff⟩;have H14:=q0_ (H13.out.read uu ff);have FH14:=q0_ ff;clear uu ff;have c9:w14.cell? ⟨cb,9,none⟩=some (.int .i64 0):=H14.out.cb.cell 9;have c10:w14.cell? ⟨cb,10,none⟩=some (.int .i64 0):=H14.out.cb.cell 10;have q9:=H14.out.cb.frozen 9;have q10:=H14.out.cb.frozen 10;have H15':=(H14.out.set_ 9 (.int .i64 bound)).set_ 10 (.int .i64 done);have f15:Fr (fun i=>i=cb) w14 ((w14.setCell ⟨cb,9,none⟩ (.int .i64 bound)).setCell ⟨cb,10,none⟩ (.int .i64 done)):=((Fr.refl (fun i=>i=cb) w14).setCell (p:=⟨cb,9,none⟩) (.inl rfl) _).setCell (p:=⟨cb,10,none⟩) (.inl rfl) _
     go_upto_region 21 with fail
     obtain⟨W13,hW13⟩:∃ W,W=(w14.setCell ⟨cb,9,none⟩ (.int .i64 bound)).setCell ⟨cb,10,none⟩ (.int .i64 done):=⟨_,rfl⟩
     rw[← hW13] at H15' f15 ⊢
     have H15a:Hid (GA w W13 g cb s9 #[.int .u64 gen,.int .u64 id,.int .i64 now,.string nm,.slice A n pc,.slice R n rc,.string nm2,.slice A2 n2 pc2,.slice S n2 sc,.int .i64 bound,.int .i64 done,.slice none 0 0]):=by
      have:=H15'
      show GA _ _ _ _ _ _
      simpa using this
     have F13:Hid (Fr (fun i=>(i=g∨i=cb)∨i=w.heap.size) W12 W13):=((FH13.out.mono (G:=(fun i=>(i=g∨i=cb)∨i=w.heap.size)) (fun k hk=>.inl (.inl (.inl hk)))).trans (FH14.out.mono (G:=(fun i=>(i=g∨i=cb)∨i=w.heap.size)) (fun k hk=>.inl (.inl (.inl hk)))) (fun k hk=>.inl hk)).trans f15 (fun k hk=>.inl (.inl (.inr hk)));clear c9 c10 q9 q10 H15' f15 hW13 H12 H13 H14 FH13 FH14;go_wp2_with fail;refine (zjM g s9 W13 H15a.out.u).mono ?_;rintro r w15 ⟨es,E,en,ec,rfl,hes,hel,hep,u15,f15⟩;have H15b:=q0_ (H15a.out.read u15 f15);have c11:w15.cell? ⟨cb,11,none⟩=some (.slice none 0 0):=H15b.out.cb.cell 11;have q11:=H15b.out.cb.frozen 11;have H15':=H15b.out.set_ 11 (.slice E en ec);have f15b:Fr (fun i=>i=cb) w15 (w15.setCell ⟨cb,11,none⟩ (.slice E en ec)):=(Fr.refl (fun i=>i=cb) w15).setCell (p:=⟨cb,11,none⟩) (.inl rfl) _;have Hep:=q0_ hep
     go_upto_region 22 with fail
     obtain⟨W15,hW15⟩:∃ W,W=w15.setCell ⟨cb,11,none⟩ (.slice E en ec):=⟨_,rfl⟩
     rw[← hW15] at H15' f15b ⊢
     have H15:Hid (GA w W15 g cb (zfk s9).1 #[.int .u64 gen,.int .u64 id,.int .i64 now,.string nm,.slice A n pc,.slice R n rc,.string nm2,.slice A2 n2 pc2,.slice S n2 sc,.int .i64 bound,.int .i64 done,.slice E en ec]):=by
      have:=H15'
      show GA _ _ _ _ _ _
      simpa using this
     have HGot:Hid (zl_ W15 (w.heap.size+1) ⟨gen,id,now,nm,pl,fl,nm2,pl2,src,bound,done,es⟩ ⟨A,n,pc,R,n,rc,A2,n2,pc2,S,n2,sc,E,en,ec⟩):=by
      have h12:=H15a.out.lt;obtain⟨a,b_,c,d⟩:=HK12.out W15 ((F13.out.trans (f15.mono (G:=(fun i=>(i=g∨i=cb)∨i=w.heap.size)) (fun k hk=>.inl (.inl (.inl hk)))) (fun k hk=>.inl hk)).trans f15b (fun k hk=>.inl (.inl (.inr hk))))
      have hE:=(hes.fr f15b (fun k hk e=>zad hes.row H15b.out.cb (by decide) (by rw[← e];exact hk)) (fun x hx k hk e=>zad (hes.own x hx) H15b.out.cb (by decide) (by rw[← e];exact hk)))
      have m7:=Hm7.out;have ms:=Hms.out;have m13:=F13.out.size;refine⟨HVg.out,HVi.out,HVn.out,HV8.out,HV9.out,HPs1.out.1,HPs.out.1,a,zaT c (by omega),zaT b_ (by omega),zaT d (by omega),hE.le (by omega),Hn.out,Hfll.out,Hn2.out,Hsll.out,hel,HPs1.out.2.1,HPs.out.2.1,Hwfl.out,Hwsl.out,fun k h1 h2=>?_,fun x hx k h1 h2=>?_,fun x hx k h1 h2=>?_,fun k h1 h2=>?_⟩
      ·have:=HRl.out k h1
       have:=(d.lt k h2).1;omega
      ·have:=HRl.out k h1
       have:=(hE.own x hx).lt k h2;have:W13.heap.size≤k:=this.1;omega
      ·have h3:=((HK12.out W12 (Fr.refl _ _)).2.2.2.lt k h1).2
       have:=(hE.own x hx).lt k h2;have:W13.heap.size≤k:=this.1;omega
      ·have:=HAl.out k h1
       have:=(c.lt k h2).1;omega
     obtain⟨s10,hs10⟩:∃ s,(zfk s9).1=s:=⟨_,rfl⟩
     rw[hs10] at H15
     have HRE:Hid (zcI ⟨0,b⟩=(s10,(e1,e2,zfH.p ⟨gen,id,now,nm,pl,fl,nm2,pl2,src,bound,done,es⟩))):=by
      show _=_
      rw[zp0 HA.out HB.out HC0.out HD.out HV1.out (show zbX ze4 pl.length s4=(s5,fl) by rw[Hn.out];exact HO5'.out) HTx.out HP2.out (show zbX (zai 1) pl2.length s6=(s7,src) by rw[Hn2.out];exact HO6'.out) HX8.out HX9.out (show zfk s9=(s10,es.map zdg.p) by rw[hep, ← hs10])]
      rfl
     have HES:Hid (s10.e=0→e1=0∧e2=0):=fun h=>by
      have z9:s9.e=0:=zbK.ents.e (show zfk s9=(s10,(zfk s9).2) by rw[← hs10]) h;have z6:s6.e=0:=(zbK.many (zbK.small zkW) n2).e HO6'.out (zbK.int.e HX8.out (zbK.int.e HX9.out z9));have z5:s5.e=0:=zbK.text.e HTx.out z6;exact⟨Hc1.out.resolve_right (fun h=>h z5),Hc2.out.resolve_right (fun h=>h z6)⟩
     clear hs10 hes hel hep u15 f15 f15b hW15 c11 q11 H15' H15a H15b F13 HK12 Hep
     by_cases he:s10.e=0
     rotate_left
     ·have he2:(s10.e != 0)=true:=by simpa using he
      have HE2:=q0_ he;have HNo:Hid (∀ q,¬ zlF b q):=fun q hq=>HE2.out (by have:=hq.1;rw[HRE.out] at this;exact this);clear he;go_wp2_with fail;refine (zfI H15.out.u).mono ?_;rintro r w16 ⟨rfl,rfl⟩;obtain⟨W9,_,hsa,_,B9,F9⟩:=zc1 (P:=prog) H15.out.rb #[.int .u64 0,.int .u64 0,.int .i64 0,.string {data:=#[]},.slice none 0 0,.slice none 0 0,.string {data:=#[]},.slice none 0 0,.slice none 0 0,.int .i64 0,.int .i64 0,.slice none 0 0] 12 rfl rfl (by simp[Value.oneCell']) zbG;have HLR:=q0_ (zdp (P:=prog) B9 12 rfl underlying55 zbG);have HSA:=q0_ hsa;have HF9:=q0_ F9;have HB9:=q0_ B9;clear F9 B9 hsa
      go_wp2_with (first | (with_reducible refine zbi rfl _ _ 55 rfl w.heap.size #[.int .u64 0,.int .u64 0,.int .i64 0,.string {data:=#[]},.slice none 0 0,.slice none 0 0,.string {data:=#[]},.slice none 0 0,.slice none 0 0,.int .i64 0,.int .i64 0,.slice none 0 0] W9 (by kernel_rfl) (by kernel_rfl) HSA.out ?_) | (with_reducible refine zbx rfl 55 rfl _ (zd6 _) ?_) | ((try simp only[Exit.inBlock,Exit.then]);with_reducible refine zbT (p:=2) (t:=55) (u:=3) (by kernel_rfl) w.heap.size #[.int .u64 0,.int .u64 0,.int .i64 0,.string {data:=#[]},.slice none 0 0,.slice none 0 0,.string {data:=#[]},.slice none 0 0,.slice none 0 0,.int .i64 0,.int .i64 0,.slice none 0 0] (.int .i64 (s10.e)) (by kernel_rfl) (by kernel_rfl) HLR.out.2.2 (by kernel_rfl) ?_;exact⟨.inr ⟨s10.e,HE2.out,rfl,HNo.out⟩,((H15.out.fr.trans HF9.out (fun k hk=>.inr (by omega)))).below q4_⟩))
     have he2:(s10.e != 0)=false:=by simpa using he
     have HZe:=q0_ he;clear he;go_wp2_with fail;refine (zfI H15.out.u).mono ?_;rintro r w16 ⟨rfl,rfl⟩;have HCin:Hid (zex W15 ⟨gen,id,now,nm,pl,fl,nm2,pl2,src,bound,done,es⟩ ⟨A,n,pc,R,n,rc,A2,n2,pc2,S,n2,sc,E,en,ec⟩):=HGot.out.cin;have HT15:Hid (Tab W15):=htab.out.below (H15.out.fr.below q4_);have HPut:=q0_ (zlN HCin.out HT15.out);dsimp only at HPut;have x0:W15.cell? ⟨cb,0,none⟩=some (.int .u64 gen):=H15.out.cb.cell 0;have x1:W15.cell? ⟨cb,1,none⟩=some (.int .u64 id):=H15.out.cb.cell 1;have x2:W15.cell? ⟨cb,2,none⟩=some (.int .i64 now):=H15.out.cb.cell 2;have x3:W15.cell? ⟨cb,3,none⟩=some (.string nm):=H15.out.cb.cell 3;have x4:W15.cell? ⟨cb,4,none⟩=some (.slice A n pc):=H15.out.cb.cell 4;have x5:W15.cell? ⟨cb,5,none⟩=some (.slice R n rc):=H15.out.cb.cell 5;have x6:W15.cell? ⟨cb,6,none⟩=some (.string nm2):=H15.out.cb.cell 6;have x7:W15.cell? ⟨cb,7,none⟩=some (.slice A2 n2 pc2):=H15.out.cb.cell 7;have x8:W15.cell? ⟨cb,8,none⟩=some (.slice S n2 sc):=H15.out.cb.cell 8;have x9:W15.cell? ⟨cb,9,none⟩=some (.int .i64 bound):=H15.out.cb.cell 9;have x10:W15.cell? ⟨cb,10,none⟩=some (.int .i64 done):=H15.out.cb.cell 10;have x11:W15.cell? ⟨cb,11,none⟩=some (.slice E en ec):=H15.out.cb.cell 11;go_wp2_with fail;refine (show Calls _ _ _ _ _ from HPut.out).mono ?_;rintro r w17 ⟨rfl,b17⟩;have H17:=q0_ (H15.out.fr0 (Fr.b0 b17));have F17:=q0_ (Fr.b0 b17);clear b17 x0 x1 x2 x3 x4 x5 x6 x7 x8 x9 x10 x11
     obtain⟨⟨pt,pe⟩,hpv⟩:∃ p,zok ⟨gen,id,now,nm,pl,fl,nm2,pl2,src,bound,done,es⟩=p:=⟨_,rfl⟩
     rw[hpv];have HPV:=q0_ hpv;clear hpv;dsimp only;have HMain:=q0_ (zqq HRE.out HZe.out (HES.out HZe.out) HPV.out)
     by_cases hp0:pe=0
     rotate_left
     ·have hp2:(pe != 0)=true:=by simpa using hp0
      have HNo:Hid (∀ q,¬ zlF b q):=fun q hq=>hp0 (HMain.out.1 q hq).1;clear hp0;obtain⟨W9,_,hsa,_,B9,F9⟩:=zc1 (P:=prog) H17.out.rb #[.int .u64 0,.int .u64 0,.int .i64 0,.string {data:=#[]},.slice none 0 0,.slice none 0 0,.string {data:=#[]},.slice none 0 0,.slice none 0 0,.int .i64 0,.int .i64 0,.slice none 0 0] 12 rfl rfl (by simp[Value.oneCell']) zbG;have HLR:=q0_ (zdp (P:=prog) B9 12 rfl underlying55 zbG);have HSA:=q0_ hsa;have HF9:=q0_ F9;have HB9:=q0_ B9;clear F9 B9 hsa
      go_wp2_with (first | (with_reducible refine zbi rfl _ _ 55 rfl w.heap.size #[.int .u64 0,.int .u64 0,.int .i64 0,.string {data:=#[]},.slice none 0 0,.slice none 0 0,.string {data:=#[]},.slice none 0 0,.slice none 0 0,.int .i64 0,.int .i64 0,.slice none 0 0] W9 (by kernel_rfl) (by kernel_rfl) HSA.out ?_) | (with_reducible refine zbx rfl 55 rfl _ (zd6 _) ?_) | ((try simp only[Exit.inBlock,Exit.then]);with_reducible refine zbT (p:=2) (t:=55) (u:=3) (by kernel_rfl) w.heap.size #[.int .u64 0,.int .u64 0,.int .i64 0,.string {data:=#[]},.slice none 0 0,.slice none 0 0,.string {data:=#[]},.slice none 0 0,.slice none 0 0,.int .i64 0,.int .i64 0,.slice none 0 0] (.int .i64 (6)) (by kernel_rfl) (by kernel_rfl) HLR.out.2.2 (by kernel_rfl) ?_;exact⟨.inr ⟨6,by decide,rfl,HNo.out⟩,((H17.out.fr.trans HF9.out (fun k hk=>.inr (by omega)))).below q4_⟩))
     have hp2:(pe != 0)=false:=by simpa using hp0
     have HP0:=q0_ hp0;clear hp0
     by_cases hpb:pt=zal b
     rotate_left
     ·have hpb2:(pt.toList==(zal b).toList)=false:=beq_eq_false_iff_ne.2 (fun h=>hpb (toList_inj h))
      have hpb3:(pt.toList != (zal b).toList)=true:=by simpa using hpb2
      have hpb4:¬ pt.toList=(zal b).toList:=fun h=>hpb (toList_inj h);have HNo:Hid (∀ q,¬ zlF b q):=fun q hq=>hpb (HMain.out.1 q hq).2;clear hpb;obtain⟨W9,_,hsa,_,B9,F9⟩:=zc1 (P:=prog) H17.out.rb #[.int .u64 0,.int .u64 0,.int .i64 0,.string {data:=#[]},.slice none 0 0,.slice none 0 0,.string {data:=#[]},.slice none 0 0,.slice none 0 0,.int .i64 0,.int .i64 0,.slice none 0 0] 12 rfl rfl (by simp[Value.oneCell']) zbG;have HLR:=q0_ (zdp (P:=prog) B9 12 rfl underlying55 zbG);have HSA:=q0_ hsa;have HF9:=q0_ F9;have HB9:=q0_ B9;clear F9 B9 hsa
      go_wp2_with (first | (with_reducible refine zbi rfl _ _ 55 rfl w.heap.size #[.int .u64 0,.int .u64 0,.int .i64 0,.string {data:=#[]},.slice none 0 0,.slice none 0 0,.string {data:=#[]},.slice none 0 0,.slice none 0 0,.int .i64 0,.int .i64 0,.slice none 0 0] W9 (by kernel_rfl) (by kernel_rfl) HSA.out ?_) | (with_reducible refine zbx rfl 55 rfl _ (zd6 _) ?_) | ((try simp only[Exit.inBlock,Exit.then]);with_reducible refine zbT (p:=2) (t:=55) (u:=3) (by kernel_rfl) w.heap.size #[.int .u64 0,.int .u64 0,.int .i64 0,.string {data:=#[]},.slice none 0 0,.slice none 0 0,.string {data:=#[]},.slice none 0 0,.slice none 0 0,.int .i64 0,.int .i64 0,.slice none 0 0] (.int .i64 (6)) (by kernel_rfl) (by kernel_rfl) HLR.out.2.2 (by kernel_rfl) ?_;exact⟨.inr ⟨6,by decide,rfl,HNo.out⟩,((H17.out.fr.trans HF9.out (fun k hk=>.inr (by omega)))).below q4_⟩))
     have hpb2:(pt.toList==(zal b).toList)=true:=by rw[hpb];exact beq_self_eq_true _
     have hpb3:(pt.toList != (zal b).toList)=false:=by simpa using hpb2
     have hpb4:pt.toList=(zal b).toList:=by rw[hpb]
     have HGB:=q0_ (HMain.out.2 HP0.out hpb);clear hpb;have HLC:=q0_ (zdp (P:=prog) H17.out.cb 12 rfl underlying55 zbG);obtain⟨W9,_,hsa,_,B9,F9⟩:=zc1 (P:=prog) H17.out.rb #[.int .u64 gen,.int .u64 id,.int .i64 now,.string nm,.slice A n pc,.slice R n rc,.string nm2,.slice A2 n2 pc2,.slice S n2 sc,.int .i64 bound,.int .i64 done,.slice E en ec] 12 rfl rfl (by simp[Value.oneCell']) zbG;have HLR:=q0_ (zdp (P:=prog) B9 12 rfl underlying55 zbG);have HSA:=q0_ hsa;have HF9:=q0_ F9;have HB9:=q0_ B9;clear F9 B9 hsa
     go_wp2_with (first | (with_reducible refine zbi rfl _ _ 55 rfl w.heap.size #[.int .u64 gen,.int .u64 id,.int .i64 now,.string nm,.slice A n pc,.slice R n rc,.string nm2,.slice A2 n2 pc2,.slice S n2 sc,.int .i64 bound,.int .i64 done,.slice E en ec] W9 (by kernel_rfl) (by kernel_rfl) HSA.out ?_) | (with_reducible refine zbx rfl 55 rfl _ (zd6 _) ?_) | (with_reducible refine zg9 rfl _ 55 rfl cb #[.int .u64 gen,.int .u64 id,.int .i64 now,.string nm,.slice A n pc,.slice R n rc,.string nm2,.slice A2 n2 pc2,.slice S n2 sc,.int .i64 bound,.int .i64 done,.slice E en ec] (by kernel_rfl) HLC.out.2.1 ?_) | ((try simp only[Exit.inBlock,Exit.then]);with_reducible refine zbT (p:=2) (t:=55) (u:=3) (by kernel_rfl) w.heap.size #[.int .u64 gen,.int .u64 id,.int .i64 now,.string nm,.slice A n pc,.slice R n rc,.string nm2,.slice A2 n2 pc2,.slice S n2 sc,.int .i64 bound,.int .i64 done,.slice E en ec] (.int .i64 (0)) (by kernel_rfl) (by kernel_rfl) HLR.out.2.2 (by kernel_rfl) ?_;exact⟨.inl ⟨_,_,rfl,(HGot.out.fr F17.out (fun _ _ h=>h)).fr HF9.out (fun k hk e=>by omega),HGB.out⟩,((H17.out.fr.trans HF9.out (fun k hk=>.inr (by omega)))).below q4_⟩))
end Go.Proofs.YtjhhodndlkpmhaaGreatDoor
