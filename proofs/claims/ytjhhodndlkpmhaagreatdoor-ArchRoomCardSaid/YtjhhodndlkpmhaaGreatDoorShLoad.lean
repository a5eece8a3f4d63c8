/- Walk of shadow: Fits. -/
import Derived.Test.YtjhhodndlkpmhaaGreatDoorTioR
import Derived.Test.YtjhhodndlkpmhaaGreatDoorRefMerge
import Derived.Test.YtjhhodndlkpmhaaGreatDoorCatK
namespace Go.Proofs.YtjhhodndlkpmhaaGreatDoor
set_option linter.all false
set_option maxHeartbeats 8000000
set_option maxRecDepth 100000
open Go.RowKit Tryz
theorem zn7{nm nm2 : ByteArray}{l lt : List za_}{fl : List Int}{o : Int}{lo : Nat}{W : World}{t s base : Nat}{X : zaa}{S : ShX}{Ft F : Nat → Prop}{cc : Nat}(p : zb_ nm l)(p2 : zb_ nm2 lt)(hnm2 : nm2.size ≤ maxLen)(h : Tio nm l fl lo W t X Ft cc)(hc : cc ≤ 1000000)(hfl : ∀ f ∈ fl, 0 ≤ f ∧ f ≤ 2199023255552)(hs : ze5 W s base S F)(h1 : S.name = nm2)(h2 : S.tiers = lt)(h3 : S.srcs = srcs o l fl lt) :
    Calls prog 44 #[.pointer (some ⟨s,0,none⟩),.pointer (some ⟨t,0,none⟩)] W fun r w'=>r=.returned (.bool (decide (((zaB (zap X nm2 lt (srcs o l fl lt)):Nat):Int)≤S.bound)))∧Below W.heap.size W w':=by
  obtain⟨A,c,B,d,T,ct,tb,hi,rfl⟩:=hs
  obtain⟨n,hn0⟩:∃ n,lt.length=n:=⟨_,rfl⟩
  have hSn:S.tiers.length=n:=by rw[h2,hn0]
  have hSm:S.srcs.length=n:=by rw[h3];unfold srcs;rw[List.length_map,hn0]
  have hfive:=p2.five;have HI:=q0_ hi
  have htc:n≤c:=by have:=(zat hi.tiers).1;omega
  have HBu:Hid (Calls prog 85 #[.agg #[.string nm2,.slice A n c,.slice B n d],.pointer (some ⟨t,0,none⟩)] W fun r w'=>(∃ t' F',r=.returned (.tuple #[.pointer (some ⟨t',0,none⟩),.int .i64 0])∧Tio nm2 lt (zaR X.now l fl (srcs o l fl lt) lt) W.heap.size w' t' (zap X nm2 lt (srcs o l fl lt)) F' cc∧∀ j,F' j→W.heap.size≤j)∧Below W.heap.size W w'):=by
    have q1:=(zat HI.out.tiers).2.2.1;have q2:=(zat HI.out.srcs).2.2.1;rw[hSn,h2] at q1;rw[hSm,h3] at q2;exact zgg p p2 hnm2 h hc hfl A n c B d q1 htc q2 W.heap.size (Nat.le_refl _)
  obtain⟨c0,c1,c2,c3,_,_⟩:=hi.cells (Fr.refl (fun _=>False) W) (fun h=>h);rw[h1] at c0;rw[hSn] at c1;rw[hSm] at c2;have HC3:Hid (∀ W',Fr (fun _=>False) W W'→W'.cell? ⟨s,3,none⟩=some (.int .i64 S.bound)):=fun W' f=>f.cell c3 (fun h=>h)
  obtain⟨bs,hbs⟩:∃ v,zaR X.now l fl (srcs o l fl lt) lt=v:=⟨_,rfl⟩
  obtain⟨Y,hY⟩:∃ v,zap X nm2 lt (srcs o l fl lt)=v:=⟨_,rfl⟩
  rw[hbs,hY] at HBu;rw[hY]
  obtain⟨bd,hbd⟩:∃ v,S.bound=v:=⟨_,rfl⟩
  rw[hbd] at HC3 ⊢
  obtain⟨N,hN⟩:∃ v,zaB Y=v:=⟨_,rfl⟩
  have HN:=q0_ hN;rw[hN]
  obtain⟨bb,hbb⟩:∃ b,decide (((N:Nat):Int)≤bd)=b:=⟨_,rfl⟩
  rw[hbb];clear hi hSn hSm hn0 hbs hY h1 h2 h3 h hbd hN c3;go_enter func44,ntmps44;go_wp2_with fail;refine HBu.out.mono ?_;rintro r w1 ⟨⟨u,Fu,rfl,T1,_⟩,b1⟩;have F1:Hid (Fr (fun _=>False) W w1):=Fr.b0 b1;have HT1:=q0_ T1
  have HNe:Hid (∀ W',Fr (fun _=>False) w1 W'→Calls prog 35 #[.pointer (some ⟨u,0,none⟩)] W' fun r w'=>r=.returned (.int .i64 (N:Nat))∧Below W'.heap.size W' w'):=fun W' f=>by
    have:=zh7 p2 (HT1.out.fr0 f) hc;rw[HN.out] at this;exact this
  have HC1:Hid (∀ W',Fr (fun _=>False) w1 W'→W'.cell? ⟨s,3,none⟩=some (.int .i64 bd)):=fun W' f=>HC3.out W' (F1.out.trans f q4_);clear T1 b1 HBu c0 c1 c2;go_wp2_with fail;refine wp_region_held_drew (S:=fun W_=>Fr (fun _=>False) w1 W_) (by kernel_rfl) ((Fr.refl _ w1).drew) (fun hY_=>?_);refine tq 8 [0,1,2,3,5,6,7,8] ?_
  iterate 2 refine sf HC1.out ?_
  iterate 6 (refine sf HC1.out ?_;try simp only[Act.put,sA,sB,sC])
  refine sz ?_
  try simp only[Act.put,sA,sB,sC]
  refine rl 4 rfl (fun K hK=>?_);go_simp
  go_wp2_with (go_at_call 35;refine (HNe.out _ hY_).mono ?_;rintro r wa ⟨rfl,ba⟩)
  refine hK.out _ _ (hY_.trans (Fr.b0 ba) q4_) (fun hY_=>?_);clear hK K
  try simp only[Act.put,sA,sB,sC]
  refine tq 3 [9,10,11] ?_
  iterate 2 refine sf HC1.out ?_
  refine sf HC1.out ?_
  try simp only[Act.put,sA,sB,sC]
  refine sz ?_
  try simp only[Act.put,sA,sB,sC]
  refine wpAnyH_done (by kernel_rfl) ?_ _;have Fl:Hid (Fr (fun _=>False) w1 wa):=hY_;clear hY_ ba;go_wp2;go_ret;exact⟨by first | rfl | simp[hbb],(F1.out.trans Fl.out q4_).below q4_⟩
def zrm(lt:List za_)(bound done:Int):Prop:=zcz lt≠0∧0≤bound∧0≤done∧done<zcz lt
theorem zfp{w:World}{base b n size:Nat}{e ty:TypeId}{v:Value}{xs:List Value}{cs:Array Value}(h:w.ownsRow base e size v n xs)(hb:Blk w b ty cs)(hne:e≠ty):∀ j,zaE v j→¬ j=b:=fun j hj e'=>zad h hb hne (by rw[← e'];exact hj)
theorem zmq(nm : ByteArray)(lt : List za_)(A : Option Addr)(n c : Nat)(ss : List Int)(S : Option Addr)(m d : Nat)(bound done : Int)(w : World)(hr : Rd w 4 A n (zah lt))(hn : n ≤ 1099511627776)(hs8 : ∀ t ∈ lt, t.shards ≤ 8)(hev : ∀ t ∈ lt, 1 ≤ t.every)(hf : Rd w 1 S m (zbg ss))(hm : m ≤ 1099511627776) :
    Calls prog 104 #[.agg #[.string nm,.slice A n c,.slice S m d],.int .i64 bound,.int .i64 done] w fun r w'=>((zrm lt bound done→∃ t,r=.returned (.tuple #[.pointer (some ⟨t,0,none⟩),.int .i64 0])∧zj7 w' t w.heap.size (⟨nm,lt,ss,bound,done,lt.map fun _=>[]⟩:ShX))∧(¬ zrm lt bound done→r=.returned (.tuple #[.pointer none,.int .i64 1])))∧Below w.heap.size w w':=by
  have HSt:Hid (∀ W,Fr (fun _=>False) w W→Calls prog 142 #[.agg #[.string nm,.slice A n c,.slice S m d]] W fun r w'=>r=.returned (.int .i64 (zcz lt))∧Below W.heap.size W w'):=fun W f=>znW nm lt A n c S m d W (hr.fr0 f) hn hs8;have HCp:Hid (∀ W,Fr (fun _=>False) w W→Calls prog 59 #[.agg #[.string nm,.slice A n c]] W fun r w'=>(∃ A' c',r=.returned (.agg #[.string nm,.slice A' n c'])∧w'.ownsRow W.heap.size 130 4 (.slice A' n c') n (zah lt))∧Below W.heap.size W w'):=fun W f=>zdn nm lt A n c W (hr.fr0 f) hn;have HCl:Hid (∀ W,Fr (fun _=>False) w W→Calls prog 62 #[.slice S m d] W fun r w'=>(∃ A' c',r=.returned (.slice A' m c')∧w'.ownsRow W.heap.size 3 1 (.slice A' m c') m (zbg ss))∧Below W.heap.size W w'):=fun W f=>zfA (zbg ss) (zip ss) S m d W (hf.fr0 f) hm;have Hln:=q0_ hr.tiers_len;have Hlm:=q0_ (Rd.len_map hf);have Hev:=q0_ hev;clear hr hf
  obtain⟨stv,hstv⟩:∃ v,zcz lt=v:=⟨_,rfl⟩
  unfold zrm;rw[hstv] at HSt ⊢;clear hstv;go_enter func104,ntmps104;have BP:=q0_ (Blk.new w 106 #[.string nm,.slice A n c,.slice S m d]);have FB:=q0_ (Fr.none_alloc w (.cells #[.string nm,.slice A n c,.slice S m d] 106));go_wp2_with fail;refine (HSt.out _ FB.out).mono ?_;rintro r w1 ⟨rfl,b1⟩;have FB:=q0_ (FB.out.trans (Fr.b0 b1) q4_);have BP:=q0_ (BP.out.below b1);have d0:=BP.out.cell 0;have d1:=BP.out.cell 1;have d2:=BP.out.cell 2;simp only[q1_,q2_,q3_] at d0 d1 d2;clear b1
  by_cases h1:stv=0
  · have e1:(stv==0)=true:=by simpa using h1
    have hno:¬ (stv≠0∧0≤bound∧0≤done∧done<stv):=fun h=>h.1 h1;go_wp2
    go_ret2
    exact⟨⟨fun h=>absurd h hno,fun _=>rfl⟩,FB.out.below q4_⟩
  have e1:(stv==0)=false:=by simpa using h1
  by_cases h2:bound<0
  · have e2:decide (bound<0)=true:=qa_ h2
    have hno:¬ (stv≠0∧0≤bound∧0≤done∧done<stv):=fun h=>by omega
    go_wp2
    go_ret2
    exact⟨⟨fun h=>absurd h hno,fun _=>rfl⟩,FB.out.below q4_⟩
  have e2:decide (bound<0)=false:=q9_ h2
  by_cases h3:done<0
  · have e3:decide (done<0)=true:=qa_ h3
    have hno:¬ (stv≠0∧0≤bound∧0≤done∧done<stv):=fun h=>by omega
    go_wp2
    go_ret2
    exact⟨⟨fun h=>absurd h hno,fun _=>rfl⟩,FB.out.below q4_⟩
  have e3:decide (done<0)=false:=q9_ h3;go_wp2_with fail;refine (HSt.out _ FB.out).mono ?_;rintro r w2 ⟨rfl,b2⟩;have FB:=q0_ (FB.out.trans (Fr.b0 b2) q4_);have BP:=q0_ (BP.out.below b2);have d0:=BP.out.cell 0;have d1:=BP.out.cell 1;have d2:=BP.out.cell 2;simp only[q1_,q2_,q3_] at d0 d1 d2;clear b2
  by_cases h4:stv≤done
  · have e4:decide (stv≤done)=true:=qa_ h4
    have hno:¬ (stv≠0∧0≤bound∧0≤done∧done<stv):=fun h=>by omega
    go_wp2
    go_ret2
    exact⟨⟨fun h=>absurd h hno,fun _=>rfl⟩,FB.out.below q4_⟩
  have e4:decide (stv≤done)=false:=q9_ h4
  have hyes:stv≠0∧0≤bound∧0≤done∧done<stv:=⟨h1,by omega,by omega,by omega⟩
  have HC3:Hid (∀ W,Fr (fun _=>False) w2 W→W.cell? ⟨w.heap.size,0,none⟩=some (.string nm)∧W.cell? ⟨w.heap.size,1,none⟩=some (.slice A n c)∧W.cell? ⟨w.heap.size,2,none⟩=some (.slice S m d)):=fun W f=>⟨f.cell d0 (fun h=>h),f.cell d1 (fun h=>h),f.cell d2 (fun h=>h)⟩
  go_upto_region 3 with fail
  go_cut [29] (fun s29 wx=>∃ (A2:Option Addr) (c2:Nat) (S2:Option Addr) (e2:Nat) (W3:World),W3=wx∧Blk wx w.heap.size 106 #[.string nm,.slice A2 n c2,.slice S2 m e2]∧wx.ownsRow w2.heap.size 130 4 (.slice A2 n c2) n (zah lt)∧wx.ownsRow w2.heap.size 3 1 (.slice S2 m e2) m (zbg ss)∧Fr (fun j=>j=w.heap.size) w2 wx)
  case first=>
    refine wp_region_held_drew (S:=fun W=>Fr (fun j=>j=w.heap.size) w2 W) (by kernel_rfl) ((Fr.refl _ w2).drew) (fun hY_=>?_);refine tq 2 [0,3] ?_;refine sk ?_;refine sk ?_
    try simp only[Act.put,sA,sB,sC]
    refine sz ?_
    try simp only[Act.put,sA,sB,sC]
    refine wpAnyH_ready (rs:=[1,4]) (by kernel_rfl) (by simp) ?_;refine AllReadyH.cons (dg rfl) (fun K hK=>?_) ?_
    · go_simp
      refine hK.out _ _ (hY_) (fun hY_=>?_);clear hK K
      try simp only[Act.put,sA,sB,sC]
      refine wpAnyH_ready (rs:=[2,4]) (by kernel_rfl) (by simp) ?_;refine AllReadyH.cons (dg rfl) (fun K hK=>?_) ?_
      · go_simp
        go_wp2_with (go_at_call 59;refine (HCp.out _ (FB.out.trans hY_ (fun i hi=>.inr (Nat.le_of_eq hi.symm)))).mono ?_;rintro r wa ⟨⟨A2,c2,rfl,o2⟩,ba⟩)
        have o2:=q0_ o2;have BPa:=q0_ (BP.out.drew.below ba);have q0:=BPa.out.cell 0;have q1:=BPa.out.cell 1;have q2:=BPa.out.cell 2;simp only[q1_,q2_,q3_] at q0 q1 q2;refine hK.out _ _ (hY_.trans (Fr.b0 ba) q4_) (fun hY_=>?_);clear hK K
        try simp only[Act.put,sA,sB,sC]
        refine rl 4 rfl (fun K hK=>?_);go_simp;refine hK.out _ _ (hY_) (fun hY_=>?_);clear hK K;refine tl 6 ?v3 rfl ?q3 ?r3
        case q3=>intro W hSw;(try skip);go_simp;try rfl
        try simp only[Act.put,sA,sB,sC]
        refine rl 5 rfl (fun K hK=>?_);go_simp
        go_wp2_with (go_at_call 62;refine (HCl.out _ (FB.out.trans hY_ (fun i hi=>.inr (Nat.le_of_eq hi.symm)))).mono ?_;rintro r wb ⟨⟨S2,e2,rfl,o3⟩,bb⟩)
        have o3:=q0_ o3;have o2b:=q0_ (zac o2.out (Fr.b0 bb));have BPb:=q0_ (BPa.out.below bb);have q0:=BPb.out.cell 0;have q1:=BPb.out.cell 1;have q2:=BPb.out.cell 2;have z0:=BPb.out.frozen 0;have z1:=BPb.out.frozen 1;have z2:=BPb.out.frozen 2;have BA_:=q0_ hY_.size;simp only[q1_,q2_,q3_] at q0 q1 q2;refine hK.out _ _ (hY_.trans (Fr.b0 bb) q4_) (fun hY_=>?_);clear hK K
        try simp only[Act.put,sA,sB,sC]
        refine rl 7 rfl (fun K hK=>?_);go_simp;refine hK.out _ _ ((hY_.setCell (.inl rfl) _).setCell (.inl rfl) _) (fun hY_=>?_);clear hK K;refine tl 8 ?v4 rfl ?q4 ?r4
        case q4=>intro W hSw;(try skip);go_simp;try rfl
        try simp only[Act.put,sA,sB,sC]
        refine rl 9 rfl (fun K hK=>?_);go_simp;refine hK.out _ _ (hY_.setCell (.inl rfl) _) (fun hY_=>?_);clear hK K
        try simp only[Act.put,sA,sB,sC]
        refine wpAnyH_done (by kernel_rfl) ?_ _;go_wp2
        go_meet
        exact⟨A2,c2,S2,e2,_,rfl,BPb.out.set3,zaf (zaT o2b.out (by simp)) ((Fr.refl (fun j=>j=w.heap.size) wb).set3 (.inl rfl) _ _ _) (zfp o2b.out BPb.out (by decide)),zaf (zaT o3.out (by have:=BA_.out;omega)) ((Fr.refl (fun j=>j=w.heap.size) wb).set3 (.inl rfl) _ _ _) (zfp o3.out BPb.out (by decide)),hY_⟩
      refine AllReadyH.cons (dg rfl) (fun K hK=>?_) AllReadyH.nil;go_simp;refine hK.out _ _ (hY_) (fun hY_=>?_);clear hK K
      try simp only[Act.put,sA,sB,sC]
      refine rl 2 rfl (fun K hK=>?_);go_simp
      go_wp2_with (go_at_call 59;refine (HCp.out _ (FB.out.trans hY_ (fun i hi=>.inr (Nat.le_of_eq hi.symm)))).mono ?_;rintro r wa ⟨⟨A2,c2,rfl,o2⟩,ba⟩)
      have o2:=q0_ o2;have BPa:=q0_ (BP.out.drew.below ba);have q0:=BPa.out.cell 0;have q1:=BPa.out.cell 1;have q2:=BPa.out.cell 2;simp only[q1_,q2_,q3_] at q0 q1 q2;refine hK.out _ _ (hY_.trans (Fr.b0 ba) q4_) (fun hY_=>?_);clear hK K;refine tl 6 ?v5 rfl ?q5 ?r5
      case q5=>intro W hSw;(try skip);go_simp;try rfl
      try simp only[Act.put,sA,sB,sC]
      refine rl 5 rfl (fun K hK=>?_);go_simp
      go_wp2_with (go_at_call 62;refine (HCl.out _ (FB.out.trans hY_ (fun i hi=>.inr (Nat.le_of_eq hi.symm)))).mono ?_;rintro r wb ⟨⟨S2,e2,rfl,o3⟩,bb⟩)
      have o3:=q0_ o3;have o2b:=q0_ (zac o2.out (Fr.b0 bb));have BPb:=q0_ (BPa.out.below bb);have q0:=BPb.out.cell 0;have q1:=BPb.out.cell 1;have q2:=BPb.out.cell 2;have z0:=BPb.out.frozen 0;have z1:=BPb.out.frozen 1;have z2:=BPb.out.frozen 2;have BA_:=q0_ hY_.size;simp only[q1_,q2_,q3_] at q0 q1 q2;refine hK.out _ _ (hY_.trans (Fr.b0 bb) q4_) (fun hY_=>?_);clear hK K
      try simp only[Act.put,sA,sB,sC]
      refine rl 7 rfl (fun K hK=>?_);go_simp;refine hK.out _ _ ((hY_.setCell (.inl rfl) _).setCell (.inl rfl) _) (fun hY_=>?_);clear hK K;refine tl 8 ?v6 rfl ?q6 ?r6
      case q6=>intro W hSw;(try skip);go_simp;try rfl
      try simp only[Act.put,sA,sB,sC]
      refine rl 9 rfl (fun K hK=>?_);go_simp;refine hK.out _ _ (hY_.setCell (.inl rfl) _) (fun hY_=>?_);clear hK K
      try simp only[Act.put,sA,sB,sC]
      refine wpAnyH_done (by kernel_rfl) ?_ _;go_wp2
      go_meet
      exact⟨A2,c2,S2,e2,_,rfl,BPb.out.set3,zaf (zaT o2b.out (by simp)) ((Fr.refl (fun j=>j=w.heap.size) wb).set3 (.inl rfl) _ _ _) (zfp o2b.out BPb.out (by decide)),zaf (zaT o3.out (by have:=BA_.out;omega)) ((Fr.refl (fun j=>j=w.heap.size) wb).set3 (.inl rfl) _ _ _) (zfp o3.out BPb.out (by decide)),hY_⟩
    refine AllReadyH.cons (dg rfl) (fun K hK=>?_) AllReadyH.nil;go_simp;refine hK.out _ _ (hY_) (fun hY_=>?_);clear hK K
    try simp only[Act.put,sA,sB,sC]
    refine rl 1 rfl (fun K hK=>?_);go_simp;refine hK.out _ _ (hY_) (fun hY_=>?_);clear hK K
    try simp only[Act.put,sA,sB,sC]
    refine rl 2 rfl (fun K hK=>?_);go_simp
    go_wp2_with (go_at_call 59;refine (HCp.out _ (FB.out.trans hY_ (fun i hi=>.inr (Nat.le_of_eq hi.symm)))).mono ?_;rintro r wa ⟨⟨A2,c2,rfl,o2⟩,ba⟩)
    have o2:=q0_ o2;have BPa:=q0_ (BP.out.drew.below ba);have q0:=BPa.out.cell 0;have q1:=BPa.out.cell 1;have q2:=BPa.out.cell 2;simp only[q1_,q2_,q3_] at q0 q1 q2;refine hK.out _ _ (hY_.trans (Fr.b0 ba) q4_) (fun hY_=>?_);clear hK K;refine tl 6 ?v7 rfl ?q7 ?r7
    case q7=>intro W hSw;(try skip);go_simp;try rfl
    try simp only[Act.put,sA,sB,sC]
    refine rl 5 rfl (fun K hK=>?_);go_simp
    go_wp2_with (go_at_call 62;refine (HCl.out _ (FB.out.trans hY_ (fun i hi=>.inr (Nat.le_of_eq hi.symm)))).mono ?_;rintro r wb ⟨⟨S2,e2,rfl,o3⟩,bb⟩)
    have o3:=q0_ o3;have o2b:=q0_ (zac o2.out (Fr.b0 bb));have BPb:=q0_ (BPa.out.below bb);have q0:=BPb.out.cell 0;have q1:=BPb.out.cell 1;have q2:=BPb.out.cell 2;have z0:=BPb.out.frozen 0;have z1:=BPb.out.frozen 1;have z2:=BPb.out.frozen 2;have BA_:=q0_ hY_.size;simp only[q1_,q2_,q3_] at q0 q1 q2;refine hK.out _ _ (hY_.trans (Fr.b0 bb) q4_) (fun hY_=>?_);clear hK K
    try simp only[Act.put,sA,sB,sC]
    refine rl 7 rfl (fun K hK=>?_);go_simp;refine hK.out _ _ ((hY_.setCell (.inl rfl) _).setCell (.inl rfl) _) (fun hY_=>?_);clear hK K;refine tl 8 ?v8 rfl ?q8 ?r8
    case q8=>intro W hSw;(try skip);go_simp;try rfl
    try simp only[Act.put,sA,sB,sC]
    refine rl 9 rfl (fun K hK=>?_);go_simp;refine hK.out _ _ (hY_.setCell (.inl rfl) _) (fun hY_=>?_);clear hK K
    try simp only[Act.put,sA,sB,sC]
    refine wpAnyH_done (by kernel_rfl) ?_ _;go_wp2
    go_meet
    exact⟨A2,c2,S2,e2,_,rfl,BPb.out.set3,zaf (zaT o2b.out (by simp)) ((Fr.refl (fun j=>j=w.heap.size) wb).set3 (.inl rfl) _ _ _) (zfp o2b.out BPb.out (by decide)),zaf (zaT o3.out (by have:=BA_.out;omega)) ((Fr.refl (fun j=>j=w.heap.size) wb).set3 (.inl rfl) _ _ _) (zfp o3.out BPb.out (by decide)),hY_⟩
  case rest=>
    obtain⟨A2,c2,S2,e2,W3,rfl,hb3,o2,o3,hf3⟩:=hcut;have B3:=q0_ hb3;have O2:=q0_ o2;have O3:=q0_ o3;have p0:=hb3.cell 0;have p1:=hb3.cell 1;have p2:=hb3.cell 2;simp only[q1_,q2_,q3_] at p0 p1 p2;have HBl:Hid (Below w.heap.size w W3):=FB.out.below q4_ |>.trans (hf3.below_of FB.out.size (fun j hj=>Nat.le_of_eq hj.symm));have hw2:w.heap.size<w2.heap.size:=BP.out.lt;have hw3:w2.heap.size≤W3.heap.size:=hf3.size;clear hb3 o2 o3 hf3 BP FB HC3 HCp HCl HSt d0 d1 d2
    obtain⟨s,hs⟩:∃ s,w.heap.size=s:=⟨_,rfl⟩
    obtain⟨t,htd⟩:∃ t,W3.heap.size=t:=⟨_,rfl⟩
    have hst:s≤t:=by omega
    obtain⟨i0,hi,hz0,hz1,hz2⟩:=info_parts zgR;have p1a:=fun o=>(B3.out.alloc o).cell 1;simp only[q1_,q2_,q3_] at p1a;rw[hs] at p0 p1 p2 p1a HBl ⊢;go_wp2_with fail
    obtain⟨W4,hW4⟩:∃ W4,W4=W3.alloc (.cells #[.string nm,.slice A2 n c2,.slice S2 m e2,.int .i64 bound,.int .i64 done,.slice none 0 0] 108):=⟨_,rfl⟩
    rw[← hW4]
    try rw[htd]
    have F4:Hid (Fr (fun _=>False) W3 W4):=by show Fr _ _ _;rw[hW4];exact Fr.none_alloc _ _
    have hP0:ShP W4 t s (⟨nm,lt,ss,bound,done,lt.map fun _=>[]⟩:ShX) A2 c2 S2 e2 none 0 [] 0:=by
      have hb:Blk W4 t 108 #[.string nm,.slice A2 n c2,.slice S2 m e2,.int .i64 bound,.int .i64 done,.slice none 0 0]:=by rw[hW4];exact Blk.new' htd.symm _ _
      refine⟨?_,?_,?_,World.ownsRow_nil _ _ _ _,fun i p x l h=>by simp at h,fun p hp=>by simp at hp,by simp,fun p hp=>by simp at hp,hst⟩
      · show Blk _ _ _ #[.string nm,.slice A2 lt.length c2,.slice S2 ss.length e2,_,_,_]
        rw[Hln.out,Hlm.out];exact hb
      · show W4.ownsRow s _ 4 (.slice A2 lt.length c2) lt.length (zah lt)
        rw[Hln.out];exact zaT (zac O2.out F4.out) (by omega)
      · show W4.ownsRow s _ 1 (.slice S2 ss.length e2) ss.length (zbg ss)
        rw[Hlm.out];exact zaT (zac O3.out F4.out) (by omega)
    have HP0:=q0_ hP0
    have hs3:s≤W4.heap.size:=by rw[hW4];simp;omega
    have HB4:Hid (Below s w W4):=HBl.out.trans (F4.out.below_of (by omega) q4_);clear hP0 O2 O3 B3 p0 p1 p2 p1a hW4 F4 HBl
    go_loopw [45] (fun i wr=>∃ (k:Nat) (T:Option Addr) (ct:Nat) (tb:List (Nat×Nat)),k≤n∧i=.int .i64 k∧ShP wr t s (⟨nm,lt,ss,bound,done,lt.map fun _=>[]⟩:ShX) A2 c2 S2 e2 T ct tb k∧Fr (fun j=>s≤j) W4 wr) (fun i _=>n-(intOf i).toNat)
    case atStart=>exact⟨0,none,0,[],Nat.zero_le _,rfl,HP0.out,Fr.refl _ _⟩
    case round=>
      obtain⟨k,T,ct,tb,hk,rfl,hp,hf⟩:=hrel;have Hf:Hid (Fr (fun j=>s≤j) W4 wr):=hf;have hsr:s≤wr.heap.size:=Nat.le_trans hs3 hf.size
      by_cases hlt:k<n
      · have hrd:Rd wr 4 A2 n (zah lt):=by have:=(zat hp.tiers).2.2.1;rw[show (⟨nm,lt,ss,bound,done,lt.map fun _=>[]⟩:ShX).tiers.length=n from Hln.out] at this;exact this
        obtain⟨ad,x,rfl,hxu,e0,e1,e2',e3⟩:=hrd.tier hlt
        have hmx:max x.every 1=x.every:=by have:=Hev.out x (zab hxu);omega
        have Hx:=q0_ hxu;have HP:=q0_ hp
        have kn:0≤(k:Int)∧(k:Int)<(n:Int):=by omega
        clear hp hf hxu hrd;go_wp2_with fail
        obtain⟨W1,hW1⟩:∃ W1,W1=wr.alloc (.cells #[.string x.name,.int .i64 x.every,.int .i64 x.keep,.int .i64 x.shards] 130):=⟨_,rfl⟩
        rw[← hW1];have hbx:Blk W1 wr.heap.size 130 #[.string x.name,.int .i64 x.every,.int .i64 x.keep,.int .i64 x.shards]:=hW1▸Blk.new _ _ _
        have hT:ShP W1 t s (⟨nm,lt,ss,bound,done,lt.map fun _=>[]⟩:ShX) (some ad) c2 S2 e2 T ct tb k:=by rw[hW1];exact HP.out.fr0 (Fr.none_alloc _ _)
        have fF:Fr (fun j=>s≤j) W4 W1:=by rw[hW1];exact Hf.out.trans (Fr.none_alloc _ _) q4_
        have hs1:s≤W1.heap.size:=Nat.le_trans hs3 fF.size
        have HNw:Hid (Calls prog 82 #[.int .i64 x.every] W1.drew fun r w'=>(∃ g b,r=.returned (.pointer (some ⟨g,0,none⟩))∧zaw w' g x.every b []∧W1.heap.size≤g∧W1.heap.size≤b)∧Below W1.drew.heap.size W1.drew w'):=by
          have:=zfc x.every W1.drew;rw[hmx] at this;exact this
        have FD:Hid (Fr (fun _=>False) W1 W1.drew):=(Fr.refl _ W1).drew;have D1:W1.drew.cell? ⟨wr.heap.size,1,none⟩=some (.int .i64 x.every):=hbx.cell 1;have D2:W1.drew.cell? ⟨t,5,none⟩=some (.slice T k ct):=hT.blk.cell 5
        have HP5:Hid (∀ w5,Fr (fun _=>False) W1.drew w5→w5.cell? ⟨t,5,none⟩=some (.slice T k ct)∧s≤w5.heap.size):=fun w5 h=>⟨((hT.fr0 FD.out).fr0 h).blk.cell 5,Nat.le_trans hs1 h.size⟩
        have HM6:∀ w5,Fr (fun _=>False) W1.drew w5→∀ o T6 c6 w6,Mv (zaE (.slice T k ct)) (zaE (.slice T6 (k+1) c6)) (w5.alloc o) w6→Blk w6 t 108 _:=fun w5 h o T6 c6 w6 hm=>
          (((hT.fr0 FD.out).fr0 h).fr0 (Fr.none_alloc w5 o)).blk.fr hm.fr (fun hj=>zad (((hT.fr0 FD.out).fr0 h).fr0 (Fr.none_alloc w5 o)).row (((hT.fr0 FD.out).fr0 h).fr0 (Fr.none_alloc w5 o)).blk (by decide) hj)
        have HP6:Hid (∀ w5,Fr (fun _=>False) W1.drew w5→∀ o T6 c6 w6,Mv (zaE (.slice T k ct)) (zaE (.slice T6 (k+1) c6)) (w5.alloc o) w6→w6.cell? ⟨t,5,none⟩=some (.slice T k ct)):=fun w5 h o T6 c6 w6 hm=>(HM6 w5 h o T6 c6 w6 hm).cell 5;have HF6:Hid (∀ w5,Fr (fun _=>False) W1.drew w5→∀ o T6 c6 w6,Mv (zaE (.slice T k ct)) (zaE (.slice T6 (k+1) c6)) (w5.alloc o) w6→w6.frozen? ⟨t,5,none⟩=false):=fun w5 h o T6 c6 w6 hm=>(HM6 w5 h o T6 c6 w6 hm).frozen 5
        have HZ : Hid (∀ w5, Fr (fun _ => False) W1.drew w5 → ∀ o g b T6 c6 w6, zaw w5 g x.every b [] → W1.heap.size ≤ g → W1.heap.size ≤ b → w6.ownsRow s 121 1 (.slice T6 (k + 1) c6) (k + 1) (zfY tb ++ [.pointer (some ⟨g, 0, none⟩)]) → Mv (zaE (.slice T k ct)) (zaE (.slice T6 (k + 1) c6)) (w5.alloc o) w6 →
            ShP (w6.setCell ⟨t,5,none⟩ (.slice T6 (k+1) c6)) t s (⟨nm,lt,ss,bound,done,lt.map fun _=>[]⟩:ShX) (some ad) c2 S2 e2 T6 c6 (tb++[(g,b)]) (k+1)∧Fr (fun j=>s≤j) W4 (w6.setCell ⟨t,5,none⟩ (.slice T6 (k+1) c6))):=by
          intro w5 h o g b T6 c6 w6 ht hg hb ho hm;have q:=hT.snoc (FD.out.trans h q4_) hs1 hg hb (x:=x) (l:=[]) Hx.out (by show (lt.map fun _=>([]:List zae))[k]? =_;rw[List.getElem?_map,Hx.out];rfl) ht o ho hm;exact⟨q.1,fF.trans q.2 (fun _ h=>.inl h)⟩
        have Hk:Hid (k+1≤maxLen∧(k+1)*8≤140737488355328):=⟨by unfold maxLen;omega,by omega⟩
        have HT:=q0_ hT;clear hT hbx fF HM6 hW1 HP Hf e0 e1 e2' e3 hmx;go_wp2_with fail;refine wp_region_any (by kernel_rfl) ?_;change wpAny _ _ _ _ _ _ _ (World.drew _);refine nl 0 ?v9 rfl ?q9 ?r9
        case q9=>intro W;go_simp;try rfl
        refine nl 1 ?v10 rfl ?q10 ?r10
        case q10=>intro W;go_simp;try rfl
        refine nl 2 ?v11 rfl ?q11 ?r11
        case q11=>intro W;go_simp;try rfl
        refine nl 3 ?v12 rfl ?q12 ?r12
        case q12=>intro W;go_simp;try rfl
        refine nl 5 ?v13 rfl ?q13 ?r13
        case q13=>intro W;go_simp;try rfl
        try simp only[Act.put,sA,sB,sC]
        refine wpAny_ready (rs:=[4,6]) (by kernel_rfl) (by simp) ?_;refine AllReady.cons (dg rfl) (fun K hK=>?_) ?_
        · go_simp
          refine hK _ _ ?_;clear hK K
          try simp only[Act.put,sA,sB,sC]
          refine rn 6 rfl (fun K hK=>?_);go_simp;refine hK _ _ ?_;clear hK K
          try simp only[Act.put,sA,sB,sC]
          refine rn 7 rfl (fun K hK=>?_);go_simp
          go_wp2_with (go_at_call 82;refine HNw.out.mono ?_;rintro r w5 ⟨⟨g,b,rfl,g5⟩,b5⟩;have q5:=(HP5.out w5 (Fr.b0 b5)).1;have q5a:=fun o=>(HP5.out (w5.alloc o) ((Fr.b0 b5).trans (Fr.none_alloc w5 o) q4_)).1;try dsimp only)
          refine rn 8 rfl (fun K hK=>?_);go_simp;refine hK _ _ ?_;clear hK K
          try simp only[Act.put,sA,sB,sC]
          refine rn 9 rfl (fun K hK=>?_);rw[if_pos (by rfl)];refine zaU (.tmp 53) (.tmp 57) 67 rfl 121 i0 (.pointer none) 1 8 underlying67 hi hz0 hz1 hz2 rfl (by decide) (.slice T k ct) k _ rfl s (Nat.le_trans (HP5.out w5 (Fr.b0 b5)).2 (Fr.none_alloc w5 _).size) (zac (zac (zac HT.out.row (FD.out)) (Fr.b0 b5)) (Fr.none_alloc _ _)) (some ⟨w5.heap.size,0,none⟩) 1 1 [.pointer (some ⟨g,0,none⟩)] rfl (Rd.new w5 [.pointer (some ⟨g,0,none⟩)] _ 1 rfl) (by simp[Value.oneCell']) Hk.out.1 Hk.out.2 ?_;intro T6 c6 w6 ho6 hm6 _;have q6:=HP6.out w5 (Fr.b0 b5) _ _ _ _ hm6;have f6:=HF6.out w5 (Fr.b0 b5) _ _ _ _ hm6;have Hz:=q0_ (HZ.out w5 (Fr.b0 b5) _ _ _ _ _ _ g5.1 g5.2.1 g5.2.2 ho6 hm6);clear ho6 hm6 D1 D2;refine hK _ _ ?_;clear hK K;refine nl 10 ?v14 rfl ?q14 ?r14
          case q14=>intro W;go_simp;try rfl
          refine nl 11 ?v15 rfl ?q15 ?r15
          case q15=>intro W;go_simp;try rfl
          try simp only[Act.put,sA,sB,sC]
          refine rn 12 rfl (fun K hK=>?_);go_simp;refine hK _ _ ?_;clear hK K
          try simp only[Act.put,sA,sB,sC]
          refine wpAny_done (by kernel_rfl) ?_ _;go_wp2
          go_roundw
          case rel=>exact⟨k+1,T6,c6,_,by omega,by go_num,Hz.out.1,Hz.out.2⟩
          case measure=>simp[intOf];omega
        refine AllReady.cons (dg rfl) (fun K hK=>?_) ?_
        · go_simp
          refine hK _ _ ?_;clear hK K
          try simp only[Act.put,sA,sB,sC]
          refine wpAny_ready (rs:=[4,7]) (by kernel_rfl) (by simp) ?_;refine AllReady.cons (dg rfl) (fun K hK=>?_) ?_
          · go_simp
            refine hK _ _ ?_;clear hK K
            try simp only[Act.put,sA,sB,sC]
            refine rn 7 rfl (fun K hK=>?_);go_simp
            go_wp2_with (go_at_call 82;refine HNw.out.mono ?_;rintro r w5 ⟨⟨g,b,rfl,g5⟩,b5⟩;have q5:=(HP5.out w5 (Fr.b0 b5)).1;have q5a:=fun o=>(HP5.out (w5.alloc o) ((Fr.b0 b5).trans (Fr.none_alloc w5 o) q4_)).1;try dsimp only)
            refine rn 8 rfl (fun K hK=>?_);go_simp;refine hK _ _ ?_;clear hK K
            try simp only[Act.put,sA,sB,sC]
            refine rn 9 rfl (fun K hK=>?_);rw[if_pos (by rfl)];refine zaU (.tmp 53) (.tmp 57) 67 rfl 121 i0 (.pointer none) 1 8 underlying67 hi hz0 hz1 hz2 rfl (by decide) (.slice T k ct) k _ rfl s (Nat.le_trans (HP5.out w5 (Fr.b0 b5)).2 (Fr.none_alloc w5 _).size) (zac (zac (zac HT.out.row (FD.out)) (Fr.b0 b5)) (Fr.none_alloc _ _)) (some ⟨w5.heap.size,0,none⟩) 1 1 [.pointer (some ⟨g,0,none⟩)] rfl (Rd.new w5 [.pointer (some ⟨g,0,none⟩)] _ 1 rfl) (by simp[Value.oneCell']) Hk.out.1 Hk.out.2 ?_;intro T6 c6 w6 ho6 hm6 _;have q6:=HP6.out w5 (Fr.b0 b5) _ _ _ _ hm6;have f6:=HF6.out w5 (Fr.b0 b5) _ _ _ _ hm6;have Hz:=q0_ (HZ.out w5 (Fr.b0 b5) _ _ _ _ _ _ g5.1 g5.2.1 g5.2.2 ho6 hm6);clear ho6 hm6 D1 D2;refine hK _ _ ?_;clear hK K;refine nl 10 ?v16 rfl ?q16 ?r16
            case q16=>intro W;go_simp;try rfl
            refine nl 11 ?v17 rfl ?q17 ?r17
            case q17=>intro W;go_simp;try rfl
            try simp only[Act.put,sA,sB,sC]
            refine rn 12 rfl (fun K hK=>?_);go_simp;refine hK _ _ ?_;clear hK K
            try simp only[Act.put,sA,sB,sC]
            refine wpAny_done (by kernel_rfl) ?_ _;go_wp2
            go_roundw
            case rel=>exact⟨k+1,T6,c6,_,by omega,by go_num,Hz.out.1,Hz.out.2⟩
            case measure=>simp[intOf];omega
          refine AllReady.cons (dg rfl) (fun K hK=>?_) ?_
          · go_simp
            go_wp2_with (go_at_call 82;refine HNw.out.mono ?_;rintro r w5 ⟨⟨g,b,rfl,g5⟩,b5⟩;have q5:=(HP5.out w5 (Fr.b0 b5)).1;have q5a:=fun o=>(HP5.out (w5.alloc o) ((Fr.b0 b5).trans (Fr.none_alloc w5 o) q4_)).1;try dsimp only)
            try simp only[Act.put,sA,sB,sC]
            refine wpAny_ready (rs:=[4,8]) (by kernel_rfl) (by simp) ?_;refine AllReady.cons (dg rfl) (fun K hK=>?_) ?_
            · go_simp
              refine hK _ _ ?_;clear hK K
              try simp only[Act.put,sA,sB,sC]
              refine rn 8 rfl (fun K hK=>?_);go_simp;refine hK _ _ ?_;clear hK K
              try simp only[Act.put,sA,sB,sC]
              refine rn 9 rfl (fun K hK=>?_);rw[if_pos (by rfl)];refine zaU (.tmp 53) (.tmp 57) 67 rfl 121 i0 (.pointer none) 1 8 underlying67 hi hz0 hz1 hz2 rfl (by decide) (.slice T k ct) k _ rfl s (Nat.le_trans (HP5.out w5 (Fr.b0 b5)).2 (Fr.none_alloc w5 _).size) (zac (zac (zac HT.out.row (FD.out)) (Fr.b0 b5)) (Fr.none_alloc _ _)) (some ⟨w5.heap.size,0,none⟩) 1 1 [.pointer (some ⟨g,0,none⟩)] rfl (Rd.new w5 [.pointer (some ⟨g,0,none⟩)] _ 1 rfl) (by simp[Value.oneCell']) Hk.out.1 Hk.out.2 ?_;intro T6 c6 w6 ho6 hm6 _;have q6:=HP6.out w5 (Fr.b0 b5) _ _ _ _ hm6;have f6:=HF6.out w5 (Fr.b0 b5) _ _ _ _ hm6;have Hz:=q0_ (HZ.out w5 (Fr.b0 b5) _ _ _ _ _ _ g5.1 g5.2.1 g5.2.2 ho6 hm6);clear ho6 hm6 D1 D2;refine hK _ _ ?_;clear hK K;refine nl 10 ?v18 rfl ?q18 ?r18
              case q18=>intro W;go_simp;try rfl
              refine nl 11 ?v19 rfl ?q19 ?r19
              case q19=>intro W;go_simp;try rfl
              try simp only[Act.put,sA,sB,sC]
              refine rn 12 rfl (fun K hK=>?_);go_simp;refine hK _ _ ?_;clear hK K
              try simp only[Act.put,sA,sB,sC]
              refine wpAny_done (by kernel_rfl) ?_ _;go_wp2
              go_roundw
              case rel=>exact⟨k+1,T6,c6,_,by omega,by go_num,Hz.out.1,Hz.out.2⟩
              case measure=>simp[intOf];omega
            refine AllReady.cons (dg rfl) (fun K hK=>?_) ?_
            · go_simp
              refine hK _ _ ?_;clear hK K
              try simp only[Act.put,sA,sB,sC]
              refine rn 4 rfl (fun K hK=>?_);go_simp;refine hK _ _ ?_;clear hK K
              try simp only[Act.put,sA,sB,sC]
              refine rn 9 rfl (fun K hK=>?_);rw[if_pos (by rfl)];refine zaU (.tmp 53) (.tmp 57) 67 rfl 121 i0 (.pointer none) 1 8 underlying67 hi hz0 hz1 hz2 rfl (by decide) (.slice T k ct) k _ rfl s (Nat.le_trans (HP5.out w5 (Fr.b0 b5)).2 (Fr.none_alloc w5 _).size) (zac (zac (zac HT.out.row (FD.out)) (Fr.b0 b5)) (Fr.none_alloc _ _)) (some ⟨w5.heap.size,0,none⟩) 1 1 [.pointer (some ⟨g,0,none⟩)] rfl (Rd.new w5 [.pointer (some ⟨g,0,none⟩)] _ 1 rfl) (by simp[Value.oneCell']) Hk.out.1 Hk.out.2 ?_;intro T6 c6 w6 ho6 hm6 _;have q6:=HP6.out w5 (Fr.b0 b5) _ _ _ _ hm6;have f6:=HF6.out w5 (Fr.b0 b5) _ _ _ _ hm6;have Hz:=q0_ (HZ.out w5 (Fr.b0 b5) _ _ _ _ _ _ g5.1 g5.2.1 g5.2.2 ho6 hm6);clear ho6 hm6 D1 D2;refine hK _ _ ?_;clear hK K;refine nl 10 ?v20 rfl ?q20 ?r20
              case q20=>intro W;go_simp;try rfl
              refine nl 11 ?v21 rfl ?q21 ?r21
              case q21=>intro W;go_simp;try rfl
              try simp only[Act.put,sA,sB,sC]
              refine rn 12 rfl (fun K hK=>?_);go_simp;refine hK _ _ ?_;clear hK K
              try simp only[Act.put,sA,sB,sC]
              refine wpAny_done (by kernel_rfl) ?_ _;go_wp2
              go_roundw
              case rel=>exact⟨k+1,T6,c6,_,by omega,by go_num,Hz.out.1,Hz.out.2⟩
              case measure=>simp[intOf];omega
            exact AllReady.nil
          exact AllReady.nil
        exact AllReady.nil
      · obtain rfl:k=n:=by omega
        have Hp:=q0_ hp;clear hp hf;go_wp2
        go_ret2
        rw[hs];refine⟨⟨fun _=>⟨t,rfl,?_⟩,fun h=>absurd hyes h⟩,HB4.out.trans (Hf.out.below_of hs3 (fun _ h=>h))⟩;obtain rfl:lt.length=k:=Hln.out;exact Hp.out.done (by show (lt.map _).length=lt.length;simp)
theorem zd0.down{w:World}{t base b:Nat}{X:ShX}{A B T:Option Addr}{c d ct:Nat}{tb:List (Nat×Nat)}(h:zd0 w t base X A c B d T ct tb)(hb:b≤base):zd0 w t b X A c B d T ct tb:=
  ⟨h.blk,zaT h.tiers hb,zaT h.srcs hb,zaT h.row hb,h.tlen,h.tab,h.nodup,fun p hp=>⟨Nat.le_trans hb (h.ge p hp).1,Nat.le_trans hb (h.ge p hp).2⟩,Nat.le_trans hb h.tge⟩
theorem zj7.down{w:World}{t base b:Nat}{X:ShX}(h:zj7 w t base X)(hb:b≤base):zj7 w t b X:=by
  obtain⟨A,c,B,d,T,ct,tb,hi⟩:=h;exact⟨A,c,B,d,T,ct,tb,hi.down hb⟩
theorem zmb{L:List Nat}{k:Nat}(h:∀ x∈L,x≤k):L.sum≤L.length*k:=by
  induction L with
  | nil=>simp
  | cons a L ih=>
    have h1:=ih (fun x hx=>h x (List.mem_cons_of_mem _ hx));have h2:=h a (by simp);rw[List.sum_cons,List.length_cons,Nat.succ_mul];omega
theorem zhE{nm:ByteArray}{l:List za_}{fl:List Int}{X:zaa}{c:Nat}(p:zb_ nm l)(hg:zbf nm l fl X c)(hc:c≤1000000):zaB X≤1000000000:=by
  unfold zaB
  have h:=zmb (L:=zce X) (k:=8*(1000000+2)) (fun x hx=>by
    obtain⟨k,hk⟩:=List.getElem?_of_mem hx;unfold zce at hk;rw[List.getElem?_zipWith_eq_some] at hk;obtain⟨a,b,ha,hb,rfl⟩:=hk;rw[hg.tiers] at ha;have h8:=(zaN p.ck (zab ha)).2.2.2.2.2;have h9:=zlv (max a.shards 1) (by omega) b;have h10:=hg.len b (zab hb)
    omega)
  have hl:(zce X).length≤5:=by
    unfold zce;rw[List.length_zipWith,hg.tiers];have:=p.five;omega
  have:(zce X).length*(8*(1000000+2))≤5*(8*(1000000+2)):=Nat.mul_le_mul_right _ hl;omega
theorem zd0.setTab{w : World}{t base : Nat}{X : ShX}{A B : Option Addr}{c d ct gr : Nat}{tb : List (Nat × Nat)}(h : zd0 w t base X A c B d (some ⟨gr, 0, none⟩) ct tb){k g b : Nat}{x : za_}{l' : List zae}(hk : k < X.tiers.length)(hx : X.tiers[k]? = some x)(ht : zaw w g x.every b l')(hg : base ≤ g)(hb : base ≤ b)(hnew : ∀ q ∈ tb, q.2 ≠ b) :
    zd0 (w.setCell ⟨gr,k,none⟩ (.pointer (some ⟨g,0,none⟩))) t base {X with tabs:=X.tabs.set k l'} A c B d (some ⟨gr,0,none⟩) ct (tb.set k (g,b)):=by
  have f:Fr (fun j=>j=gr) w (w.setCell ⟨gr,k,none⟩ (.pointer (some ⟨g,0,none⟩))):=(Fr.refl (fun j=>j=gr) w).setCell (p:=⟨gr,k,none⟩) (.inl rfl) _;obtain⟨cs,hB⟩:=zkG h.row;have hoff:∀ {e:TypeId} {size n base':Nat} {v:Value} {xs:List Value},w.ownsRow base' e size v n xs→e≠121→∀ j,zaE v j→¬ j=gr:=fun ho hne j hj e=>zad ho hB hne (by rw[← e];exact hj)
  have htab:∀ {g' b':Nat} {e:Int} {m:List zae},zaw w g' e b' m→zaw (w.setCell ⟨gr,k,none⟩ (.pointer (some ⟨g,0,none⟩))) g' e b' m:=fun {g' b' e m} hT=>by
    refine hT.fr f (zdd hT.blk hB (by decide)) (fun e'=>?_);obtain⟨es,ck,hbm⟩:=hT.own.isMap;have hb0:w.heap[gr]? =some (Obj.cells cs _ (0,0)):=hB;rw[← e',hbm] at hb0
    cases hb0
  have hlen:=h.len;refine⟨h.blk.fr f (zdd h.blk hB (by decide)),zaf h.tiers f (hoff h.tiers (by decide)),zaf h.srcs f (hoff h.srcs (by decide)),?_,by rw[List.length_set];exact h.tlen,fun i p y m h1 h2 h3=>?_,?_,fun p hp=>?_,h.tge⟩
  · have e:zfY (tb.set k (g,b))=(zfY tb).set k (.pointer (some ⟨g,0,none⟩)):=by unfold zfY;rw[List.map_set]
    rw[e];exact zq_ h.row
  · by_cases e:i=k
    · subst e
      rw[List.getElem?_set_self (by rw[hlen];exact hk)] at h1
      cases h1
      rw[hx] at h2
      cases h2
      have h3':(X.tabs.set i l')[i]? =some m:=h3;rw[List.getElem?_set_self (by rw[h.tlen];exact hk)] at h3'
      cases h3'
      exact htab ht
    · rw[List.getElem?_set_ne (fun e'=>e e'.symm)] at h1
      have h3':(X.tabs.set k l')[i]? =some m:=h3;rw[List.getElem?_set_ne (fun e'=>e e'.symm)] at h3';exact htab (h.tab i p y m h1 h2 h3')
  · rw[List.map_set]
    refine zot h.nodup (fun hm=>?_);obtain⟨q,hq,e⟩:=List.mem_map.1 hm;exact hnew q hq e
  · rcases List.mem_or_eq_of_mem_set hp with hp | rfl
    · exact h.ge p hp
    · exact⟨hg,hb⟩
theorem zn9(t base : Nat)(X : ShX)(F : Nat → Prop)(w : World)(h : ze5 w t base X F)(hn1 : 0 < X.tiers.length)(hn : X.tiers.length ≤ 1000)(hm : X.srcs.length ≤ 1000)(hs8 : ∀ t ∈ X.tiers, t.shards ≤ 8)(hev : ∀ t ∈ X.tiers, 1 ≤ t.every)(hb0 : 0 ≤ X.bound)(hst : 0 < zcz X.tiers) :
    Calls prog 58 #[.pointer (some ⟨t,0,none⟩)] w fun r w'=>(∃ o F',r=.returned (.pointer (some ⟨o,0,none⟩))∧ze5 w' o w.heap.size X F')∧Below w.heap.size w w':=by
  obtain⟨A,c,B,d,T,ct,tb,hi,_⟩:=h
  obtain⟨n,hn0⟩:∃ n,X.tiers.length=n:=⟨_,rfl⟩
  obtain⟨m,hm0⟩:∃ m,X.srcs.length=m:=⟨_,rfl⟩
  have hn9:n≤1000:=by rw[← hn0];exact hn
  have HI:=q0_ hi;have Hn0:=q0_ hn0;have Hm0:=q0_ hm0
  have HCt:Hid (∀ W,Fr (fun _=>False) w W→W.cell? ⟨t,0,none⟩=some (.string X.name)∧W.cell? ⟨t,1,none⟩=some (.slice A n c)∧W.cell? ⟨t,2,none⟩=some (.slice B m d)∧W.cell? ⟨t,3,none⟩=some (.int .i64 X.bound)∧W.cell? ⟨t,4,none⟩=some (.int .i64 X.done)∧W.cell? ⟨t,5,none⟩=some (.slice T n ct)):=fun W f=>by
    obtain⟨c0,c1,c2,c3,c4,c5⟩:=HI.out.cells f (fun h=>h);rw[Hn0.out] at c1 c5;rw[Hm0.out] at c2;exact⟨c0,c1,c2,c3,c4,c5⟩
  have HRe:Hid (∀ W,Fr (fun _=>False) w W→Calls prog 104 #[.agg #[.string X.name,.slice A n c,.slice B m d],.int .i64 X.bound,.int .i64 0] W fun r w'=>(∃ o,r=.returned (.tuple #[.pointer (some ⟨o,0,none⟩),.int .i64 0])∧zj7 w' o w.heap.size ⟨X.name,X.tiers,X.srcs,X.bound,0,X.tiers.map fun _=>[]⟩)∧Below W.heap.size W w'):=fun W f=>by
    have q1:=(zat (HI.out.fr0 f).tiers).2.2.1;have q2:=(zat (HI.out.fr0 f).srcs).2.2.1;rw[Hn0.out] at q1;rw[Hm0.out] at q2;refine (zmq X.name X.tiers A n c X.srcs B m d X.bound 0 W q1 (by omega) hs8 hev q2 (by omega)).mono ?_;rintro r w' ⟨⟨h3,_⟩,hb⟩;obtain⟨o,h4,h5⟩:=h3 ⟨by omega,hb0,by omega,by omega⟩;exact⟨⟨o,h4,h5.down f.size⟩,hb⟩
  have hsX:zbA n (fun j=>X.tabs.getD j []) (fun _=>[]) 0=X.tiers.map fun _=>[]:=by
    rw[ze8]
    apply List.ext_getElem?
    intro i;rw[List.getElem?_map,List.getElem?_map]
    by_cases hii:i<n
    · rw[List.getElem?_range hii,q6_ (by omega)];rfl
    · rw[List.getElem?_eq_none (by simpa using hii),List.getElem?_eq_none (by omega)];rfl
  have HsX:=q0_ hsX
  have HeX:Hid (zbA n (fun j=>X.tabs.getD j []) (fun _=>[]) n=X.tabs):=by show _=_;rw[zgc];exact zix (by rw[hi.tlen,hn0])
  have htn:t<w.heap.size:=hi.blk.lt;obtain⟨adT,hadT,hcr⟩:=(zat hi.row).2.2.1.2 (show 0<X.tiers.length by omega);subst hadT;have Hcr:=q0_ hcr;clear hi hn0 hm0 hsX hcr;go_enter func58,ntmps58;go_wp2_with fail;refine wp_region_held_drew (S:=fun W_=>Fr (fun _=>False) w W_) (by kernel_rfl) ((Fr.refl _ w).drew) (fun hY_=>?_);refine tq 8 [0,1,2,3,4,5,6,7] ?_
  iterate 7 refine sf HCt.out ?_
  refine sf HCt.out ?_
  try simp only[Act.put,sA,sB,sC]
  refine sz ?_
  try simp only[Act.put,sA,sB,sC]
  refine rl 8 rfl (fun K hK=>?_);go_simp
  go_wp2_with (go_at_call 104;refine (HRe.out _ hY_).mono ?_;rintro r w1 ⟨⟨o,rfl,ho⟩,b1⟩)
  have ho:=q0_ ho;refine hK.out _ _ (hY_.trans (Fr.b0 b1) q4_) (fun hY_=>?_);clear hK K;refine tq 5 [9,10,11,12,13] ?_
  iterate 4 refine sf HCt.out ?_
  refine sf HCt.out ?_
  try simp only[Act.put,sA,sB,sC]
  refine sz ?_
  try simp only[Act.put,sA,sB,sC]
  refine wpAnyH_done (by kernel_rfl) ?_ _;have F1:=q0_ hY_;obtain⟨A2,c2,B2,d2,T2,ct2,tb2,hO⟩:=ho.out;have H1:=q0_ hO
  have hO2:zd0 (w1.setCell ⟨o,4,none⟩ (.int .i64 X.done)) o w.heap.size {X with tabs:=zbA n (fun j=>X.tabs.getD j []) (fun _=>[]) 0} A2 c2 B2 d2 T2 ct2 tb2:=by
    have:=hO.setDone X.done;rw[HsX.out];exact this
  have fD:Fr (fun i=>i=o) w1 (w1.setCell ⟨o,4,none⟩ (.int .i64 X.done)):=(Fr.refl (fun i=>i=o) w1).setCell (p:=⟨o,4,none⟩) (.inl rfl) _;have hog:w.heap.size≤o:=hO.tge;have F2:Hid (Fr (fun _=>False) w (w1.setCell ⟨o,4,none⟩ (.int .i64 X.done))):=F1.out.trans fD (fun i hi=>.inr (by omega));have H2:=q0_ hO2;have z4:=hO.blk.cell 4;have zf:=hO.blk.frozen 4;obtain⟨_,_,_,_,k4,_⟩:=HCt.out w1 F1.out;have k5:=(HCt.out _ F2.out).2.2.2.2.2;simp only[q1_,q2_,q3_] at z4;have hoT2:∃ gr,T2=some ⟨gr,0,none⟩:=zcN hO.row (show 0<X.tiers.length by omega);obtain⟨gr,rfl⟩:=hoT2;clear hY_ b1 ho hO hO2 fD;go_wp2_with fail
  go_loopw [33,5,6] (fun i _ _ wr=>∃ (k:Nat) (tbk:List (Nat×Nat)),k≤n∧i=.int .i64 k∧zd0 wr o w.heap.size {X with tabs:=zbA n (fun j=>X.tabs.getD j []) (fun _=>[]) k} A2 c2 B2 d2 (some ⟨gr,0,none⟩) ct2 tbk∧Fr (fun _=>False) w wr) (fun i _ _ _=>n-(intOf i).toNat)
  case atStart=>exact⟨0,tb2,Nat.zero_le _,rfl,H2.out,F2.out⟩
  case round=>
    obtain⟨k,tbk,hk,rfl,hS,hf⟩:=hrel;have HS:=q0_ hS;have Hf:=q0_ hf;clear hS hf
    by_cases hlt:k<n
    · obtain⟨g,b,x,L,t1,t2,t3,hT⟩:=(HI.out.fr0 Hf.out).tabAt (k:=k) (by rw[Hn0.out];exact hlt)
      have hLk:X.tabs.getD k []=L:=by rw[List.getD_eq_getElem?_getD,t3];rfl
      have pk:=Hf.out.cell (Hcr.out k _ (zcq t1)) (fun h=>h)
      try simp only at pk
      have HTc:Hid (∀ W,Fr (fun _=>False) wr W→Calls prog 86 #[.pointer (some ⟨g,0,none⟩)] W fun r w'=>(∃ g' b',r=.returned (.pointer (some ⟨g',0,none⟩))∧zaw w' g' x.every b' L∧W.heap.size≤g'∧W.heap.size≤b')∧Below W.heap.size W w'):=fun W f=>zei g x.every b L W (hT.fr0 f)
      have kn:0≤(k:Int)∧(k:Int)<(n:Int):=by omega
      have g0:decide ((k:Int)<(n:Int))=true:=qa_ (by omega)
      have hqw:IntKind.i64.wrap ((k:Int)+1)=(k:Int)+1:=by simp[IntKind.wrap,IntKind.signed,IntKind.bits];omega
      obtain⟨csr,hcsr⟩:=zkG HS.out.row
      have Hgr:Hid (∀ W,Fr (fun _=>False) wr W→W.cell? ⟨gr,k,none⟩=some (csr.getD k undef)∧W.frozen? ⟨gr,k,none⟩=false):=fun W f=>by
        have hB:=hcsr.fr f (fun h=>h);have hlen:=zrr HS.out.row hcsr;refine⟨?_,hB.frozen k⟩
        rw [hB.cell k, Array.getD_eq_getD_getElem?, Array.getElem?_eq_getElem (by have hX : k < X.tiers.length := by rw [Hn0.out]; exact hlt
                                                                                  have:X.tiers.length≤csr.size:=hlen
                                                                                  omega)]
        rfl
      have H5:Hid (∀ W,Fr (fun i=>i=gr) wr W→W.cell? ⟨o,5,none⟩=some (.slice (some ⟨gr,0,none⟩) n ct2)):=fun W f=>by
        have h:=(HS.out.cells f (fun e=>by subst e;exact zad HS.out.row HS.out.blk (by decide) rfl)).2.2.2.2.2;have e:({X with tabs:=zbA n (fun j=>X.tabs.getD j []) (fun _=>[]) k}:ShX).tiers.length=n:=Hn0.out;rw[e] at h;exact h
      have HZ:Hid (∀ W g' b',Fr (fun _=>False) wr W→zaw W g' x.every b' L→wr.heap.size≤g'→wr.heap.size≤b'→zd0 (W.setCell ⟨gr,k,none⟩ (.pointer (some ⟨g',0,none⟩))) o w.heap.size {X with tabs:=zbA n (fun j=>X.tabs.getD j []) (fun _=>[]) (k+1)} A2 c2 B2 d2 (some ⟨gr,0,none⟩) ct2 (tbk.set k (g',b'))∧Fr (fun _=>False) w (W.setCell ⟨gr,k,none⟩ (.pointer (some ⟨g',0,none⟩)))):=fun W g' b' f hTn hg hb=>by
        have q:=(HS.out.fr0 f).setTab (k:=k) (g:=g') (b:=b') (x:=x) (l':=L) (by show _<X.tiers.length;rw[Hn0.out];exact hlt) t2 hTn (Nat.le_trans Hf.out.size hg) (Nat.le_trans Hf.out.size hb) (fun q hq=>by have:=(HS.out.map_ ⟨q,hq,rfl⟩).2.1;omega);simp only at q;have e:=zga (n:=n) (f:=fun j=>X.tabs.getD j []) (g:=fun _=>([]:List zae)) (i:=k) hlt
        try simp only at e
        rw[hLk] at e;rw[e] at q;exact⟨q,(Hf.out.trans f q4_).trans ((Fr.refl (fun i=>i=gr) W).setCell (p:=⟨gr,k,none⟩) (.inl rfl) _) (fun i hi=>.inr (by rw[hi];exact (HS.out.row.lt gr rfl).1))⟩
      clear t1 t2 t3 hT hLk hcsr z4 zf k4 k5;have k5:=(HCt.out _ Hf.out).2.2.2.2.2;go_wp2_with fail;refine wp_region_held_drew (S:=fun W_=>Fr (fun i=>i=gr) wr W_) (by kernel_rfl) ((Fr.refl _ wr).drew) (fun hY_=>?_);refine tq 6 [0,1,2,3,4,5] ?_
      iterate 5 refine sf H5.out ?_
      refine sk ?_
      try simp only[Act.put,sA,sB,sC]
      refine sz ?_
      try simp only[Act.put,sA,sB,sC]
      refine rl 6 rfl (fun K hK=>?_);go_simp
      go_wp2_with (go_at_call 86;refine (HTc.out _ (Fr.refl _ wr).drew).mono ?_;rintro r w6 ⟨⟨gn,bn,rfl,hTn,hgn,hbn⟩,b6⟩)
      have Q6:=q0_ (HZ.out w6 gn bn ((Fr.refl _ wr).drew.trans (Fr.b0 b6) q4_) hTn hgn hbn);obtain⟨y1,y2⟩:=Hgr.out w6 ((Fr.refl _ wr).drew.trans (Fr.b0 b6) q4_);refine hK.out _ _ (hY_.trans (Fr.b0 b6) q4_) (fun hY_=>?_);clear hK K;refine tl 7 ?v20 rfl ?q20 ?r20
      case q20=>intro W hSw;(try have q5:=H5.out W hSw);go_simp;try rfl
      try simp only[Act.put,sA,sB,sC]
      refine rl 8 rfl (fun K hK=>?_);go_simp;refine hK.out _ _ (hY_.setCell (.inl rfl) _) (fun hY_=>?_);clear hK K
      try simp only[Act.put,sA,sB,sC]
      refine wpAnyH_done (by kernel_rfl) ?_ _;clear hY_ b6 hTn;go_wp2
      go_roundw
      case rel=>exact⟨k+1,_,by omega,by go_num,Q6.out.1,Q6.out.2⟩
      case measure=>simp[intOf];omega
    · obtain rfl:k=n:=by omega
      have g0:decide ((k:Int)<(k:Int))=false:=q9_ (by omega);rw[HeX.out] at HS;clear z4 zf k4 k5;go_wp2;go_ret;exact⟨⟨o,_,rfl,_,_,_,_,_,_,_,HS.out,rfl⟩,Hf.out.below q4_⟩
end Go.Proofs.YtjhhodndlkpmhaaGreatDoor
