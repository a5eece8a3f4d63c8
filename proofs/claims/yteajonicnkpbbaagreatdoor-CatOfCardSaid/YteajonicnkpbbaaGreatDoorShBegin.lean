/- Walk of shadow: Resume. -/
import Derived.Test.YteajonicnkpbbaaGreatDoorTiersSame
import Derived.Test.YteajonicnkpbbaaGreatDoorPlanBuild
namespace Go.Proofs.YteajonicnkpbbaaGreatDoor
set_option linter.all false
set_option maxHeartbeats 8000000
set_option maxRecDepth 100000
open Go.RowKit Tryz
def zn8(lt:List za_)(bound done:Int):Prop:=zaX lt≠0∧0≤bound∧0≤done∧done<zaX lt
theorem zfw{w:World}{base b n size:Nat}{e ty:TypeId}{v:Value}{xs:List Value}{cs:Array Value}(h:w.ownsRow base e size v n xs)(hb:Blk w b ty cs)(hne:e≠ty):∀ j,zay v j→¬ j=b:=fun j hj e'=>zad h hb hne (by rw[← e'];exact hj)
theorem zhB(nm:ByteArray)(lt:List za_)(A:Option Addr)(n c:Nat)(ss:List Int)(S:Option Addr)(m d:Nat)(bound done:Int)(w:World)(hr:Rd w 4 A n (zag lt))(hn:n≤1099511627776)(hs8:∀ t∈lt,t.shards≤8)(hev:∀ t∈lt,1≤t.every)(hf:Rd w 1 S m (zaU ss))(hm:m≤1099511627776):
  Calls prog 155 #[.agg #[.string nm,.slice A n c,.slice S m d],.int .i64 bound,.int .i64 done] w fun r w'=>((zn8 lt bound done→∃ t,r=.returned (.tuple #[.pointer (some ⟨t,0,none⟩),.int .i64 0])∧zfk w' t w.heap.size (⟨nm,lt,ss,bound,done,lt.map fun _=>[]⟩:ShX))∧(¬ zn8 lt bound done→r=.returned (.tuple #[.pointer none,.int .i64 1])))∧Below w.heap.size w w':=by
 have HSt:Hid (∀ W,Fr (fun _=>False) w W→Calls prog 193 #[.agg #[.string nm,.slice A n c,.slice S m d]] W fun r w'=>r=.returned (.int .i64 (zaX lt))∧Below W.heap.size W w'):=fun W f=>zjh nm lt A n c S m d W (hr.fr0 f) hn hs8;have HCp:Hid (∀ W,Fr (fun _=>False) w W→Calls prog 107 #[.agg #[.string nm,.slice A n c]] W fun r w'=>(∃ A' c',r=.returned (.agg #[.string nm,.slice A' n c'])∧w'.ownsRow W.heap.size 99 4 (.slice A' n c') n (zag lt))∧Below W.heap.size W w'):=fun W f=>zcO nm lt A n c W (hr.fr0 f) hn;have HCl:Hid (∀ W,Fr (fun _=>False) w W→Calls prog 108 #[.slice S m d] W fun r w'=>(∃ A' c',r=.returned (.slice A' m c')∧w'.ownsRow W.heap.size 3 1 (.slice A' m c') m (zaU ss))∧Below W.heap.size W w'):=fun W f=>zfF (zaU ss) (ziG ss) S m d W (hf.fr0 f) hm;have Hln:=q0_ hr.tiers_len;have Hlm:=q0_ (Rd.len_map hf);have Hev:=q0_ hev;clear hr hf
 obtain⟨stv,hstv⟩:∃ v,zaX lt=v:=⟨_,rfl⟩
 unfold zn8;rw[hstv] at HSt ⊢;clear hstv;go_enter func155,ntmps155;have BP:=q0_ (Blk.new w 91 #[.string nm,.slice A n c,.slice S m d]);have FB:=q0_ (Fr.none_alloc w (.cells #[.string nm,.slice A n c,.slice S m d] 91));go_wp2_with fail;refine (HSt.out _ FB.out).mono ?_;rintro r w1 ⟨rfl,b1⟩;have FB:=q0_ (FB.out.trans (Fr.b0 b1) q4_);have BP:=q0_ (BP.out.below b1);have d0:=BP.out.cell 0;have d1:=BP.out.cell 1;have d2:=BP.out.cell 2;simp only[q1_,q2_,q3_] at d0 d1 d2;clear b1
 by_cases h1:stv=0
 ·have e1:(stv==0)=true:=by simpa using h1
  have hno:¬ (stv≠0∧0≤bound∧0≤done∧done<stv):=fun h=>h.1 h1;go_wp2
  go_ret2
  exact⟨⟨fun h=>absurd h hno,fun _=>rfl⟩,FB.out.below q4_⟩
 have e1:(stv==0)=false:=by simpa using h1
 by_cases h2:bound<0
 ·have e2:decide (bound<0)=true:=qa_ h2
  have hno:¬ (stv≠0∧0≤bound∧0≤done∧done<stv):=fun h=>by omega
  go_wp2
  go_ret2
  exact⟨⟨fun h=>absurd h hno,fun _=>rfl⟩,FB.out.below q4_⟩
 have e2:decide (bound<0)=false:=q9_ h2
 by_cases h3:done<0
 ·have e3:decide (done<0)=true:=qa_ h3
  have hno:¬ (stv≠0∧0≤bound∧0≤done∧done<stv):=fun h=>by omega
  go_wp2
  go_ret2
  exact⟨⟨fun h=>absurd h hno,fun _=>rfl⟩,FB.out.below q4_⟩
 have e3:decide (done<0)=false:=q9_ h3;go_wp2_with fail;refine (HSt.out _ FB.out).mono ?_;rintro r w2 ⟨rfl,b2⟩;have FB:=q0_ (FB.out.trans (Fr.b0 b2) q4_);have BP:=q0_ (BP.out.below b2);have d0:=BP.out.cell 0;have d1:=BP.out.cell 1;have d2:=BP.out.cell 2;simp only[q1_,q2_,q3_] at d0 d1 d2;clear b2
 by_cases h4:stv≤done
 ·have e4:decide (stv≤done)=true:=qa_ h4
  have hno:¬ (stv≠0∧0≤bound∧0≤done∧done<stv):=fun h=>by omega
  go_wp2
  go_ret2
  exact⟨⟨fun h=>absurd h hno,fun _=>rfl⟩,FB.out.below q4_⟩
 have e4:decide (stv≤done)=false:=q9_ h4
 have hyes:stv≠0∧0≤bound∧0≤done∧done<stv:=⟨h1,by omega,by omega,by omega⟩
 have HC3:Hid (∀ W,Fr (fun _=>False) w2 W→W.cell? ⟨w.heap.size,0,none⟩=some (.string nm)∧W.cell? ⟨w.heap.size,1,none⟩=some (.slice A n c)∧W.cell? ⟨w.heap.size,2,none⟩=some (.slice S m d)):=fun W f=>⟨f.cell d0 (fun h=>h),f.cell d1 (fun h=>h),f.cell d2 (fun h=>h)⟩
 go_upto_region 3 with fail
 go_cut [29] (fun s29 wx=>∃ (A2:Option Addr) (c2:Nat) (S2:Option Addr) (e2:Nat) (W3:World),W3=wx∧Blk wx w.heap.size 91 #[.string nm,.slice A2 n c2,.slice S2 m e2]∧wx.ownsRow w2.heap.size 99 4 (.slice A2 n c2) n (zag lt)∧wx.ownsRow w2.heap.size 3 1 (.slice S2 m e2) m (zaU ss)∧Fr (fun j=>j=w.heap.size) w2 wx)
 case first=>
  refine wp_region_held_drew (S:=fun W=>Fr (fun j=>j=w.heap.size) w2 W) (by kernel_rfl) ((Fr.refl _ w2).drew) (fun hY_=>?_);refine tq 2 [0,3] ?_;refine sk ?_;refine sk ?_
  try simp only[Act.put,sA,sB,sC]
  refine sz ?_
  try simp only[Act.put,sA,sB,sC]
  refine wpAnyH_ready (rs:=[1,4]) (by kernel_rfl) (by simp) ?_;refine AllReadyH.cons (dg rfl) (fun K hK=>?_) ?_
  ·go_simp
   refine hK.out _ _ (hY_) (fun hY_=>?_);clear hK K
   try simp only[Act.put,sA,sB,sC]
   refine wpAnyH_ready (rs:=[2,4]) (by kernel_rfl) (by simp) ?_;refine AllReadyH.cons (dg rfl) (fun K hK=>?_) ?_
   ·go_simp
    go_wp2_with (go_at_call 107;refine (HCp.out _ (FB.out.trans hY_ (fun i hi=>.inr (Nat.le_of_eq hi.symm)))).mono ?_;rintro r wa ⟨⟨A2,c2,rfl,o2⟩,ba⟩)
    have o2:=q0_ o2;have BPa:=q0_ (BP.out.drew.below ba);have q0:=BPa.out.cell 0;have q1:=BPa.out.cell 1;have q2:=BPa.out.cell 2;simp only[q1_,q2_,q3_] at q0 q1 q2;refine hK.out _ _ (hY_.trans (Fr.b0 ba) q4_) (fun hY_=>?_);clear hK K
    try simp only[Act.put,sA,sB,sC]
    refine rl 4 rfl (fun K hK=>?_);go_simp;refine hK.out _ _ (hY_) (fun hY_=>?_);clear hK K;refine tl 6 ?v3 rfl ?q3 ?r3
    case q3=>intro W hSw;(try skip);go_simp;try rfl
    try simp only[Act.put,sA,sB,sC]
    refine rl 5 rfl (fun K hK=>?_);go_simp
    go_wp2_with (go_at_call 108;refine (HCl.out _ (FB.out.trans hY_ (fun i hi=>.inr (Nat.le_of_eq hi.symm)))).mono ?_;rintro r wb ⟨⟨S2,e2,rfl,o3⟩,bb⟩)
    have o3:=q0_ o3;have o2b:=q0_ (zab o2.out (Fr.b0 bb));have BPb:=q0_ (BPa.out.below bb);have q0:=BPb.out.cell 0;have q1:=BPb.out.cell 1;have q2:=BPb.out.cell 2;have z0:=BPb.out.frozen 0;have z1:=BPb.out.frozen 1;have z2:=BPb.out.frozen 2;have BA_:=q0_ hY_.size;simp only[q1_,q2_,q3_] at q0 q1 q2;refine hK.out _ _ (hY_.trans (Fr.b0 bb) q4_) (fun hY_=>?_);clear hK K
    try simp only[Act.put,sA,sB,sC]
    refine rl 7 rfl (fun K hK=>?_);go_simp;refine hK.out _ _ ((hY_.setCell (.inl rfl) _).setCell (.inl rfl) _) (fun hY_=>?_);clear hK K;refine tl 8 ?v4 rfl ?q4 ?r4
    case q4=>intro W hSw;(try skip);go_simp;try rfl
    try simp only[Act.put,sA,sB,sC]
    refine rl 9 rfl (fun K hK=>?_);go_simp;refine hK.out _ _ (hY_.setCell (.inl rfl) _) (fun hY_=>?_);clear hK K
    try simp only[Act.put,sA,sB,sC]
    refine wpAnyH_done (by kernel_rfl) ?_ _;go_wp2
    go_meet
    exact⟨A2,c2,S2,e2,_,rfl,BPb.out.set3,zah (zaY o2b.out (by simp)) ((Fr.refl (fun j=>j=w.heap.size) wb).set3 (.inl rfl) _ _ _) (zfw o2b.out BPb.out (by decide)),zah (zaY o3.out (by have:=BA_.out;omega)) ((Fr.refl (fun j=>j=w.heap.size) wb).set3 (.inl rfl) _ _ _) (zfw o3.out BPb.out (by decide)),hY_⟩
   refine AllReadyH.cons (dg rfl) (fun K hK=>?_) AllReadyH.nil;go_simp;refine hK.out _ _ (hY_) (fun hY_=>?_);clear hK K
   try simp only[Act.put,sA,sB,sC]
   refine rl 2 rfl (fun K hK=>?_);go_simp
   go_wp2_with (go_at_call 107;refine (HCp.out _ (FB.out.trans hY_ (fun i hi=>.inr (Nat.le_of_eq hi.symm)))).mono ?_;rintro r wa ⟨⟨A2,c2,rfl,o2⟩,ba⟩)
   have o2:=q0_ o2;have BPa:=q0_ (BP.out.drew.below ba);have q0:=BPa.out.cell 0;have q1:=BPa.out.cell 1;have q2:=BPa.out.cell 2;simp only[q1_,q2_,q3_] at q0 q1 q2;refine hK.out _ _ (hY_.trans (Fr.b0 ba) q4_) (fun hY_=>?_);clear hK K;refine tl 6 ?v5 rfl ?q5 ?r5
   case q5=>intro W hSw;(try skip);go_simp;try rfl
   try simp only[Act.put,sA,sB,sC]
   refine rl 5 rfl (fun K hK=>?_);go_simp
   go_wp2_with (go_at_call 108;refine (HCl.out _ (FB.out.trans hY_ (fun i hi=>.inr (Nat.le_of_eq hi.symm)))).mono ?_;rintro r wb ⟨⟨S2,e2,rfl,o3⟩,bb⟩)
   have o3:=q0_ o3;have o2b:=q0_ (zab o2.out (Fr.b0 bb));have BPb:=q0_ (BPa.out.below bb);have q0:=BPb.out.cell 0;have q1:=BPb.out.cell 1;have q2:=BPb.out.cell 2;have z0:=BPb.out.frozen 0;have z1:=BPb.out.frozen 1;have z2:=BPb.out.frozen 2;have BA_:=q0_ hY_.size;simp only[q1_,q2_,q3_] at q0 q1 q2;refine hK.out _ _ (hY_.trans (Fr.b0 bb) q4_) (fun hY_=>?_);clear hK K
   try simp only[Act.put,sA,sB,sC]
   refine rl 7 rfl (fun K hK=>?_);go_simp;refine hK.out _ _ ((hY_.setCell (.inl rfl) _).setCell (.inl rfl) _) (fun hY_=>?_);clear hK K;refine tl 8 ?v6 rfl ?q6 ?r6
   case q6=>intro W hSw;(try skip);go_simp;try rfl
   try simp only[Act.put,sA,sB,sC]
   refine rl 9 rfl (fun K hK=>?_);go_simp;refine hK.out _ _ (hY_.setCell (.inl rfl) _) (fun hY_=>?_);clear hK K
   try simp only[Act.put,sA,sB,sC]
   refine wpAnyH_done (by kernel_rfl) ?_ _;go_wp2
   go_meet
   exact⟨A2,c2,S2,e2,_,rfl,BPb.out.set3,zah (zaY o2b.out (by simp)) ((Fr.refl (fun j=>j=w.heap.size) wb).set3 (.inl rfl) _ _ _) (zfw o2b.out BPb.out (by decide)),zah (zaY o3.out (by have:=BA_.out;omega)) ((Fr.refl (fun j=>j=w.heap.size) wb).set3 (.inl rfl) _ _ _) (zfw o3.out BPb.out (by decide)),hY_⟩
  refine AllReadyH.cons (dg rfl) (fun K hK=>?_) AllReadyH.nil;go_simp;refine hK.out _ _ (hY_) (fun hY_=>?_);clear hK K
  try simp only[Act.put,sA,sB,sC]
  refine rl 1 rfl (fun K hK=>?_);go_simp;refine hK.out _ _ (hY_) (fun hY_=>?_);clear hK K
  try simp only[Act.put,sA,sB,sC]
  refine rl 2 rfl (fun K hK=>?_);go_simp
  go_wp2_with (go_at_call 107;refine (HCp.out _ (FB.out.trans hY_ (fun i hi=>.inr (Nat.le_of_eq hi.symm)))).mono ?_;rintro r wa ⟨⟨A2,c2,rfl,o2⟩,ba⟩)
  have o2:=q0_ o2;have BPa:=q0_ (BP.out.drew.below ba);have q0:=BPa.out.cell 0;have q1:=BPa.out.cell 1;have q2:=BPa.out.cell 2;simp only[q1_,q2_,q3_] at q0 q1 q2;refine hK.out _ _ (hY_.trans (Fr.b0 ba) q4_) (fun hY_=>?_);clear hK K;refine tl 6 ?v7 rfl ?q7 ?r7
  case q7=>intro W hSw;(try skip);go_simp;try rfl
  try simp only[Act.put,sA,sB,sC]
  refine rl 5 rfl (fun K hK=>?_);go_simp
  go_wp2_with (go_at_call 108;refine (HCl.out _ (FB.out.trans hY_ (fun i hi=>.inr (Nat.le_of_eq hi.symm)))).mono ?_;rintro r wb ⟨⟨S2,e2,rfl,o3⟩,bb⟩)
  have o3:=q0_ o3;have o2b:=q0_ (zab o2.out (Fr.b0 bb));have BPb:=q0_ (BPa.out.below bb);have q0:=BPb.out.cell 0;have q1:=BPb.out.cell 1;have q2:=BPb.out.cell 2;have z0:=BPb.out.frozen 0;have z1:=BPb.out.frozen 1;have z2:=BPb.out.frozen 2;have BA_:=q0_ hY_.size;simp only[q1_,q2_,q3_] at q0 q1 q2;refine hK.out _ _ (hY_.trans (Fr.b0 bb) q4_) (fun hY_=>?_);clear hK K
  try simp only[Act.put,sA,sB,sC]
  refine rl 7 rfl (fun K hK=>?_);go_simp;refine hK.out _ _ ((hY_.setCell (.inl rfl) _).setCell (.inl rfl) _) (fun hY_=>?_);clear hK K;refine tl 8 ?v8 rfl ?q8 ?r8
  case q8=>intro W hSw;(try skip);go_simp;try rfl
  try simp only[Act.put,sA,sB,sC]
  refine rl 9 rfl (fun K hK=>?_);go_simp;refine hK.out _ _ (hY_.setCell (.inl rfl) _) (fun hY_=>?_);clear hK K
  try simp only[Act.put,sA,sB,sC]
  refine wpAnyH_done (by kernel_rfl) ?_ _;go_wp2
  go_meet
  exact⟨A2,c2,S2,e2,_,rfl,BPb.out.set3,zah (zaY o2b.out (by simp)) ((Fr.refl (fun j=>j=w.heap.size) wb).set3 (.inl rfl) _ _ _) (zfw o2b.out BPb.out (by decide)),zah (zaY o3.out (by have:=BA_.out;omega)) ((Fr.refl (fun j=>j=w.heap.size) wb).set3 (.inl rfl) _ _ _) (zfw o3.out BPb.out (by decide)),hY_⟩
 case rest=>
  obtain⟨A2,c2,S2,e2,W3,rfl,hb3,o2,o3,hf3⟩:=hcut;have B3:=q0_ hb3;have O2:=q0_ o2;have O3:=q0_ o3;have p0:=hb3.cell 0;have p1:=hb3.cell 1;have p2:=hb3.cell 2;simp only[q1_,q2_,q3_] at p0 p1 p2;have HBl:Hid (Below w.heap.size w W3):=FB.out.below q4_ |>.trans (hf3.below_of FB.out.size (fun j hj=>Nat.le_of_eq hj.symm));have hw2:w.heap.size<w2.heap.size:=BP.out.lt;have hw3:w2.heap.size≤W3.heap.size:=hf3.size;clear hb3 o2 o3 hf3 BP FB HC3 HCp HCl HSt d0 d1 d2
  obtain⟨s,hs⟩:∃ s,w.heap.size=s:=⟨_,rfl⟩
  obtain⟨t,htd⟩:∃ t,W3.heap.size=t:=⟨_,rfl⟩
  have hst:s≤t:=by omega
  obtain⟨i0,hi,hz0,hz1,hz2⟩:=info_parts zgX;have p1a:=fun o=>(B3.out.alloc o).cell 1;simp only[q1_,q2_,q3_] at p1a;rw[hs] at p0 p1 p2 p1a HBl ⊢;go_wp2_with fail
  obtain⟨W4,hW4⟩:∃ W4,W4=W3.alloc (.cells #[.string nm,.slice A2 n c2,.slice S2 m e2,.int .i64 bound,.int .i64 done,.slice none 0 0] 93):=⟨_,rfl⟩
  rw[← hW4]
  try rw[htd]
  have F4:Hid (Fr (fun _=>False) W3 W4):=by show Fr _ _ _;rw[hW4];exact Fr.none_alloc _ _
  have hP0:ShP W4 t s (⟨nm,lt,ss,bound,done,lt.map fun _=>[]⟩:ShX) A2 c2 S2 e2 none 0 [] 0:=by
   have hb:Blk W4 t 93 #[.string nm,.slice A2 n c2,.slice S2 m e2,.int .i64 bound,.int .i64 done,.slice none 0 0]:=by rw[hW4];exact Blk.new' htd.symm _ _
   refine⟨?_,?_,?_,World.ownsRow_nil _ _ _ _,fun i p x l h=>by simp at h,fun p hp=>by simp at hp,by simp,fun p hp=>by simp at hp,hst⟩
   ·show Blk _ _ _ #[.string nm,.slice A2 lt.length c2,.slice S2 ss.length e2,_,_,_]
    rw[Hln.out,Hlm.out];exact hb
   ·show W4.ownsRow s _ 4 (.slice A2 lt.length c2) lt.length (zag lt)
    rw[Hln.out];exact zaY (zab O2.out F4.out) (by omega)
   ·show W4.ownsRow s _ 1 (.slice S2 ss.length e2) ss.length (zaU ss)
    rw[Hlm.out];exact zaY (zab O3.out F4.out) (by omega)
  have HP0:=q0_ hP0
  have hs3:s≤W4.heap.size:=by rw[hW4];simp;omega
  have HB4:Hid (Below s w W4):=HBl.out.trans (F4.out.below_of (by omega) q4_);clear hP0 O2 O3 B3 p0 p1 p2 p1a hW4 F4 HBl
  go_loopw [45] (fun i wr=>∃ (k:Nat) (T:Option Addr) (ct:Nat) (tb:List (Nat×Nat)),k≤n∧i=.int .i64 k∧ShP wr t s (⟨nm,lt,ss,bound,done,lt.map fun _=>[]⟩:ShX) A2 c2 S2 e2 T ct tb k∧Fr (fun j=>s≤j) W4 wr) (fun i _=>n-(intOf i).toNat)
  case atStart=>exact⟨0,none,0,[],Nat.zero_le _,rfl,HP0.out,Fr.refl _ _⟩
  case round=>
   obtain⟨k,T,ct,tb,hk,rfl,hp,hf⟩:=hrel;have Hf:Hid (Fr (fun j=>s≤j) W4 wr):=hf;have hsr:s≤wr.heap.size:=Nat.le_trans hs3 hf.size
   by_cases hlt:k<n
   ·have hrd:Rd wr 4 A2 n (zag lt):=by have:=(zal hp.tiers).2.2.1;rw[show (⟨nm,lt,ss,bound,done,lt.map fun _=>[]⟩:ShX).tiers.length=n from Hln.out] at this;exact this
    obtain⟨ad,x,rfl,hxu,e0,e1,e2',e3⟩:=hrd.tier hlt
    have hmx:max x.every 1=x.every:=by have:=Hev.out x (zaa hxu);omega
    have Hx:=q0_ hxu;have HP:=q0_ hp
    have kn:0≤(k:Int)∧(k:Int)<(n:Int):=by omega
    clear hp hf hxu hrd;go_wp2_with fail
    obtain⟨W1,hW1⟩:∃ W1,W1=wr.alloc (.cells #[.string x.name,.int .i64 x.every,.int .i64 x.keep,.int .i64 x.shards] 99):=⟨_,rfl⟩
    rw[← hW1];have hbx:Blk W1 wr.heap.size 99 #[.string x.name,.int .i64 x.every,.int .i64 x.keep,.int .i64 x.shards]:=hW1▸Blk.new _ _ _
    have hT:ShP W1 t s (⟨nm,lt,ss,bound,done,lt.map fun _=>[]⟩:ShX) (some ad) c2 S2 e2 T ct tb k:=by rw[hW1];exact HP.out.fr0 (Fr.none_alloc _ _)
    have fF:Fr (fun j=>s≤j) W4 W1:=by rw[hW1];exact Hf.out.trans (Fr.none_alloc _ _) q4_
    have hs1:s≤W1.heap.size:=Nat.le_trans hs3 fF.size
    have HNw:Hid (Calls prog 142 #[.int .i64 x.every] W1.drew fun r w'=>(∃ g b,r=.returned (.pointer (some ⟨g,0,none⟩))∧zar w' g x.every b []∧W1.heap.size≤g∧W1.heap.size≤b)∧Below W1.drew.heap.size W1.drew w'):=by
     have:=zfo x.every W1.drew;rw[hmx] at this;exact this
    have FD:Hid (Fr (fun _=>False) W1 W1.drew):=(Fr.refl _ W1).drew;have D1:W1.drew.cell? ⟨wr.heap.size,1,none⟩=some (.int .i64 x.every):=hbx.cell 1;have D2:W1.drew.cell? ⟨t,5,none⟩=some (.slice T k ct):=hT.blk.cell 5
    have HP5:Hid (∀ w5,Fr (fun _=>False) W1.drew w5→w5.cell? ⟨t,5,none⟩=some (.slice T k ct)∧s≤w5.heap.size):=fun w5 h=>⟨((hT.fr0 FD.out).fr0 h).blk.cell 5,Nat.le_trans hs1 h.size⟩
    have HM6:∀ w5,Fr (fun _=>False) W1.drew w5→∀ o T6 c6 w6,Mv (zay (.slice T k ct)) (zay (.slice T6 (k+1) c6)) (w5.alloc o) w6→Blk w6 t 93 _:=fun w5 h o T6 c6 w6 hm=>
     (((hT.fr0 FD.out).fr0 h).fr0 (Fr.none_alloc w5 o)).blk.fr hm.fr (fun hj=>zad (((hT.fr0 FD.out).fr0 h).fr0 (Fr.none_alloc w5 o)).row (((hT.fr0 FD.out).fr0 h).fr0 (Fr.none_alloc w5 o)).blk (by decide) hj)
    have HP6:Hid (∀ w5,Fr (fun _=>False) W1.drew w5→∀ o T6 c6 w6,Mv (zay (.slice T k ct)) (zay (.slice T6 (k+1) c6)) (w5.alloc o) w6→w6.cell? ⟨t,5,none⟩=some (.slice T k ct)):=fun w5 h o T6 c6 w6 hm=>(HM6 w5 h o T6 c6 w6 hm).cell 5;have HF6:Hid (∀ w5,Fr (fun _=>False) W1.drew w5→∀ o T6 c6 w6,Mv (zay (.slice T k ct)) (zay (.slice T6 (k+1) c6)) (w5.alloc o) w6→w6.frozen? ⟨t,5,none⟩=false):=fun w5 h o T6 c6 w6 hm=>(HM6 w5 h o T6 c6 w6 hm).frozen 5
    have HZ:Hid (∀ w5,Fr (fun _=>False) W1.drew w5→∀ o g b T6 c6 w6,zar w5 g x.every b []→W1.heap.size≤g→W1.heap.size≤b→w6.ownsRow s 208 1 (.slice T6 (k+1) c6) (k+1) (zf7 tb++[.pointer (some ⟨g,0,none⟩)])→Mv (zay (.slice T k ct)) (zay (.slice T6 (k+1) c6)) (w5.alloc o) w6→
      ShP (w6.setCell ⟨t,5,none⟩ (.slice T6 (k+1) c6)) t s (⟨nm,lt,ss,bound,done,lt.map fun _=>[]⟩:ShX) (some ad) c2 S2 e2 T6 c6 (tb++[(g,b)]) (k+1)∧Fr (fun j=>s≤j) W4 (w6.setCell ⟨t,5,none⟩ (.slice T6 (k+1) c6))):=by
     intro w5 h o g b T6 c6 w6 ht hg hb ho hm;have q:=hT.snoc (FD.out.trans h q4_) hs1 hg hb (x:=x) (l:=[]) Hx.out (by show (lt.map fun _=>([]:List zaf))[k]? =_;rw[List.getElem?_map,Hx.out];rfl) ht o ho hm;exact⟨q.1,fF.trans q.2 (fun _ h=>.inl h)⟩
    have Hk:Hid (k+1≤maxLen∧(k+1)*8≤140737488355328):=⟨by unfold maxLen;omega,by omega⟩
    have HT:=q0_ hT;clear hT hbx fF HM6 hW1 HP Hf e0 e1 e2' e3 hmx;go_wp2_with fail;refine wp_region_any (by kernel_rfl) ?_;change wpAny _ _ _ _ _ _ _ (World.drew _);refine nl 0 ?v9 rfl ?q9 ?r9
    case q9=>intro W;go_simp;try rfl
    refine nl 1 ?v10 rfl ?q10 ?r10
    case q10=>intro W;go_simp;try rfl
    refine nl 2 ?v11 rfl ?q11 ?r11
    case q11=>intro W;go_simp;try rfl
    refine nl 3 ?v12 rfl ?q12 ?r12
    case q12=>intro W;go_simp;try rfl
    refine nl 5 ?v13 rfl ?q13 ?r13
    case q13=>intro W;go_simp;try rfl
    try simp only[Act.put,sA,sB,sC]
    refine wpAny_ready (rs:=[4,6]) (by kernel_rfl) (by simp) ?_;refine AllReady.cons (dg rfl) (fun K hK=>?_) ?_
    ·go_simp
     refine hK _ _ ?_;clear hK K
     try simp only[Act.put,sA,sB,sC]
     refine rn 6 rfl (fun K hK=>?_);go_simp;refine hK _ _ ?_;clear hK K
     try simp only[Act.put,sA,sB,sC]
     refine rn 7 rfl (fun K hK=>?_);go_simp
     go_wp2_with (go_at_call 142;refine HNw.out.mono ?_;rintro r w5 ⟨⟨g,b,rfl,g5⟩,b5⟩;have q5:=(HP5.out w5 (Fr.b0 b5)).1;have q5a:=fun o=>(HP5.out (w5.alloc o) ((Fr.b0 b5).trans (Fr.none_alloc w5 o) q4_)).1;try dsimp only)
     refine rn 8 rfl (fun K hK=>?_);go_simp;refine hK _ _ ?_;clear hK K
     try simp only[Act.put,sA,sB,sC]
     refine rn 9 rfl (fun K hK=>?_);rw[if_pos (by rfl)];refine za2 (.tmp 53) (.tmp 57) 85 rfl 208 i0 (.pointer none) 1 8 underlying85 hi hz0 hz1 hz2 rfl (by decide) (.slice T k ct) k _ rfl s (Nat.le_trans (HP5.out w5 (Fr.b0 b5)).2 (Fr.none_alloc w5 _).size) (zab (zab (zab HT.out.row (FD.out)) (Fr.b0 b5)) (Fr.none_alloc _ _)) (some ⟨w5.heap.size,0,none⟩) 1 1 [.pointer (some ⟨g,0,none⟩)] rfl (Rd.new w5 [.pointer (some ⟨g,0,none⟩)] _ 1 rfl) (by simp[Value.oneCell']) Hk.out.1 Hk.out.2 ?_;intro T6 c6 w6 ho6 hm6 _;have q6:=HP6.out w5 (Fr.b0 b5) _ _ _ _ hm6;have f6:=HF6.out w5 (Fr.b0 b5) _ _ _ _ hm6;have Hz:=q0_ (HZ.out w5 (Fr.b0 b5) _ _ _ _ _ _ g5.1 g5.2.1 g5.2.2 ho6 hm6);clear ho6 hm6 D1 D2;refine hK _ _ ?_;clear hK K;refine nl 10 ?v14 rfl ?q14 ?r14
     case q14=>intro W;go_simp;try rfl
     refine nl 11 ?v15 rfl ?q15 ?r15
     case q15=>intro W;go_simp;try rfl
     try simp only[Act.put,sA,sB,sC]
     refine rn 12 rfl (fun K hK=>?_);go_simp;refine hK _ _ ?_;clear hK K
     try simp only[Act.put,sA,sB,sC]
     refine wpAny_done (by kernel_rfl) ?_ _;go_wp2
     go_roundw
     case rel=>exact⟨k+1,T6,c6,_,by omega,by go_num,Hz.out.1,Hz.out.2⟩
     case measure=>simp[intOf];omega
    refine AllReady.cons (dg rfl) (fun K hK=>?_) ?_
    ·go_simp
     refine hK _ _ ?_;clear hK K
     try simp only[Act.put,sA,sB,sC]
     refine wpAny_ready (rs:=[4,7]) (by kernel_rfl) (by simp) ?_;refine AllReady.cons (dg rfl) (fun K hK=>?_) ?_
     ·go_simp
      refine hK _ _ ?_;clear hK K
      try simp only[Act.put,sA,sB,sC]
      refine rn 7 rfl (fun K hK=>?_);go_simp
      go_wp2_with (go_at_call 142;refine HNw.out.mono ?_;rintro r w5 ⟨⟨g,b,rfl,g5⟩,b5⟩;have q5:=(HP5.out w5 (Fr.b0 b5)).1;have q5a:=fun o=>(HP5.out (w5.alloc o) ((Fr.b0 b5).trans (Fr.none_alloc w5 o) q4_)).1;try dsimp only)
      refine rn 8 rfl (fun K hK=>?_);go_simp;refine hK _ _ ?_;clear hK K
      try simp only[Act.put,sA,sB,sC]
      refine rn 9 rfl (fun K hK=>?_);rw[if_pos (by rfl)];refine za2 (.tmp 53) (.tmp 57) 85 rfl 208 i0 (.pointer none) 1 8 underlying85 hi hz0 hz1 hz2 rfl (by decide) (.slice T k ct) k _ rfl s (Nat.le_trans (HP5.out w5 (Fr.b0 b5)).2 (Fr.none_alloc w5 _).size) (zab (zab (zab HT.out.row (FD.out)) (Fr.b0 b5)) (Fr.none_alloc _ _)) (some ⟨w5.heap.size,0,none⟩) 1 1 [.pointer (some ⟨g,0,none⟩)] rfl (Rd.new w5 [.pointer (some ⟨g,0,none⟩)] _ 1 rfl) (by simp[Value.oneCell']) Hk.out.1 Hk.out.2 ?_;intro T6 c6 w6 ho6 hm6 _;have q6:=HP6.out w5 (Fr.b0 b5) _ _ _ _ hm6;have f6:=HF6.out w5 (Fr.b0 b5) _ _ _ _ hm6;have Hz:=q0_ (HZ.out w5 (Fr.b0 b5) _ _ _ _ _ _ g5.1 g5.2.1 g5.2.2 ho6 hm6);clear ho6 hm6 D1 D2;refine hK _ _ ?_;clear hK K;refine nl 10 ?v16 rfl ?q16 ?r16
      case q16=>intro W;go_simp;try rfl
      refine nl 11 ?v17 rfl ?q17 ?r17
      case q17=>intro W;go_simp;try rfl
      try simp only[Act.put,sA,sB,sC]
      refine rn 12 rfl (fun K hK=>?_);go_simp;refine hK _ _ ?_;clear hK K
      try simp only[Act.put,sA,sB,sC]
      refine wpAny_done (by kernel_rfl) ?_ _;go_wp2
      go_roundw
      case rel=>exact⟨k+1,T6,c6,_,by omega,by go_num,Hz.out.1,Hz.out.2⟩
      case measure=>simp[intOf];omega
     refine AllReady.cons (dg rfl) (fun K hK=>?_) ?_
     ·go_simp
      go_wp2_with (go_at_call 142;refine HNw.out.mono ?_;rintro r w5 ⟨⟨g,b,rfl,g5⟩,b5⟩;have q5:=(HP5.out w5 (Fr.b0 b5)).1;have q5a:=fun o=>(HP5.out (w5.alloc o) ((Fr.b0 b5).trans (Fr.none_alloc w5 o) q4_)).1;try dsimp only)
      try simp only[Act.put,sA,sB,sC]
      refine wpAny_ready (rs:=[4,8]) (by kernel_rfl) (by simp) ?_;refine AllReady.cons (dg rfl) (fun K hK=>?_) ?_
      ·go_simp
       refine hK _ _ ?_;clear hK K
       try simp only[Act.put,sA,sB,sC]
       refine rn 8 rfl (fun K hK=>?_);go_simp;refine hK _ _ ?_;clear hK K
       try simp only[Act.put,sA,sB,sC]
       refine rn 9 rfl (fun K hK=>?_);rw[if_pos (by rfl)];refine za2 (.tmp 53) (.tmp 57) 85 rfl 208 i0 (.pointer none) 1 8 underlying85 hi hz0 hz1 hz2 rfl (by decide) (.slice T k ct) k _ rfl s (Nat.le_trans (HP5.out w5 (Fr.b0 b5)).2 (Fr.none_alloc w5 _).size) (zab (zab (zab HT.out.row (FD.out)) (Fr.b0 b5)) (Fr.none_alloc _ _)) (some ⟨w5.heap.size,0,none⟩) 1 1 [.pointer (some ⟨g,0,none⟩)] rfl (Rd.new w5 [.pointer (some ⟨g,0,none⟩)] _ 1 rfl) (by simp[Value.oneCell']) Hk.out.1 Hk.out.2 ?_;intro T6 c6 w6 ho6 hm6 _;have q6:=HP6.out w5 (Fr.b0 b5) _ _ _ _ hm6;have f6:=HF6.out w5 (Fr.b0 b5) _ _ _ _ hm6;have Hz:=q0_ (HZ.out w5 (Fr.b0 b5) _ _ _ _ _ _ g5.1 g5.2.1 g5.2.2 ho6 hm6);clear ho6 hm6 D1 D2;refine hK _ _ ?_;clear hK K;refine nl 10 ?v18 rfl ?q18 ?r18
       case q18=>intro W;go_simp;try rfl
       refine nl 11 ?v19 rfl ?q19 ?r19
       case q19=>intro W;go_simp;try rfl
       try simp only[Act.put,sA,sB,sC]
       refine rn 12 rfl (fun K hK=>?_);go_simp;refine hK _ _ ?_;clear hK K
       try simp only[Act.put,sA,sB,sC]
       refine wpAny_done (by kernel_rfl) ?_ _;go_wp2
       go_roundw
       case rel=>exact⟨k+1,T6,c6,_,by omega,by go_num,Hz.out.1,Hz.out.2⟩
       case measure=>simp[intOf];omega
      refine AllReady.cons (dg rfl) (fun K hK=>?_) ?_
      ·go_simp
       refine hK _ _ ?_;clear hK K
       try simp only[Act.put,sA,sB,sC]
       refine rn 4 rfl (fun K hK=>?_);go_simp;refine hK _ _ ?_;clear hK K
       try simp only[Act.put,sA,sB,sC]
       refine rn 9 rfl (fun K hK=>?_);rw[if_pos (by rfl)];refine za2 (.tmp 53) (.tmp 57) 85 rfl 208 i0 (.pointer none) 1 8 underlying85 hi hz0 hz1 hz2 rfl (by decide) (.slice T k ct) k _ rfl s (Nat.le_trans (HP5.out w5 (Fr.b0 b5)).2 (Fr.none_alloc w5 _).size) (zab (zab (zab HT.out.row (FD.out)) (Fr.b0 b5)) (Fr.none_alloc _ _)) (some ⟨w5.heap.size,0,none⟩) 1 1 [.pointer (some ⟨g,0,none⟩)] rfl (Rd.new w5 [.pointer (some ⟨g,0,none⟩)] _ 1 rfl) (by simp[Value.oneCell']) Hk.out.1 Hk.out.2 ?_;intro T6 c6 w6 ho6 hm6 _;have q6:=HP6.out w5 (Fr.b0 b5) _ _ _ _ hm6;have f6:=HF6.out w5 (Fr.b0 b5) _ _ _ _ hm6;have Hz:=q0_ (HZ.out w5 (Fr.b0 b5) _ _ _ _ _ _ g5.1 g5.2.1 g5.2.2 ho6 hm6);clear ho6 hm6 D1 D2;refine hK _ _ ?_;clear hK K;refine nl 10 ?v20 rfl ?q20 ?r20
       case q20=>intro W;go_simp;try rfl
       refine nl 11 ?v21 rfl ?q21 ?r21
       case q21=>intro W;go_simp;try rfl
       try simp only[Act.put,sA,sB,sC]
       refine rn 12 rfl (fun K hK=>?_);go_simp;refine hK _ _ ?_;clear hK K
       try simp only[Act.put,sA,sB,sC]
       refine wpAny_done (by kernel_rfl) ?_ _;go_wp2
       go_roundw
       case rel=>exact⟨k+1,T6,c6,_,by omega,by go_num,Hz.out.1,Hz.out.2⟩
       case measure=>simp[intOf];omega
      exact AllReady.nil
     exact AllReady.nil
    exact AllReady.nil
   ·obtain rfl:k=n:=by omega
    have Hp:=q0_ hp;clear hp hf;go_wp2
    go_ret2
    rw[hs];refine⟨⟨fun _=>⟨t,rfl,?_⟩,fun h=>absurd hyes h⟩,HB4.out.trans (Hf.out.below_of hs3 (fun _ h=>h))⟩;obtain rfl:lt.length=k:=Hln.out;exact Hp.out.done (by show (lt.map _).length=lt.length;simp)
theorem zdv.down{w:World}{t base b:Nat}{X:ShX}{A B T:Option Addr}{c d ct:Nat}{tb:List (Nat×Nat)}(h:zdv w t base X A c B d T ct tb)(hb:b≤base):zdv w t b X A c B d T ct tb:=
 ⟨h.blk,zaY h.tiers hb,zaY h.srcs hb,zaY h.row hb,h.tlen,h.tab,h.nodup,fun p hp=>⟨Nat.le_trans hb (h.ge p hp).1,Nat.le_trans hb (h.ge p hp).2⟩,Nat.le_trans hb h.tge⟩
theorem zfk.down{w:World}{t base b:Nat}{X:ShX}(h:zfk w t base X)(hb:b≤base):zfk w t b X:=by
 obtain⟨A,c,B,d,T,ct,tb,hi⟩:=h;exact⟨A,c,B,d,T,ct,tb,hi.down hb⟩
theorem zmr{L:List Nat}{k:Nat}(h:∀ x∈L,x≤k):L.sum≤L.length*k:=by
 induction L with
 | nil=>simp
 | cons a L ih=>
  have h1:=ih (fun x hx=>h x (List.mem_cons_of_mem _ hx));have h2:=h a (by simp);rw[List.sum_cons,List.length_cons,Nat.succ_mul];omega
theorem zef{nm:ByteArray}{l:List za_}{fl:List Int}{X:zac}{c:Nat}(p:zaO nm l)(hg:zbm nm l fl X c)(hc:c≤1000000):zbb X≤1000000000:=by
 unfold zbb
 have h:=zmr (L:=zcu X) (k:=8*(1000000+2)) (fun x hx=>by
  obtain⟨k,hk⟩:=List.getElem?_of_mem hx;unfold zcu at hk;rw[List.getElem?_zipWith_eq_some] at hk;obtain⟨a,b,ha,hb,rfl⟩:=hk;rw[hg.tiers] at ha;have h8:=(zaq p.ck (zaa ha)).2.2.2.2.2;have h9:=zlR (max a.shards 1) (by omega) b;have h10:=hg.len b (zaa hb)
  omega)
 have hl:(zcu X).length≤5:=by
  unfold zcu;rw[List.length_zipWith,hg.tiers];have:=p.five;omega
 have:(zcu X).length*(8*(1000000+2))≤5*(8*(1000000+2)):=Nat.mul_le_mul_right _ hl;omega
theorem zoY{nm nm2:ByteArray}{l lt:List za_}{fl:List Int}{lo:Nat}{W:World}{t:Nat}{X:zac}{F:Nat→Prop}{cc:Nat}(p:zaO nm l)(hnm:nm.size≤maxLen)(hnm2:nm2.size≤maxLen)(h:Tio nm l fl lo W t X F cc)(hc:cc≤1000000)(hfl:∀ f∈fl,0≤f∧f≤2199023255552)(A2:Option Addr)(cc2:Nat)(ht2:Rd W 4 A2 lt.length (zag lt))(hnc2:lt.length≤cc2)(hwf2:∀ t∈lt,t.wf):
  Calls prog 105 #[.pointer (some ⟨t,0,none⟩),.agg #[.string nm2,.slice A2 lt.length cc2]] W fun r w'=>((zai nm2 lt=true→∃ s,r=.returned (.tuple #[.pointer (some ⟨s,0,none⟩),.int .i64 0])∧zfk w' s W.heap.size ⟨nm2,lt,srcs X.now l fl lt,2*((zbb (zaj X nm2 lt (srcs X.now l fl lt)):Nat):Int)+zap lt,0,lt.map fun _=>[]⟩)∧(zai nm2 lt=false→r=.returned (.tuple #[.pointer none,.int .i64 23])))∧Below W.heap.size W w':=by
 obtain⟨n,hnl⟩:∃ n,l.length=n:=⟨_,rfl⟩
 obtain⟨mf,hmf⟩:∃ m,fl.length=m:=⟨_,rfl⟩
 obtain⟨n2,hn2⟩:∃ m,lt.length=m:=⟨_,rfl⟩
 rw[hn2] at ht2 hnc2 ⊢;have Hnl:=q0_ hnl;have Hmf:=q0_ hmf;have Hn2:=q0_ hn2;have hfive:=p.five;obtain⟨tA,tc,tB,td,hR⟩:=h.reach;have HR:=q0_ hR;have HT:=q0_ h;have hX0:0≤X.now∧X.now≤1099511627776:=h.good.now;have Ht2:=q0_ ht2
 obtain⟨W0,hW0⟩:∃ W0,W0=W.alloc (.cells #[.string nm2,.slice A2 n2 cc2] 25):=⟨_,rfl⟩
 have HW0:=q0_ hW0
 have F0:Hid (Fr (fun _=>False) W W0):=by show Fr _ _ _;rw[hW0];exact Fr.none_alloc _ _
 have B0:Hid (Blk W0 W.heap.size 25 #[.string nm2,.slice A2 n2 cc2]):=by show Blk _ _ _ _;rw[hW0];exact Blk.new _ _ _
 have HC0:Hid (∀ W',Fr (fun _=>False) W0 W'→W'.cell? ⟨W.heap.size,0,none⟩=some (.string nm2)∧W'.cell? ⟨W.heap.size,1,none⟩=some (.slice A2 n2 cc2)∧W'.cell? ⟨t,0,none⟩=some (.int .i64 X.now)∧W'.cell? ⟨t,1,none⟩=some (.string nm)∧W'.cell? ⟨t,2,none⟩=some (.slice tA n tc)∧W'.cell? ⟨t,3,none⟩=some (.slice tB mf td)):=fun W' f=>by
  have b:=B0.out.fr f (fun h=>h);have h:=HR.out.fr0 (F0.out.trans f q4_);have h2:=h.c2;have h3:=h.c3;rw[Hnl.out] at h2;rw[Hmf.out] at h3;exact⟨b.cell 0,b.cell 1,h.c0,h.c1,h2,h3⟩
 have HRt:Hid (∀ W',Fr (fun _=>False) W0 W'→Rd W' 4 tA n (zag l)∧Rd W' 1 tB mf (zaU fl)):=fun W' f=>by
  have h:=HR.out.fr0 (F0.out.trans f q4_);have h1:=h.rt;have h2:=h.rf;rw[Hnl.out] at h1;rw[Hmf.out] at h2;exact⟨h1,h2⟩
 have htc:n≤tc:=by have:=hR.le;omega
 obtain⟨x0,hx0⟩:∃ v,X.now=v:=⟨_,rfl⟩
 rw[hx0] at HC0 hX0;clear hW0 h ht2 hR
 cases hck2:zai nm2 lt with
 | false=>
  have HMk:Hid (∀ W',Fr (fun _=>False) W0 W'→Calls prog 154 #[.agg #[.string nm,.slice tA n tc],.agg #[.int .i64 x0,.string nm,.slice tA n tc,.slice tB mf td],.agg #[.string nm2,.slice A2 n2 cc2]] W' fun r w'=>r=.returned (.tuple #[.agg #[.string ByteArray.empty,.slice none 0 0,.slice none 0 0],.int .i64 23])∧Below W'.heap.size W' w'):=fun W' f=>
   zpW nm l tA n tc x0 nm tA n tc tB mf td nm2 lt A2 n2 cc2 W' (HRt.out W' f).1 htc (Ht2.out.fr0 (F0.out.trans f q4_)) hnc2 p.wf hwf2 hnm hnm2 (by rw[hck2,Bool.and_false])
  clear hck2 hx0;go_enter func105,ntmps105;go_wp2_with fail;rw[← HW0.out]
  go_cut [6,7] (fun s6 s7 wx=>(∃ g,s6=.pointer (some ⟨g,0,none⟩))∧s7=.int .i64 23∧Fr (fun _=>False) W0 wx)
  case first=>
   refine wp_region_held_drew (S:=fun W=>Fr (fun _=>False) W0 W) (by kernel_rfl) ((Fr.refl _ W0).drew) (fun hY_=>?_);refine tq 10 [0,1,2,3,4,5,6,7,8,9] ?_
   iterate 9 refine sf HC0.out ?_
   refine sf HC0.out ?_
   try simp only[Act.put,sA,sB,sC]
   refine sz ?_
   try simp only[Act.put,sA,sB,sC]
   refine wpAnyH_ready (rs:=[10,14]) (by kernel_rfl) (by simp) ?_;refine AllReadyH.cons (dg rfl) (fun K hK=>?_) ?_
   ·go_simp
    go_wp2_with (go_at_call 154;refine (HMk.out _ hY_).mono ?_;rintro r wm ⟨rfl,b5⟩)
    refine hK.out _ _ (hY_.trans (Fr.b0 b5) q4_) (fun hY_=>?_);clear hK K;refine tq 3 [11,12,13] ?_
    iterate 2 refine sf HC0.out ?_
    refine sf HC0.out ?_
    try simp only[Act.put,sA,sB,sC]
    refine sz ?_
    try simp only[Act.put,sA,sB,sC]
    refine rl 14 rfl (fun K hK=>?_);go_simp;have hHm:=hY_;refine hK.out _ _ (hHm.trans (Fr.none_alloc _ _) q4_) (fun hY_=>?_);clear hK K
    try simp only[Act.put,sA,sB,sC]
    refine rl 15 rfl (fun K hK=>?_);go_simp;refine hK.out _ _ (hHm.trans (Fr.none_alloc _ _) q4_) (fun hY_=>?_);clear hK K;refine tl 16 ?v14 rfl ?q14 ?r14
    case q14=>intro W hSw;(try obtain⟨p0,p1,t0,t1,t2,t3⟩:=HC0.out W hSw);go_simp;try rfl
    try simp only[Act.put,sA,sB,sC]
    refine wpAnyH_done (by kernel_rfl) ?_ _;go_wp2
    go_meet
    exact⟨⟨_,rfl⟩,rfl,hY_⟩
   refine AllReadyH.cons (dg rfl) (fun K hK=>?_) AllReadyH.nil;go_simp;have BPz:=q0_ (Blk.new W0 91 #[.string ByteArray.empty,.slice none 0 0,.slice none 0 0]).drew;refine hK.out _ _ (by first | exact ((Fr.refl _ W0).alloc _).drew | exact hY_.alloc _) (fun hY_=>?_);clear hK K
   try simp only[Act.put,sA,sB,sC]
   refine rl 10 rfl (fun K hK=>?_);go_simp
   go_wp2_with (go_at_call 154;refine (HMk.out _ hY_).mono ?_;rintro r wm ⟨rfl,b5⟩)
   have BPm:=q0_ (BPz.out.below b5);have g0:=BPm.out.frozen 0;have g1:=BPm.out.frozen 1;have g2:=BPm.out.frozen 2;have q0:=BPm.out.cell 0;have q1:=BPm.out.cell 1;have q2:=BPm.out.cell 2;simp only[q1_,q2_,q3_] at q0 q1 q2;refine hK.out _ _ (hY_.trans (Fr.b0 b5) q4_) (fun hY_=>?_);clear hK K;refine tq 3 [11,12,13] ?_
   iterate 2 refine sf HC0.out ?_
   refine sf HC0.out ?_
   try simp only[Act.put,sA,sB,sC]
   refine sz ?_
   try simp only[Act.put,sA,sB,sC]
   refine rl 15 rfl (fun K hK=>?_);go_simp;refine hK.out _ _ (hY_.set3 (.inr (Nat.le_refl _)) _ _ _) (fun hY_=>?_);clear hK K;refine tl 16 ?v18 rfl ?q18 ?r18
   case q18=>intro W hSw;(try obtain⟨p0,p1,t0,t1,t2,t3⟩:=HC0.out W hSw);go_simp;try rfl
   try simp only[Act.put,sA,sB,sC]
   refine wpAnyH_done (by kernel_rfl) ?_ _;go_wp2
   go_meet
   exact⟨⟨_,rfl⟩,rfl,hY_⟩
  case rest=>
   obtain⟨⟨pg,rfl⟩,rfl,hf5⟩:=hcut;have F5:=q0_ hf5;clear hf5;go_wp2
   go_ret2
   exact⟨⟨fun h=>absurd h (by simp),fun _=>rfl⟩,(F0.out.trans F5.out q4_).below q4_⟩
 | true=>
 have P2:=q0_ (show zaO nm2 lt from⟨hck2,hwf2⟩);have hfive2:=P2.out.five
 have HMk:Hid (∀ W',Fr (fun _=>False) W0 W'→Calls prog 154 #[.agg #[.string nm,.slice tA n tc],.agg #[.int .i64 x0,.string nm,.slice tA n tc,.slice tB mf td],.agg #[.string nm2,.slice A2 n2 cc2]] W' fun r w'=>(∃ A' c' S cs,r=.returned (.tuple #[.agg #[.string nm2,.slice A' n2 c',.slice S n2 cs],.int .i64 0])∧n2≤c'∧∀ wx,Fr (fun k=>k<W'.heap.size) w' wx→Rd wx 4 A' n2 (zag lt)∧Rd wx 1 S n2 (zaU (srcs x0 l fl lt)))∧Below W'.heap.size W' w'):=fun W' f=>by
  have h0:0≤X.now∧X.now≤1099511627776:=by rw[hx0];exact hX0
  have:=zpq p P2.out hnm hnm2 (HR.out.fr0 (F0.out.trans f q4_)) h0 tA tc (HR.out.fr0 (F0.out.trans f q4_)).rt (by rw[hnl];exact htc) A2 cc2 (by rw[hn2];exact Ht2.out.fr0 (F0.out.trans f q4_)) (by rw[hn2];exact hnc2);rw[hnl,hmf,hn2,hx0] at this;exact this
 have HBu:Hid (∀ W' A' c' S cs,Fr (fun _=>False) W0 W'→n2≤c'→Rd W' 4 A' n2 (zag lt)→Rd W' 1 S n2 (zaU (srcs x0 l fl lt))→Calls prog 150 #[.agg #[.string nm2,.slice A' n2 c',.slice S n2 cs],.pointer (some ⟨t,0,none⟩)] W' fun r w'=>(∃ t' F',r=.returned (.tuple #[.pointer (some ⟨t',0,none⟩),.int .i64 0])∧Tio nm2 lt (zaw X.now l fl (srcs X.now l fl lt) lt) W.heap.size w' t' (zaj X nm2 lt (srcs X.now l fl lt)) F' cc∧∀ j,F' j→W'.heap.size≤j)∧Below W'.heap.size W' w'):=fun W' A' c' S cs f hc' h1 h2=>by
  rw[← hx0] at h2;exact zcI p P2.out hnm2 (HT.out.fr0 (F0.out.trans f q4_)) hc hfl A' n2 c' S cs h1 hc' h2 W.heap.size (F0.out.trans f q4_).size
 obtain⟨bs,hbs⟩:∃ v,zaw X.now l fl (srcs X.now l fl lt) lt=v:=⟨_,rfl⟩
 obtain⟨Y,hY⟩:∃ v,zaj X nm2 lt (srcs X.now l fl lt)=v:=⟨_,rfl⟩
 obtain⟨ss,hss⟩:∃ v,srcs X.now l fl lt=v:=⟨_,rfl⟩
 have hss2:srcs x0 l fl lt=ss:=by rw[← hss,hx0]
 rw[hbs,hY] at HBu;rw[hss2] at HBu HMk;rw[hY,hss];have HNe:Hid (∀ W' (u:Nat) (F':Nat→Prop),Tio nm2 lt bs W.heap.size W' u Y F' cc→Calls prog 100 #[.pointer (some ⟨u,0,none⟩)] W' fun r w'=>r=.returned (.int .i64 (zbb Y:Nat))∧Below W'.heap.size W' w'):=fun W' u F' hT=>zf3 P2.out hT hc
 have hne0:zbb Y≤1000000000:=by
  rw[← hY];exact zef P2.out (zbI p.ck HT.out.good hfl P2.out.ck) hc
 obtain⟨N,hN⟩:∃ v,zbb Y=v:=⟨_,rfl⟩
 rw[hN] at HNe hne0 ⊢;have h8:∀ t∈lt,t.shards≤8:=fun t ht=>(zaq P2.out.ck ht).2.2.2.2.2
 have h1s:∀ t∈lt,0≤t.shards:=fun t ht=>by have:=zaq P2.out.ck ht;omega
 have hfi:=zcS h8;have HBo:Hid (∀ W' A' c' S cs,Rd W' 4 A' n2 (zag lt)→Calls prog 156 #[.agg #[.string nm2,.slice A' n2 c',.slice S n2 cs],.int .i64 (N:Nat)] W' fun r w'=>r=.returned (.int .i64 (2*(N:Nat)+zap lt))∧Below W'.heap.size W' w'):=fun W' A' c' S cs h1=>zoU nm2 lt A' n2 c' S n2 cs (N:Nat) (by omega) (by omega) W' h1 (by omega) h8
 obtain⟨bd,hbd⟩:∃ v,2*((N:Nat):Int)+zap lt=v:=⟨_,rfl⟩
 rw[hbd] at HBo ⊢
 have hbd0:0≤bd:=by omega
 have hst:zn8 lt bd 0:=by
  have hne:lt≠[]:=by rintro rfl;have:=P2.out.pos;simp at this
  have hst2:zaX lt=zap lt+2:=by simp[zaX,hne]
  unfold zn8;omega
 have HRe:Hid (∀ W' A' c' S cs,Rd W' 4 A' n2 (zag lt)→Rd W' 1 S n2 (zaU ss)→Calls prog 155 #[.agg #[.string nm2,.slice A' n2 c',.slice S n2 cs],.int .i64 bd,.int .i64 0] W' fun r w'=>(∃ s,r=.returned (.tuple #[.pointer (some ⟨s,0,none⟩),.int .i64 0])∧zfk w' s W'.heap.size ⟨nm2,lt,ss,bd,0,lt.map fun _=>[]⟩)∧Below W'.heap.size W' w'):=fun W' A' c' S cs h1 h2=>by
  refine (zhB nm2 lt A' n2 c' ss S n2 cs bd 0 W' h1 (by omega) h8 (fun t ht=>(zaq P2.out.ck ht).1) h2 (by omega)).mono ?_;rintro r w' ⟨⟨h3,_⟩,hb⟩;exact⟨h3 hst,hb⟩
 clear hx0 hbs hss hY hss2 hck2 hN hbd hst;go_enter func105,ntmps105;go_wp2_with fail;rw[← HW0.out]
 go_cut [6,7] (fun s6 s7 wx=>∃ (g:Nat) (A':Option Addr) (c':Nat) (S:Option Addr) (cs:Nat),s6=.pointer (some ⟨g,0,none⟩)∧s7=.int .i64 0∧Blk wx g 91 #[.string nm2,.slice A' n2 c',.slice S n2 cs]∧n2≤c'∧Rd wx 4 A' n2 (zag lt)∧Rd wx 1 S n2 (zaU ss)∧Fr (fun _=>False) W0 wx)
 case first=>
  refine wp_region_held_drew (S:=fun W=>Fr (fun _=>False) W0 W) (by kernel_rfl) ((Fr.refl _ W0).drew) (fun hY_=>?_);refine tq 10 [0,1,2,3,4,5,6,7,8,9] ?_
  iterate 9 refine sf HC0.out ?_
  refine sf HC0.out ?_
  try simp only[Act.put,sA,sB,sC]
  refine sz ?_
  try simp only[Act.put,sA,sB,sC]
  refine wpAnyH_ready (rs:=[10,14]) (by kernel_rfl) (by simp) ?_;refine AllReadyH.cons (dg rfl) (fun K hK=>?_) ?_
  ·go_simp
   go_wp2_with (go_at_call 154;refine (HMk.out _ hY_).mono ?_;rintro r wm ⟨⟨A5,c5,S5,cs5,rfl,hc5,rr5⟩,b5⟩)
   have rr5:=q0_ rr5;refine hK.out _ _ (hY_.trans (Fr.b0 b5) q4_) (fun hY_=>?_);clear hK K;refine tq 3 [11,12,13] ?_
   iterate 2 refine sf HC0.out ?_
   refine sf HC0.out ?_
   try simp only[Act.put,sA,sB,sC]
   refine sz ?_
   try simp only[Act.put,sA,sB,sC]
   refine rl 14 rfl (fun K hK=>?_);go_simp;have hHm:=hY_;refine hK.out _ _ (hHm.trans (Fr.none_alloc _ _) q4_) (fun hY_=>?_);clear hK K
   try simp only[Act.put,sA,sB,sC]
   refine rl 15 rfl (fun K hK=>?_);go_simp;refine hK.out _ _ (hHm.trans (Fr.none_alloc _ _) q4_) (fun hY_=>?_);clear hK K;refine tl 16 ?v32 rfl ?q32 ?r32
   case q32=>intro W hSw;(try obtain⟨p0,p1,t0,t1,t2,t3⟩:=HC0.out W hSw);go_simp;try rfl
   try simp only[Act.put,sA,sB,sC]
   refine wpAnyH_done (by kernel_rfl) ?_ _;go_wp2
   go_meet
   exact⟨wm.heap.size,A5,c5,S5,cs5,rfl,rfl,Blk.new _ _ _,hc5,(rr5.out _ ((Fr.none_alloc _ _).mono q4_)).1,(rr5.out _ ((Fr.none_alloc _ _).mono q4_)).2,hY_⟩
  refine AllReadyH.cons (dg rfl) (fun K hK=>?_) AllReadyH.nil;go_simp;have BPz:=q0_ (Blk.new W0 91 #[.string ByteArray.empty,.slice none 0 0,.slice none 0 0]).drew;refine hK.out _ _ (by first | exact ((Fr.refl _ W0).alloc _).drew | exact hY_.alloc _) (fun hY_=>?_);clear hK K
  try simp only[Act.put,sA,sB,sC]
  refine rl 10 rfl (fun K hK=>?_);go_simp
  go_wp2_with (go_at_call 154;refine (HMk.out _ hY_).mono ?_;rintro r wm ⟨⟨A5,c5,S5,cs5,rfl,hc5,rr5⟩,b5⟩)
  have rr5:=q0_ rr5;have BPm:=q0_ (BPz.out.below b5);have g0:=BPm.out.frozen 0;have g1:=BPm.out.frozen 1;have g2:=BPm.out.frozen 2;have q0:=BPm.out.cell 0;have q1:=BPm.out.cell 1;have q2:=BPm.out.cell 2;simp only[q1_,q2_,q3_] at q0 q1 q2;refine hK.out _ _ (hY_.trans (Fr.b0 b5) q4_) (fun hY_=>?_);clear hK K;refine tq 3 [11,12,13] ?_
  iterate 2 refine sf HC0.out ?_
  refine sf HC0.out ?_
  try simp only[Act.put,sA,sB,sC]
  refine sz ?_
  try simp only[Act.put,sA,sB,sC]
  refine rl 15 rfl (fun K hK=>?_);go_simp;refine hK.out _ _ (hY_.set3 (.inr (Nat.le_refl _)) _ _ _) (fun hY_=>?_);clear hK K;refine tl 16 ?v36 rfl ?q36 ?r36
  case q36=>intro W hSw;(try obtain⟨p0,p1,t0,t1,t2,t3⟩:=HC0.out W hSw);go_simp;try rfl
  try simp only[Act.put,sA,sB,sC]
  refine wpAnyH_done (by kernel_rfl) ?_ _;go_wp2
  go_meet
  exact⟨W0.heap.size,A5,c5,S5,cs5,rfl,rfl,BPm.out.set3,hc5,(rr5.out _ ((Fr.refl _ wm).set3 (.inl (by simp)) _ _ _)).1,(rr5.out _ ((Fr.refl _ wm).set3 (.inl (by simp)) _ _ _)).2,hY_⟩
 case rest=>
  obtain⟨pg,A5,c5,S5,cs5,rfl,rfl,hb5,hc5,ra5,rs5,hf5⟩:=hcut;have F5:=q0_ hf5;have B5:=q0_ hb5;have Ra5:=q0_ ra5;have Rs5:=q0_ rs5;have p0:=hb5.cell 0;have p1:=hb5.cell 1;have p2:=hb5.cell 2;simp only[q1_,q2_,q3_] at p0 p1 p2;have HB6:=q0_ (HBu.out _ A5 c5 S5 cs5 F5.out hc5 ra5 rs5);clear hb5 ra5 rs5 hf5 HBu HMk;go_wp2_with fail;refine HB6.out.mono ?_;rintro r w6 ⟨⟨tt,FF,rfl,T6,_⟩,b6⟩;have F6:Hid (Fr (fun _=>False) W0 w6):=F5.out.trans (Fr.b0 b6) q4_;have HNe6:Hid (∀ W',Fr (fun _=>False) w6 W'→Calls prog 100 #[.pointer (some ⟨tt,0,none⟩)] W' fun r w'=>r=.returned (.int .i64 (N:Nat))∧Below W'.heap.size W' w'):=fun W' f=>HNe.out W' tt FF (T6.fr0 f)
  have HC6:Hid (∀ W',Fr (fun _=>False) w6 W'→W'.cell? ⟨pg,0,none⟩=some (.string nm2)∧W'.cell? ⟨pg,1,none⟩=some (.slice A5 n2 c5)∧W'.cell? ⟨pg,2,none⟩=some (.slice S5 n2 cs5)):=fun W' f=>by
   have b:=(B5.out.below b6).fr f (fun h=>h);exact⟨b.cell 0,b.cell 1,b.cell 2⟩
  have HBo6:Hid (∀ W',Fr (fun _=>False) w6 W'→Calls prog 156 #[.agg #[.string nm2,.slice A5 n2 c5,.slice S5 n2 cs5],.int .i64 (N:Nat)] W' fun r w'=>r=.returned (.int .i64 bd)∧Below W'.heap.size W' w'):=fun W' f=>HBo.out W' A5 c5 S5 cs5 ((Ra5.out.below b6).fr0 f);have HRe6:Hid (∀ W',Fr (fun _=>False) w6 W'→Calls prog 155 #[.agg #[.string nm2,.slice A5 n2 c5,.slice S5 n2 cs5],.int .i64 bd,.int .i64 0] W' fun r w'=>(∃ s,r=.returned (.tuple #[.pointer (some ⟨s,0,none⟩),.int .i64 0])∧zfk w' s W'.heap.size ⟨nm2,lt,ss,bd,0,lt.map fun _=>[]⟩)∧Below W'.heap.size W' w'):=fun W' f=>HRe.out W' A5 c5 S5 cs5 ((Ra5.out.below b6).fr0 f) ((Rs5.out.below b6).fr0 f);clear T6 b6 HNe HBo HRe p0 p1 p2 HB6;go_wp2_with fail;refine wp_region_held_drew (S:=fun W=>Fr (fun _=>False) w6 W) (by kernel_rfl) ((Fr.refl _ w6).drew) (fun hY_=>?_);refine tq 3 [0,1,2] ?_
  iterate 2 refine sf HC6.out ?_
  refine sk ?_
  try simp only[Act.put,sA,sB,sC]
  refine sz ?_
  try simp only[Act.put,sA,sB,sC]
  refine rl 3 rfl (fun K hK=>?_);go_simp
  go_wp2_with (go_at_call 100;refine (HNe6.out _ hY_).mono ?_;rintro r wa ⟨rfl,ba⟩)
  refine hK.out _ _ (hY_.trans (Fr.b0 ba) q4_) (fun hY_=>?_);clear hK K
  try simp only[Act.put,sA,sB,sC]
  refine rl 4 rfl (fun K hK=>?_);go_simp
  go_wp2_with (go_at_call 156;refine (HBo6.out _ hY_).mono ?_;rintro r wb ⟨rfl,bb⟩)
  refine hK.out _ _ (hY_.trans (Fr.b0 bb) q4_) (fun hY_=>?_);clear hK K
  try simp only[Act.put,sA,sB,sC]
  refine rl 5 rfl (fun K hK=>?_);go_simp
  go_wp2_with (go_at_call 155;refine (HRe6.out _ hY_).mono ?_;rintro r wc ⟨⟨sp,rfl,hs⟩,bc'⟩)
  have Hs:=q0_ hs;have hwb:=hY_.size;refine hK.out _ _ (hY_.trans (Fr.b0 bc') q4_) (fun hY_=>?_);clear hK K;refine tq 4 [6,7,8,9] ?_
  iterate 3 refine sf HC6.out ?_
  refine sf HC6.out ?_
  try simp only[Act.put,sA,sB,sC]
  refine sz ?_
  try simp only[Act.put,sA,sB,sC]
  refine wpAnyH_done (by kernel_rfl) ?_ _;have F7:Hid (Fr (fun _=>False) W W0):=F0.out;have Fl:Hid (Fr (fun _=>False) w6 wc):=hY_;have hsz:W.heap.size≤wb.heap.size:=Nat.le_trans (F0.out.trans F6.out q4_).size hwb;clear hY_ hs bc';go_wp2
  go_ret2
  exact⟨⟨fun _=>⟨sp,rfl,Hs.out.down hsz⟩,fun h=>absurd h (by simp)⟩,((F0.out.trans F6.out q4_).trans Fl.out q4_).below q4_⟩
end Go.Proofs.YteajonicnkpbbaaGreatDoor
