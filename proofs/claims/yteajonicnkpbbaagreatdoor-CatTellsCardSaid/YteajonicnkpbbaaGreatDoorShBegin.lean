/- Walk of shadow: Resume. -/
import Derived.Test.YteajonicnkpbbaaGreatDoorPlanBuild
namespace Go.Proofs.YteajonicnkpbbaaGreatDoor
set_option linter.all false
set_option maxHeartbeats 8000000
set_option maxRecDepth 100000
open Go.RowKit Tryz
def zph(lt:List zaa)(bound done:Int):Prop:=zb1 lt≠0∧0≤bound∧0≤done∧done<zb1 lt
theorem zeY{w:World}{base b n size:Nat}{e ty:TypeId}{v:Value}{xs:List Value}{cs:Array Value}(h:w.ownsRow base e size v n xs)(hb:Blk w b ty cs)(hne:e≠ty):∀ j,zag v j→¬ j=b:=fun j hj e'=>zac h hb hne (by rw[← e'];exact hj)
theorem zll(nm:ByteArray)(lt:List zaa)(A:Option Addr)(n c:Nat)(ss:List Int)(S:Option Addr)(m d:Nat)(bound done:Int)(w:World)(hr:Rd w 4 A n (zaf lt))(hn:n≤1099511627776)(hs8:∀ t∈lt,t.shards≤8)(hev:∀ t∈lt,1≤t.every)(hf:Rd w 1 S m (za6 ss))(hm:m≤1099511627776):
  Calls prog 155 #[.agg #[.string nm,.slice A n c,.slice S m d],.int .i64 bound,.int .i64 done] w fun r w'=>((zph lt bound done→∃ t,r=.returned (.tuple #[.pointer (some ⟨t,0,none⟩),.int .i64 0])∧zip w' t w.heap.size (⟨nm,lt,ss,bound,done,lt.map fun _=>[]⟩:ShX))∧(¬ zph lt bound done→r=.returned (.tuple #[.pointer none,.int .i64 1])))∧Below w.heap.size w w':=by
 have HSt:Hid (∀ W,Fr (fun _=>False) w W→Calls prog 193 #[.agg #[.string nm,.slice A n c,.slice S m d]] W fun r w'=>r=.returned (.int .i64 (zb1 lt))∧Below W.heap.size W w'):=fun W f=>zmj nm lt A n c S m d W (hr.fr0 f) hn hs8;have HCp:Hid (∀ W,Fr (fun _=>False) w W→Calls prog 107 #[.agg #[.string nm,.slice A n c]] W fun r w'=>(∃ A' c',r=.returned (.agg #[.string nm,.slice A' n c'])∧w'.ownsRow W.heap.size 99 4 (.slice A' n c') n (zaf lt))∧Below W.heap.size W w'):=fun W f=>zda nm lt A n c W (hr.fr0 f) hn;have HCl:Hid (∀ W,Fr (fun _=>False) w W→Calls prog 108 #[.slice S m d] W fun r w'=>(∃ A' c',r=.returned (.slice A' m c')∧w'.ownsRow W.heap.size 3 1 (.slice A' m c') m (za6 ss))∧Below W.heap.size W w'):=fun W f=>ze5 (za6 ss) (zfD ss) S m d W (hf.fr0 f) hm;have Hln:=q0_ hr.tiers_len;have Hlm:=q0_ (Rd.len_map hf);have Hev:=q0_ hev;clear hr hf
 obtain⟨stv,hstv⟩:∃ v,zb1 lt=v:=⟨_,rfl⟩
 unfold zph;rw[hstv] at HSt ⊢;clear hstv;go_enter func155,ntmps155;have BP:=q0_ (Blk.new w 91 #[.string nm,.slice A n c,.slice S m d]);have FB:=q0_ (Fr.none_alloc w (.cells #[.string nm,.slice A n c,.slice S m d] 91));go_wp2_with fail;refine (HSt.out _ FB.out).mono ?_;rintro r w1 ⟨rfl,b1⟩;have FB:=q0_ (FB.out.trans (Fr.b0 b1) q4_);have BP:=q0_ (BP.out.below b1);have d0:=BP.out.cell 0;have d1:=BP.out.cell 1;have d2:=BP.out.cell 2;simp only[q1_,q2_,q3_] at d0 d1 d2;clear b1
 by_cases h1:stv=0
 ·have e1:(stv==0)=true:=by simpa using h1
  have hno:¬ (stv≠0∧0≤bound∧0≤done∧done<stv):=fun h=>h.1 h1;go_wp2
  go_ret2
  exact⟨⟨fun h=>absurd h hno,fun _=>rfl⟩,FB.out.below q4_⟩
 have e1:(stv==0)=false:=by simpa using h1
 by_cases h2:bound<0
 ·have e2:decide (bound<0)=true:=qa_ h2
  have hno:¬ (stv≠0∧0≤bound∧0≤done∧done<stv):=fun h=>by omega
  go_wp2
  go_ret2
  exact⟨⟨fun h=>absurd h hno,fun _=>rfl⟩,FB.out.below q4_⟩
 have e2:decide (bound<0)=false:=q9_ h2
 by_cases h3:done<0
 ·have e3:decide (done<0)=true:=qa_ h3
  have hno:¬ (stv≠0∧0≤bound∧0≤done∧done<stv):=fun h=>by omega
  go_wp2
  go_ret2
  exact⟨⟨fun h=>absurd h hno,fun _=>rfl⟩,FB.out.below q4_⟩
 have e3:decide (done<0)=false:=q9_ h3;go_wp2_with fail;refine (HSt.out _ FB.out).mono ?_;rintro r w2 ⟨rfl,b2⟩;have FB:=q0_ (FB.out.trans (Fr.b0 b2) q4_);have BP:=q0_ (BP.out.below b2);have d0:=BP.out.cell 0;have d1:=BP.out.cell 1;have d2:=BP.out.cell 2;simp only[q1_,q2_,q3_] at d0 d1 d2;clear b2
 by_cases h4:stv≤done
 ·have e4:decide (stv≤done)=true:=qa_ h4
  have hno:¬ (stv≠0∧0≤bound∧0≤done∧done<stv):=fun h=>by omega
  go_wp2
  go_ret2
  exact⟨⟨fun h=>absurd h hno,fun _=>rfl⟩,FB.out.below q4_⟩
 have e4:decide (stv≤done)=false:=q9_ h4
 have hyes:stv≠0∧0≤bound∧0≤done∧done<stv:=⟨h1,by omega,by omega,by omega⟩
 have HC3:Hid (∀ W,Fr (fun _=>False) w2 W→W.cell? ⟨w.heap.size,0,none⟩=some (.string nm)∧W.cell? ⟨w.heap.size,1,none⟩=some (.slice A n c)∧W.cell? ⟨w.heap.size,2,none⟩=some (.slice S m d)):=fun W f=>⟨f.cell d0 (fun h=>h),f.cell d1 (fun h=>h),f.cell d2 (fun h=>h)⟩
 go_upto_region 3 with fail
 go_cut [29] (fun s29 wx=>∃ (A2:Option Addr) (c2:Nat) (S2:Option Addr) (e2:Nat) (W3:World),W3=wx∧Blk wx w.heap.size 91 #[.string nm,.slice A2 n c2,.slice S2 m e2]∧wx.ownsRow w2.heap.size 99 4 (.slice A2 n c2) n (zaf lt)∧wx.ownsRow w2.heap.size 3 1 (.slice S2 m e2) m (za6 ss)∧Fr (fun j=>j=w.heap.size) w2 wx)
 case first=>
  refine wp_region_held_drew (S:=fun W=>Fr (fun j=>j=w.heap.size) w2 W) (by kernel_rfl) ((Fr.refl _ w2).drew) (fun hY_=>?_);refine tq 2 [0,3] ?_;refine sk ?_;refine sk ?_
  try simp only[Act.put,sA,sB,sC]
  refine sz ?_
  try simp only[Act.put,sA,sB,sC]
  refine wpAnyH_ready (rs:=[1,4]) (by kernel_rfl) (by simp) ?_;refine AllReadyH.cons (dg rfl) (fun K hK=>?_) ?_
  ·go_simp
   refine hK.out _ _ (hY_) (fun hY_=>?_);clear hK K
   try simp only[Act.put,sA,sB,sC]
   refine wpAnyH_ready (rs:=[2,4]) (by kernel_rfl) (by simp) ?_;refine AllReadyH.cons (dg rfl) (fun K hK=>?_) ?_
   ·go_simp
    go_wp2_with (go_at_call 107;refine (HCp.out _ (FB.out.trans hY_ (fun i hi=>.inr (Nat.le_of_eq hi.symm)))).mono ?_;rintro r wa ⟨⟨A2,c2,rfl,o2⟩,ba⟩)
    have o2:=q0_ o2;have BPa:=q0_ (BP.out.drew.below ba);have q0:=BPa.out.cell 0;have q1:=BPa.out.cell 1;have q2:=BPa.out.cell 2;simp only[q1_,q2_,q3_] at q0 q1 q2;refine hK.out _ _ (hY_.trans (Fr.b0 ba) q4_) (fun hY_=>?_);clear hK K
    try simp only[Act.put,sA,sB,sC]
    refine rl 4 rfl (fun K hK=>?_);go_simp;refine hK.out _ _ (hY_) (fun hY_=>?_);clear hK K;refine tl 6 ?v3 rfl ?q3 ?r3
    case q3=>intro W hSw;(try skip);go_simp;try rfl
    try simp only[Act.put,sA,sB,sC]
    refine rl 5 rfl (fun K hK=>?_);go_simp
    go_wp2_with (go_at_call 108;refine (HCl.out _ (FB.out.trans hY_ (fun i hi=>.inr (Nat.le_of_eq hi.symm)))).mono ?_;rintro r wb ⟨⟨S2,e2,rfl,o3⟩,bb⟩)
    have o3:=q0_ o3;have o2b:=q0_ (za_ o2.out (Fr.b0 bb));have BPb:=q0_ (BPa.out.below bb);have q0:=BPb.out.cell 0;have q1:=BPb.out.cell 1;have q2:=BPb.out.cell 2;have z0:=BPb.out.frozen 0;have z1:=BPb.out.frozen 1;have z2:=BPb.out.frozen 2;have BA_:=q0_ hY_.size;simp only[q1_,q2_,q3_] at q0 q1 q2;refine hK.out _ _ (hY_.trans (Fr.b0 bb) q4_) (fun hY_=>?_);clear hK K
    try simp only[Act.put,sA,sB,sC]
    refine rl 7 rfl (fun K hK=>?_);go_simp;refine hK.out _ _ ((hY_.setCell (.inl rfl) _).setCell (.inl rfl) _) (fun hY_=>?_);clear hK K;refine tl 8 ?v4 rfl ?q4 ?r4
    case q4=>intro W hSw;(try skip);go_simp;try rfl
    try simp only[Act.put,sA,sB,sC]
    refine rl 9 rfl (fun K hK=>?_);go_simp;refine hK.out _ _ (hY_.setCell (.inl rfl) _) (fun hY_=>?_);clear hK K
    try simp only[Act.put,sA,sB,sC]
    refine wpAnyH_done (by kernel_rfl) ?_ _;go_wp2
    go_meet
    exact⟨A2,c2,S2,e2,_,rfl,BPb.out.set3,zad (zaL o2b.out (by simp)) ((Fr.refl (fun j=>j=w.heap.size) wb).set3 (.inl rfl) _ _ _) (zeY o2b.out BPb.out (by decide)),zad (zaL o3.out (by have:=BA_.out;omega)) ((Fr.refl (fun j=>j=w.heap.size) wb).set3 (.inl rfl) _ _ _) (zeY o3.out BPb.out (by decide)),hY_⟩
   refine AllReadyH.cons (dg rfl) (fun K hK=>?_) AllReadyH.nil;go_simp;refine hK.out _ _ (hY_) (fun hY_=>?_);clear hK K
   try simp only[Act.put,sA,sB,sC]
   refine rl 2 rfl (fun K hK=>?_);go_simp
   go_wp2_with (go_at_call 107;refine (HCp.out _ (FB.out.trans hY_ (fun i hi=>.inr (Nat.le_of_eq hi.symm)))).mono ?_;rintro r wa ⟨⟨A2,c2,rfl,o2⟩,ba⟩)
   have o2:=q0_ o2;have BPa:=q0_ (BP.out.drew.below ba);have q0:=BPa.out.cell 0;have q1:=BPa.out.cell 1;have q2:=BPa.out.cell 2;simp only[q1_,q2_,q3_] at q0 q1 q2;refine hK.out _ _ (hY_.trans (Fr.b0 ba) q4_) (fun hY_=>?_);clear hK K;refine tl 6 ?v5 rfl ?q5 ?r5
   case q5=>intro W hSw;(try skip);go_simp;try rfl
   try simp only[Act.put,sA,sB,sC]
   refine rl 5 rfl (fun K hK=>?_);go_simp
   go_wp2_with (go_at_call 108;refine (HCl.out _ (FB.out.trans hY_ (fun i hi=>.inr (Nat.le_of_eq hi.symm)))).mono ?_;rintro r wb ⟨⟨S2,e2,rfl,o3⟩,bb⟩)
   have o3:=q0_ o3;have o2b:=q0_ (za_ o2.out (Fr.b0 bb));have BPb:=q0_ (BPa.out.below bb);have q0:=BPb.out.cell 0;have q1:=BPb.out.cell 1;have q2:=BPb.out.cell 2;have z0:=BPb.out.frozen 0;have z1:=BPb.out.frozen 1;have z2:=BPb.out.frozen 2;have BA_:=q0_ hY_.size;simp only[q1_,q2_,q3_] at q0 q1 q2;refine hK.out _ _ (hY_.trans (Fr.b0 bb) q4_) (fun hY_=>?_);clear hK K
   try simp only[Act.put,sA,sB,sC]
   refine rl 7 rfl (fun K hK=>?_);go_simp;refine hK.out _ _ ((hY_.setCell (.inl rfl) _).setCell (.inl rfl) _) (fun hY_=>?_);clear hK K;refine tl 8 ?v6 rfl ?q6 ?r6
   case q6=>intro W hSw;(try skip);go_simp;try rfl
   try simp only[Act.put,sA,sB,sC]
   refine rl 9 rfl (fun K hK=>?_);go_simp;refine hK.out _ _ (hY_.setCell (.inl rfl) _) (fun hY_=>?_);clear hK K
   try simp only[Act.put,sA,sB,sC]
   refine wpAnyH_done (by kernel_rfl) ?_ _;go_wp2
   go_meet
   exact⟨A2,c2,S2,e2,_,rfl,BPb.out.set3,zad (zaL o2b.out (by simp)) ((Fr.refl (fun j=>j=w.heap.size) wb).set3 (.inl rfl) _ _ _) (zeY o2b.out BPb.out (by decide)),zad (zaL o3.out (by have:=BA_.out;omega)) ((Fr.refl (fun j=>j=w.heap.size) wb).set3 (.inl rfl) _ _ _) (zeY o3.out BPb.out (by decide)),hY_⟩
  refine AllReadyH.cons (dg rfl) (fun K hK=>?_) AllReadyH.nil;go_simp;refine hK.out _ _ (hY_) (fun hY_=>?_);clear hK K
  try simp only[Act.put,sA,sB,sC]
  refine rl 1 rfl (fun K hK=>?_);go_simp;refine hK.out _ _ (hY_) (fun hY_=>?_);clear hK K
  try simp only[Act.put,sA,sB,sC]
  refine rl 2 rfl (fun K hK=>?_);go_simp
  go_wp2_with (go_at_call 107;refine (HCp.out _ (FB.out.trans hY_ (fun i hi=>.inr (Nat.le_of_eq hi.symm)))).mono ?_;rintro r wa ⟨⟨A2,c2,rfl,o2⟩,ba⟩)
  have o2:=q0_ o2;have BPa:=q0_ (BP.out.drew.below ba);have q0:=BPa.out.cell 0;have q1:=BPa.out.cell 1;have q2:=BPa.out.cell 2;simp only[q1_,q2_,q3_] at q0 q1 q2;refine hK.out _ _ (hY_.trans (Fr.b0 ba) q4_) (fun hY_=>?_);clear hK K;refine tl 6 ?v7 rfl ?q7 ?r7
  case q7=>intro W hSw;(try skip);go_simp;try rfl
  try simp only[Act.put,sA,sB,sC]
  refine rl 5 rfl (fun K hK=>?_);go_simp
  go_wp2_with (go_at_call 108;refine (HCl.out _ (FB.out.trans hY_ (fun i hi=>.inr (Nat.le_of_eq hi.symm)))).mono ?_;rintro r wb ⟨⟨S2,e2,rfl,o3⟩,bb⟩)
  have o3:=q0_ o3;have o2b:=q0_ (za_ o2.out (Fr.b0 bb));have BPb:=q0_ (BPa.out.below bb);have q0:=BPb.out.cell 0;have q1:=BPb.out.cell 1;have q2:=BPb.out.cell 2;have z0:=BPb.out.frozen 0;have z1:=BPb.out.frozen 1;have z2:=BPb.out.frozen 2;have BA_:=q0_ hY_.size;simp only[q1_,q2_,q3_] at q0 q1 q2;refine hK.out _ _ (hY_.trans (Fr.b0 bb) q4_) (fun hY_=>?_);clear hK K
  try simp only[Act.put,sA,sB,sC]
  refine rl 7 rfl (fun K hK=>?_);go_simp;refine hK.out _ _ ((hY_.setCell (.inl rfl) _).setCell (.inl rfl) _) (fun hY_=>?_);clear hK K;refine tl 8 ?v8 rfl ?q8 ?r8
  case q8=>intro W hSw;(try skip);go_simp;try rfl
  try simp only[Act.put,sA,sB,sC]
  refine rl 9 rfl (fun K hK=>?_);go_simp;refine hK.out _ _ (hY_.setCell (.inl rfl) _) (fun hY_=>?_);clear hK K
  try simp only[Act.put,sA,sB,sC]
  refine wpAnyH_done (by kernel_rfl) ?_ _;go_wp2
  go_meet
  exact⟨A2,c2,S2,e2,_,rfl,BPb.out.set3,zad (zaL o2b.out (by simp)) ((Fr.refl (fun j=>j=w.heap.size) wb).set3 (.inl rfl) _ _ _) (zeY o2b.out BPb.out (by decide)),zad (zaL o3.out (by have:=BA_.out;omega)) ((Fr.refl (fun j=>j=w.heap.size) wb).set3 (.inl rfl) _ _ _) (zeY o3.out BPb.out (by decide)),hY_⟩
 case rest=>
  obtain⟨A2,c2,S2,e2,W3,rfl,hb3,o2,o3,hf3⟩:=hcut;have B3:=q0_ hb3;have O2:=q0_ o2;have O3:=q0_ o3;have p0:=hb3.cell 0;have p1:=hb3.cell 1;have p2:=hb3.cell 2;simp only[q1_,q2_,q3_] at p0 p1 p2;have HBl:Hid (Below w.heap.size w W3):=FB.out.below q4_ |>.trans (hf3.below_of FB.out.size (fun j hj=>Nat.le_of_eq hj.symm));have hw2:w.heap.size<w2.heap.size:=BP.out.lt;have hw3:w2.heap.size≤W3.heap.size:=hf3.size;clear hb3 o2 o3 hf3 BP FB HC3 HCp HCl HSt d0 d1 d2
  obtain⟨s,hs⟩:∃ s,w.heap.size=s:=⟨_,rfl⟩
  obtain⟨t,htd⟩:∃ t,W3.heap.size=t:=⟨_,rfl⟩
  have hst:s≤t:=by omega
  obtain⟨i0,hi,hz0,hz1,hz2⟩:=info_parts zgj;have p1a:=fun o=>(B3.out.alloc o).cell 1;simp only[q1_,q2_,q3_] at p1a;rw[hs] at p0 p1 p2 p1a HBl ⊢;go_wp2_with fail
  obtain⟨W4,hW4⟩:∃ W4,W4=W3.alloc (.cells #[.string nm,.slice A2 n c2,.slice S2 m e2,.int .i64 bound,.int .i64 done,.slice none 0 0] 93):=⟨_,rfl⟩
  rw[← hW4]
  try rw[htd]
  have F4:Hid (Fr (fun _=>False) W3 W4):=by show Fr _ _ _;rw[hW4];exact Fr.none_alloc _ _
  have hP0:ShP W4 t s (⟨nm,lt,ss,bound,done,lt.map fun _=>[]⟩:ShX) A2 c2 S2 e2 none 0 [] 0:=by
   have hb:Blk W4 t 93 #[.string nm,.slice A2 n c2,.slice S2 m e2,.int .i64 bound,.int .i64 done,.slice none 0 0]:=by rw[hW4];exact Blk.new' htd.symm _ _
   refine⟨?_,?_,?_,World.ownsRow_nil _ _ _ _,fun i p x l h=>by simp at h,fun p hp=>by simp at hp,by simp,fun p hp=>by simp at hp,hst⟩
   ·show Blk _ _ _ #[.string nm,.slice A2 lt.length c2,.slice S2 ss.length e2,_,_,_]
    rw[Hln.out,Hlm.out];exact hb
   ·show W4.ownsRow s _ 4 (.slice A2 lt.length c2) lt.length (zaf lt)
    rw[Hln.out];exact zaL (za_ O2.out F4.out) (by omega)
   ·show W4.ownsRow s _ 1 (.slice S2 ss.length e2) ss.length (za6 ss)
    rw[Hlm.out];exact zaL (za_ O3.out F4.out) (by omega)
  have HP0:=q0_ hP0
  have hs3:s≤W4.heap.size:=by rw[hW4];simp;omega
  have HB4:Hid (Below s w W4):=HBl.out.trans (F4.out.below_of (by omega) q4_);clear hP0 O2 O3 B3 p0 p1 p2 p1a hW4 F4 HBl
  go_loopw [45] (fun i wr=>∃ (k:Nat) (T:Option Addr) (ct:Nat) (tb:List (Nat×Nat)),k≤n∧i=.int .i64 k∧ShP wr t s (⟨nm,lt,ss,bound,done,lt.map fun _=>[]⟩:ShX) A2 c2 S2 e2 T ct tb k∧Fr (fun j=>s≤j) W4 wr) (fun i _=>n-(intOf i).toNat)
  case atStart=>exact⟨0,none,0,[],Nat.zero_le _,rfl,HP0.out,Fr.refl _ _⟩
  case round=>
   obtain⟨k,T,ct,tb,hk,rfl,hp,hf⟩:=hrel;have Hf:Hid (Fr (fun j=>s≤j) W4 wr):=hf;have hsr:s≤wr.heap.size:=Nat.le_trans hs3 hf.size
   by_cases hlt:k<n
   ·have hrd:Rd wr 4 A2 n (zaf lt):=by have:=(zdb hp.tiers).2.2.1;rw[show (⟨nm,lt,ss,bound,done,lt.map fun _=>[]⟩:ShX).tiers.length=n from Hln.out] at this;exact this
    obtain⟨ad,x,rfl,hxu,e0,e1,e2',e3⟩:=hrd.tier hlt
    have hmx:max x.every 1=x.every:=by have:=Hev.out x (zab hxu);omega
    have Hx:=q0_ hxu;have HP:=q0_ hp
    have kn:0≤(k:Int)∧(k:Int)<(n:Int):=by omega
    clear hp hf hxu hrd;go_wp2_with fail
    obtain⟨W1,hW1⟩:∃ W1,W1=wr.alloc (.cells #[.string x.name,.int .i64 x.every,.int .i64 x.keep,.int .i64 x.shards] 99):=⟨_,rfl⟩
    rw[← hW1];have hbx:Blk W1 wr.heap.size 99 #[.string x.name,.int .i64 x.every,.int .i64 x.keep,.int .i64 x.shards]:=hW1▸Blk.new _ _ _
    have hT:ShP W1 t s (⟨nm,lt,ss,bound,done,lt.map fun _=>[]⟩:ShX) (some ad) c2 S2 e2 T ct tb k:=by rw[hW1];exact HP.out.fr0 (Fr.none_alloc _ _)
    have fF:Fr (fun j=>s≤j) W4 W1:=by rw[hW1];exact Hf.out.trans (Fr.none_alloc _ _) q4_
    have hs1:s≤W1.heap.size:=Nat.le_trans hs3 fF.size
    have HNw:Hid (Calls prog 142 #[.int .i64 x.every] W1.drew fun r w'=>(∃ g b,r=.returned (.pointer (some ⟨g,0,none⟩))∧zbp w' g x.every b []∧W1.heap.size≤g∧W1.heap.size≤b)∧Below W1.drew.heap.size W1.drew w'):=by
     have:=zgX x.every W1.drew;rw[hmx] at this;exact this
    have FD:Hid (Fr (fun _=>False) W1 W1.drew):=(Fr.refl _ W1).drew;have D1:W1.drew.cell? ⟨wr.heap.size,1,none⟩=some (.int .i64 x.every):=hbx.cell 1;have D2:W1.drew.cell? ⟨t,5,none⟩=some (.slice T k ct):=hT.blk.cell 5
    have HP5:Hid (∀ w5,Fr (fun _=>False) W1.drew w5→w5.cell? ⟨t,5,none⟩=some (.slice T k ct)∧s≤w5.heap.size):=fun w5 h=>⟨((hT.fr0 FD.out).fr0 h).blk.cell 5,Nat.le_trans hs1 h.size⟩
    have HM6:∀ w5,Fr (fun _=>False) W1.drew w5→∀ o T6 c6 w6,Mv (zag (.slice T k ct)) (zag (.slice T6 (k+1) c6)) (w5.alloc o) w6→Blk w6 t 93 _:=fun w5 h o T6 c6 w6 hm=>
     (((hT.fr0 FD.out).fr0 h).fr0 (Fr.none_alloc w5 o)).blk.fr hm.fr (fun hj=>zac (((hT.fr0 FD.out).fr0 h).fr0 (Fr.none_alloc w5 o)).row (((hT.fr0 FD.out).fr0 h).fr0 (Fr.none_alloc w5 o)).blk (by decide) hj)
    have HP6:Hid (∀ w5,Fr (fun _=>False) W1.drew w5→∀ o T6 c6 w6,Mv (zag (.slice T k ct)) (zag (.slice T6 (k+1) c6)) (w5.alloc o) w6→w6.cell? ⟨t,5,none⟩=some (.slice T k ct)):=fun w5 h o T6 c6 w6 hm=>(HM6 w5 h o T6 c6 w6 hm).cell 5;have HF6:Hid (∀ w5,Fr (fun _=>False) W1.drew w5→∀ o T6 c6 w6,Mv (zag (.slice T k ct)) (zag (.slice T6 (k+1) c6)) (w5.alloc o) w6→w6.frozen? ⟨t,5,none⟩=false):=fun w5 h o T6 c6 w6 hm=>(HM6 w5 h o T6 c6 w6 hm).frozen 5
    have HZ:Hid (∀ w5,Fr (fun _=>False) W1.drew w5→∀ o g b T6 c6 w6,zbp w5 g x.every b []→W1.heap.size≤g→W1.heap.size≤b→w6.ownsRow s 208 1 (.slice T6 (k+1) c6) (k+1) (zfC tb++[.pointer (some ⟨g,0,none⟩)])→Mv (zag (.slice T k ct)) (zag (.slice T6 (k+1) c6)) (w5.alloc o) w6→
      ShP (w6.setCell ⟨t,5,none⟩ (.slice T6 (k+1) c6)) t s (⟨nm,lt,ss,bound,done,lt.map fun _=>[]⟩:ShX) (some ad) c2 S2 e2 T6 c6 (tb++[(g,b)]) (k+1)∧Fr (fun j=>s≤j) W4 (w6.setCell ⟨t,5,none⟩ (.slice T6 (k+1) c6))):=by
     intro w5 h o g b T6 c6 w6 ht hg hb ho hm;have q:=hT.snoc (FD.out.trans h q4_) hs1 hg hb (x:=x) (l:=[]) Hx.out (by show (lt.map fun _=>([]:List zah))[k]? =_;rw[List.getElem?_map,Hx.out];rfl) ht o ho hm;exact⟨q.1,fF.trans q.2 (fun _ h=>.inl h)⟩
    have Hk:Hid (k+1≤maxLen∧(k+1)*8≤140737488355328):=⟨by unfold maxLen;omega,by omega⟩
    have HT:=q0_ hT;clear hT hbx fF HM6 hW1 HP Hf e0 e1 e2' e3 hmx;go_wp2_with fail;refine wp_region_any (by kernel_rfl) ?_;change wpAny _ _ _ _ _ _ _ (World.drew _);refine nl 0 ?v9 rfl ?q9 ?r9
    case q9=>intro W;go_simp;try rfl
    refine nl 1 ?v10 rfl ?q10 ?r10
    case q10=>intro W;go_simp;try rfl
    refine nl 2 ?v11 rfl ?q11 ?r11
    case q11=>intro W;go_simp;try rfl
    refine nl 3 ?v12 rfl ?q12 ?r12
    case q12=>intro W;go_simp;try rfl
    refine nl 5 ?v13 rfl ?q13 ?r13
    case q13=>intro W;go_simp;try rfl
    try simp only[Act.put,sA,sB,sC]
    refine wpAny_ready (rs:=[4,6]) (by kernel_rfl) (by simp) ?_;refine AllReady.cons (dg rfl) (fun K hK=>?_) ?_
    ·go_simp
     refine hK _ _ ?_;clear hK K
     try simp only[Act.put,sA,sB,sC]
     refine rn 6 rfl (fun K hK=>?_);go_simp;refine hK _ _ ?_;clear hK K
     try simp only[Act.put,sA,sB,sC]
     refine rn 7 rfl (fun K hK=>?_);go_simp
     go_wp2_with (go_at_call 142;refine HNw.out.mono ?_;rintro r w5 ⟨⟨g,b,rfl,g5⟩,b5⟩;have q5:=(HP5.out w5 (Fr.b0 b5)).1;have q5a:=fun o=>(HP5.out (w5.alloc o) ((Fr.b0 b5).trans (Fr.none_alloc w5 o) q4_)).1;try dsimp only)
     refine rn 8 rfl (fun K hK=>?_);go_simp;refine hK _ _ ?_;clear hK K
     try simp only[Act.put,sA,sB,sC]
     refine rn 9 rfl (fun K hK=>?_);rw[if_pos (by rfl)];refine zaZ (.tmp 53) (.tmp 57) 85 rfl 208 i0 (.pointer none) 1 8 underlying85 hi hz0 hz1 hz2 rfl (by decide) (.slice T k ct) k _ rfl s (Nat.le_trans (HP5.out w5 (Fr.b0 b5)).2 (Fr.none_alloc w5 _).size) (za_ (za_ (za_ HT.out.row (FD.out)) (Fr.b0 b5)) (Fr.none_alloc _ _)) (some ⟨w5.heap.size,0,none⟩) 1 1 [.pointer (some ⟨g,0,none⟩)] rfl (Rd.new w5 [.pointer (some ⟨g,0,none⟩)] _ 1 rfl) (by simp[Value.oneCell']) Hk.out.1 Hk.out.2 ?_;intro T6 c6 w6 ho6 hm6 _;have q6:=HP6.out w5 (Fr.b0 b5) _ _ _ _ hm6;have f6:=HF6.out w5 (Fr.b0 b5) _ _ _ _ hm6;have Hz:=q0_ (HZ.out w5 (Fr.b0 b5) _ _ _ _ _ _ g5.1 g5.2.1 g5.2.2 ho6 hm6);clear ho6 hm6 D1 D2;refine hK _ _ ?_;clear hK K;refine nl 10 ?v14 rfl ?q14 ?r14
     case q14=>intro W;go_simp;try rfl
     refine nl 11 ?v15 rfl ?q15 ?r15
     case q15=>intro W;go_simp;try rfl
     try simp only[Act.put,sA,sB,sC]
     refine rn 12 rfl (fun K hK=>?_);go_simp;refine hK _ _ ?_;clear hK K
     try simp only[Act.put,sA,sB,sC]
     refine wpAny_done (by kernel_rfl) ?_ _;go_wp2
     go_roundw
     case rel=>exact⟨k+1,T6,c6,_,by omega,by go_num,Hz.out.1,Hz.out.2⟩
     case measure=>simp[intOf];omega
    refine AllReady.cons (dg rfl) (fun K hK=>?_) ?_
    ·go_simp
     refine hK _ _ ?_;clear hK K
     try simp only[Act.put,sA,sB,sC]
     refine wpAny_ready (rs:=[4,7]) (by kernel_rfl) (by simp) ?_;refine AllReady.cons (dg rfl) (fun K hK=>?_) ?_
     ·go_simp
      refine hK _ _ ?_;clear hK K
      try simp only[Act.put,sA,sB,sC]
      refine rn 7 rfl (fun K hK=>?_);go_simp
      go_wp2_with (go_at_call 142;refine HNw.out.mono ?_;rintro r w5 ⟨⟨g,b,rfl,g5⟩,b5⟩;have q5:=(HP5.out w5 (Fr.b0 b5)).1;have q5a:=fun o=>(HP5.out (w5.alloc o) ((Fr.b0 b5).trans (Fr.none_alloc w5 o) q4_)).1;try dsimp only)
      refine rn 8 rfl (fun K hK=>?_);go_simp;refine hK _ _ ?_;clear hK K
      try simp only[Act.put,sA,sB,sC]
      refine rn 9 rfl (fun K hK=>?_);rw[if_pos (by rfl)];refine zaZ (.tmp 53) (.tmp 57) 85 rfl 208 i0 (.pointer none) 1 8 underlying85 hi hz0 hz1 hz2 rfl (by decide) (.slice T k ct) k _ rfl s (Nat.le_trans (HP5.out w5 (Fr.b0 b5)).2 (Fr.none_alloc w5 _).size) (za_ (za_ (za_ HT.out.row (FD.out)) (Fr.b0 b5)) (Fr.none_alloc _ _)) (some ⟨w5.heap.size,0,none⟩) 1 1 [.pointer (some ⟨g,0,none⟩)] rfl (Rd.new w5 [.pointer (some ⟨g,0,none⟩)] _ 1 rfl) (by simp[Value.oneCell']) Hk.out.1 Hk.out.2 ?_;intro T6 c6 w6 ho6 hm6 _;have q6:=HP6.out w5 (Fr.b0 b5) _ _ _ _ hm6;have f6:=HF6.out w5 (Fr.b0 b5) _ _ _ _ hm6;have Hz:=q0_ (HZ.out w5 (Fr.b0 b5) _ _ _ _ _ _ g5.1 g5.2.1 g5.2.2 ho6 hm6);clear ho6 hm6 D1 D2;refine hK _ _ ?_;clear hK K;refine nl 10 ?v16 rfl ?q16 ?r16
      case q16=>intro W;go_simp;try rfl
      refine nl 11 ?v17 rfl ?q17 ?r17
      case q17=>intro W;go_simp;try rfl
      try simp only[Act.put,sA,sB,sC]
      refine rn 12 rfl (fun K hK=>?_);go_simp;refine hK _ _ ?_;clear hK K
      try simp only[Act.put,sA,sB,sC]
      refine wpAny_done (by kernel_rfl) ?_ _;go_wp2
      go_roundw
      case rel=>exact⟨k+1,T6,c6,_,by omega,by go_num,Hz.out.1,Hz.out.2⟩
      case measure=>simp[intOf];omega
     refine AllReady.cons (dg rfl) (fun K hK=>?_) ?_
     ·go_simp
      go_wp2_with (go_at_call 142;refine HNw.out.mono ?_;rintro r w5 ⟨⟨g,b,rfl,g5⟩,b5⟩;have q5:=(HP5.out w5 (Fr.b0 b5)).1;have q5a:=fun o=>(HP5.out (w5.alloc o) ((Fr.b0 b5).trans (Fr.none_alloc w5 o) q4_)).1;try dsimp only)
      try simp only[Act.put,sA,sB,sC]
      refine wpAny_ready (rs:=[4,8]) (by kernel_rfl) (by simp) ?_;refine AllReady.cons (dg rfl) (fun K hK=>?_) ?_
      ·go_simp
       refine hK _ _ ?_;clear hK K
       try simp only[Act.put,sA,sB,sC]
       refine rn 8 rfl (fun K hK=>?_);go_simp;refine hK _ _ ?_;clear hK K
       try simp only[Act.put,sA,sB,sC]
       refine rn 9 rfl (fun K hK=>?_);rw[if_pos (by rfl)];refine zaZ (.tmp 53) (.tmp 57) 85 rfl 208 i0 (.pointer none) 1 8 underlying85 hi hz0 hz1 hz2 rfl (by decide) (.slice T k ct) k _ rfl s (Nat.le_trans (HP5.out w5 (Fr.b0 b5)).2 (Fr.none_alloc w5 _).size) (za_ (za_ (za_ HT.out.row (FD.out)) (Fr.b0 b5)) (Fr.none_alloc _ _)) (some ⟨w5.heap.size,0,none⟩) 1 1 [.pointer (some ⟨g,0,none⟩)] rfl (Rd.new w5 [.pointer (some ⟨g,0,none⟩)] _ 1 rfl) (by simp[Value.oneCell']) Hk.out.1 Hk.out.2 ?_;intro T6 c6 w6 ho6 hm6 _;have q6:=HP6.out w5 (Fr.b0 b5) _ _ _ _ hm6;have f6:=HF6.out w5 (Fr.b0 b5) _ _ _ _ hm6;have Hz:=q0_ (HZ.out w5 (Fr.b0 b5) _ _ _ _ _ _ g5.1 g5.2.1 g5.2.2 ho6 hm6);clear ho6 hm6 D1 D2;refine hK _ _ ?_;clear hK K;refine nl 10 ?v18 rfl ?q18 ?r18
       case q18=>intro W;go_simp;try rfl
       refine nl 11 ?v19 rfl ?q19 ?r19
       case q19=>intro W;go_simp;try rfl
       try simp only[Act.put,sA,sB,sC]
       refine rn 12 rfl (fun K hK=>?_);go_simp;refine hK _ _ ?_;clear hK K
       try simp only[Act.put,sA,sB,sC]
       refine wpAny_done (by kernel_rfl) ?_ _;go_wp2
       go_roundw
       case rel=>exact⟨k+1,T6,c6,_,by omega,by go_num,Hz.out.1,Hz.out.2⟩
       case measure=>simp[intOf];omega
      refine AllReady.cons (dg rfl) (fun K hK=>?_) ?_
      ·go_simp
       refine hK _ _ ?_;clear hK K
       try simp only[Act.put,sA,sB,sC]
       refine rn 4 rfl (fun K hK=>?_);go_simp;refine hK _ _ ?_;clear hK K
       try simp only[Act.put,sA,sB,sC]
       refine rn 9 rfl (fun K hK=>?_);rw[if_pos (by rfl)];refine zaZ (.tmp 53) (.tmp 57) 85 rfl 208 i0 (.pointer none) 1 8 underlying85 hi hz0 hz1 hz2 rfl (by decide) (.slice T k ct) k _ rfl s (Nat.le_trans (HP5.out w5 (Fr.b0 b5)).2 (Fr.none_alloc w5 _).size) (za_ (za_ (za_ HT.out.row (FD.out)) (Fr.b0 b5)) (Fr.none_alloc _ _)) (some ⟨w5.heap.size,0,none⟩) 1 1 [.pointer (some ⟨g,0,none⟩)] rfl (Rd.new w5 [.pointer (some ⟨g,0,none⟩)] _ 1 rfl) (by simp[Value.oneCell']) Hk.out.1 Hk.out.2 ?_;intro T6 c6 w6 ho6 hm6 _;have q6:=HP6.out w5 (Fr.b0 b5) _ _ _ _ hm6;have f6:=HF6.out w5 (Fr.b0 b5) _ _ _ _ hm6;have Hz:=q0_ (HZ.out w5 (Fr.b0 b5) _ _ _ _ _ _ g5.1 g5.2.1 g5.2.2 ho6 hm6);clear ho6 hm6 D1 D2;refine hK _ _ ?_;clear hK K;refine nl 10 ?v20 rfl ?q20 ?r20
       case q20=>intro W;go_simp;try rfl
       refine nl 11 ?v21 rfl ?q21 ?r21
       case q21=>intro W;go_simp;try rfl
       try simp only[Act.put,sA,sB,sC]
       refine rn 12 rfl (fun K hK=>?_);go_simp;refine hK _ _ ?_;clear hK K
       try simp only[Act.put,sA,sB,sC]
       refine wpAny_done (by kernel_rfl) ?_ _;go_wp2
       go_roundw
       case rel=>exact⟨k+1,T6,c6,_,by omega,by go_num,Hz.out.1,Hz.out.2⟩
       case measure=>simp[intOf];omega
      exact AllReady.nil
     exact AllReady.nil
    exact AllReady.nil
   ·obtain rfl:k=n:=by omega
    have Hp:=q0_ hp;clear hp hf;go_wp2
    go_ret2
    rw[hs];refine⟨⟨fun _=>⟨t,rfl,?_⟩,fun h=>absurd hyes h⟩,HB4.out.trans (Hf.out.below_of hs3 (fun _ h=>h))⟩;obtain rfl:lt.length=k:=Hln.out;exact Hp.out.done (by show (lt.map _).length=lt.length;simp)
theorem zeL.down{w:World}{t base b:Nat}{X:ShX}{A B T:Option Addr}{c d ct:Nat}{tb:List (Nat×Nat)}(h:zeL w t base X A c B d T ct tb)(hb:b≤base):zeL w t b X A c B d T ct tb:=
 ⟨h.blk,zaL h.tiers hb,zaL h.srcs hb,zaL h.row hb,h.tlen,h.tab,h.nodup,fun p hp=>⟨Nat.le_trans hb (h.ge p hp).1,Nat.le_trans hb (h.ge p hp).2⟩,Nat.le_trans hb h.tge⟩
theorem zip.down{w:World}{t base b:Nat}{X:ShX}(h:zip w t base X)(hb:b≤base):zip w t b X:=by
 obtain⟨A,c,B,d,T,ct,tb,hi⟩:=h;exact⟨A,c,B,d,T,ct,tb,hi.down hb⟩
end Go.Proofs.YteajonicnkpbbaaGreatDoor
