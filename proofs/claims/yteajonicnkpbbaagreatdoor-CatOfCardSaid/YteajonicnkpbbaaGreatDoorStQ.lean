/- Walks of state: Change, Step. -/
import Derived.Test.YteajonicnkpbbaaGreatDoorStB
namespace Go.Proofs.YteajonicnkpbbaaGreatDoor
set_option linter.all false
set_option maxHeartbeats 8000000
set_option maxRecDepth 100000
open Go.RowKit Tryz
section
variable {W:World} {g lo:Nat} {Q:StX} {c t:Nat} {Ft Fs F:Nat→Prop} {v:Value}
theorem zhp.same(h:zhp W g lo Q c t Ft Fs v){w':World}(f:Fr (fun _=>False) W w'):StR W g lo Q c (stF g Ft Fs) w':=
 ⟨⟨_,⟨t,Ft,Fs,v,h.fr0 f,rfl⟩,fun j hj=>.inl hj⟩,f.mono q4_⟩
def zpe(E:Int)(b:Bool)(r:Ending):Prop:=∃ k:Int,r=.returned (.tuple #[.int .i64 E,.int .i64 k])∧(b=true∨E=0→k=0)
theorem zjj(hg:zax Q c)(hc:c≤1000000)(h:zfK W g lo Q c F)(hlo:lo≤W.heap.size)(text:ByteArray)(hs:text.size≤1099511627776)(hmx:MaxL W):
  Calls prog 25 #[.pointer (some ⟨g,0,none⟩),.string text] W fun r w'=>zpe (zbp Q (zaL text)) Q.ch.isSome r∧StR W g lo (zbB Q (zaL text)) c F w':=by
 obtain⟨t,Ft,Fs,v,hi,rfl⟩:=h;have HN:=q0_ (zdg hi);have Hi:=q0_ hi;have hv:=hi.ch.val;obtain⟨_,_,c2⟩:=hi.cells0;have HC:Hid (∀ W',Fr (fun _=>False) W W'→W'.cell? ⟨g,0,none⟩=some (.int .i64 Q.room)∧W'.cell? ⟨g,1,none⟩=some (.pointer (some ⟨t,0,none⟩))∧W'.cell? ⟨g,2,none⟩=some v):=fun W' f=>hi.cells f (fun h=>h);have HP:=q0_ (zf5 text hs W hmx);have hok:=zgy text;clear hi
 cases hcc:Q.ch with
 | some S=>
  obtain⟨s,rfl⟩:=hv.2 S hcc
  have hE:zbp Q (zaL text)=21:=by unfold zbp;rw[hcc]
  have hQ:zbB Q (zaL text)=Q:=by unfold zbB;rw[if_neg (by rw[hE];decide)]
  rw[hE,hQ];clear hE hQ hcc hv hok;go_enter func25,ntmps25;go_wp2_with fail;refine HN.out.mono ?_;rintro r w1 ⟨rfl,rfl⟩;go_wp2
  go_ret2
  exact⟨⟨0,rfl,fun _=>rfl⟩,Hi.out.same (Fr.refl _ _)⟩
 | none=>
  obtain rfl:=hv.1 hcc
  have hE:∀ R,zbp Q R=if R.1=0 then (if ((zbb Q.X:Nat):Int)+(zdt Q.X R.2.1 R.2.2).bound≤Q.room then 0 else 20) else R.1:=fun R=>by unfold zbp;rw[hcc]
  obtain⟨⟨e,nm,l⟩,hV⟩:∃ v,zaL text=v:=⟨_,rfl⟩
  rw[hV] at HP hok ⊢;unfold zpc zlx at HP;dsimp only at HP;unfold zko at hok;dsimp only at hok
  obtain⟨n,hn⟩:∃ n,l.length=n:=⟨_,rfl⟩
  rw[hn] at HP;have HNn:=q0_ hn
  by_cases he:e=0
  ·subst he
   obtain⟨p2,hnm2⟩:=hok rfl;have hfl:=hg.hfl hc;have hE2:=hE (0,nm,l);dsimp only at hE2;rw[if_pos rfl] at hE2;have hbb:=zh_ Q.X p2;have hnb:=zef p2 (zbI (o:=Q.X.now) hg.pol.ck hg.good hfl p2.ck) hc;have hst:=zcw p2;have hbv:(zdt Q.X nm l).bound=2*((zbb (zaj Q.X nm l (srcs Q.X.now Q.X.tiers Q.X.floors l)):Nat):Int)+zap l:=rfl;have hnd:=zef hg.pol hg.good hc
   obtain⟨B,hB⟩:∃ B,zdt Q.X nm l=B:=⟨_,rfl⟩
   rw[hB] at hbb hbv hE2
   obtain⟨bd,hbd⟩:∃ b,B.bound=b:=⟨_,rfl⟩
   obtain⟨nv,hnv⟩:∃ n,zbb Q.X=n:=⟨_,rfl⟩
   obtain⟨rm,hrm⟩:∃ r,Q.room=r:=⟨_,rfl⟩
   rw[hbd] at hbb hbv hE2;rw[hnv] at hnd hE2;rw[hrm] at HC hE2
   have hbd2:bd≤4000000000:=by rw[hbv];omega
   have HBg:Hid (∀ W' A c2,Fr (fun _=>False) W W'→Rd W' 4 A n (zag l)→n≤c2→Calls prog 105 #[.pointer (some ⟨t,0,none⟩),.agg #[.string nm,.slice A n c2]] W' fun r w'=>(∃ s,r=.returned (.tuple #[.pointer (some ⟨s,0,none⟩),.int .i64 0])∧zfk w' s W'.heap.size B)∧Below W'.heap.size W' w'):=fun W' A c2 f hr hnc=>by
    have h1:=zoY hg.pol hg.nm hnm2 (Hi.out.fr0 f).tio hc hfl A c2 (by rw[hn];exact hr) (by rw[hn];exact hnc) p2.wf;rw[hn] at h1;refine h1.mono ?_;rintro r w' ⟨⟨h2,_⟩,hb⟩;obtain⟨s,hr,ha⟩:=h2 p2.ck;rw[← hB];exact⟨⟨s,hr,ha⟩,hb⟩
   have HNd:Hid (∀ W',Fr (fun _=>False) W W'→Calls prog 100 #[.pointer (some ⟨t,0,none⟩)] W' fun r w'=>r=.returned (.int .i64 (nv:Int))∧Below W'.heap.size W' w'):=fun W' f=>by rw[← hnv];exact zf3 hg.pol (Hi.out.fr0 f).tio hc
   have HBd:Hid (∀ W' s base,zfk W' s base B→Calls prog 34 #[.pointer (some ⟨s,0,none⟩)] W' fun r w'=>r=.returned (.int .i64 bd)∧W'=w'):=fun W' s base h=>by rw[← hbd];exact zed s base B W' h
   have HAd:Hid (∀ W',Calls prog 99 #[.int .i64 (nv:Int),.int .i64 bd] W' fun r w'=>r=.returned (.int .i64 ((nv:Int)+bd))∧W'=w'):=fun W'=>zjk _ _ W' (by omega) hbb.2 (by omega)
   have HMK:Hid (∀ w3 s base,Fr (fun _=>False) W w3→W.heap.size≤base→zfk w3 s base B→StR W g lo {Q with ch:=some B} c (stF g Ft Fs) (w3.setCell ⟨g,2,none⟩ (.pointer (some ⟨s,0,none⟩)))):=fun w3 s base f hbase ha=>by
    have hi3:=Hi.out.fr0 f;have hst:Fr (fun j=>j=g) w3 (w3.setCell ⟨g,2,none⟩ (.pointer (some ⟨s,0,none⟩))):=(Fr.refl (fun j=>j=g) w3).setCell (p:=⟨g,2,none⟩) (.inl rfl) _;have hk:zd5 w3 (fun j=>j=g):=fun j hj=>hi3.kind2 j (.inl hj);have hgl:=Hi.out.blk.lt;obtain⟨Fs',hs'⟩:=ha.on;have hge:∀ j,Fs' j→W.heap.size≤j:=fun j hj=>Nat.le_trans hbase (hs'.ge j hj).1;refine⟨⟨stF g Ft Fs',⟨t,Ft,Fs',.pointer (some ⟨s,0,none⟩),⟨hi3.blk.set_ 2 _,Hi.out.glo,hi3.tio.frK2 hst hk (fun j hj e=>hi3.tio.blk_ne hi3.blk (e▸hj)),⟨s,base,Nat.le_trans hlo hbase,rfl,hs'.fr hst hk (fun j hj e=>by have:=hge j hj;omega)⟩,fun j h1 h2=>by have e1:=(Hi.out.tio.ge j h1).2;have e2:=hge j h2;omega⟩,rfl⟩,fun j hj=>?_⟩,(f.mono (G:=stF g Ft Fs) q4_).trans hst (fun j hj=>.inl (.inl hj))⟩
    rcases hj with hj | hj | hj
    ·exact .inl (.inl hj)
    ·exact .inl (.inr (.inl hj))
    ·exact .inr (hge j hj)
   have HB3:Hid (∀ w3,Fr (fun _=>False) W w3→w3.frozen? ⟨g,2,none⟩=false):=fun w3 f=>(Hi.out.fr0 f).blk.frozen 2
   have hQ:zbp Q (0,nm,l)=0→zbB Q (0,nm,l)={Q with ch:=some B}:=fun h=>by unfold zbB;rw[if_pos h];dsimp only;rw[hB]
   have hQ2:zbp Q (0,nm,l)≠0→zbB Q (0,nm,l)=Q:=fun h=>by unfold zbB;rw[if_neg h]
   have HQ:=q0_ (And.intro hQ hQ2);have HE2:=q0_ hE2;clear hE hE2 hQ hQ2 hB hbd hnv hrm hbv hok hv hn hcc hst hnb;go_enter func25,ntmps25;go_wp2_with fail;refine HN.out.mono ?_;rintro r w1 ⟨rfl,rfl⟩;go_wp2_with fail;refine HP.out.mono ?_;rintro r w1 ⟨⟨kk,A,d,rfl,hnc,hrd,had⟩,b1⟩;have F1:=q0_ (Fr.b0 b1);have X2:Hid (Blk (w1.alloc (.cells #[.string nm,.slice A n d] 25)) w1.heap.size 25 #[.string nm,.slice A n d]):=Blk.new _ _ _;have F2:Hid (Fr (fun _=>False) W (w1.alloc (.cells #[.string nm,.slice A n d] 25))):=F1.out.trans (Fr.none_alloc _ _) q4_;have HR2:=q0_ (hrd.fr0 (Fr.none_alloc w1 (.cells #[.string nm,.slice A n d] 25)));clear b1 hrd had c2;go_wp2_with fail;refine wp_region_held_drew (S:=fun W'=>Fr (fun _=>False) (w1.alloc (.cells #[.string nm,.slice A n d] 25)) W') (by kernel_rfl) ((Fr.refl _ _).drew) (fun hY_=>?_);refine tl 0 ?v1 rfl ?q1 ?r1
   case q1=>intro W_ hSw;(try obtain⟨a0,a1,a2⟩:=HC.out W_ (F2.out.trans hSw q4_);have x0:=(X2.out.fr hSw (fun h=>h)).cell 0;have x1:=(X2.out.fr hSw (fun h=>h)).cell 1;simp only[q1_,q2_,q3_] at x0 x1);go_simp;try rfl
   refine tl 1 ?v2 rfl ?q2 ?r2
   case q2=>intro W_ hSw;(try obtain⟨a0,a1,a2⟩:=HC.out W_ (F2.out.trans hSw q4_);have x0:=(X2.out.fr hSw (fun h=>h)).cell 0;have x1:=(X2.out.fr hSw (fun h=>h)).cell 1;simp only[q1_,q2_,q3_] at x0 x1);go_simp;try rfl
   refine tl 2 ?v3 rfl ?q3 ?r3
   case q3=>intro W_ hSw;(try obtain⟨a0,a1,a2⟩:=HC.out W_ (F2.out.trans hSw q4_);have x0:=(X2.out.fr hSw (fun h=>h)).cell 0;have x1:=(X2.out.fr hSw (fun h=>h)).cell 1;simp only[q1_,q2_,q3_] at x0 x1);go_simp;try rfl
   refine tl 3 ?v4 rfl ?q4 ?r4
   case q4=>intro W_ hSw;(try obtain⟨a0,a1,a2⟩:=HC.out W_ (F2.out.trans hSw q4_);have x0:=(X2.out.fr hSw (fun h=>h)).cell 0;have x1:=(X2.out.fr hSw (fun h=>h)).cell 1;simp only[q1_,q2_,q3_] at x0 x1);go_simp;try rfl
   refine tl 4 ?v5 rfl ?q5 ?r5
   case q5=>intro W_ hSw;(try obtain⟨a0,a1,a2⟩:=HC.out W_ (F2.out.trans hSw q4_);have x0:=(X2.out.fr hSw (fun h=>h)).cell 0;have x1:=(X2.out.fr hSw (fun h=>h)).cell 1;simp only[q1_,q2_,q3_] at x0 x1);go_simp;try rfl
   refine tl 5 ?v6 rfl ?q6 ?r6
   case q6=>intro W_ hSw;(try obtain⟨a0,a1,a2⟩:=HC.out W_ (F2.out.trans hSw q4_);have x0:=(X2.out.fr hSw (fun h=>h)).cell 0;have x1:=(X2.out.fr hSw (fun h=>h)).cell 1;simp only[q1_,q2_,q3_] at x0 x1);go_simp;try rfl
   try simp only[Act.put,sA,sB,sC]
   refine rl 6 rfl (fun K hK=>?_);go_simp;have FB:=q0_ (F2.out.trans hY_ q4_)
   go_wp2_with (go_at_call 105;refine (HBg.out _ A d (F2.out.trans hY_ q4_) (HR2.out.fr0 hY_) hnc).mono ?_;rintro r wa ⟨⟨s,rfl,hsa⟩,ba⟩)
   refine hK.out _ _ (hY_.trans (Fr.b0 ba) q4_) (fun hY_=>?_);clear hK K;refine tl 7 ?v7 rfl ?q7 ?r7
   case q7=>intro W_ hSw;(try obtain⟨a0,a1,a2⟩:=HC.out W_ (F2.out.trans hSw q4_);have x0:=(X2.out.fr hSw (fun h=>h)).cell 0;have x1:=(X2.out.fr hSw (fun h=>h)).cell 1;simp only[q1_,q2_,q3_] at x0 x1);go_simp;try rfl
   refine tl 8 ?v8 rfl ?q8 ?r8
   case q8=>intro W_ hSw;(try obtain⟨a0,a1,a2⟩:=HC.out W_ (F2.out.trans hSw q4_);have x0:=(X2.out.fr hSw (fun h=>h)).cell 0;have x1:=(X2.out.fr hSw (fun h=>h)).cell 1;simp only[q1_,q2_,q3_] at x0 x1);go_simp;try rfl
   refine tl 9 ?v9 rfl ?q9 ?r9
   case q9=>intro W_ hSw;(try obtain⟨a0,a1,a2⟩:=HC.out W_ (F2.out.trans hSw q4_);have x0:=(X2.out.fr hSw (fun h=>h)).cell 0;have x1:=(X2.out.fr hSw (fun h=>h)).cell 1;simp only[q1_,q2_,q3_] at x0 x1);go_simp;try rfl
   refine tl 10 ?v10 rfl ?q10 ?r10
   case q10=>intro W_ hSw;(try obtain⟨a0,a1,a2⟩:=HC.out W_ (F2.out.trans hSw q4_);have x0:=(X2.out.fr hSw (fun h=>h)).cell 0;have x1:=(X2.out.fr hSw (fun h=>h)).cell 1;simp only[q1_,q2_,q3_] at x0 x1);go_simp;try rfl
   refine tl 11 ?v11 rfl ?q11 ?r11
   case q11=>intro W_ hSw;(try obtain⟨a0,a1,a2⟩:=HC.out W_ (F2.out.trans hSw q4_);have x0:=(X2.out.fr hSw (fun h=>h)).cell 0;have x1:=(X2.out.fr hSw (fun h=>h)).cell 1;simp only[q1_,q2_,q3_] at x0 x1);go_simp;try rfl
   try simp only[Act.put,sA,sB,sC]
   refine wpAnyH_done (by kernel_rfl) ?_ _;have HSA:=q0_ hsa;have hbase:W.heap.size≤_:=FB.out.size;have FA:=q0_ (F2.out.trans hY_ q4_);clear hsa;go_wp2_with fail
   by_cases hov:rm<(nv:Int)+bd
   ·have ho1:decide (rm<(nv:Int)+bd)=true:=qa_ hov
    have hE:Hid (zbp Q (0,nm,l)=20):=by show _=_;rw[HE2.out,if_neg (by omega)]
    refine wp_region_held_drew (S:=fun W'=>Fr (fun _=>False) wa W') (by kernel_rfl) ((Fr.refl _ wa).drew) (fun hY_=>?_);refine tq 11 [0,1,2,3,4,6,9,10,11,12,13] ?_
    iterate 10 refine sf (fun W_ hSw=>HC.out W_ (FA.out.trans hSw q4_)) ?_
    refine sf (fun W_ hSw=>HC.out W_ (FA.out.trans hSw q4_)) ?_
    try simp only[Act.put,sA,sB,sC]
    refine sz ?_
    try simp only[Act.put,sA,sB,sC]
    refine rl 5 rfl (fun K hK=>?_);go_simp
    go_wp2_with (go_at_call 100;refine (HNd.out _ (FA.out.trans hY_ q4_)).mono ?_;rintro r wb ⟨rfl,bb⟩)
    refine hK.out _ _ (hY_.trans (Fr.b0 bb) q4_) (fun hY_=>?_);clear hK K
    try simp only[Act.put,sA,sB,sC]
    refine rl 7 rfl (fun K hK=>?_);go_simp
    go_wp2_with (go_at_call 34;refine (HBd.out _ s _ (HSA.out.fr0 hY_)).mono ?_;rintro r wc ⟨rfl,rfl⟩)
    refine hK.out _ _ (hY_) (fun hY_=>?_);clear hK K
    try simp only[Act.put,sA,sB,sC]
    refine rl 8 rfl (fun K hK=>?_);go_simp
    go_wp2_with (go_at_call 99;refine (HAd.out _).mono ?_;rintro r wd ⟨rfl,rfl⟩)
    refine hK.out _ _ (hY_) (fun hY_=>?_);clear hK K;refine tl 14 ?v65 rfl ?q65 ?r65
    case q65=>intro W_ hSw;(try obtain⟨a0,a1,a2⟩:=HC.out W_ (FA.out.trans hSw q4_));go_simp;try rfl
    try simp only[Act.put,sA,sB,sC]
    refine wpAnyH_done (by kernel_rfl) ?_ _;go_wp2
    go_ret2
    rw[HQ.out.2 (by rw[hE.out];decide),hE.out];exact⟨⟨0,rfl,fun _=>rfl⟩,Hi.out.same (FA.out.trans hY_ q4_)⟩
   ·have ho1:decide (rm<(nv:Int)+bd)=false:=q9_ hov
    have hE:Hid (zbp Q (0,nm,l)=0):=by show _=_;rw[HE2.out,if_pos (by omega)]
    refine wp_region_held_drew (S:=fun W'=>Fr (fun _=>False) wa W') (by kernel_rfl) ((Fr.refl _ wa).drew) (fun hY_=>?_);refine tq 11 [0,1,2,3,4,6,9,10,11,12,13] ?_
    iterate 10 refine sf (fun W_ hSw=>HC.out W_ (FA.out.trans hSw q4_)) ?_
    refine sf (fun W_ hSw=>HC.out W_ (FA.out.trans hSw q4_)) ?_
    try simp only[Act.put,sA,sB,sC]
    refine sz ?_
    try simp only[Act.put,sA,sB,sC]
    refine rl 5 rfl (fun K hK=>?_);go_simp
    go_wp2_with (go_at_call 100;refine (HNd.out _ (FA.out.trans hY_ q4_)).mono ?_;rintro r wb ⟨rfl,bb⟩)
    refine hK.out _ _ (hY_.trans (Fr.b0 bb) q4_) (fun hY_=>?_);clear hK K
    try simp only[Act.put,sA,sB,sC]
    refine rl 7 rfl (fun K hK=>?_);go_simp
    go_wp2_with (go_at_call 34;refine (HBd.out _ s _ (HSA.out.fr0 hY_)).mono ?_;rintro r wc ⟨rfl,rfl⟩)
    refine hK.out _ _ (hY_) (fun hY_=>?_);clear hK K
    try simp only[Act.put,sA,sB,sC]
    refine rl 8 rfl (fun K hK=>?_);go_simp
    go_wp2_with (go_at_call 99;refine (HAd.out _).mono ?_;rintro r wd ⟨rfl,rfl⟩)
    refine hK.out _ _ (hY_) (fun hY_=>?_);clear hK K;refine tl 14 ?v77 rfl ?q77 ?r77
    case q77=>intro W_ hSw;(try obtain⟨a0,a1,a2⟩:=HC.out W_ (FA.out.trans hSw q4_));go_simp;try rfl
    try simp only[Act.put,sA,sB,sC]
    refine wpAnyH_done (by kernel_rfl) ?_ _;have FX:=FA.out.trans hY_ q4_;obtain⟨g0,g1,g2⟩:=HC.out wb FX;have z2:=HB3.out wb FX;go_wp2
    go_ret2
    rw[HQ.out.1 hE.out,hE.out];exact⟨⟨0,rfl,fun _=>rfl⟩,HMK.out wb s _ FX hbase (HSA.out.fr0 hY_)⟩
  ·have he1:(e != 0)=true:=by simpa using he
   have hE2:zbp Q (e,nm,l)=e:=by rw[hE];dsimp only;rw[if_neg he]
   have hQ:zbB Q (e,nm,l)=Q:=by unfold zbB;rw[if_neg (by rw[hE2];exact he)]
   rw[hE2,hQ];clear hE hE2 hQ hok hv hn hcc;go_enter func25,ntmps25;go_wp2_with fail;refine HN.out.mono ?_;rintro r w1 ⟨rfl,rfl⟩;go_wp2_with fail;refine HP.out.mono ?_;rintro r w1 ⟨⟨kk,A,d,rfl,hnc,hrd,had⟩,b1⟩;have F1:=q0_ (Fr.b0 b1);clear b1 hrd had c2;go_wp2
   go_ret2
   exact⟨⟨kk,rfl,fun h=>by
    rcases h with h | h
    ·cases h
    ·exact absurd h he⟩,Hi.out.same (F1.out.trans (Fr.none_alloc _ _) q4_)⟩
theorem zmt(hg:zax Q c)(hc:c≤1000000)(h:zfK W g lo Q c F)(hlo:lo≤W.heap.size):
  Calls prog 26 #[.pointer (some ⟨g,0,none⟩)] W fun r w'=>r=.returned (.tuple #[zaM (zdQ Q).1,.int .i64 (zdQ Q).2])∧StR W g lo (zc6 Q) c F w':=by
 obtain⟨t,Ft,Fs,v,hi,rfl⟩:=h;have F0:Hid (Fr (fun _=>False) W (W.alloc (.cells #[.int .i64 0,.int .i64 0,.int .i64 0] 74))):=Fr.none_alloc _ _;have RB0:Hid (Blk (W.alloc (.cells #[.int .i64 0,.int .i64 0,.int .i64 0] 74)) W.heap.size 74 #[.int .i64 0,.int .i64 0,.int .i64 0]):=Blk.new _ _ _
 obtain⟨W0,hW0⟩:∃ W0,W0=W.alloc (.cells #[.int .i64 0,.int .i64 0,.int .i64 0] 74):=⟨_,rfl⟩
 have HW0:=q0_ hW0;rw[← hW0] at F0 RB0;have hi0:=hi.fr0 F0.out;have HN:=q0_ (zdg hi0);have Hi:=q0_ hi;have Hi0:=q0_ hi0;have hv:=hi.ch.val;obtain⟨_,_,c2⟩:=hi0.cells0;have hgl:=hi.blk.lt;have hFsl:Hid (∀ j,Fs j→j<W.heap.size):=fun j hj=>(hi.ch.ge j hj).2;have HC:Hid (∀ W',Fr Fs W0 W'→W'.cell? ⟨g,0,none⟩=some (.int .i64 Q.room)∧W'.cell? ⟨g,1,none⟩=some (.pointer (some ⟨t,0,none⟩))∧W'.cell? ⟨g,2,none⟩=some v):=fun W' f=>hi0.cells f (hi0.ch.blk_ne hi0.blk);clear hi hi0 hW0
 cases hcc:Q.ch with
 | none=>
  obtain rfl:=hv.1 hcc
  have hE:zdQ Q=((0,0,0),8):=by unfold zdQ;rw[hcc]
  have hQ:zc6 Q=Q:=by unfold zc6;rw[hcc]
  rw[hE,hQ];unfold zaM;have y0:=RB0.out.cell 0;have y1:=RB0.out.cell 1;have y2:=RB0.out.cell 2;have z0:=RB0.out.frozen 0;have z1:=RB0.out.frozen 1;have z2:=RB0.out.frozen 2;simp only[q1_,q2_,q3_] at y0 y1 y2;clear hE hQ hcc hv;go_enter func26,ntmps26;go_wp2_with fail;rw[← HW0.out];refine HN.out.mono ?_;rintro r w1 ⟨rfl,rfl⟩;go_wp2;refine bodyPost_ret (v:=.tuple #[.agg #[.int .i64 0,.int .i64 0,.int .i64 0],.int .i64 8]) ?_ rfl ⟨rfl,Hi.out.same (F0.out.set3 (.inr (Nat.le_refl _)) _ _ _)⟩;simp[results,results26,go_sem, *]
 | some S=>
  obtain⟨s',rfl⟩:=hv.2 S hcc;have hk:=hg.ch S hcc;obtain⟨o,ho⟩:=hk.ok;have hfl:=hg.hfl hc
  obtain⟨sb,base,hbase,hsv,hs⟩:=(show ∃ s base,lo≤base∧(Value.pointer (some ⟨s',0,none⟩))=.pointer (some ⟨s,0,none⟩)∧zcr W s base S Fs by have:=Hi.out.ch;rw[hcc] at this;exact this)
  cases hsv
  have eb:S.built Q.X=zaj Q.X S.name S.tiers (srcs o Q.X.tiers Q.X.floors S.tiers):=by unfold ShX.built;rw[ho.src]
  have hR:zdQ Q=((atV S.tiers S.done).1,0):=by unfold zdQ;rw[hcc]
  rw[hR]
  obtain⟨⟨⟨a,b,q⟩,kb⟩,hat⟩:∃ x,atV S.tiers S.done=x:=⟨_,rfl⟩
  rw[hat];unfold zaM;dsimp only
  have HSt:Hid (∀ W',Fr (fun _=>False) W W'→Calls prog 106 #[.pointer (some ⟨s',0,none⟩),.pointer (some ⟨t,0,none⟩)] W' fun r w'=>(∃ co,r=.returned (.tuple #[.agg #[.int .i64 a,.int .i64 b,.int .i64 q],co,.int .i64 0])∧zrW S.name S.tiers (S.built Q.X).floors W'.heap.size w' (S.built Q.X) c (decide (S.done=zaX S.tiers-1)) co)∧zf1 w' lo (some (S.go S.name S.tiers (S.built Q.X))) (.pointer (some ⟨s',0,none⟩)) Fs∧Fr Fs W' w'):=fun W' f=>by
   have h1:=znL (o:=o) hg.pol hk.pol hk.nm (Hi.out.fr0 f).tio hc hfl (hs.fr0 f) ho hk.done;rw[hat] at h1;refine h1.mono ?_;rintro r w' ⟨⟨co,rfl,hcut⟩,h2,h3⟩;refine⟨⟨co,rfl,?_⟩,⟨s',base,hbase,rfl,?_⟩,h3⟩
   ·rw[eb];exact hcut
   ·rw[eb];exact h2
  have HRX:Hid (∀ w5,Fr Fs W0 w5→Blk w5 W.heap.size 74 #[.int .i64 0,.int .i64 0,.int .i64 0]):=fun w5 f=>RB0.out.fr f (fun h=>by have:=hFsl.out _ h;omega);have HGB:Hid (∀ w5,Fr Fs W0 w5→Blk w5 g 148 #[.int .i64 Q.room,.pointer (some ⟨t,0,none⟩),.pointer (some ⟨s',0,none⟩)]):=fun w5 f=>Hi0.out.blk.fr f (Hi0.out.ch.blk_ne Hi0.out.blk)
  have hW0s:W0.heap.size=W.heap.size+1:=by rw[HW0.out];simp
  by_cases hlast:S.done=zaX S.tiers-1
  ·have hQ:zc6 Q={Q with X:=S.built Q.X,ch:=none}:=by unfold zc6;rw[hcc];dsimp only;rw[if_pos hlast]
   have HSt2:Hid (∀ W',Fr (fun _=>False) W W'→Calls prog 106 #[.pointer (some ⟨s',0,none⟩),.pointer (some ⟨t,0,none⟩)] W' fun r w'=>(∃ ot Fo,r=.returned (.tuple #[.agg #[.int .i64 a,.int .i64 b,.int .i64 q],.pointer (some ⟨ot,0,none⟩),.int .i64 0])∧Tio S.name S.tiers (S.built Q.X).floors W'.heap.size w' ot (S.built Q.X) Fo c∧∀ i,Fo i→W'.heap.size≤i)∧Fr Fs W' w'):=fun W' f=>by
    refine (HSt.out W' f).mono ?_;rintro r w' ⟨⟨co,rfl,h1,_⟩,_,h3⟩;obtain⟨ot,Fo,rfl,h4,h5⟩:=h1 (qa_ hlast);exact⟨⟨ot,Fo,rfl,h4,h5⟩,h3⟩
   have HMK:Hid (∀ (w5 w6:World) (ot:Nat) (Fo:Nat→Prop) (W':World),Fr Fs W0 w5→W.heap.size≤W'.heap.size→Tio S.name S.tiers (S.built Q.X).floors W'.heap.size w5 ot (S.built Q.X) Fo c→(∀ i,Fo i→W'.heap.size≤i∧i≠W.heap.size)→Fr (fun j=>j=W.heap.size) ((w5.setCell ⟨g,1,none⟩ (.pointer (some ⟨ot,0,none⟩))).setCell ⟨g,2,none⟩ (.pointer none)) w6→StR W g lo (zc6 Q) c (stF g Ft Fs) w6):=fun w5 w6 ot Fo W' f hws ht hFo f6=>by
    rw[hQ];have b5:=HGB.out w5 f;have hst:Fr (fun j=>j=g) w5 ((w5.setCell ⟨g,1,none⟩ (.pointer (some ⟨ot,0,none⟩))).setCell ⟨g,2,none⟩ (.pointer none)):=((Fr.refl (fun j=>j=g) w5).setCell (p:=⟨g,1,none⟩) (.inl rfl) _).setCell (p:=⟨g,2,none⟩) (.inl rfl) _;have hk5:zd5 w5 (fun j=>j=g):=fun j hj=>.inr ⟨_,_,_,hj▸b5,by decide,by decide,by decide,by decide⟩;have r5:=(HRX.out w5 f).fr hst (by omega);have hk6:zd5 ((w5.setCell ⟨g,1,none⟩ (.pointer (some ⟨ot,0,none⟩))).setCell ⟨g,2,none⟩ (.pointer none)) (fun j=>j=W.heap.size):=fun j hj=>.inr ⟨_,_,_,hj▸r5,by decide,by decide,by decide,by decide⟩;have t6:=(ht.frK2 hst hk5 (fun j hj e=>by have:=(hFo j hj).1;omega)).frK2 f6 hk6 (fun j hj e=>(hFo j hj).2 e)
    have t7:Tio S.name S.tiers (S.built Q.X).floors lo w6 ot (S.built Q.X) Fo c:=by
     obtain⟨bb,hb,ho'⟩:=t6.on;exact⟨⟨bb,by omega,ho'⟩,t6.good⟩
    refine⟨⟨stF g Fo (fun _=>False),⟨ot,Fo,fun _=>False,.pointer none,⟨((b5.set_ 1 _).set_ 2 _).fr f6 (by omega),Hi.out.glo,t7,⟨rfl,rfl⟩,fun _ _ h=>h⟩,rfl⟩,fun j hj=>?_⟩,?_⟩
    ·rcases hj with hj | hj | hj
     ·exact .inl (.inl hj)
     ·exact .inr (by have:=(hFo j hj).1;omega)
     ·exact hj.elim
    ·exact (((F0.out.mono (G:=stF g Ft Fs) q4_).trans f (fun j hj=>.inl (.inr (.inr hj)))).trans hst (fun j hj=>.inl (.inl hj))).trans f6 (fun j hj=>.inr (by omega))
   have HW0s:=q0_ hW0s;clear hQ hR hcc hv hat HSt hk ho hs eb hW0s;go_enter func26,ntmps26;go_wp2_with fail;rw[← HW0.out];refine HN.out.mono ?_;rintro r w1 ⟨rfl,rfl⟩;go_wp2_with fail;refine wp_region_held_drew (S:=fun W'=>Fr Fs W0 W') (by kernel_rfl) ((Fr.refl _ W0).drew) (fun hY_=>?_);refine tq 9 [0,1,2,3,4,5,6,7,8] ?_
   iterate 8 refine sf HC.out ?_
   refine sf HC.out ?_
   try simp only[Act.put,sA,sB,sC]
   refine sz ?_
   try simp only[Act.put,sA,sB,sC]
   refine wpAnyH_ready (rs:=[9,14]) (by kernel_rfl) (by simp) ?_;refine AllReadyH.cons (dg rfl) (fun K hK=>?_) ?_
   ·go_simp
    have FW:=q0_ (F0.out.trans ((Fr.refl (fun _=>False) W0).drew) q4_)
    go_wp2_with (go_at_call 106;refine (HSt2.out _ FW.out).mono ?_;rintro r wa ⟨⟨ot,Fo,rfl,ht,hFo⟩,hf⟩)
    have HT:=q0_ ht;have HFo:=q0_ hFo;have HF:=q0_ hf;refine hK.out _ _ (hY_.trans hf (fun j hj=>.inl hj)) (fun hY_=>?_);clear hK K;refine tq 4 [10,11,12,13] ?_
    iterate 3 refine sf HC.out ?_
    refine sf HC.out ?_
    try simp only[Act.put,sA,sB,sC]
    refine sz ?_
    try simp only[Act.put,sA,sB,sC]
    refine rl 14 rfl (fun K hK=>?_);go_simp;have X4:Hid (Blk (wa.alloc (.cells #[.int .i64 0,.int .i64 0,.int .i64 0] 74)) wa.heap.size 74 #[.int .i64 0,.int .i64 0,.int .i64 0]):=Blk.new _ _ _;have e0:=X4.out.cell 0;have e1:=X4.out.cell 1;have e2:=X4.out.cell 2;have z0:=X4.out.frozen 0;have z1:=X4.out.frozen 1;have z2:=X4.out.frozen 2;simp only[q1_,q2_,q3_] at e0 e1 e2;refine hK.out _ _ (hY_.trans (Fr.none_alloc _ _) q4_) (fun hY_=>?_);clear hK K
    try simp only[Act.put,sA,sB,sC]
    refine rl 15 rfl (fun K hK=>?_);go_simp;refine hK.out _ _ ((((Fr.refl Fs W0).drew).trans HF.out (fun j hj=>.inl hj)).trans (Fr.none_alloc _ _) q4_) (fun hY_=>?_);clear hK K;refine tq 2 [16,17] ?_;refine sf HC.out ?_;refine sf HC.out ?_
    try simp only[Act.put,sA,sB,sC]
    refine sz ?_
    try simp only[Act.put,sA,sB,sC]
    refine wpAnyH_done (by kernel_rfl) ?_ _
    obtain⟨w5,hw5⟩:∃ w5,w5=wa.alloc (.cells #[.int .i64 a,.int .i64 b,.int .i64 q] 74):=⟨_,rfl⟩
    rw[← hw5] at hY_ ⊢;have hW0s:=HW0s.out
    have hf4:Fr (fun _=>False) wa w5:=by rw[hw5];exact Fr.none_alloc _ _
    have X5:Blk w5 wa.heap.size 74 #[.int .i64 a,.int .i64 b,.int .i64 q]:=by rw[hw5];exact Blk.new _ _ _
    have b5:=HGB.out w5 hY_;have r5:=HRX.out w5 hY_;have hB4:W0.heap.size≤wa.heap.size:=HF.out.size;have hFW:W0.heap.size≤_:=Nat.le_refl W0.drew.heap.size;have t5:=HT.out.fr0 hf4;have HT5:=q0_ t5;have HX5:=q0_ X5;have HHeld:=q0_ hY_;have hst:Fr (fun j=>j=g) w5 ((w5.setCell ⟨g,1,none⟩ (.pointer (some ⟨ot,0,none⟩))).setCell ⟨g,2,none⟩ (.pointer none)):=((Fr.refl (fun j=>j=g) w5).setCell (p:=⟨g,1,none⟩) (.inl rfl) _).setCell (p:=⟨g,2,none⟩) (.inl rfl) _;have Hst:=q0_ hst;have g1:=b5.cell 1;have y1:=b5.frozen 1;have bb:=b5.set_ 1 (.pointer (some ⟨ot,0,none⟩));have g2:=bb.cell 2;have y2:=bb.frozen 2;have X6:=X5.fr hst (by omega);have r6:=r5.fr hst (by omega);have x0:=X6.cell 0;have x1:=X6.cell 1;have x2:=X6.cell 2;have u0:=r6.cell 0;have u1:=r6.cell 1;have u2:=r6.cell 2;have q0:=r6.frozen 0;have q1:=r6.frozen 1;have q2:=r6.frozen 2;simp only[q7_,List.set_cons_succ,List.set_cons_zero,q1_,q2_,q3_] at g1 g2 x0 x1 x2 u0 u1 u2;clear hW0s t5 X5 hst b5 bb r5 X6 r6 hw5 hf4  hY_ e0 e1 e2 z0 z1 z2;go_wp2;refine bodyPost_ret (v:=.tuple #[.agg #[.int .i64 a,.int .i64 b,.int .i64 q],.int .i64 0]) ?_ rfl ⟨rfl,HMK.out w5 _ ot Fo W0.drew HHeld.out (by have:=HW0s.out;show W.heap.size≤W0.heap.size;omega) HT5.out (fun i hi=>⟨HFo.out i hi,by have h1:=HFo.out i hi;have:=HW0s.out;(change W0.heap.size≤i at h1;omega)⟩) ((Fr.refl (fun j=>j=W.heap.size) _).set3 (.inl rfl) _ _ _)⟩;simp[results,results26,go_sem, *]
   refine AllReadyH.cons (dg rfl) (fun K hK=>?_) AllReadyH.nil;go_simp;have X4:Hid (Blk (W0.drew.alloc (.cells #[.int .i64 0,.int .i64 0,.int .i64 0] 74)) W0.heap.size 74 #[.int .i64 0,.int .i64 0,.int .i64 0]):=Blk.new _ _ _;refine hK.out _ _ (hY_.trans (Fr.none_alloc _ _) q4_) (fun hY_=>?_);clear hK K
   try simp only[Act.put,sA,sB,sC]
   refine rl 9 rfl (fun K hK=>?_);go_simp;have FW:=q0_ (F0.out.trans (((Fr.refl (fun _=>False) W0).drew).trans (Fr.none_alloc W0.drew (.cells #[.int .i64 0,.int .i64 0,.int .i64 0] 74)) q4_) q4_)
   go_wp2_with (go_at_call 106;refine (HSt2.out _ FW.out).mono ?_;rintro r wa ⟨⟨ot,Fo,rfl,ht,hFo⟩,hf⟩)
   have HT:=q0_ ht;have HFo:=q0_ hFo;have HF:=q0_ hf;have X4:=q0_ (X4.out.fr hf (fun h=>by have:=hFsl.out _ h;have:=HW0s.out;omega));have e0:=X4.out.cell 0;have e1:=X4.out.cell 1;have e2:=X4.out.cell 2;have z0:=X4.out.frozen 0;have z1:=X4.out.frozen 1;have z2:=X4.out.frozen 2;simp only[q1_,q2_,q3_] at e0 e1 e2;refine hK.out _ _ (hY_.trans hf (fun j hj=>.inl hj)) (fun hY_=>?_);clear hK K;refine tq 4 [10,11,12,13] ?_
   iterate 3 refine sf HC.out ?_
   refine sf HC.out ?_
   try simp only[Act.put,sA,sB,sC]
   refine sz ?_
   try simp only[Act.put,sA,sB,sC]
   refine rl 15 rfl (fun K hK=>?_);go_simp;refine hK.out _ _ (hY_.set3 (.inr (Nat.le_refl _)) _ _ _) (fun hY_=>?_);clear hK K;refine tq 2 [16,17] ?_;refine sf HC.out ?_;refine sf HC.out ?_
   try simp only[Act.put,sA,sB,sC]
   refine sz ?_
   try simp only[Act.put,sA,sB,sC]
   refine wpAnyH_done (by kernel_rfl) ?_ _
   obtain⟨w5,hw5⟩:∃ w5,w5=(((wa.setCell ⟨W0.heap.size,0,none⟩ (.int .i64 a)).setCell ⟨W0.heap.size,1,none⟩ (.int .i64 b)).setCell ⟨W0.heap.size,2,none⟩ (.int .i64 q)):=⟨_,rfl⟩
   rw[← hw5] at hY_ ⊢;have hW0s:=HW0s.out
   have hf4:Fr (fun j=>j=W0.heap.size) wa w5:=by rw[hw5];exact (Fr.refl (fun j=>j=W0.heap.size) wa).set3 (.inl rfl) _ _ _
   have X5:Blk w5 W0.heap.size 74 #[.int .i64 a,.int .i64 b,.int .i64 q]:=by rw[hw5];exact X4.out.set3
   have b5:=HGB.out w5 hY_;have r5:=HRX.out w5 hY_;have hB4:W0.heap.size≤W0.heap.size:=Nat.le_refl _;have hk4:zd5 wa (fun j=>j=W0.heap.size):=fun j hj=>.inr ⟨_,_,_,hj▸X4.out,by decide,by decide,by decide,by decide⟩;have hFW:W0.heap.size≤_:=(Fr.none_alloc W0.drew (.cells #[.int .i64 0,.int .i64 0,.int .i64 0] 74)).size;have t5:=HT.out.frK2 hf4 hk4 (fun j hj e=>by have h1:=HFo.out j hj;simp at h1;omega);have HT5:=q0_ t5;have HX5:=q0_ X5;have HHeld:=q0_ hY_;have hst:Fr (fun j=>j=g) w5 ((w5.setCell ⟨g,1,none⟩ (.pointer (some ⟨ot,0,none⟩))).setCell ⟨g,2,none⟩ (.pointer none)):=((Fr.refl (fun j=>j=g) w5).setCell (p:=⟨g,1,none⟩) (.inl rfl) _).setCell (p:=⟨g,2,none⟩) (.inl rfl) _;have Hst:=q0_ hst;have g1:=b5.cell 1;have y1:=b5.frozen 1;have bb:=b5.set_ 1 (.pointer (some ⟨ot,0,none⟩));have g2:=bb.cell 2;have y2:=bb.frozen 2;have X6:=X5.fr hst (by omega);have r6:=r5.fr hst (by omega);have x0:=X6.cell 0;have x1:=X6.cell 1;have x2:=X6.cell 2;have u0:=r6.cell 0;have u1:=r6.cell 1;have u2:=r6.cell 2;have q0:=r6.frozen 0;have q1:=r6.frozen 1;have q2:=r6.frozen 2;simp only[q7_,List.set_cons_succ,List.set_cons_zero,q1_,q2_,q3_] at g1 g2 x0 x1 x2 u0 u1 u2;clear hW0s t5 X5 hst b5 bb r5 X6 r6 hw5 hf4 hk4 hY_ e0 e1 e2 z0 z1 z2;go_wp2;refine bodyPost_ret (v:=.tuple #[.agg #[.int .i64 a,.int .i64 b,.int .i64 q],.int .i64 0]) ?_ rfl ⟨rfl,HMK.out w5 _ ot Fo (W0.drew.alloc (.cells #[.int .i64 0,.int .i64 0,.int .i64 0] 74)) HHeld.out (by have:=HW0s.out;simp;omega) HT5.out (fun i hi=>⟨HFo.out i hi,by have h1:=HFo.out i hi;have:=HW0s.out;simp at h1;omega⟩) ((Fr.refl (fun j=>j=W.heap.size) _).set3 (.inl rfl) _ _ _)⟩;simp[results,results26,go_sem, *]
  ·have hQ:zc6 Q={Q with ch:=some (S.go S.name S.tiers (S.built Q.X))}:=by unfold zc6;rw[hcc];dsimp only;rw[if_neg hlast]
   have HSt2:Hid (∀ W',Fr (fun _=>False) W W'→Calls prog 106 #[.pointer (some ⟨s',0,none⟩),.pointer (some ⟨t,0,none⟩)] W' fun r w'=>r=.returned (.tuple #[.agg #[.int .i64 a,.int .i64 b,.int .i64 q],.pointer none,.int .i64 0])∧zf1 w' lo (some (S.go S.name S.tiers (S.built Q.X))) (.pointer (some ⟨s',0,none⟩)) Fs∧Fr Fs W' w'):=fun W' f=>by
    refine (HSt.out W' f).mono ?_;rintro r w' ⟨⟨co,rfl,_,h1⟩,h2,h3⟩;obtain rfl:=h1 (q9_ hlast);exact⟨rfl,h2,h3⟩
   have HMK:Hid (∀ w5 w6,Fr Fs W0 w5→zf1 w5 lo (some (S.go S.name S.tiers (S.built Q.X))) (.pointer (some ⟨s',0,none⟩)) Fs→Fr (fun j=>j=W.heap.size) w5 w6→StR W g lo (zc6 Q) c (stF g Ft Fs) w6):=fun w5 w6 f hch f6=>by
    rw[hQ];have b5:=HGB.out w5 f;have r5:=HRX.out w5 f;have hk6:zd5 w5 (fun j=>j=W.heap.size):=fun j hj=>.inr ⟨_,_,_,hj▸r5,by decide,by decide,by decide,by decide⟩;have t5:=Hi0.out.tio.frK2 f Hi0.out.ch.kind2 Hi0.out.apart;refine⟨⟨stF g Ft Fs,⟨t,Ft,Fs,.pointer (some ⟨s',0,none⟩),⟨b5.fr f6 (by omega),Hi.out.glo,t5.frK2 f6 hk6 (fun j hj e=>by have:=(Hi.out.tio.ge j hj).2;omega),hch.fr f6 hk6 (fun j hj e=>by have:=hFsl.out j hj;omega),Hi.out.apart⟩,rfl⟩,fun j hj=>.inl hj⟩,?_⟩;exact ((F0.out.mono (G:=stF g Ft Fs) q4_).trans f (fun j hj=>.inl (.inr (.inr hj)))).trans f6 (fun j hj=>.inr (by omega))
   have HW0s:=q0_ hW0s;clear hQ hR hcc hv hat HSt hk ho hs eb hW0s;go_enter func26,ntmps26;go_wp2_with fail;rw[← HW0.out];refine HN.out.mono ?_;rintro r w1 ⟨rfl,rfl⟩;go_wp2_with fail;refine wp_region_held_drew (S:=fun W'=>Fr Fs W0 W') (by kernel_rfl) ((Fr.refl _ W0).drew) (fun hY_=>?_);refine tq 9 [0,1,2,3,4,5,6,7,8] ?_
   iterate 8 refine sf HC.out ?_
   refine sf HC.out ?_
   try simp only[Act.put,sA,sB,sC]
   refine sz ?_
   try simp only[Act.put,sA,sB,sC]
   refine wpAnyH_ready (rs:=[9,14]) (by kernel_rfl) (by simp) ?_;refine AllReadyH.cons (dg rfl) (fun K hK=>?_) ?_
   ·go_simp
    have FW:=q0_ (F0.out.trans ((Fr.refl (fun _=>False) W0).drew) q4_)
    go_wp2_with (go_at_call 106;refine (HSt2.out _ FW.out).mono ?_;rintro r wa ⟨rfl,hch,hf⟩)
    have HCH:=q0_ hch;have HF:=q0_ hf;refine hK.out _ _ (hY_.trans hf (fun j hj=>.inl hj)) (fun hY_=>?_);clear hK K;refine tq 4 [10,11,12,13] ?_
    iterate 3 refine sf HC.out ?_
    refine sf HC.out ?_
    try simp only[Act.put,sA,sB,sC]
    refine sz ?_
    try simp only[Act.put,sA,sB,sC]
    refine rl 14 rfl (fun K hK=>?_);go_simp;have X4:Hid (Blk (wa.alloc (.cells #[.int .i64 0,.int .i64 0,.int .i64 0] 74)) wa.heap.size 74 #[.int .i64 0,.int .i64 0,.int .i64 0]):=Blk.new _ _ _;have e0:=X4.out.cell 0;have e1:=X4.out.cell 1;have e2:=X4.out.cell 2;have z0:=X4.out.frozen 0;have z1:=X4.out.frozen 1;have z2:=X4.out.frozen 2;simp only[q1_,q2_,q3_] at e0 e1 e2;refine hK.out _ _ (hY_.trans (Fr.none_alloc _ _) q4_) (fun hY_=>?_);clear hK K
    try simp only[Act.put,sA,sB,sC]
    refine rl 15 rfl (fun K hK=>?_);go_simp;refine hK.out _ _ ((((Fr.refl Fs W0).drew).trans HF.out (fun j hj=>.inl hj)).trans (Fr.none_alloc _ _) q4_) (fun hY_=>?_);clear hK K;refine tq 2 [16,17] ?_;refine sf HC.out ?_;refine sf HC.out ?_
    try simp only[Act.put,sA,sB,sC]
    refine sz ?_
    try simp only[Act.put,sA,sB,sC]
    refine wpAnyH_done (by kernel_rfl) ?_ _
    obtain⟨w5,hw5⟩:∃ w5,w5=wa.alloc (.cells #[.int .i64 a,.int .i64 b,.int .i64 q] 74):=⟨_,rfl⟩
    rw[← hw5] at hY_ ⊢;have hW0s:=HW0s.out
    have hf4:Fr (fun _=>False) wa w5:=by rw[hw5];exact Fr.none_alloc _ _
    have X5:Blk w5 wa.heap.size 74 #[.int .i64 a,.int .i64 b,.int .i64 q]:=by rw[hw5];exact Blk.new _ _ _
    have b5:=HGB.out w5 hY_;have r5:=HRX.out w5 hY_;have hB4:W0.heap.size≤wa.heap.size:=HF.out.size;have ch5:=HCH.out.fr hf4 zeg (fun _ _ h=>h);have HCH5:=q0_ ch5;have HHeld:=q0_ hY_;have x0:=X5.cell 0;have x1:=X5.cell 1;have x2:=X5.cell 2;have u0:=r5.cell 0;have u1:=r5.cell 1;have u2:=r5.cell 2;have q0:=r5.frozen 0;have q1:=r5.frozen 1;have q2:=r5.frozen 2;simp only[q1_,q2_,q3_] at x0 x1 x2 u0 u1 u2;clear hW0s ch5 X5 b5 r5 hw5 hf4  hY_ e0 e1 e2 z0 z1 z2;go_wp2;refine bodyPost_ret (v:=.tuple #[.agg #[.int .i64 a,.int .i64 b,.int .i64 q],.int .i64 0]) ?_ rfl ⟨rfl,HMK.out w5 _ HHeld.out HCH5.out ((Fr.refl (fun j=>j=W.heap.size) _).set3 (.inl rfl) _ _ _)⟩;simp[results,results26,go_sem, *]
   refine AllReadyH.cons (dg rfl) (fun K hK=>?_) AllReadyH.nil;go_simp;have X4:Hid (Blk (W0.drew.alloc (.cells #[.int .i64 0,.int .i64 0,.int .i64 0] 74)) W0.heap.size 74 #[.int .i64 0,.int .i64 0,.int .i64 0]):=Blk.new _ _ _;refine hK.out _ _ (hY_.trans (Fr.none_alloc _ _) q4_) (fun hY_=>?_);clear hK K
   try simp only[Act.put,sA,sB,sC]
   refine rl 9 rfl (fun K hK=>?_);go_simp;have FW:=q0_ (F0.out.trans (((Fr.refl (fun _=>False) W0).drew).trans (Fr.none_alloc W0.drew (.cells #[.int .i64 0,.int .i64 0,.int .i64 0] 74)) q4_) q4_)
   go_wp2_with (go_at_call 106;refine (HSt2.out _ FW.out).mono ?_;rintro r wa ⟨rfl,hch,hf⟩)
   have HCH:=q0_ hch;have HF:=q0_ hf;have X4:=q0_ (X4.out.fr hf (fun h=>by have:=hFsl.out _ h;have:=HW0s.out;omega));have e0:=X4.out.cell 0;have e1:=X4.out.cell 1;have e2:=X4.out.cell 2;have z0:=X4.out.frozen 0;have z1:=X4.out.frozen 1;have z2:=X4.out.frozen 2;simp only[q1_,q2_,q3_] at e0 e1 e2;refine hK.out _ _ (hY_.trans hf (fun j hj=>.inl hj)) (fun hY_=>?_);clear hK K;refine tq 4 [10,11,12,13] ?_
   iterate 3 refine sf HC.out ?_
   refine sf HC.out ?_
   try simp only[Act.put,sA,sB,sC]
   refine sz ?_
   try simp only[Act.put,sA,sB,sC]
   refine rl 15 rfl (fun K hK=>?_);go_simp;refine hK.out _ _ (hY_.set3 (.inr (Nat.le_refl _)) _ _ _) (fun hY_=>?_);clear hK K;refine tq 2 [16,17] ?_;refine sf HC.out ?_;refine sf HC.out ?_
   try simp only[Act.put,sA,sB,sC]
   refine sz ?_
   try simp only[Act.put,sA,sB,sC]
   refine wpAnyH_done (by kernel_rfl) ?_ _
   obtain⟨w5,hw5⟩:∃ w5,w5=(((wa.setCell ⟨W0.heap.size,0,none⟩ (.int .i64 a)).setCell ⟨W0.heap.size,1,none⟩ (.int .i64 b)).setCell ⟨W0.heap.size,2,none⟩ (.int .i64 q)):=⟨_,rfl⟩
   rw[← hw5] at hY_ ⊢;have hW0s:=HW0s.out
   have hf4:Fr (fun j=>j=W0.heap.size) wa w5:=by rw[hw5];exact (Fr.refl (fun j=>j=W0.heap.size) wa).set3 (.inl rfl) _ _ _
   have X5:Blk w5 W0.heap.size 74 #[.int .i64 a,.int .i64 b,.int .i64 q]:=by rw[hw5];exact X4.out.set3
   have b5:=HGB.out w5 hY_;have r5:=HRX.out w5 hY_;have hB4:W0.heap.size≤W0.heap.size:=Nat.le_refl _;have hk4:zd5 wa (fun j=>j=W0.heap.size):=fun j hj=>.inr ⟨_,_,_,hj▸X4.out,by decide,by decide,by decide,by decide⟩;have ch5:=HCH.out.fr hf4 hk4 (fun j hj e=>by have h1:=hFsl.out j hj;omega);have HCH5:=q0_ ch5;have HHeld:=q0_ hY_;have x0:=X5.cell 0;have x1:=X5.cell 1;have x2:=X5.cell 2;have u0:=r5.cell 0;have u1:=r5.cell 1;have u2:=r5.cell 2;have q0:=r5.frozen 0;have q1:=r5.frozen 1;have q2:=r5.frozen 2;simp only[q1_,q2_,q3_] at x0 x1 x2 u0 u1 u2;clear hW0s ch5 X5 b5 r5 hw5 hf4 hk4 hY_ e0 e1 e2 z0 z1 z2;go_wp2;refine bodyPost_ret (v:=.tuple #[.agg #[.int .i64 a,.int .i64 b,.int .i64 q],.int .i64 0]) ?_ rfl ⟨rfl,HMK.out w5 _ HHeld.out HCH5.out ((Fr.refl (fun j=>j=W.heap.size) _).set3 (.inl rfl) _ _ _)⟩;simp[results,results26,go_sem, *]
end
def StP(W:World)(g lo:Nat)(Q:StX)(c:Nat):Prop:=∃ F,zfK W g lo Q c F
section
variable {W W':World} {g lo:Nat} {Q:StX} {c:Nat} {F:Nat→Prop}
theorem StP.fr0(h:StP W g lo Q c)(f:Fr (fun _=>False) W W'):StP W' g lo Q c:=by
 obtain⟨F,h⟩:=h;exact⟨F,h.fr0 f⟩
theorem StP.more(h:StP W g lo Q c){d:Nat}(hd:c≤d):StP W g lo Q d:=by
 obtain⟨F,h⟩:=h;exact⟨F,h.more hd⟩
theorem StP.lt(h:StP W g lo Q c):lo≤g∧g<W.heap.size:=by
 obtain⟨F,t,Ft,Fs,v,hi,_⟩:=h;exact⟨hi.glo,hi.blk.lt⟩
theorem StR.p(h:StR W g lo Q c F W')(hge:∀ j,F j→lo≤j)(hlo:lo≤W.heap.size):StP W' g lo Q c∧Below lo W W':=by
 obtain⟨⟨F',h1,_⟩,h2⟩:=h;exact⟨⟨F',h1⟩,h2.below_of hlo hge⟩
theorem zrh(hg:zax Q c)(hc:c+8≤1000000)(h:StP W g lo Q c)(s:List zaz)(A:Option Addr)(n d:Nat)(hr:Rd W 3 A n (zdE s))(hsw:∀ x∈s,x.wf)(hA:∀ j,adF A n j→j<lo):
  Calls prog 23 #[.pointer (some ⟨g,0,none⟩),.slice A n d] W fun r w'=>r=.returned (.int .i64 (zdD Q s))∧StP w' g lo (zem Q s) (c+8)∧Below lo W w':=by
 have hl:=h.lt;obtain⟨F,h⟩:=h;refine (znH hg hc h (by omega) s A n d hr hsw (fun j hj hF=>by have h1:=hA j hj;have h2:=(h.ge j hF).1;omega)).mono ?_;rintro r w' ⟨rfl,h2⟩;exact⟨rfl,h2.p (fun j hj=>(h.ge j hj).1) (by omega)⟩
theorem zqA(hg:zax Q c)(hc:c≤1000000)(h:StP W g lo Q c)(n:Int)(hn:i64 n):
  Calls prog 24 #[.pointer (some ⟨g,0,none⟩),.int .i64 n] W fun r w'=>r=.returned (.int .i64 (zdI Q.X n))∧StP w' g lo (zdP Q n) c∧Below lo W w':=by
 have hl:=h.lt;obtain⟨F,h⟩:=h;refine (zms hg hc h n hn).mono ?_;rintro r w' ⟨rfl,h1,h2⟩;exact⟨rfl,⟨F,h1⟩,h2.below_of (by omega) (fun j hj=>(h.ge j hj).1)⟩
theorem znP(hg:zax Q c)(hc:c≤1000000)(h:StP W g lo Q c)(text:ByteArray)(hs:text.size≤1099511627776)(hmx:MaxL W):
  Calls prog 25 #[.pointer (some ⟨g,0,none⟩),.string text] W fun r w'=>zpe (zbp Q (zaL text)) Q.ch.isSome r∧StP w' g lo (zbB Q (zaL text)) c∧Below lo W w':=by
 have hl:=h.lt;obtain⟨F,h⟩:=h;refine (zjj hg hc h (by omega) text hs hmx).mono ?_;rintro r w' ⟨h1,h2⟩;exact⟨h1,h2.p (fun j hj=>(h.ge j hj).1) (by omega)⟩
theorem zqB(hg:zax Q c)(hc:c≤1000000)(h:StP W g lo Q c):
  Calls prog 26 #[.pointer (some ⟨g,0,none⟩)] W fun r w'=>r=.returned (.tuple #[zaM (zdQ Q).1,.int .i64 (zdQ Q).2])∧StP w' g lo (zc6 Q) c∧Below lo W w':=by
 have hl:=h.lt;obtain⟨F,h⟩:=h;refine (zmt hg hc h (by omega)).mono ?_;rintro r w' ⟨rfl,h2⟩;exact⟨rfl,h2.p (fun j hj=>(h.ge j hj).1) (by omega)⟩
theorem zpy(h:StP W g lo Q c):
  Calls prog 27 #[.pointer (some ⟨g,0,none⟩)] W fun r w'=>r=.returned (.int .i64 (zeb Q))∧StP w' g lo (zfq Q) c∧Below lo W w':=by
 have hl:=h.lt;obtain⟨F,h⟩:=h;refine (zkJ h).mono ?_;rintro r w' ⟨rfl,⟨F',h1,_⟩,h2⟩;exact⟨rfl,⟨F',h1⟩,h2.below_of (by omega) (fun j hj=>(h.ge j hj).1)⟩
theorem zqq(room:Int)(text:ByteArray)(hs:text.size≤1099511627776)(w:World)(hmx:MaxL w)(lo:Nat)(hlo:lo≤w.heap.size):
  Calls prog 22 #[.int .i64 room,.string text] w fun r w'=>((zdi room (zaL text)=0→∃ g,r=.returned (.tuple #[.pointer (some ⟨g,0,none⟩),.int .i64 0])∧StP w' g lo (zgo room (zaL text)) 0)∧(zdi room (zaL text)≠0→r=.returned (.tuple #[.pointer none,.int .i64 (zdi room (zaL text))])))∧Below w.heap.size w w':=by
 refine (znI room text hs w hmx lo hlo).mono ?_;rintro r w' ⟨⟨h1,h2⟩,hb⟩;refine⟨⟨fun h=>?_,h2⟩,hb⟩;obtain⟨g,F,hr,ho,_⟩:=h1 h;exact⟨g,hr,F,ho⟩
end
end Go.Proofs.YteajonicnkpbbaaGreatDoor
