/- Walk of cat.Of. -/
import Derived.Test.YtjhhodndlkpmhaaGreatDoorCatE
import Derived.Test.YtjhhodndlkpmhaaGreatDoorStM
namespace Go.Proofs.YtjhhodndlkpmhaaGreatDoor
set_option linter.all false
set_option maxHeartbeats 16000000
set_option maxRecDepth 100000
open Go.RowKit Tryz
def ofQ(Q:StX):zj8:=
 match Q.ch with
 | none=>⟨1,1,Q.X.now,Q.X.name,Q.X.tiers,zaW Q.X.now Q.X.tiers Q.X.floors,ByteArray.empty,[],[],0,0,[]⟩
 | some S=>⟨1,1,Q.X.now,Q.X.name,Q.X.tiers,zaW Q.X.now Q.X.tiers Q.X.floors,S.name,S.tiers,S.srcs,S.bound,S.done,[]⟩
theorem zlP{w:World}{now bound done:Int}{nm nm2:ByteArray}{pl pl2:List za_}{fl src:List Int}{A R A2 B2:Option Addr}{n c rc n2 c2 m2 d2 b1 b2 b3 b4:Nat}
  (h1:zbh now) (h2:zbh bound) (h3:zbh done) (h4:nm.size≤maxLen) (h5:nm2.size≤maxLen) (o1:w.ownsRow b1 130 4 (.slice A n c) n (zah pl)) (o2:w.ownsRow b2 3 1 (.slice R n rc) n (zbg fl)) (o3:w.ownsRow b3 130 4 (.slice A2 n2 c2) n2 (zah pl2)) (o4:w.ownsRow b4 3 1 (.slice B2 m2 d2) m2 (zbg src))
  (l1:pl.length=n) (l2:fl.length=n) (l3:pl2.length=n2) (l4:src.length=m2) (w1:∀ t∈pl,t.wf) (w2:∀ t∈pl2,t.wf) (w3:∀ x∈fl,zbh x) (w4:∀ x∈src,zbh x):
  zex w ⟨1,1,now,nm,pl,fl,nm2,pl2,src,bound,done,[]⟩ ⟨A,n,c,R,n,rc,A2,n2,c2,B2,m2,d2,none,0,0⟩:=
 ⟨⟨show (0:Int)≤1 by decide,show (1:Int)<18446744073709551616 by decide⟩,⟨show (0:Int)≤1 by decide,show (1:Int)<18446744073709551616 by decide⟩,h1,h2,h3,h4,h5,Rd.of_own o1,Rd.of_own o2,Rd.of_own o3,Rd.of_own o4,Rd.nil_,l1,l2,l3,l4,rfl,zcs o1,zcs o2,zcs o3,zcs o4,⟨Nat.le_refl _,Nat.zero_le _⟩,w1,w2,w3,w4,fun x hx=>(by cases hx)⟩
theorem zoN{Q:StX}{c:Nat}(h:zbU Q c)(hfl:∀ f∈Q.X.floors,zbh f):∀ x∈zaW Q.X.now Q.X.tiers Q.X.floors,zbh x:=by
 intro x hx;unfold zaW at hx;obtain⟨k,_,rfl⟩:=List.mem_map.1 hx;have h1:=h.good.now;exact zlG ⟨by omega,by omega⟩ h.pol.wf hfl k
theorem zsm{Q:StX}{c:Nat}{S:ShX}(h:zbU Q c)(hS:Q.ch=some S):(∀ x∈S.srcs,zbh x)∧zbh S.bound∧zbh S.done∧S.srcs.length≤1099511627776:=by
 have hg:=h.ch S hS;obtain⟨o,ok⟩:=hg.ok;have h5:=hg.pol.five;have hst:=zie hg.pol;have hn:=h.bd;rw[hS] at hn;have hb:zbv (some S)=S.bound:=rfl;rw[hb] at hn;have hb0:=hg.b0;have hd:=ok.d0;have hd1:=hg.done;refine⟨fun x hx=>?_,⟨by omega,by omega⟩,⟨by omega,by omega⟩,?_⟩
 ·rw[ok.src] at hx
  unfold srcs at hx;obtain⟨t,_,rfl⟩:=List.mem_map.1 hx;have h1:=zlf o Q.X.tiers Q.X.floors t.every Q.X.tiers.length;have h2:=h.pol.five;exact⟨by omega,by omega⟩
 ·rw[ok.src]
  unfold srcs;rw[List.length_map];rw[ok.tiers] at h5;omega
section
variable {W W':World} {g lo c:Nat} {Q:StX}
theorem znZ(hg:zbU Q c)(h:StP W g lo Q c):
  Calls prog 22 #[.pointer (some ⟨g,0,none⟩)] W fun r w'=>(∃ t tA tc tB td,r=.returned (.pointer (some ⟨t,0,none⟩))∧zdx w' t Q.X.now Q.X.name Q.X.tiers Q.X.floors tA tc tB td)∧Below W.heap.size W w':=by
 refine (zmk hg h).mono ?_;rintro r w' ⟨⟨t,rfl,h1⟩,hb⟩;obtain⟨tA,tc,tB,td,h2⟩:=h1.reach;exact⟨⟨t,tA,tc,tB,td,rfl,h2⟩,hb⟩
theorem zml(hg:zbU Q c)(h:StP W g lo Q c):
  Calls prog 61 #[.pointer (some ⟨g,0,none⟩)] W fun r w'=>((Q.ch=none→r=.returned (.pointer none))∧(∀ S,Q.ch=some S→∃ s base,r=.returned (.pointer (some ⟨s,0,none⟩))∧zj7 w' s base S))∧Below W.heap.size W w':=by
 refine (zkl hg h).mono ?_;rintro r w' ⟨⟨h1,h2⟩,hb⟩;exact⟨⟨h1,fun S hS=>by obtain⟨s,base,e,hs⟩:=h2 S hS;exact⟨s,base,e,hs.sh⟩⟩,hb⟩
theorem ziW{s base cb:Nat}{S:ShX}{cs:Array Value}(h:zj7 W s base S)(hb:Blk W cb 55 cs)(f:Fr (fun i=>i=cb) W W'):zj7 W' s base S:=by
 obtain⟨F,h⟩:=h.on;refine (h.fr f (fun j hj=>?_) (fun j hj e=>?_)).at_
 ·subst hj
  exact .inr ⟨_,_,_,hb,by decide,by decide,by decide,by decide⟩
 ·subst e
  have hb0:W.heap[j]? =some (Obj.cells cs 55 (0,0)):=hb
  rcases h.kind j hj with ⟨es,ck,e⟩ | ⟨cs',fz,e⟩
  ·rw[hb0] at e;cases e
  ·rw[hb0] at e
   injection e with e
   injection e with _ e _
   exact absurd e (by decide)
end
theorem zqD{W:World}{g lo c:Nat}{Q:StX}(hg:zbU Q c)(hfl:∀ f∈Q.X.floors,zbh f)(h:StP W g lo Q c):
  Calls prog 24 #[.pointer (some ⟨g,0,none⟩)] W fun r w'=>(∃ d a,r=.returned (.tuple #[.agg (zd7 d a),.int .i64 0])∧zex w' d a∧d.p=ofQ Q)∧Below W.heap.size W w':=by
 obtain⟨n,hn⟩:∃ n,Q.X.tiers.length=n:=⟨_,rfl⟩
 obtain⟨m,hm⟩:∃ n,Q.X.floors.length=n:=⟨_,rfl⟩
 have Hg:=q0_ hg;have Hfl:=q0_ hfl;have Hs:=q0_ h;have Hn:=q0_ hn;have Hm:=q0_ hm
 have hn5:n≤5:=by rw[← hn];exact hg.pol.five
 have HT:=q0_ (fun (W':World) (f:Fr (fun _=>False) W W')=>znZ hg (h.fr0 f));have HSh:=q0_ (fun (W':World) (f:Fr (fun _=>False) W W')=>zml hg (h.fr0 f));clear hg hfl h hn hm;unfold zd7;go_enter func24,ntmps24
 go_upto_region 1 with fail
 obtain⟨W0,hW0⟩:∃ W0,W0=W.alloc (.cells #[.int .u64 0,.int .u64 0,.int .i64 0,.string {data:=#[]},.slice none 0 0,.slice none 0 0,.string {data:=#[]},.slice none 0 0,.slice none 0 0,.int .i64 0,.int .i64 0,.slice none 0 0] 55):=⟨_,rfl⟩
 rw[← hW0]
 have B0:Hid (Blk W0 W.heap.size 55 #[.int .u64 0,.int .u64 0,.int .i64 0,.string {data:=#[]},.slice none 0 0,.slice none 0 0,.string {data:=#[]},.slice none 0 0,.slice none 0 0,.int .i64 0,.int .i64 0,.slice none 0 0]):=by show Blk _ _ _ _;rw[hW0];exact Blk.new _ _ _
 have F0:Hid (Fr (fun _=>False) W W0):=by show Fr _ _ _;rw[hW0];exact Fr.none_alloc _ _
 clear hW0;go_wp2_with fail;refine (HT.out _ F0.out).mono ?_;rintro r w1 ⟨⟨t,tA,tc,tB,td,rfl,hR⟩,b1⟩;have F1:Hid (Fr (fun _=>False) W w1):=F0.out.trans (Fr.b0 b1) q4_;have B1:Hid (Blk w1 W.heap.size 55 #[.int .u64 0,.int .u64 0,.int .i64 0,.string {data:=#[]},.slice none 0 0,.slice none 0 0,.string {data:=#[]},.slice none 0 0,.slice none 0 0,.int .i64 0,.int .i64 0,.slice none 0 0]):=B0.out.below b1;have HR:=q0_ hR
 obtain⟨now,hnow⟩:∃ x,Q.X.now=x:=⟨_,rfl⟩
 obtain⟨nm,hnm⟩:∃ x,Q.X.name=x:=⟨_,rfl⟩
 have HC0:Hid (∀ W',Fr (fun _=>False) w1 W'→W'.cell? ⟨t,0,none⟩=some (.int .i64 now)∧W'.cell? ⟨t,1,none⟩=some (.string nm)∧W'.cell? ⟨t,2,none⟩=some (.slice tA n tc)∧W'.cell? ⟨t,3,none⟩=some (.slice tB m td)):=fun W' f=>by
  have h:=HR.out.fr0 f;have h0:=h.c0;have h1:=h.c1;have h2:=h.c2;have h3:=h.c3;rw[Hn.out] at h2;rw[Hm.out] at h3;rw[hnow] at h0;rw[hnm] at h1;exact⟨h0,h1,h2,h3⟩
 have HCp:Hid (∀ W',Fr (fun _=>False) w1 W'→Calls prog 59 #[.agg #[.string nm,.slice tA n tc]] W' fun r w'=>(∃ A' c',r=.returned (zfS nm A' n c')∧w'.ownsRow W'.heap.size 130 4 (.slice A' n c') n (zah Q.X.tiers))∧Below W'.heap.size W' w'):=fun W' f=>
  zdn nm Q.X.tiers tA n tc W' (by have:=(HR.out.fr0 f).rt;rw[Hn.out] at this;exact this) (by omega)
 have HAl:Hid (∀ W',Fr (fun _=>False) w1 W'→Calls prog 60 #[.agg #[.int .i64 now,.string nm,.slice tA n tc,.slice tB m td]] W' fun r w'=>(∃ R cs,r=.returned (.slice R n cs)∧w'.ownsRow W'.heap.size 3 1 (.slice R n cs) n (zbg (zaW now Q.X.tiers Q.X.floors)))∧Below W'.heap.size W' w'):=fun W' f=>
  zp3 now (by rw[← hnow];have:=Hg.out.good.now;exact⟨by omega,by omega⟩) nm Q.X.tiers tA n tc Q.X.floors tB m td W' (by have:=(HR.out.fr0 f).rt;rw[Hn.out] at this;exact this) (by have:=(HR.out.fr0 f).rf;rw[Hm.out] at this;exact this) Hg.out.pol.wf (by omega)
 have Hnow:=q0_ hnow;have Hnm:=q0_ hnm;clear hR b1 F0 B0 hnow hnm
 go_upto_region 4 with fail
 go_cut [5] (fun s5 wx=>∃ (W3:World) (cb:Nat) (A':Option Addr) (c':Nat) (R:Option Addr) (cs:Nat),W3=wx∧s5=.pointer (some ⟨cb,0,none⟩)∧W.heap.size≤cb∧Blk wx cb 55 #[.int .u64 1,.int .u64 1,.int .i64 now,.string nm,.slice A' n c',.slice R n cs,.string {data:=#[]},.slice none 0 0,.slice none 0 0,.int .i64 0,.int .i64 0,.slice none 0 0]∧wx.ownsRow 0 130 4 (.slice A' n c') n (zah Q.X.tiers)∧wx.ownsRow 0 3 1 (.slice R n cs) n (zbg (zaW now Q.X.tiers Q.X.floors))∧Fr (fun _=>False) w1 wx)
 case first=>
  go_wp2_with fail;refine wp_region_held_drew (S:=fun W=>Fr (fun _=>False) w1 W) (by kernel_rfl) ((Fr.refl _ w1).drew) (fun hY_=>?_);refine tq 14 [0,1,2,3,4,5,6,7,8,9,11,12,13,14] ?_
  iterate 13 refine sf HC0.out ?_
  refine sf HC0.out ?_
  try simp only[Act.put,sA,sB,sC]
  refine sz ?_
  try simp only[Act.put,sA,sB,sC]
  refine wpAnyH_ready (rs:=[10,17]) (by kernel_rfl) (by simp) ?_;refine AllReadyH.cons (dg rfl) (fun K hK=>?_) ?_
  ·go_simp
   go_wp2_with (go_at_call 59;refine (HCp.out _ hY_).mono ?_;unfold zfS;rintro r wc ⟨⟨A',c',rfl,ho⟩,bc⟩)
   have Ho:=q0_ ho;have Hhc:=q0_ hY_;clear ho;refine hK.out _ _ (hY_.trans (Fr.b0 bc) q4_) (fun hY_=>?_);clear hK K
   try simp only[Act.put,sA,sB,sC]
   refine wpAnyH_ready (rs:=[15,17]) (by kernel_rfl) (by simp) ?_;refine AllReadyH.cons (dg rfl) (fun K hK=>?_) ?_
   ·go_simp
    go_wp2_with (go_at_call 60;refine (HAl.out _ hY_).mono ?_;rintro r wa ⟨⟨R,cs,rfl,hr⟩,ba⟩)
    have Hr:=q0_ hr;have Ho2:=q0_ (zac Ho.out (Fr.b0 ba));clear hr;refine hK.out _ _ (hY_.trans (Fr.b0 ba) q4_) (fun hY_=>?_);clear hK K;refine tl 16 ?v15 rfl ?q15 ?r15
    case q15=>intro W hSw;(try obtain⟨t0,t1,t2,t3⟩:=HC0.out W hSw);go_simp;try rfl
    try simp only[Act.put,sA,sB,sC]
    refine rl 17 rfl (fun K hK=>?_);go_simp;have hHm:=hY_;refine hK.out _ _ (hHm.trans (Fr.none_alloc _ _) q4_) (fun hY_=>?_);clear hK K
    try simp only[Act.put,sA,sB,sC]
    refine rl 18 rfl (fun K hK=>?_);go_simp;refine hK.out _ _ (hHm.trans (Fr.none_alloc _ _) q4_) (fun hY_=>?_);clear hK K
    try simp only[Act.put,sA,sB,sC]
    refine wpAnyH_done (by kernel_rfl) ?_ _;go_wp2
    try go_meet
    exact⟨_,wa.heap.size,A',c',R,cs,rfl,rfl,Nat.le_trans F1.out.size hHm.size,Blk.new _ _ _,zaT (zac Ho2.out (Fr.none_alloc _ _)) (Nat.zero_le _),zaT (zac Hr.out (Fr.none_alloc _ _)) (Nat.zero_le _),hY_⟩
   refine AllReadyH.cons (dg rfl) (fun K hK=>?_) AllReadyH.nil;go_simp;have hHm:=hY_
   obtain⟨cb,hcb⟩:∃ x,x=wc.heap.size:=⟨_,rfl⟩
   have BZ:Hid (Blk (wc.alloc (.cells #[.int .u64 0,.int .u64 0,.int .i64 0,.string {data:=#[]},.slice none 0 0,.slice none 0 0,.string {data:=#[]},.slice none 0 0,.slice none 0 0,.int .i64 0,.int .i64 0,.slice none 0 0] 55)) cb 55 #[.int .u64 0,.int .u64 0,.int .i64 0,.string {data:=#[]},.slice none 0 0,.slice none 0 0,.string {data:=#[]},.slice none 0 0,.slice none 0 0,.int .i64 0,.int .i64 0,.slice none 0 0]):=by show Blk _ _ _ _;rw[hcb];exact Blk.new _ _ _
   have Hcb:Hid (w1.heap.size≤cb):=by show _≤_;rw[hcb];exact hHm.size
   try rw[← hcb]
   clear hcb;refine hK.out _ _ (hHm.trans (Fr.none_alloc _ _) q4_) (fun hY_=>?_);clear hK K
   try simp only[Act.put,sA,sB,sC]
   refine rl 15 rfl (fun K hK=>?_);go_simp
   go_wp2_with (go_at_call 60;refine (HAl.out _ hY_).mono ?_;rintro r wa ⟨⟨R,cs,rfl,hr⟩,ba⟩)
   have Hr:=q0_ hr;have Ho2:=q0_ (zac (zac Ho.out (Fr.none_alloc _ _)) (Fr.b0 ba));clear hr;have BZa:=q0_ (BZ.out.below ba);have g0:=BZa.out.frozen 0;have g1:=BZa.out.frozen 1;have g2:=BZa.out.frozen 2;have g3:=BZa.out.frozen 3;have g4:=BZa.out.frozen 4;have g5:=BZa.out.frozen 5;have g6:=BZa.out.frozen 6;have g7:=BZa.out.frozen 7;have g8:=BZa.out.frozen 8;have g9:=BZa.out.frozen 9;have g10:=BZa.out.frozen 10;have g11:=BZa.out.frozen 11;have q0:wa.cell? ⟨cb,0,none⟩=some (.int .u64 0):=BZa.out.cell 0;have q1:wa.cell? ⟨cb,1,none⟩=some (.int .u64 0):=BZa.out.cell 1;have q2:wa.cell? ⟨cb,2,none⟩=some (.int .i64 0):=BZa.out.cell 2;have q3:wa.cell? ⟨cb,3,none⟩=some (.string {data:=#[]}):=BZa.out.cell 3;have q4:wa.cell? ⟨cb,4,none⟩=some (.slice none 0 0):=BZa.out.cell 4;have q5:wa.cell? ⟨cb,5,none⟩=some (.slice none 0 0):=BZa.out.cell 5;have q6:wa.cell? ⟨cb,6,none⟩=some (.string {data:=#[]}):=BZa.out.cell 6;have q7:wa.cell? ⟨cb,7,none⟩=some (.slice none 0 0):=BZa.out.cell 7;have q8:wa.cell? ⟨cb,8,none⟩=some (.slice none 0 0):=BZa.out.cell 8;have q9:wa.cell? ⟨cb,9,none⟩=some (.int .i64 0):=BZa.out.cell 9;have q10:wa.cell? ⟨cb,10,none⟩=some (.int .i64 0):=BZa.out.cell 10;have q11:wa.cell? ⟨cb,11,none⟩=some (.slice none 0 0):=BZa.out.cell 11;refine hK.out _ _ (hY_.trans (Fr.b0 ba) q4_) (fun hY_=>?_);clear hK K;refine tl 16 ?v16 rfl ?q16 ?r16
   case q16=>intro W hSw;(try obtain⟨t0,t1,t2,t3⟩:=HC0.out W hSw);go_simp;try rfl
   try simp only[Act.put,sA,sB,sC]
   refine rl 18 rfl (fun K hK=>?_);go_simp;refine hK.out _ _ (Fr.set12 hY_ (.inr Hcb.out) (.int .u64 1) (.int .u64 1) (.int .i64 now) (.string nm) (.slice A' n c') (.slice R n cs) (.string {data:=#[]}) (.slice none 0 0) (.slice none 0 0) (.int .i64 0) (.int .i64 0) (.slice none 0 0)) (fun hY_=>?_);clear hK K
   try simp only[Act.put,sA,sB,sC]
   refine wpAnyH_done (by kernel_rfl) ?_ _;go_wp2
   try go_meet
   exact⟨_,cb,A',c',R,cs,rfl,rfl,Nat.le_trans F1.out.size Hcb.out,Blk.set12 BZa.out,zaT (zaf Ho2.out (Fr.set12 (Fr.refl (fun i=>i=cb) wa) (g:=cb) (.inl rfl) (.int .u64 1) (.int .u64 1) (.int .i64 now) (.string nm) (.slice A' n c') (.slice R n cs) (.string {data:=#[]}) (.slice none 0 0) (.slice none 0 0) (.int .i64 0) (.int .i64 0) (.slice none 0 0)) (fun k hk e=>zad Ho2.out BZa.out (by decide) (by rw[← e];exact hk))) (Nat.zero_le _),zaT (zaf Hr.out (Fr.set12 (Fr.refl (fun i=>i=cb) wa) (g:=cb) (.inl rfl) (.int .u64 1) (.int .u64 1) (.int .i64 now) (.string nm) (.slice A' n c') (.slice R n cs) (.string {data:=#[]}) (.slice none 0 0) (.slice none 0 0) (.int .i64 0) (.int .i64 0) (.slice none 0 0)) (fun k hk e=>zad Hr.out BZa.out (by decide) (by rw[← e];exact hk))) (Nat.zero_le _),hY_⟩
  refine AllReadyH.cons (dg rfl) (fun K hK=>?_) AllReadyH.nil;go_simp
  obtain⟨cb,hcb⟩:∃ x,x=w1.heap.size:=⟨_,rfl⟩
  have BZ:Hid (Blk (w1.drew.alloc (.cells #[.int .u64 0,.int .u64 0,.int .i64 0,.string {data:=#[]},.slice none 0 0,.slice none 0 0,.string {data:=#[]},.slice none 0 0,.slice none 0 0,.int .i64 0,.int .i64 0,.slice none 0 0] 55)) cb 55 #[.int .u64 0,.int .u64 0,.int .i64 0,.string {data:=#[]},.slice none 0 0,.slice none 0 0,.string {data:=#[]},.slice none 0 0,.slice none 0 0,.int .i64 0,.int .i64 0,.slice none 0 0]):=by show Blk _ _ _ _;rw[hcb];exact Blk.new _ _ _
  have Hcb:Hid (w1.heap.size≤cb):=by show _≤_;rw[hcb];exact Nat.le_refl _
  try rw[← hcb]
  clear hcb;refine hK.out _ _ (by first | exact ((Fr.refl _ w1).alloc _).drew | exact ((Fr.refl _ w1).drew).alloc _ | exact hY_.alloc _) (fun hY_=>?_);clear hK K
  try simp only[Act.put,sA,sB,sC]
  refine rl 10 rfl (fun K hK=>?_);go_simp
  go_wp2_with (go_at_call 59;refine (HCp.out _ hY_).mono ?_;unfold zfS;rintro r wc ⟨⟨A',c',rfl,ho⟩,bc⟩)
  have Ho:=q0_ ho;have Hhc:=q0_ hY_;clear ho;have BZc:=q0_ (BZ.out.below bc);refine hK.out _ _ (hY_.trans (Fr.b0 bc) q4_) (fun hY_=>?_);clear hK K
  try simp only[Act.put,sA,sB,sC]
  refine rl 15 rfl (fun K hK=>?_);go_simp
  go_wp2_with (go_at_call 60;refine (HAl.out _ hY_).mono ?_;rintro r wa ⟨⟨R,cs,rfl,hr⟩,ba⟩)
  have Hr:=q0_ hr;have Ho2:=q0_ (zac Ho.out (Fr.b0 ba));clear hr;have BZa:=q0_ (BZc.out.below ba);have g0:=BZa.out.frozen 0;have g1:=BZa.out.frozen 1;have g2:=BZa.out.frozen 2;have g3:=BZa.out.frozen 3;have g4:=BZa.out.frozen 4;have g5:=BZa.out.frozen 5;have g6:=BZa.out.frozen 6;have g7:=BZa.out.frozen 7;have g8:=BZa.out.frozen 8;have g9:=BZa.out.frozen 9;have g10:=BZa.out.frozen 10;have g11:=BZa.out.frozen 11;have q0:wa.cell? ⟨cb,0,none⟩=some (.int .u64 0):=BZa.out.cell 0;have q1:wa.cell? ⟨cb,1,none⟩=some (.int .u64 0):=BZa.out.cell 1;have q2:wa.cell? ⟨cb,2,none⟩=some (.int .i64 0):=BZa.out.cell 2;have q3:wa.cell? ⟨cb,3,none⟩=some (.string {data:=#[]}):=BZa.out.cell 3;have q4:wa.cell? ⟨cb,4,none⟩=some (.slice none 0 0):=BZa.out.cell 4;have q5:wa.cell? ⟨cb,5,none⟩=some (.slice none 0 0):=BZa.out.cell 5;have q6:wa.cell? ⟨cb,6,none⟩=some (.string {data:=#[]}):=BZa.out.cell 6;have q7:wa.cell? ⟨cb,7,none⟩=some (.slice none 0 0):=BZa.out.cell 7;have q8:wa.cell? ⟨cb,8,none⟩=some (.slice none 0 0):=BZa.out.cell 8;have q9:wa.cell? ⟨cb,9,none⟩=some (.int .i64 0):=BZa.out.cell 9;have q10:wa.cell? ⟨cb,10,none⟩=some (.int .i64 0):=BZa.out.cell 10;have q11:wa.cell? ⟨cb,11,none⟩=some (.slice none 0 0):=BZa.out.cell 11;refine hK.out _ _ (hY_.trans (Fr.b0 ba) q4_) (fun hY_=>?_);clear hK K;refine tl 16 ?v17 rfl ?q17 ?r17
  case q17=>intro W hSw;(try obtain⟨t0,t1,t2,t3⟩:=HC0.out W hSw);go_simp;try rfl
  try simp only[Act.put,sA,sB,sC]
  refine rl 18 rfl (fun K hK=>?_);go_simp;refine hK.out _ _ (Fr.set12 hY_ (.inr Hcb.out) (.int .u64 1) (.int .u64 1) (.int .i64 now) (.string nm) (.slice A' n c') (.slice R n cs) (.string {data:=#[]}) (.slice none 0 0) (.slice none 0 0) (.int .i64 0) (.int .i64 0) (.slice none 0 0)) (fun hY_=>?_);clear hK K
  try simp only[Act.put,sA,sB,sC]
  refine wpAnyH_done (by kernel_rfl) ?_ _;go_wp2
  try go_meet
  exact⟨_,cb,A',c',R,cs,rfl,rfl,Nat.le_trans F1.out.size Hcb.out,Blk.set12 BZa.out,zaT (zaf Ho2.out (Fr.set12 (Fr.refl (fun i=>i=cb) wa) (g:=cb) (.inl rfl) (.int .u64 1) (.int .u64 1) (.int .i64 now) (.string nm) (.slice A' n c') (.slice R n cs) (.string {data:=#[]}) (.slice none 0 0) (.slice none 0 0) (.int .i64 0) (.int .i64 0) (.slice none 0 0)) (fun k hk e=>zad Ho2.out BZa.out (by decide) (by rw[← e];exact hk))) (Nat.zero_le _),zaT (zaf Hr.out (Fr.set12 (Fr.refl (fun i=>i=cb) wa) (g:=cb) (.inl rfl) (.int .u64 1) (.int .u64 1) (.int .i64 now) (.string nm) (.slice A' n c') (.slice R n cs) (.string {data:=#[]}) (.slice none 0 0) (.slice none 0 0) (.int .i64 0) (.int .i64 0) (.slice none 0 0)) (fun k hk e=>zad Hr.out BZa.out (by decide) (by rw[← e];exact hk))) (Nat.zero_le _),hY_⟩
 case rest=>
 obtain⟨W3,cb,A',c',R,cs,rfl,rfl,hcbl,hB,ho,hr,hf⟩:=hcut;have F3:Hid (Fr (fun _=>False) W W3):=F1.out.trans hf q4_;have BR3:Hid (Blk W3 W.heap.size 55 #[.int .u64 0,.int .u64 0,.int .i64 0,.string {data:=#[]},.slice none 0 0,.slice none 0 0,.string {data:=#[]},.slice none 0 0,.slice none 0 0,.int .i64 0,.int .i64 0,.slice none 0 0]):=B1.out.fr hf (fun h=>h);have BC3:=q0_ hB;have Ho3:=q0_ ho;have Hr3:=q0_ hr;have Hcbl:Hid (W.heap.size≤cb):=hcbl
 have hcg:Hid (cb≠W.heap.size):=fun e=>by
  have a:=BC3.out;rw[e] at a;have b:=BR3.out;unfold Blk at a b;rw[a] at b;simp at b
 clear hB ho hr hf HR HC0 HCp HAl HT B1 F1;go_wp2_with fail;refine (HSh.out _ F3.out).mono ?_;rintro r w3 ⟨hv,b3⟩;have HFW:Hid (Fr (fun _=>False) W w3):=F3.out.trans (Fr.b0 b3) q4_;have HRB:Hid (Blk w3 W.heap.size 55 #[.int .u64 0,.int .u64 0,.int .i64 0,.string {data:=#[]},.slice none 0 0,.slice none 0 0,.string {data:=#[]},.slice none 0 0,.slice none 0 0,.int .i64 0,.int .i64 0,.slice none 0 0]):=BR3.out.below b3;have HBC:=q0_ (BC3.out.below b3);have HO1:=q0_ (zac Ho3.out (Fr.b0 b3));have HR1:=q0_ (zac Hr3.out (Fr.b0 b3));have HFl:=q0_ (zoN Hg.out Hfl.out)
 have Hlen:Hid ((zaW now Q.X.tiers Q.X.floors).length=n):=by show _=_;unfold zaW;rw[List.length_map,List.length_range];exact Hn.out
 rw[Hnow.out] at HFl
 have HNo:Hid (zbh now):=by have:=Hg.out.good.now;rw[Hnow.out] at this;exact⟨by omega,by omega⟩
 have HNs:Hid (nm.size≤maxLen):=by have:=Hg.out.nm;rw[Hnm.out] at this;exact this
 clear b3 F3 BR3 BC3 Ho3 Hr3 HSh
 cases hch:Q.ch with
 | none=>
  obtain rfl:=hv.1 hch;have Hch:=q0_ hch
  have HQ:Hid (ofQ Q=⟨1,1,now,nm,Q.X.tiers,zaW now Q.X.tiers Q.X.floors,ByteArray.empty,[],[],0,0,[]⟩):=by show _=_;unfold ofQ;rw[Hch.out, ← Hnow.out, ← Hnm.out]
  clear hv hch
  go_upto_region 8 with fail
  have x0:w3.cell? ⟨cb,0,none⟩=some (.int .u64 1):=HBC.out.cell 0;have x1:w3.cell? ⟨cb,1,none⟩=some (.int .u64 1):=HBC.out.cell 1;have x2:w3.cell? ⟨cb,2,none⟩=some (.int .i64 now):=HBC.out.cell 2;have x3:w3.cell? ⟨cb,3,none⟩=some (.string nm):=HBC.out.cell 3;have x4:w3.cell? ⟨cb,4,none⟩=some (.slice A' n c'):=HBC.out.cell 4;have x5:w3.cell? ⟨cb,5,none⟩=some (.slice R n cs):=HBC.out.cell 5;have x6:w3.cell? ⟨cb,6,none⟩=some (.string {data:=#[]}):=HBC.out.cell 6;have x7:w3.cell? ⟨cb,7,none⟩=some (.slice none 0 0):=HBC.out.cell 7;have x8:w3.cell? ⟨cb,8,none⟩=some (.slice none 0 0):=HBC.out.cell 8;have x9:w3.cell? ⟨cb,9,none⟩=some (.int .i64 0):=HBC.out.cell 9;have x10:w3.cell? ⟨cb,10,none⟩=some (.int .i64 0):=HBC.out.cell 10;have x11:w3.cell? ⟨cb,11,none⟩=some (.slice none 0 0):=HBC.out.cell 11;have z0:w3.cell? ⟨W.heap.size,0,none⟩=some (.int .u64 0):=HRB.out.cell 0;have y0:=HRB.out.frozen 0;have z1:w3.cell? ⟨W.heap.size,1,none⟩=some (.int .u64 0):=HRB.out.cell 1;have y1:=HRB.out.frozen 1;have z2:w3.cell? ⟨W.heap.size,2,none⟩=some (.int .i64 0):=HRB.out.cell 2;have y2:=HRB.out.frozen 2;have z3:w3.cell? ⟨W.heap.size,3,none⟩=some (.string {data:=#[]}):=HRB.out.cell 3;have y3:=HRB.out.frozen 3;have z4:w3.cell? ⟨W.heap.size,4,none⟩=some (.slice none 0 0):=HRB.out.cell 4;have y4:=HRB.out.frozen 4;have z5:w3.cell? ⟨W.heap.size,5,none⟩=some (.slice none 0 0):=HRB.out.cell 5;have y5:=HRB.out.frozen 5;have z6:w3.cell? ⟨W.heap.size,6,none⟩=some (.string {data:=#[]}):=HRB.out.cell 6;have y6:=HRB.out.frozen 6;have z7:w3.cell? ⟨W.heap.size,7,none⟩=some (.slice none 0 0):=HRB.out.cell 7;have y7:=HRB.out.frozen 7;have z8:w3.cell? ⟨W.heap.size,8,none⟩=some (.slice none 0 0):=HRB.out.cell 8;have y8:=HRB.out.frozen 8;have z9:w3.cell? ⟨W.heap.size,9,none⟩=some (.int .i64 0):=HRB.out.cell 9;have y9:=HRB.out.frozen 9;have z10:w3.cell? ⟨W.heap.size,10,none⟩=some (.int .i64 0):=HRB.out.cell 10;have y10:=HRB.out.frozen 10;have z11:w3.cell? ⟨W.heap.size,11,none⟩=some (.slice none 0 0):=HRB.out.cell 11;have y11:=HRB.out.frozen 11;go_wp2_with fail;have B9:=Blk.set12 (a0:=.int .u64 1) (a1:=.int .u64 1) (a2:=.int .i64 now) (a3:=.string nm) (a4:=.slice A' n c') (a5:=.slice R n cs) (a6:=.string {data:=#[]}) (a7:=.slice none 0 0) (a8:=.slice none 0 0) (a9:=.int .i64 0) (a10:=.int .i64 0) (a11:=.slice none 0 0) HRB.out;have F9:=Fr.set12 (Fr.refl (fun i=>i=W.heap.size) w3) (g:=W.heap.size) (.inl rfl) (.int .u64 1) (.int .u64 1) (.int .i64 now) (.string nm) (.slice A' n c') (.slice R n cs) (.string {data:=#[]}) (.slice none 0 0) (.slice none 0 0) (.int .i64 0) (.int .i64 0) (.slice none 0 0)
  obtain⟨W9,hW9⟩:∃ W9,W9=((((((((((((w3.setCell ⟨W.heap.size,0,none⟩ (.int .u64 1)).setCell ⟨W.heap.size,1,none⟩ (.int .u64 1)).setCell ⟨W.heap.size,2,none⟩ (.int .i64 now)).setCell ⟨W.heap.size,3,none⟩ (.string nm)).setCell ⟨W.heap.size,4,none⟩ (.slice A' n c')).setCell ⟨W.heap.size,5,none⟩ (.slice R n cs)).setCell ⟨W.heap.size,6,none⟩ (.string {data:=#[]})).setCell ⟨W.heap.size,7,none⟩ (.slice none 0 0)).setCell ⟨W.heap.size,8,none⟩ (.slice none 0 0)).setCell ⟨W.heap.size,9,none⟩ (.int .i64 0)).setCell ⟨W.heap.size,10,none⟩ (.int .i64 0)).setCell ⟨W.heap.size,11,none⟩ (.slice none 0 0)):=⟨_,rfl⟩
  rw[← hW9] at B9 F9 ⊢;clear hW9 z0 y0 x0 z1 y1 x1 z2 y2 x2 z3 y3 x3 z4 y4 x4 z5 y5 x5 z6 y6 x6 z7 y7 x7 z8 y8 x8 z9 y9 x9 z10 y10 x10 z11 y11 x11;have z0:W9.cell? ⟨W.heap.size,0,none⟩=some (.int .u64 1):=B9.cell 0;have z1:W9.cell? ⟨W.heap.size,1,none⟩=some (.int .u64 1):=B9.cell 1;have z2:W9.cell? ⟨W.heap.size,2,none⟩=some (.int .i64 now):=B9.cell 2;have z3:W9.cell? ⟨W.heap.size,3,none⟩=some (.string nm):=B9.cell 3;have z4:W9.cell? ⟨W.heap.size,4,none⟩=some (.slice A' n c'):=B9.cell 4;have z5:W9.cell? ⟨W.heap.size,5,none⟩=some (.slice R n cs):=B9.cell 5;have z6:W9.cell? ⟨W.heap.size,6,none⟩=some (.string {data:=#[]}):=B9.cell 6;have z7:W9.cell? ⟨W.heap.size,7,none⟩=some (.slice none 0 0):=B9.cell 7;have z8:W9.cell? ⟨W.heap.size,8,none⟩=some (.slice none 0 0):=B9.cell 8;have z9:W9.cell? ⟨W.heap.size,9,none⟩=some (.int .i64 0):=B9.cell 9;have z10:W9.cell? ⟨W.heap.size,10,none⟩=some (.int .i64 0):=B9.cell 10;have z11:W9.cell? ⟨W.heap.size,11,none⟩=some (.slice none 0 0):=B9.cell 11;refine bodyPost_ret (v:=.tuple #[.agg #[.int .u64 1,.int .u64 1,.int .i64 now,.string nm,.slice A' n c',.slice R n cs,.string {data:=#[]},.slice none 0 0,.slice none 0 0,.int .i64 0,.int .i64 0,.slice none 0 0],.int .i64 0]) ?_ rfl ⟨⟨⟨1,1,now,nm,Q.X.tiers,zaW now Q.X.tiers Q.X.floors,ByteArray.empty,[],[],0,0,[]⟩,⟨A',n,c',R,n,cs,none,0,0,none,0,0,none,0,0⟩,rfl,zlP HNo.out ⟨by decide,by decide⟩ ⟨by decide,by decide⟩ HNs.out (Nat.zero_le _) (zaf HO1.out F9 (fun k hk e=>zad HO1.out HRB.out (by decide) (by rw[← e];exact hk))) (zaf HR1.out F9 (fun k hk e=>zad HR1.out HRB.out (by decide) (by rw[← e];exact hk))) (World.ownsRow_nil _ 0 _ _) (World.ownsRow_nil _ 0 _ _) Hn.out Hlen.out rfl rfl Hg.out.pol.wf (fun t ht=>(by cases ht)) HFl.out (fun t ht=>(by cases ht)),HQ.out.symm⟩,(HFW.out.trans F9 (fun k hk=>.inr (by omega))).below q4_⟩;simp[results,results24,go_sem,z0,z1,z2,z3,z4,z5,z6,z7,z8,z9,z10,z11]
 | some S=>
  obtain⟨s,base,rfl,hS⟩:=hv.2 S hch;have Hch:=q0_ hch
  have HQ:Hid (ofQ Q=⟨1,1,now,nm,Q.X.tiers,zaW now Q.X.tiers Q.X.floors,S.name,S.tiers,S.srcs,S.bound,S.done,[]⟩):=by show _=_;unfold ofQ;rw[Hch.out, ← Hnow.out, ← Hnm.out]
  have HChG:=q0_ (Hg.out.ch S hch);have HSr:=q0_ (zsm Hg.out hch)
  obtain⟨n2,hn2⟩:∃ x,S.tiers.length=x:=⟨_,rfl⟩
  obtain⟨m2,hm2⟩:∃ x,S.srcs.length=x:=⟨_,rfl⟩
  have Hn2:=q0_ hn2;have Hm2:=q0_ hm2
  have hn25:n2≤5:=by rw[← hn2];exact HChG.out.pol.five
  have hmm:m2≤1099511627776:=by rw[← hm2];exact HSr.out.2.2.2
  obtain⟨sA,sc,sB,sd,T,ct,tb,hI⟩:=hS
  have HSA:Hid (zj7 w3 s base S):=⟨sA,sc,sB,sd,T,ct,tb,hI⟩
  have HI:=q0_ hI;have hsc:Hid (s≠cb):=hI.blk.ne_ HBC.out (by decide)
  have HCs:Hid (∀ W',Fr (fun i=>i=cb) w3 W'→W'.cell? ⟨s,0,none⟩=some (.string S.name)∧W'.cell? ⟨s,1,none⟩=some (.slice sA n2 sc)∧W'.cell? ⟨s,2,none⟩=some (.slice sB m2 sd)):=fun W' f=>by
   have b:=HI.out.blk.fr f hsc.out;have b1:=b.cell 1;have b2:=b.cell 2;rw[Hn2.out] at b1;rw[Hm2.out] at b2;exact⟨b.cell 0,b1,b2⟩
  have HCp2:Hid (∀ W',Fr (fun i=>i=cb) w3 W'→Calls prog 59 #[.agg #[.string S.name,.slice sA n2 sc]] W' fun r w'=>(∃ A' c',r=.returned (zfS S.name A' n2 c')∧w'.ownsRow W'.heap.size 130 4 (.slice A' n2 c') n2 (zah S.tiers))∧Below W'.heap.size W' w'):=fun W' f=>
   zdn S.name S.tiers sA n2 sc W' (by have:=Rd.of_own (zaf HI.out.tiers f (fun k hk e=>zad HI.out.tiers HBC.out (by decide) (by rw[← e];exact hk)));rw[Hn2.out] at this;exact this) (by omega)
  have HCl:Hid (∀ W',Fr (fun i=>i=cb) w3 W'→Calls prog 62 #[.slice sB m2 sd] W' fun r w'=>(∃ A' c',r=.returned (.slice A' m2 c')∧w'.ownsRow W'.heap.size 3 1 (.slice A' m2 c') m2 (zbg S.srcs))∧Below W'.heap.size W' w'):=fun W' f=>
   zfA (zbg S.srcs) (zip _) sB m2 sd W' (by have:=Rd.of_own (zaf HI.out.srcs f (fun k hk e=>zad HI.out.srcs HBC.out (by decide) (by rw[← e];exact hk)));rw[Hm2.out] at this;exact this) hmm
  have HBd:Hid (∀ W',Fr (fun i=>i=cb) w3 W'→Calls prog 36 #[.pointer (some ⟨s,0,none⟩)] W' fun r w'=>r=.returned (.int .i64 S.bound)∧W'=w'):=fun W' f=>zhp s base S W' (ziW HSA.out HBC.out f);have HDo:Hid (∀ W',Fr (fun i=>i=cb) w3 W'→Calls prog 63 #[.pointer (some ⟨s,0,none⟩)] W' fun r w'=>r=.returned (.int .i64 S.done)∧W'=w'):=fun W' f=>zn8 s base S W' (ziW HSA.out HBC.out f);clear hv hch hI hn2 hm2;go_wp2_with fail;refine wp_region_held_drew (S:=fun W=>Fr (fun i=>i=cb) w3 W) (by kernel_rfl) (Fr.drew (Fr.refl _ w3)) (fun hY_=>?_);refine tq 12 [0,1,2,3,4,6,7,8,9,10,12,14] ?_
  iterate 11 refine sf HCs.out ?_
  refine sk ?_
  try simp only[Act.put,sA,sB,sC]
  refine sz ?_
  try simp only[Act.put,sA,sB,sC]
  refine rl 5 rfl (fun K hK=>?_);go_simp
  go_wp2_with (go_at_call 59;refine (HCp2.out _ hY_).mono ?_;unfold zfS;rintro r wc ⟨⟨A2,c2,rfl,ho⟩,bc⟩)
  have Ho:=q0_ ho;have Hn5:Hid (Fr (fun _=>False) w3 wc):=Fr.trans ((Fr.refl (fun _=>False) w3).drew) (Fr.b0 bc) q4_;clear ho;refine hK.out _ _ (Fr.trans hY_ (Fr.b0 bc) q4_) (fun hY_=>?_);clear hK K;refine tl 16 ?v30 rfl ?q30 ?r30
  case q30=>intro W hSw;go_simp;try rfl
  try simp only[Act.put,sA,sB,sC]
  refine rl 11 rfl (fun K hK=>?_);go_simp
  go_wp2_with (go_at_call 62;refine (HCl.out _ hY_).mono ?_;rintro r wd ⟨⟨B2,d2,rfl,hr⟩,bd⟩)
  have Hr:=q0_ hr;have Ho2:=q0_ (zac Ho.out (Fr.b0 bd));have Hn11:Hid (Fr (fun _=>False) w3 wd):=Fr.trans Hn5.out (Fr.b0 bd) q4_;clear hr;refine hK.out _ _ (Fr.trans hY_ (Fr.b0 bd) q4_) (fun hY_=>?_);clear hK K
  try simp only[Act.put,sA,sB,sC]
  refine rl 13 rfl (fun K hK=>?_);go_simp
  go_wp2_with (go_at_call 36;refine (HBd.out _ hY_).mono ?_;rintro r we ⟨rfl,rfl⟩)
  refine hK.out _ _ (hY_) (fun hY_=>?_);clear hK K
  try simp only[Act.put,sA,sB,sC]
  refine rl 15 rfl (fun K hK=>?_);go_simp
  go_wp2_with (go_at_call 63;refine (HDo.out _ hY_).mono ?_;rintro r we ⟨rfl,rfl⟩)
  have BD:=q0_ (HBC.out.fr Hn11.out (fun h=>h));have g6:=BD.out.frozen 6;have g7:=BD.out.frozen 7;have g8:=BD.out.frozen 8;have g9:=BD.out.frozen 9;have g10:=BD.out.frozen 10;have q6:wd.cell? ⟨cb,6,none⟩=some (.string {data:=#[]}):=BD.out.cell 6;have q7:wd.cell? ⟨cb,7,none⟩=some (.slice none 0 0):=BD.out.cell 7;have q8:wd.cell? ⟨cb,8,none⟩=some (.slice none 0 0):=BD.out.cell 8;have q9:wd.cell? ⟨cb,9,none⟩=some (.int .i64 0):=BD.out.cell 9;have q10:wd.cell? ⟨cb,10,none⟩=some (.int .i64 0):=BD.out.cell 10;have hHd:=q0_ hY_;refine hK.out _ _ (hY_) (fun hY_=>?_);clear hK K
  try simp only[Act.put,sA,sB,sC]
  refine rl 17 rfl (fun K hK=>?_);go_simp;refine hK.out _ _ ((hY_.setCell (p:=⟨cb,6,none⟩) (.inl rfl) _).setCell (p:=⟨cb,7,none⟩) (.inl rfl) _) (fun hY_=>?_);clear hK K;refine tl 18 ?v31 rfl ?q31 ?r31
  case q31=>intro W hSw;go_simp;try rfl
  try simp only[Act.put,sA,sB,sC]
  refine rl 19 rfl (fun K hK=>?_);go_simp;refine hK.out _ _ (hY_.setCell (p:=⟨cb,8,none⟩) (.inl rfl) _) (fun hY_=>?_);clear hK K;refine tl 20 ?v32 rfl ?q32 ?r32
  case q32=>intro W hSw;go_simp;try rfl
  try simp only[Act.put,sA,sB,sC]
  refine rl 21 rfl (fun K hK=>?_);go_simp;refine hK.out _ _ (hY_.setCell (p:=⟨cb,9,none⟩) (.inl rfl) _) (fun hY_=>?_);clear hK K;refine tl 22 ?v33 rfl ?q33 ?r33
  case q33=>intro W hSw;go_simp;try rfl
  try simp only[Act.put,sA,sB,sC]
  refine rl 23 rfl (fun K hK=>?_);go_simp;refine hK.out _ _ (hY_.setCell (p:=⟨cb,10,none⟩) (.inl rfl) _) (fun hY_=>?_);clear hK K
  try simp only[Act.put,sA,sB,sC]
  refine wpAnyH_done (by kernel_rfl) ?_ _;clear hY_ q6 q7 q8 q9 q10 g6 g7 g8 g9 g10
  go_upto_region 8 with fail
  obtain⟨W5,hW5⟩:∃ x,x=(((((wd.setCell ⟨cb,6,none⟩ (.string S.name)).setCell ⟨cb,7,none⟩ (.slice A2 n2 c2)).setCell ⟨cb,8,none⟩ (.slice B2 m2 d2)).setCell ⟨cb,9,none⟩ (.int .i64 S.bound)).setCell ⟨cb,10,none⟩ (.int .i64 S.done)):=⟨_,rfl⟩
  rw[← hW5]
  have HB5:Hid (Blk W5 cb 55 #[.int .u64 1,.int .u64 1,.int .i64 now,.string nm,.slice A' n c',.slice R n cs,.string S.name,.slice A2 n2 c2,.slice B2 m2 d2,.int .i64 S.bound,.int .i64 S.done,.slice none 0 0]):=by
   show Blk _ _ _ _
   rw[hW5];have:=((((BD.out.set_ 6 (.string S.name)).set_ 7 (.slice A2 n2 c2)).set_ 8 (.slice B2 m2 d2)).set_ 9 (.int .i64 S.bound)).set_ 10 (.int .i64 S.done);simpa using this
  have F5:Hid (Fr (fun i=>i=cb) wd W5):=by
   show Fr _ _ _
   rw[hW5];exact (((((Fr.refl (fun i=>i=cb) wd).setCell (p:=⟨cb,6,none⟩) (.inl rfl) _).setCell (p:=⟨cb,7,none⟩) (.inl rfl) _).setCell (p:=⟨cb,8,none⟩) (.inl rfl) _).setCell (p:=⟨cb,9,none⟩) (.inl rfl) _).setCell (p:=⟨cb,10,none⟩) (.inl rfl) _
  have F35:Hid (Fr (fun i=>i=cb) w3 W5):=hHd.out.trans F5.out (fun _ h=>.inl h);have HRB5:Hid (Blk W5 W.heap.size 55 #[.int .u64 0,.int .u64 0,.int .i64 0,.string {data:=#[]},.slice none 0 0,.slice none 0 0,.string {data:=#[]},.slice none 0 0,.slice none 0 0,.int .i64 0,.int .i64 0,.slice none 0 0]):=HRB.out.fr F35.out (fun e=>hcg.out e.symm);have HFW5:Hid (Fr (fun _=>False) W W5):=HFW.out.trans F35.out (fun k hk=>.inr (by rw[hk];exact Hcbl.out));have HO1':=q0_ (zaf HO1.out F35.out (fun k hk e=>zad HO1.out HBC.out (by decide) (by rw[← e];exact hk)));have HR1':=q0_ (zaf HR1.out F35.out (fun k hk e=>zad HR1.out HBC.out (by decide) (by rw[← e];exact hk)));have HO2':=q0_ (zaf Ho2.out F5.out (fun k hk e=>zad Ho2.out BD.out (by decide) (by rw[← e];exact hk)));have HR2':=q0_ (zaf Hr.out F5.out (fun k hk e=>zad Hr.out BD.out (by decide) (by rw[← e];exact hk)));clear hW5 HRB HFW HBC Ho Ho2 Hr HCs HCp2 HCl HBd HDo;have x0:W5.cell? ⟨cb,0,none⟩=some (.int .u64 1):=HB5.out.cell 0;have x1:W5.cell? ⟨cb,1,none⟩=some (.int .u64 1):=HB5.out.cell 1;have x2:W5.cell? ⟨cb,2,none⟩=some (.int .i64 now):=HB5.out.cell 2;have x3:W5.cell? ⟨cb,3,none⟩=some (.string nm):=HB5.out.cell 3;have x4:W5.cell? ⟨cb,4,none⟩=some (.slice A' n c'):=HB5.out.cell 4;have x5:W5.cell? ⟨cb,5,none⟩=some (.slice R n cs):=HB5.out.cell 5;have x6:W5.cell? ⟨cb,6,none⟩=some (.string S.name):=HB5.out.cell 6;have x7:W5.cell? ⟨cb,7,none⟩=some (.slice A2 n2 c2):=HB5.out.cell 7;have x8:W5.cell? ⟨cb,8,none⟩=some (.slice B2 m2 d2):=HB5.out.cell 8;have x9:W5.cell? ⟨cb,9,none⟩=some (.int .i64 S.bound):=HB5.out.cell 9;have x10:W5.cell? ⟨cb,10,none⟩=some (.int .i64 S.done):=HB5.out.cell 10;have x11:W5.cell? ⟨cb,11,none⟩=some (.slice none 0 0):=HB5.out.cell 11;have z0:W5.cell? ⟨W.heap.size,0,none⟩=some (.int .u64 0):=HRB5.out.cell 0;have y0:=HRB5.out.frozen 0;have z1:W5.cell? ⟨W.heap.size,1,none⟩=some (.int .u64 0):=HRB5.out.cell 1;have y1:=HRB5.out.frozen 1;have z2:W5.cell? ⟨W.heap.size,2,none⟩=some (.int .i64 0):=HRB5.out.cell 2;have y2:=HRB5.out.frozen 2;have z3:W5.cell? ⟨W.heap.size,3,none⟩=some (.string {data:=#[]}):=HRB5.out.cell 3;have y3:=HRB5.out.frozen 3;have z4:W5.cell? ⟨W.heap.size,4,none⟩=some (.slice none 0 0):=HRB5.out.cell 4;have y4:=HRB5.out.frozen 4;have z5:W5.cell? ⟨W.heap.size,5,none⟩=some (.slice none 0 0):=HRB5.out.cell 5;have y5:=HRB5.out.frozen 5;have z6:W5.cell? ⟨W.heap.size,6,none⟩=some (.string {data:=#[]}):=HRB5.out.cell 6;have y6:=HRB5.out.frozen 6;have z7:W5.cell? ⟨W.heap.size,7,none⟩=some (.slice none 0 0):=HRB5.out.cell 7;have y7:=HRB5.out.frozen 7;have z8:W5.cell? ⟨W.heap.size,8,none⟩=some (.slice none 0 0):=HRB5.out.cell 8;have y8:=HRB5.out.frozen 8;have z9:W5.cell? ⟨W.heap.size,9,none⟩=some (.int .i64 0):=HRB5.out.cell 9;have y9:=HRB5.out.frozen 9;have z10:W5.cell? ⟨W.heap.size,10,none⟩=some (.int .i64 0):=HRB5.out.cell 10;have y10:=HRB5.out.frozen 10;have z11:W5.cell? ⟨W.heap.size,11,none⟩=some (.slice none 0 0):=HRB5.out.cell 11;have y11:=HRB5.out.frozen 11;go_wp2_with fail;have B9:=Blk.set12 (a0:=.int .u64 1) (a1:=.int .u64 1) (a2:=.int .i64 now) (a3:=.string nm) (a4:=.slice A' n c') (a5:=.slice R n cs) (a6:=.string S.name) (a7:=.slice A2 n2 c2) (a8:=.slice B2 m2 d2) (a9:=.int .i64 S.bound) (a10:=.int .i64 S.done) (a11:=.slice none 0 0) HRB5.out;have F9:=Fr.set12 (Fr.refl (fun i=>i=W.heap.size) W5) (g:=W.heap.size) (.inl rfl) (.int .u64 1) (.int .u64 1) (.int .i64 now) (.string nm) (.slice A' n c') (.slice R n cs) (.string S.name) (.slice A2 n2 c2) (.slice B2 m2 d2) (.int .i64 S.bound) (.int .i64 S.done) (.slice none 0 0)
  obtain⟨W9,hW9⟩:∃ W9,W9=((((((((((((W5.setCell ⟨W.heap.size,0,none⟩ (.int .u64 1)).setCell ⟨W.heap.size,1,none⟩ (.int .u64 1)).setCell ⟨W.heap.size,2,none⟩ (.int .i64 now)).setCell ⟨W.heap.size,3,none⟩ (.string nm)).setCell ⟨W.heap.size,4,none⟩ (.slice A' n c')).setCell ⟨W.heap.size,5,none⟩ (.slice R n cs)).setCell ⟨W.heap.size,6,none⟩ (.string S.name)).setCell ⟨W.heap.size,7,none⟩ (.slice A2 n2 c2)).setCell ⟨W.heap.size,8,none⟩ (.slice B2 m2 d2)).setCell ⟨W.heap.size,9,none⟩ (.int .i64 S.bound)).setCell ⟨W.heap.size,10,none⟩ (.int .i64 S.done)).setCell ⟨W.heap.size,11,none⟩ (.slice none 0 0)):=⟨_,rfl⟩
  rw[← hW9] at B9 F9 ⊢;clear hW9 z0 y0 x0 z1 y1 x1 z2 y2 x2 z3 y3 x3 z4 y4 x4 z5 y5 x5 z6 y6 x6 z7 y7 x7 z8 y8 x8 z9 y9 x9 z10 y10 x10 z11 y11 x11;have z0:W9.cell? ⟨W.heap.size,0,none⟩=some (.int .u64 1):=B9.cell 0;have z1:W9.cell? ⟨W.heap.size,1,none⟩=some (.int .u64 1):=B9.cell 1;have z2:W9.cell? ⟨W.heap.size,2,none⟩=some (.int .i64 now):=B9.cell 2;have z3:W9.cell? ⟨W.heap.size,3,none⟩=some (.string nm):=B9.cell 3;have z4:W9.cell? ⟨W.heap.size,4,none⟩=some (.slice A' n c'):=B9.cell 4;have z5:W9.cell? ⟨W.heap.size,5,none⟩=some (.slice R n cs):=B9.cell 5;have z6:W9.cell? ⟨W.heap.size,6,none⟩=some (.string S.name):=B9.cell 6;have z7:W9.cell? ⟨W.heap.size,7,none⟩=some (.slice A2 n2 c2):=B9.cell 7;have z8:W9.cell? ⟨W.heap.size,8,none⟩=some (.slice B2 m2 d2):=B9.cell 8;have z9:W9.cell? ⟨W.heap.size,9,none⟩=some (.int .i64 S.bound):=B9.cell 9;have z10:W9.cell? ⟨W.heap.size,10,none⟩=some (.int .i64 S.done):=B9.cell 10;have z11:W9.cell? ⟨W.heap.size,11,none⟩=some (.slice none 0 0):=B9.cell 11;refine bodyPost_ret (v:=.tuple #[.agg #[.int .u64 1,.int .u64 1,.int .i64 now,.string nm,.slice A' n c',.slice R n cs,.string S.name,.slice A2 n2 c2,.slice B2 m2 d2,.int .i64 S.bound,.int .i64 S.done,.slice none 0 0],.int .i64 0]) ?_ rfl ⟨⟨⟨1,1,now,nm,Q.X.tiers,zaW now Q.X.tiers Q.X.floors,S.name,S.tiers,S.srcs,S.bound,S.done,[]⟩,⟨A',n,c',R,n,cs,A2,n2,c2,B2,m2,d2,none,0,0⟩,rfl,zlP HNo.out HSr.out.2.1 HSr.out.2.2.1 HNs.out HChG.out.nm (zaf HO1'.out F9 (fun k hk e=>zad HO1'.out HRB5.out (by decide) (by rw[← e];exact hk))) (zaf HR1'.out F9 (fun k hk e=>zad HR1'.out HRB5.out (by decide) (by rw[← e];exact hk))) (zaf HO2'.out F9 (fun k hk e=>zad HO2'.out HRB5.out (by decide) (by rw[← e];exact hk))) (zaf HR2'.out F9 (fun k hk e=>zad HR2'.out HRB5.out (by decide) (by rw[← e];exact hk))) Hn.out Hlen.out Hn2.out Hm2.out Hg.out.pol.wf HChG.out.pol.wf HFl.out HSr.out.1,HQ.out.symm⟩,(HFW5.out.trans F9 (fun k hk=>.inr (by omega))).below q4_⟩;simp[results,results24,go_sem,z0,z1,z2,z3,z4,z5,z6,z7,z8,z9,z10,z11]
def zbc:List UInt8:=[83,69,68,65,82,67,72,49]
def zcT(m:List zae):List UInt8:=le m.length 4++m.flatMap zdD
def zdw(Q:StX):List UInt8:=zbc++(zb6 (zal (zha (ofQ Q)))++Q.X.tabs.flatMap zcT)
def zfO(Q:StX):ByteArray×Int:=
 if zo6 (ofQ Q)=true then
  if 40000<(zha (ofQ Q)).length then (ByteArray.empty,2)
  else if Q.X.tabs.all (fun m=>m.all za0)=true then
   if 1000000<(zbZ (zdw Q)).length then (ByteArray.empty,2) else (zal (zbZ (zdw Q)),0)
  else (ByteArray.empty,1)
 else (ByteArray.empty,1)
def znq(b:List UInt8):Option zj8:=
 if (zcI ⟨0,b⟩).1.e=0∧(zcI ⟨0,b⟩).2.1=0∧(zcI ⟨0,b⟩).2.2.1=0∧zo6 (zcI ⟨0,b⟩).2.2.2=true∧(zha (zcI ⟨0,b⟩).2.2.2).length≤40000∧zha (zcI ⟨0,b⟩).2.2.2=b then some (zcI ⟨0,b⟩).2.2.2 else none
theorem zo7{b:List UInt8}{q:zj8}(h:zlF b q):znq b=some q:=by
 obtain⟨h1,h2,h3,h4,h5⟩:=h
 have a:(zcI ⟨0,b⟩).2.1=0:=by rw[h2]
 have c:(zcI ⟨0,b⟩).2.2.1=0:=by rw[h2]
 have d:(zcI ⟨0,b⟩).2.2.2=q:=by rw[h2]
 unfold znq;rw[d,if_pos ⟨h1,a,c,h3,h4,h5⟩]
theorem zqG{b:List UInt8}{q:zj8}(h:znq b=some q):zlF b q:=by
 unfold znq at h
 split at h
 ·rename_i g
  obtain⟨h1,h2,h3,h4,h5,h6⟩:=g;have e:=Option.some.inj h;rw[e] at h4 h5 h6;exact⟨h1,Prod.ext h2 (Prod.ext h3 e),h4,h5,h6⟩
 ·cases h
theorem zo8{b:List UInt8}(h:∀ q,¬ zlF b q):znq b=none:=by
 cases hc:znq b with
 | none=>rfl
 | some q=>exact absurd (zqG hc) (h q)
def zc5:List UInt8→RS→Option RS
 | [],s=>some s
 | m::l,s=>if (zai 1 s).2=m.toNat then zc5 l (zai 1 s).1 else none
def zd9(s:RS):List UInt8:=(zay s.e s.b s.b.length).2.2
def zih(k:Nat)(X:zaa)(s:RS):Option (zaa×RS):=
 if (zd9 (zai 4 s).1).length / 64<(zai 4 s).2.toNat then none
 else if zcA ((zd9 (zai 4 s).1).take (64*(zai 4 s).2.toNat)) (zai 4 s).2.toNat=true then
  if zfu X k (zbo ((zd9 (zai 4 s).1).take (64*(zai 4 s).2.toNat)) (zai 4 s).2.toNat)=(zai 4 s).2.toNat then
   some (zea X k (zbo ((zd9 (zai 4 s).1).take (64*(zai 4 s).2.toNat)) (zai 4 s).2.toNat),⟨0,(zd9 (zai 4 s).1).drop (64*(zai 4 s).2.toNat)⟩)
  else none
 else none
def zcM:Nat→Nat→zaa→RS→Option (zaa×RS)
 | 0,_,X,s=>some (X,s)
 | m+1,k,X,s=>(zih k X s).bind fun p=>zcM m (k+1) p.1 p.2
def zrq:Option (zaa×RS)→Option zaa
 | none=>none
 | some (X,t)=>if t.b.length=0 then some X else none
def zss(s:RS)(q:zj8):Option zaa:=if zfs q.nm q.pl q.now q.fl=0 then zrq (zcM q.pl.length 0 (zfZ q.nm q.pl q.now q.fl) s) else none
def zrX(s:RS)(T:ByteArray):Option zaa:=(znq T.data.toList).bind (zss s)
def zq0(o:Option RS):Option zaa:=o.bind fun s=>zrX (zco s).1 (zco s).2
def zb1(b:List UInt8):Option zaa:=zq0 (zc5 zbc ⟨0,b⟩)
theorem zqM(b:List UInt8):zb1 b=zq0 (zc5 (zbc.drop 0) ⟨0,b⟩):=by unfold zb1;rw[List.drop_zero]
theorem zph:zq0 none=none:=by unfold zq0;rw[Option.bind_none]
theorem zjS{s s':RS}{T:ByteArray}(h:zco s=(s',T)):zq0 (some s)=zrX s' T:=by
 unfold zq0;rw[Option.bind_some,h]
theorem zpi{s:RS}{T:ByteArray}(h:znq T.data.toList=none):zrX s T=none:=by unfold zrX;rw[h,Option.bind_none]
theorem zjT{s:RS}{T:ByteArray}{q:zj8}(h:znq T.data.toList=some q):zrX s T=zss s q:=by unfold zrX;rw[h,Option.bind_some]
theorem zgv{m k:Nat}{X:zaa}{s:RS}:zcM (m+1) k X s=(zih k X s).bind fun p=>zcM m (k+1) p.1 p.2:=rfl
theorem zfh{m k:Nat}{X:zaa}{s:RS}(hm:0<m)(h:zih k X s=none):zrq (zcM m k X s)=none:=by
 obtain⟨j,rfl⟩:∃ j,m=j+1:=⟨m-1,by omega⟩
 rw[zgv,h,Option.bind_none]
 rfl
theorem zgw{m k:Nat}{X Y:zaa}{s t:RS}(hm:0<m)(h:zih k X s=some (Y,t)):zcM m k X s=zcM (m-1) (k+1) Y t:=by
 obtain⟨j,rfl⟩:∃ j,m=j+1:=⟨m-1,by omega⟩
 rw[zgv,h,Option.bind_some,Nat.add_sub_cancel]
theorem zmw{k:Nat}{X:zaa}{s:RS}:zrq (zcM 0 k X s)=if s.b.length=0 then some X else none:=rfl
def zrE(room:Int)(S:ByteArray):Option zaa→Int
 | none=>6
 | some X=>if 4096<zaB X then 6 else if zfO ⟨4096,X,none⟩=(S,0) then (if room<(zaB X:Int) then 20 else 0) else 6
def zdh(room:Int)(b:List UInt8):Int:=
 if 0≤room∧room≤4096 then
  if 1000000<b.length then 2 else if (zbD b).2=0 then zrE room (zal b) (zb1 (zbD b).1) else (zbD b).2
 else 1
end Go.Proofs.YtjhhodndlkpmhaaGreatDoor
