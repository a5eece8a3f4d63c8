/- Walk of shadow: Fits. -/
import Derived.Test.YteajonicnkpbbaaGreatDoorTiersSame
import Derived.Test.YteajonicnkpbbaaGreatDoorPlanBuild
namespace Go.Proofs.YteajonicnkpbbaaGreatDoor
set_option linter.all false
set_option maxHeartbeats 8000000
set_option maxRecDepth 100000
open Go.RowKit Tryz
theorem znW{nm nm2:ByteArray}{l lt:List za_}{fl:List Int}{o:Int}{lo:Nat}{W:World}{t s base:Nat}{X:zac}{S:ShX}{Ft F:Nat→Prop}{cc:Nat}(p:zaO nm l)(p2:zaO nm2 lt)(hnm2:nm2.size≤maxLen)(h:Tio nm l fl lo W t X Ft cc)(hc:cc≤1000000)(hfl:∀ f∈fl,0≤f∧f≤2199023255552)(hs:zcr W s base S F)(h1:S.name=nm2)(h2:S.tiers=lt)(h3:S.srcs=srcs o l fl lt):
  Calls prog 101 #[.pointer (some ⟨s,0,none⟩),.pointer (some ⟨t,0,none⟩)] W fun r w'=>r=.returned (.bool (decide (((zbb (zaj X nm2 lt (srcs o l fl lt)):Nat):Int)≤S.bound)))∧Below W.heap.size W w':=by
 obtain⟨A,c,B,d,T,ct,tb,hi,rfl⟩:=hs
 obtain⟨n,hn0⟩:∃ n,lt.length=n:=⟨_,rfl⟩
 have hSn:S.tiers.length=n:=by rw[h2,hn0]
 have hSm:S.srcs.length=n:=by rw[h3];unfold srcs;rw[List.length_map,hn0]
 have hfive:=p2.five;have HI:=q0_ hi
 have htc:n≤c:=by have:=(zal hi.tiers).1;omega
 have HBu:Hid (Calls prog 150 #[.agg #[.string nm2,.slice A n c,.slice B n d],.pointer (some ⟨t,0,none⟩)] W fun r w'=>(∃ t' F',r=.returned (.tuple #[.pointer (some ⟨t',0,none⟩),.int .i64 0])∧Tio nm2 lt (zaw X.now l fl (srcs o l fl lt) lt) W.heap.size w' t' (zaj X nm2 lt (srcs o l fl lt)) F' cc∧∀ j,F' j→W.heap.size≤j)∧Below W.heap.size W w'):=by
  have q1:=(zal HI.out.tiers).2.2.1;have q2:=(zal HI.out.srcs).2.2.1;rw[hSn,h2] at q1;rw[hSm,h3] at q2;exact zcI p p2 hnm2 h hc hfl A n c B d q1 htc q2 W.heap.size (Nat.le_refl _)
 obtain⟨c0,c1,c2,c3,_,_⟩:=hi.cells (Fr.refl (fun _=>False) W) (fun h=>h);rw[h1] at c0;rw[hSn] at c1;rw[hSm] at c2;have HC3:Hid (∀ W',Fr (fun _=>False) W W'→W'.cell? ⟨s,3,none⟩=some (.int .i64 S.bound)):=fun W' f=>f.cell c3 (fun h=>h)
 obtain⟨bs,hbs⟩:∃ v,zaw X.now l fl (srcs o l fl lt) lt=v:=⟨_,rfl⟩
 obtain⟨Y,hY⟩:∃ v,zaj X nm2 lt (srcs o l fl lt)=v:=⟨_,rfl⟩
 rw[hbs,hY] at HBu;rw[hY]
 obtain⟨bd,hbd⟩:∃ v,S.bound=v:=⟨_,rfl⟩
 rw[hbd] at HC3 ⊢
 obtain⟨N,hN⟩:∃ v,zbb Y=v:=⟨_,rfl⟩
 have HN:=q0_ hN;rw[hN]
 obtain⟨bb,hbb⟩:∃ b,decide (((N:Nat):Int)≤bd)=b:=⟨_,rfl⟩
 rw[hbb];clear hi hSn hSm hn0 hbs hY h1 h2 h3 h hbd hN c3;go_enter func101,ntmps101;go_wp2_with fail;refine HBu.out.mono ?_;rintro r w1 ⟨⟨u,Fu,rfl,T1,_⟩,b1⟩;have F1:Hid (Fr (fun _=>False) W w1):=Fr.b0 b1;have HT1:=q0_ T1
 have HNe:Hid (∀ W',Fr (fun _=>False) w1 W'→Calls prog 100 #[.pointer (some ⟨u,0,none⟩)] W' fun r w'=>r=.returned (.int .i64 (N:Nat))∧Below W'.heap.size W' w'):=fun W' f=>by
  have:=zf3 p2 (HT1.out.fr0 f) hc;rw[HN.out] at this;exact this
 have HC1:Hid (∀ W',Fr (fun _=>False) w1 W'→W'.cell? ⟨s,3,none⟩=some (.int .i64 bd)):=fun W' f=>HC3.out W' (F1.out.trans f q4_);clear T1 b1 HBu c0 c1 c2;go_wp2_with fail;refine wp_region_held_drew (S:=fun W_=>Fr (fun _=>False) w1 W_) (by kernel_rfl) ((Fr.refl _ w1).drew) (fun hY_=>?_);refine tq 8 [0,1,2,3,5,6,7,8] ?_
 iterate 2 refine sf HC1.out ?_
 iterate 6 (refine sf HC1.out ?_;try simp only[Act.put,sA,sB,sC])
 refine sz ?_
 try simp only[Act.put,sA,sB,sC]
 refine rl 4 rfl (fun K hK=>?_);go_simp
 go_wp2_with (go_at_call 100;refine (HNe.out _ hY_).mono ?_;rintro r wa ⟨rfl,ba⟩)
 refine hK.out _ _ (hY_.trans (Fr.b0 ba) q4_) (fun hY_=>?_);clear hK K
 try simp only[Act.put,sA,sB,sC]
 refine tq 3 [9,10,11] ?_
 iterate 2 refine sf HC1.out ?_
 refine sf HC1.out ?_
 try simp only[Act.put,sA,sB,sC]
 refine sz ?_
 try simp only[Act.put,sA,sB,sC]
 refine wpAnyH_done (by kernel_rfl) ?_ _;have Fl:Hid (Fr (fun _=>False) w1 wa):=hY_;clear hY_ ba;go_wp2;go_ret;exact⟨by first | rfl | simp[hbb],(F1.out.trans Fl.out q4_).below q4_⟩
end Go.Proofs.YteajonicnkpbbaaGreatDoor
