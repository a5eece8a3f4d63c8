/- Walk of cat.entries. -/
import Derived.Test.YtjhhodndlkpmhaaGreatDoorCatP
import Derived.Test.YtjhhodndlkpmhaaGreatDoorParseT
import Derived.Test.YtjhhodndlkpmhaaGreatDoorStRun
namespace Go.Proofs.YtjhhodndlkpmhaaGreatDoor
set_option linter.all false
set_option maxHeartbeats 8000000
set_option maxRecDepth 100000
open Go.RowKit Tryz
theorem zqn:(prog.info? 117).map (fun i=>(i.zero,i.size,i.bytes))=some (some (.agg #[.int .u64 0,.int .i64 0,.int .i64 0,.int .i64 0,.int .i64 0,.slice none 0 0]),6,64):=by kernel_rfl
section
variable {W:World} {g:Nat} {s s':RS}
theorem ze7{v:Int}(e:zcJ s=(s',v))(h:UQ W g s):Calls prog 98 #[.pointer (some ⟨g,0,none⟩)] W fun r w'=>r=.returned (.int .u64 v)∧UQ w' g s'∧Fr (fun k=>k=g) W w':=by
 have:=zq7 h;rwa[e] at this
theorem zdF{v:Int}(e:ze4 s=(s',v))(h:UQ W g s):Calls prog 99 #[.pointer (some ⟨g,0,none⟩)] W fun r w'=>r=.returned (.int .i64 v)∧UQ w' g s'∧Fr (fun k=>k=g) W w':=by
 have:=zr6 h;rwa[e] at this
theorem zbt{k v:Int}(e:zai k s=(s',v))(h:UQ W g s):Calls prog 50 #[.pointer (some ⟨g,0,none⟩),.int .i64 k] W fun r w'=>r=.returned (.int .i64 v)∧UQ w' g s'∧Fr (fun k=>k=g) W w':=by
 have:=zh4 k h;rwa[e] at this
theorem zhj{v:ByteArray}(e:zco s=(s',v))(h:UQ W g s):Calls prog 52 #[.pointer (some ⟨g,0,none⟩)] W fun r w'=>r=.returned (.string v)∧UQ w' g s'∧Fr (fun k=>k=g) W w':=by
 have:=znv h;rwa[e] at this
theorem zrp{sa sb sc sd:RS}{id tier shard:Int}{n:Nat}(ha:zcJ s=(sa,id))(hb:zai 1 sa=(sb,tier))(hc:zai 1 sb=(sc,shard))(hd:zai 2 sc=(sd,(n:Int))):
  zoi s=((zbb (zai 2) n sd).1,⟨id,tier,shard,0,n,(zbb (zai 2) n sd).2⟩):=by
 unfold zoi;rw[zaS ha,zaS hb,zaS hc,zaS hd]
 rfl
end
def ze3(wr W:World)(g xb:Nat)(id tier shard:Int)(of_:Nat)(t:RS)(B:Option Addr)(j bc:Nat)(bl:List Int):Prop:=
 Blk W xb 117 #[.int .u64 id,.int .i64 tier,.int .i64 shard,.int .i64 0,.int .i64 of_,.slice B j bc]∧W.ownsRow wr.heap.size 3 1 (.slice B j bc) j (zbg bl)∧UQ W g t∧Fr (fun i=>i=g) wr W
section
variable {w wr wq w6 w7:World} {g xb:Nat} {id tier shard:Int} {of_:Nat} {t t':RS} {B:Option Addr} {j bc:Nat} {bl:List Int}
theorem ze3.first(hb:Blk wq xb 117 #[.int .u64 id,.int .i64 tier,.int .i64 shard,.int .i64 0,.int .i64 0,.slice none 0 0])(hu:UQ wq g t)(f:Fr (fun i=>i=g) wr wq)(hg:g<wr.heap.size∧wr.heap.size≤xb)(hgx:g≠xb)(of_:Nat):
  ze3 wr (wq.setCell ⟨xb,4,none⟩ (.int .i64 of_)) g xb id tier shard of_ t none 0 0 []:=by
 refine⟨?_,World.ownsRow_nil _ _ _ _,hu.fr (F:=fun i=>i=xb) ((Fr.refl (fun i=>i=xb) wq).setCell (p:=⟨xb,4,none⟩) (.inl rfl) _) hgx,f.setCell (p:=⟨xb,4,none⟩) (.inr hg.2) _⟩;have:=hb.set_ 4 (.int .i64 of_);simpa using this
theorem ze3.grow{A7:Option Addr}{c7:Nat}{v:Int}{o:Obj}(h:ze3 wr wq g xb id tier shard of_ t B j bc bl)(hgx:g≠xb)(hg:g<wr.heap.size∧wr.heap.size≤xb)(hu:UQ w6 g t')(f6:Fr (fun i=>i=g) wq w6)
  (h7:w7.ownsRow wr.heap.size 3 1 (.slice A7 (j+1) c7) (j+1) (zbg bl++[.int .i64 v])) (mv:Mv (zaE (.slice B j bc)) (zaE (.slice A7 (j+1) c7)) (w6.alloc o) w7):
  (w7.cell? ⟨xb,5,none⟩=some (.slice B j bc)∧w7.frozen? ⟨xb,5,none⟩=false)∧ze3 wr (w7.setCell ⟨xb,5,none⟩ (.slice A7 (j+1) c7)) g xb id tier shard of_ t' A7 (j+1) c7 (bl++[v]):=by
 obtain⟨b,r,u,f⟩:=h
 have hrg:∀ k,zaE (.slice B j bc) k→k≠g:=fun k hk e=>by have:=(r.lt k hk).1;omega
 have fa:Fr (fun i=>i=g) wq (w6.alloc o):=f6.alloc o;have b6:Blk (w6.alloc o) xb 117 #[.int .u64 id,.int .i64 tier,.int .i64 shard,.int .i64 0,.int .i64 of_,.slice B j bc]:=b.fr fa (fun e=>hgx e.symm);have r6:=zaf r fa (fun k hk e=>hrg k hk e);have hrx:∀ k,zaE (.slice B j bc) k→k≠xb:=fun k hk e=>zad r6 b6 (by decide) (by rw[← e];exact hk);have b7:=b6.fr mv.fr (fun hk=>hrx xb hk rfl);have u7:UQ w7 g t':=(hu.fr0 (Fr.none_alloc _ o)).fr mv.fr (fun hk=>hrg g hk rfl);have f7:Fr (fun i=>i=g) wr w7:=(f.trans fa (fun _ h=>.inl h)).trans mv.fr (fun k hk=>.inr (r.lt k hk).1);have hst:Fr (fun i=>i=xb) w7 (w7.setCell ⟨xb,5,none⟩ (.slice A7 (j+1) c7)):=(Fr.refl (fun i=>i=xb) w7).setCell (p:=⟨xb,5,none⟩) (.inl rfl) _;refine⟨⟨b7.cell 5,b7.frozen 5⟩,?_,?_,u7.fr hst hgx,f7.setCell (p:=⟨xb,5,none⟩) (.inr hg.2) _⟩
 ·have:=b7.set_ 5 (.slice A7 (j+1) c7)
  simpa using this
 ·have e:zbg (bl++[v])=zbg bl++[.int .i64 v]:=by unfold zbg;rw[List.map_append];rfl
  rw[e];exact zaf h7 hst (fun k hk e=>zad h7 b7 (by decide) (by rw[← e];exact hk))
theorem ze3.done{O2:RS×List Int}{s':RS}(h:ze3 wr wq g xb id tier shard of_ t B j bc bl)(hbl:bl.length=j)(hwf:∀ y∈bl,zbh y)(hre:zoi s'=(O2.1,⟨id,tier,shard,0,of_,O2.2⟩))(hO:O2=(t,bl))
  (v1:0≤id∧id<18446744073709551616) (v2:0≤tier∧tier<256) (v3:0≤shard∧shard<256) (v4:of_<65536):
  zoi s'=(t,zdg.p ⟨id,tier,shard,0,of_,B,j,bc,bl⟩)∧
  ∀ {L:List zdg} {A:Option Addr} {k c:Nat},zba wq w.heap.size L A k c→Fr (fun i=>i=g) w wr→zba wr w.heap.size L A k c→g<w.heap.size→w.heap.size≤wr.heap.size→(g<wr.heap.size∧wr.heap.size≤xb)→
   ∀ (o:Obj) (A7:Option Addr) (c7:Nat) (w7:World),w7.ownsRow w.heap.size 117 6 (.slice A7 (k+1) c7) (k+1) (zfx L++[.int .u64 id,.int .i64 tier,.int .i64 shard,.int .i64 0,.int .i64 of_,.slice B j bc])→Mv (zaE (.slice A k c)) (zaE (.slice A7 (k+1) c7)) (wq.alloc o) w7→
    zba w7 w.heap.size (L++[⟨id,tier,shard,0,of_,B,j,bc,bl⟩]) A7 (k+1) c7∧UQ w7 g t∧Fr (fun i=>i=g) w w7:=by
 obtain⟨b,r,u,f⟩:=h;refine⟨by rw[hre,hO];rfl,fun {L A k c} hq fw hL hgl hlo hg o A7 c7 w7 h7 mv=>?_⟩;have fa:Fr (fun _=>False) wq (wq.alloc o):=Fr.none_alloc _ _;obtain⟨_,_,e,hjc,hcm,hrd⟩:=za5 (zac r fa)
 injection e with e1 e2 e3
 subst e1 e3;refine⟨(hq.fr0 fa).snoc hlo (fun y hy k hk=>((hL.own y hy).lt k hk).2) (zac r fa) ⟨v1,⟨by show _≤tier;omega,by show tier≤_;omega⟩,⟨by show _≤shard;omega,by show shard≤_;omega⟩,⟨show (-9223372036854775808:Int)≤0 by decide,show (0:Int)≤9223372036854775807 by decide⟩,⟨by show _≤(of_:Int);omega,by show (of_:Int)≤_;omega⟩,hrd,hbl,hjc,hcm,hwf⟩ h7 mv,?_,?_⟩
 ·exact (u.fr0 fa).fr mv.fr (fun hk=>by have:=(hq.row.lt g hk).1;omega)
 ·exact ((fw.trans f (fun _ h=>.inl h)).trans fa q4_).trans mv.fr (fun k hk=>.inr (hq.row.lt k hk).1)
end
theorem zjM(g:Nat)(s:RS)(w:World)(h:UQ w g s):
  Calls prog 101 #[.pointer (some ⟨g,0,none⟩)] w fun r w'=>∃ (es:List zdg) (A:Option Addr) (n c:Nat),r=.returned (.slice A n c)∧zba w' w.heap.size es A n c∧es.length=n∧es.map zdg.p=(zfk s).2∧UQ w' g (zfk s).1∧Fr (fun j=>j=g) w w':=by
 have HU0:=q0_ h;have Hgl:Hid (g<w.heap.size):=h.1.lt
 obtain⟨⟨s1,ni⟩,hs⟩:∃ p,zai 2 s=p:=⟨_,rfl⟩
 have hv:=zek s;rw[hs] at hv;dsimp only at hv
 obtain⟨N,rfl⟩:∃ n:Nat,ni=n:=⟨ni.toNat,by omega⟩
 have HS:=q0_ hs
 obtain⟨O,hO⟩:∃ o,zfk s=o:=⟨_,rfl⟩
 have HO0:Hid (WAt zoi O N s1 []):=by
  show WAt _ _ _ _ _
  rw[← hO];unfold zfk;rw[zaS hs];exact WAt.start
 rw[hO];clear hs h hO;obtain⟨i0,hi,hz0,hz1,hz2⟩:=info_parts zeN;obtain⟨j0,hjj,hy0,hy1,hy2⟩:=info_parts zqn;go_enter func101,ntmps101;go_wp2_with fail;refine (zbt HS.out HU0.out).mono ?_;rintro r w1 ⟨rfl,u1,f1⟩;have U1:=q0_ u1;have F1:=q0_ f1;clear u1 f1;go_wp2_with fail
 go_loopw [3,4] (fun o i wr=>∃ (m:Nat) (L:List zdg) (A:Option Addr) (k c:Nat) (s':RS),i=.int .i64 m∧m≤65535∧k+m≤65535∧o=.slice A k c∧L.length=k∧Hid (zba wr w.heap.size L A k c)∧Hid (UQ wr g s')∧Hid (Fr (fun j=>j=g) w wr)∧Hid (WAt zoi O m s' (L.map zdg.p))) (fun _ i _=>(intOf i).toNat)
 case atStart=>exact⟨N,[],none,0,0,s1,rfl,by omega,by omega,rfl,rfl,zba.nil _ _,U1.out,F1.out,HO0.out⟩
 case round=>
  obtain⟨wo,hwo⟩:∃ W,W=wr:=⟨_,rfl⟩
  rw[← hwo] at hrel ⊢;clear hwo;obtain⟨m,L,A,k,c,s',rfl,hm,hkm,rfl,hll,hL,hU,hF,hat⟩:=hrel;have HL:=q0_ hL.out;have HU:=q0_ hU.out;have Hfr:=q0_ hF.out;have Hat0:=q0_ hat.out;have Hll:=q0_ hll;have Hsz:Hid (w.heap.size≤wo.heap.size):=hF.out.size;clear hL hU hF hat hll
  rcases m with _ | m
  ·have HO:=q0_ Hat0.out.end_
   go_wp2;go_ret;exact⟨L,A,k,c,rfl,HL.out,Hll.out,by rw[HO.out],by rw[HO.out];exact HU.out,Hfr.out⟩
  ·have hm0:(0:Int)<((m+1:Nat):Int):=by omega
   by_cases he:s'.e=0
   rotate_left
   ·have he2:(s'.e==0)=false:=by simpa using he
    have HO:=q0_ (Hat0.out.stop he);go_wp2_with fail;refine (zfI HU.out).mono ?_;rintro r w5 ⟨rfl,rfl⟩;go_wp2;go_ret;exact⟨L,A,k,c,rfl,HL.out,Hll.out,by rw[HO.out],by rw[HO.out];exact HU.out,Hfr.out⟩
   ·have he2:(s'.e==0)=true:=by simpa using he
    have He0:=q0_ he
    obtain⟨⟨sa,id⟩,ha⟩:∃ p,zcJ s'=p:=⟨_,rfl⟩
    obtain⟨⟨sb,tier⟩,hb⟩:∃ p,zai 1 sa=p:=⟨_,rfl⟩
    obtain⟨⟨sc,shard⟩,hc⟩:∃ p,zai 1 sb=p:=⟨_,rfl⟩
    obtain⟨⟨sd,ofi⟩,hd⟩:∃ p,zai 2 sc=p:=⟨_,rfl⟩
    have v1:=zgt s';have v2:=zdm sa;have v3:=zdm sb;have v4:=zek sc;rw[ha] at v1;rw[hb] at v2;rw[hc] at v3;rw[hd] at v4;dsimp only at v1 v2 v3 v4
    obtain⟨of_,rfl⟩:∃ n:Nat,ofi=n:=⟨ofi.toNat,by omega⟩
    have hof:of_<65536:=by omega
    have Hof:=q0_ hof
    obtain⟨O2,hO2⟩:∃ o,zbb (zai 2) of_ sd=o:=⟨_,rfl⟩
    have HRE:Hid (zoi s'=(O2.1,⟨id,tier,shard,0,of_,O2.2⟩)):=by
     show _=_
     rw[← hO2];exact zrp ha hb hc hd
    have HO2:Hid (WAt (zai 2) O2 (of_-0) sd []):=by
     show WAt _ _ _ _ _
     rw[← hO2];exact WAt.start
    have HV1:=q0_ v1;have HV2:=q0_ v2;have HV3:=q0_ v3;have HA:=q0_ ha;have HBq:=q0_ hb;have HCq:=q0_ hc;have HDq:=q0_ hd;clear ha hb hc hd v1 v2 v3 v4 hO2 he;have hgr:Hid (g<wo.heap.size):=Nat.lt_of_lt_of_le Hgl.out Hsz.out;go_wp2_with fail;refine (zfI HU.out).mono ?_;rintro r w5 ⟨rfl,rfl⟩;go_wp2_with fail;refine (ze7 HA.out HU.out).mono ?_;rintro r w1 ⟨rfl,u1,f1⟩;go_wp2_with fail;refine (zbt HBq.out u1).mono ?_;rintro r w2 ⟨rfl,u2,f2⟩;go_wp2_with fail;refine (zbt HCq.out u2).mono ?_;rintro r w3 ⟨rfl,u3,f3⟩;have F3:Hid (Fr (fun i=>i=g) wo w3):=(f1.trans f2 (fun _ h=>.inl h)).trans f3 (fun _ h=>.inl h);clear f1 f2 f3 u1 u2
    go_upto_region 6 with fail
    obtain⟨W4,hW4⟩:∃ W,W=w3.alloc (.cells #[.int .u64 id,.int .i64 tier,.int .i64 shard,.int .i64 0,.int .i64 0,.slice none 0 0] 117):=⟨_,rfl⟩
    rw[← hW4]
    obtain⟨xb,hxb⟩:∃ x,x=w3.heap.size:=⟨_,rfl⟩
    rw[← hxb]
    have B4:Hid (Blk W4 xb 117 #[.int .u64 id,.int .i64 tier,.int .i64 shard,.int .i64 0,.int .i64 0,.slice none 0 0]):=by show Blk _ _ _ _;rw[hW4,hxb];exact Blk.new _ _ _
    have F4:Hid (Fr (fun i=>i=g) wo W4):=by show Fr _ _ _;rw[hW4];exact F3.out.alloc _
    have U4:Hid (UQ W4 g sc):=by show UQ _ _ _;rw[hW4];exact u3.fr0 (Fr.none_alloc _ _)
    have Hgx:Hid (g≠xb):=by have:=F3.out.size;have:=hgr.out;show _≠_;omega
    have Hg:Hid (g<wo.heap.size∧wo.heap.size≤xb):=⟨hgr.out,by rw[hxb];exact F3.out.size⟩
    clear hW4 hxb u3 F3;go_wp2_with fail;refine (zbt HDq.out U4.out).mono ?_;rintro r w5 ⟨rfl,u5,f5⟩;have B5:=B4.out.fr f5 (fun e=>Hgx.out e.symm);have c4:=B5.cell 4;have z4:=B5.frozen 4;simp only[q1_,q2_,q3_] at c4;have HE5:=q0_ (ze3.first B5 u5 (F4.out.trans f5 (fun _ h=>.inl h)) Hg.out Hgx.out of_);clear u5 f5 B5
    go_upto_region 7 with fail
    obtain⟨W6,hW6⟩:∃ W,W=w5.setCell ⟨xb,4,none⟩ (.int .i64 of_):=⟨_,rfl⟩
    rw[← hW6] at HE5 ⊢;have HE0:=q0_ HE5.out;clear HE5 hW6 c4 z4 B4 F4 U4;go_wp2_with fail
    go_loopw [6] (fun i wq=>∃ (j:Nat) (B:Option Addr) (bc:Nat) (bl:List Int) (t:RS),i=.int .i64 j∧j≤of_∧bl.length=j∧Hid (ze3 wo wq g xb id tier shard of_ t B j bc bl)∧Hid (WAt (zai 2) O2 (of_-j) t bl)∧Hid (∀ y∈bl,zbh y)) (fun i _=>of_-(intOf i).toNat)
    case atStart=>exact⟨0,none,0,[],sd,rfl,Nat.zero_le _,rfl,HE0.out,HO2.out,fun y hy=>(by cases hy)⟩
    case round=>
     obtain⟨wq,hwq⟩:∃ W,W=wr:=⟨_,rfl⟩
     rw[← hwq] at hrel ⊢;clear hwq;obtain⟨j,B,bc,bl,t,rfl,hj,hbl,hq,hat,hwf⟩:=hrel;have Hq:=q0_ hq.out;have Hat:=q0_ hat.out;have Hwf:=q0_ hwf.out;have Hbl:=q0_ hbl;have HC:Hid (∀ W,Fr (fun i=>i=g) wq W→W.cell? ⟨xb,5,none⟩=some (.slice B j bc)):=fun W f=>(Hq.out.1.fr f (fun e=>Hgx.out e.symm)).cell 5;have q4:wq.cell? ⟨xb,4,none⟩=some (.int .i64 of_):=Hq.out.1.cell 4;clear hq hat hwf hbl
     by_cases hlt:j<of_
     ·by_cases he:t.e=0
      ·have he2:(t.e==0)=true:=by simpa using he
       have He:=q0_ he
       obtain⟨⟨t',v⟩,hsm⟩:∃ p,zai 2 t=p:=⟨_,rfl⟩
       have hv:zbh v:=by
        have:=zek t;rw[hsm] at this;exact⟨by omega,by omega⟩
       have Hv:=q0_ hv;have HSm:=q0_ hsm;have l0:=HC.out wq.drew (Fr.refl _ wq).drew;have HB:=q0_ (zfI Hq.out.2.2.1);clear hsm hv he;go_wp2_with fail;refine HB.out.mono ?_;rintro r w5 ⟨rfl,rfl⟩;clear HB;go_wp2_with fail;refine wp_region_any (by kernel_rfl) ?_;change wpAny _ _ _ _ _ _ _ (World.drew _);refine nl 0 ?v1 rfl ?q1 ?r1
       case q1=>intro W;go_simp;try rfl
       refine nl 2 ?v2 rfl ?q2 ?r2
       case q2=>intro W;go_simp;try rfl
       try simp only[Act.put,sA,sB,sC]
       refine wpAny_ready (rs:=[1,3]) (by kernel_rfl) (by simp) ?_;refine AllReady.cons (dg rfl) (fun K hK=>?_) ?_
       ·go_simp
        refine hK _ _ ?_;clear hK K
        try simp only[Act.put,sA,sB,sC]
        refine rn 3 rfl (fun K hK=>?_);go_simp
        go_wp2_with (go_at_call 50;refine (zbt HSm.out (Hq.out.2.2.1.fr0 (Fr.refl _ wq).drew)).mono ?_;rintro r w6 ⟨rfl,u6,f6⟩;have hf6:Fr (fun i=>i=g) wq w6:=(Fr.refl _ wq).drew.trans f6 (fun _ h=>.inl h);have l1:=HC.out w6 hf6;have l1a:=fun o=>HC.out (w6.alloc o) (hf6.alloc o);try dsimp only)
        refine rn 4 rfl (fun K hK=>?_);go_simp;refine hK _ _ ?_;clear hK K
        try simp only[Act.put,sA,sB,sC]
        refine rn 5 rfl (fun K hK=>?_);rw[if_pos (by rfl)];have hr6:=zac (zaf Hq.out.2.1 hf6 (fun k hk e=>by have:=(Hq.out.2.1.lt k hk).1;have:=Hg.out;omega)) (Fr.none_alloc w6 (.cells #[.int .i64 v] 3));refine zaU _ _ 52 rfl 3 i0 (.int .i64 0) 1 8 underlying52 hi hz0 hz1 hz2 rfl (by decide) (.slice B j bc) j _ rfl wo.heap.size (Nat.le_trans Hq.out.2.2.2.size (hf6.alloc _).size) hr6 (some ⟨w6.heap.size,0,none⟩) 1 1 [.int .i64 v] rfl (Rd.new w6 [.int .i64 v] _ 1 rfl) (by simp[Value.oneCell']) (by unfold maxLen;omega) (by omega) (fun B7 c7 w7 h7 m7 _=>?_);obtain⟨⟨l3,z3⟩,hz⟩:=ze3.grow Hq.out Hgx.out Hg.out u6 hf6 h7 m7;have Hz:=q0_ hz;clear h7 m7 hz hr6;refine hK _ _ ?_;clear hK K;refine nl 6 ?v3 rfl ?q3 ?r3
        case q3=>intro W;go_simp;try rfl
        try simp only[Act.put,sA,sB,sC]
        refine rn 7 rfl (fun K hK=>?_);go_simp;refine hK _ _ ?_;clear hK K
        try simp only[Act.put,sA,sB,sC]
        refine wpAny_done (by kernel_rfl) ?_ _;clear l3 z3 l1 l1a u6 f6 hf6;go_wp2
        go_roundw
        case rel=>exact⟨j+1,B7,c7,bl++[v],t',by go_num,by omega,by rw[q8_,List.length_singleton,Hbl.out],Hz.out,by
         have h:=Hat.out;rw[show of_-j=(of_-(j+1))+1 by omega] at h;have h2:=WAt.step h He.out;rw[HSm.out] at h2
         exact h2,by
         intro y hy
         rcases List.mem_append.1 hy with hy | hy
         ·exact Hwf.out y hy
         ·rw[List.mem_singleton] at hy
          rw[hy]
          exact Hv.out⟩
        case measure=>simp[intOf];omega
       refine AllReady.cons (dg rfl) (fun K hK=>?_) ?_
       ·go_simp
        go_wp2_with (go_at_call 50;refine (zbt HSm.out (Hq.out.2.2.1.fr0 (Fr.refl _ wq).drew)).mono ?_;rintro r w6 ⟨rfl,u6,f6⟩;have hf6:Fr (fun i=>i=g) wq w6:=(Fr.refl _ wq).drew.trans f6 (fun _ h=>.inl h);have l1:=HC.out w6 hf6;have l1a:=fun o=>HC.out (w6.alloc o) (hf6.alloc o);try dsimp only)
        try simp only[Act.put,sA,sB,sC]
        refine wpAny_ready (rs:=[1,4]) (by kernel_rfl) (by simp) ?_;refine AllReady.cons (dg rfl) (fun K hK=>?_) ?_
        ·go_simp
         refine hK _ _ ?_;clear hK K
         try simp only[Act.put,sA,sB,sC]
         refine rn 4 rfl (fun K hK=>?_);go_simp;refine hK _ _ ?_;clear hK K
         try simp only[Act.put,sA,sB,sC]
         refine rn 5 rfl (fun K hK=>?_);rw[if_pos (by rfl)];have hr6:=zac (zaf Hq.out.2.1 hf6 (fun k hk e=>by have:=(Hq.out.2.1.lt k hk).1;have:=Hg.out;omega)) (Fr.none_alloc w6 (.cells #[.int .i64 v] 3));refine zaU _ _ 52 rfl 3 i0 (.int .i64 0) 1 8 underlying52 hi hz0 hz1 hz2 rfl (by decide) (.slice B j bc) j _ rfl wo.heap.size (Nat.le_trans Hq.out.2.2.2.size (hf6.alloc _).size) hr6 (some ⟨w6.heap.size,0,none⟩) 1 1 [.int .i64 v] rfl (Rd.new w6 [.int .i64 v] _ 1 rfl) (by simp[Value.oneCell']) (by unfold maxLen;omega) (by omega) (fun B7 c7 w7 h7 m7 _=>?_);obtain⟨⟨l3,z3⟩,hz⟩:=ze3.grow Hq.out Hgx.out Hg.out u6 hf6 h7 m7;have Hz:=q0_ hz;clear h7 m7 hz hr6;refine hK _ _ ?_;clear hK K;refine nl 6 ?v4 rfl ?q4 ?r4
         case q4=>intro W;go_simp;try rfl
         try simp only[Act.put,sA,sB,sC]
         refine rn 7 rfl (fun K hK=>?_);go_simp;refine hK _ _ ?_;clear hK K
         try simp only[Act.put,sA,sB,sC]
         refine wpAny_done (by kernel_rfl) ?_ _;clear l3 z3 l1 l1a u6 f6 hf6;go_wp2
         go_roundw
         case rel=>exact⟨j+1,B7,c7,bl++[v],t',by go_num,by omega,by rw[q8_,List.length_singleton,Hbl.out],Hz.out,by
          have h:=Hat.out;rw[show of_-j=(of_-(j+1))+1 by omega] at h;have h2:=WAt.step h He.out;rw[HSm.out] at h2
          exact h2,by
          intro y hy
          rcases List.mem_append.1 hy with hy | hy
          ·exact Hwf.out y hy
          ·rw[List.mem_singleton] at hy
           rw[hy]
           exact Hv.out⟩
         case measure=>simp[intOf];omega
        refine AllReady.cons (dg rfl) (fun K hK=>?_) ?_
        ·go_simp
         refine hK _ _ ?_;clear hK K
         try simp only[Act.put,sA,sB,sC]
         refine rn 1 rfl (fun K hK=>?_);go_simp;refine hK _ _ ?_;clear hK K
         try simp only[Act.put,sA,sB,sC]
         refine rn 5 rfl (fun K hK=>?_);rw[if_pos (by rfl)];have hr6:=zac (zaf Hq.out.2.1 hf6 (fun k hk e=>by have:=(Hq.out.2.1.lt k hk).1;have:=Hg.out;omega)) (Fr.none_alloc w6 (.cells #[.int .i64 v] 3));refine zaU _ _ 52 rfl 3 i0 (.int .i64 0) 1 8 underlying52 hi hz0 hz1 hz2 rfl (by decide) (.slice B j bc) j _ rfl wo.heap.size (Nat.le_trans Hq.out.2.2.2.size (hf6.alloc _).size) hr6 (some ⟨w6.heap.size,0,none⟩) 1 1 [.int .i64 v] rfl (Rd.new w6 [.int .i64 v] _ 1 rfl) (by simp[Value.oneCell']) (by unfold maxLen;omega) (by omega) (fun B7 c7 w7 h7 m7 _=>?_);obtain⟨⟨l3,z3⟩,hz⟩:=ze3.grow Hq.out Hgx.out Hg.out u6 hf6 h7 m7;have Hz:=q0_ hz;clear h7 m7 hz hr6;refine hK _ _ ?_;clear hK K;refine nl 6 ?v5 rfl ?q5 ?r5
         case q5=>intro W;go_simp;try rfl
         try simp only[Act.put,sA,sB,sC]
         refine rn 7 rfl (fun K hK=>?_);go_simp;refine hK _ _ ?_;clear hK K
         try simp only[Act.put,sA,sB,sC]
         refine wpAny_done (by kernel_rfl) ?_ _;clear l3 z3 l1 l1a u6 f6 hf6;go_wp2
         go_roundw
         case rel=>exact⟨j+1,B7,c7,bl++[v],t',by go_num,by omega,by rw[q8_,List.length_singleton,Hbl.out],Hz.out,by
          have h:=Hat.out;rw[show of_-j=(of_-(j+1))+1 by omega] at h;have h2:=WAt.step h He.out;rw[HSm.out] at h2
          exact h2,by
          intro y hy
          rcases List.mem_append.1 hy with hy | hy
          ·exact Hwf.out y hy
          ·rw[List.mem_singleton] at hy
           rw[hy]
           exact Hv.out⟩
         case measure=>simp[intOf];omega
        exact AllReady.nil
       exact AllReady.nil
      ·have he2:(t.e==0)=false:=by simpa using he
       have HB:=q0_ (zfI Hq.out.2.2.1);have HO:=q0_ (WAt.stop Hat.out he);clear he;go_wp2_with fail;refine HB.out.mono ?_;rintro r w5 ⟨rfl,rfl⟩;clear HB q4;have HQ2:=q0_ (ze3.done (w:=w) Hq.out Hbl.out Hwf.out HRE.out HO.out HV1.out HV2.out HV3.out Hof.out);have q0:wq.cell? ⟨xb,0,none⟩=some (.int .u64 id):=Hq.out.1.cell 0;have q1:wq.cell? ⟨xb,1,none⟩=some (.int .i64 tier):=Hq.out.1.cell 1;have q2:wq.cell? ⟨xb,2,none⟩=some (.int .i64 shard):=Hq.out.1.cell 2;have q3:wq.cell? ⟨xb,3,none⟩=some (.int .i64 0):=Hq.out.1.cell 3;have q4:wq.cell? ⟨xb,4,none⟩=some (.int .i64 of_):=Hq.out.1.cell 4;have q5:=HC.out wq (Fr.refl _ wq);have Hes:=q0_ (HL.out.fr Hq.out.2.2.2 (fun k hk e=>by have:=(HL.out.row.lt k hk).1;have:=Hgl.out;omega) (fun x hx k hk e=>by have:=((HL.out.own x hx).lt k hk).1;have:=Hgl.out;omega));have hs5:=Hq.out.2.2.2.size;have hs6:=Hsz.out
       go_wp2_with (at_builtin;refine zbs rfl _ _ 53 rfl 117 j0 _ 6 64 underlying53 hjj hy0 hy1 hy2 rfl (by decide) (.slice A k c) k _ rfl w.heap.size (by simp;omega) (zac Hes.out.row (Fr.none_alloc _ _)) (some ⟨wq.heap.size,0,none⟩) 1 1 [.int .u64 id,.int .i64 tier,.int .i64 shard,.int .i64 0,.int .i64 of_,.slice B j bc] rfl (Rd.newS (by simp) _ _ _ _ rfl) (by simp[Value.oneCell']) ?q1 ?q2 ?_)
       case q1=>unfold maxLen;omega
       case q2=>omega
       intro A7 c7 w7 h7 m7 _;have Hz:=q0_ (HQ2.out.2 Hes.out Hfr.out HL.out Hgl.out Hsz.out Hg.out _ _ _ _ h7 m7);clear q0 q1 q2 q3 q4 q5 h7 m7 hs5 hs6;go_wp2
       go_roundw
       case rel=>exact⟨m,L++[(⟨id,tier,shard,0,of_,B,j,bc,bl⟩:zdg)],A7,k+1,c7,t,by go_num,by omega,by omega,rfl,by rw[q8_,List.length_singleton,Hll.out],Hz.out.1,Hz.out.2.1,Hz.out.2.2,by
        have h:=WAt.step Hat0.out He0.out;rw[HQ2.out.1] at h;rw[List.map_append]
        exact h⟩
       case measure=>simp[intOf]
     ·obtain rfl:of_=j:=by omega
      have HO:Hid (O2=(t,bl)):=by
       have h:=Hat.out;rw[Nat.sub_self] at h;exact h.end_
      have HQ2:=q0_ (ze3.done (w:=w) Hq.out Hbl.out Hwf.out HRE.out HO.out HV1.out HV2.out HV3.out Hof.out);have q0:wq.cell? ⟨xb,0,none⟩=some (.int .u64 id):=Hq.out.1.cell 0;have q1:wq.cell? ⟨xb,1,none⟩=some (.int .i64 tier):=Hq.out.1.cell 1;have q2:wq.cell? ⟨xb,2,none⟩=some (.int .i64 shard):=Hq.out.1.cell 2;have q3:wq.cell? ⟨xb,3,none⟩=some (.int .i64 0):=Hq.out.1.cell 3;have q5:=HC.out wq (Fr.refl _ wq);have Hes:=q0_ (HL.out.fr Hq.out.2.2.2 (fun k hk e=>by have:=(HL.out.row.lt k hk).1;have:=Hgl.out;omega) (fun x hx k hk e=>by have:=((HL.out.own x hx).lt k hk).1;have:=Hgl.out;omega));have hs5:=Hq.out.2.2.2.size;have hs6:=Hsz.out
      go_wp2_with (at_builtin;refine zbs rfl _ _ 53 rfl 117 j0 _ 6 64 underlying53 hjj hy0 hy1 hy2 rfl (by decide) (.slice A k c) k _ rfl w.heap.size (by simp;omega) (zac Hes.out.row (Fr.none_alloc _ _)) (some ⟨wq.heap.size,0,none⟩) 1 1 [.int .u64 id,.int .i64 tier,.int .i64 shard,.int .i64 0,.int .i64 of_,.slice B of_ bc] rfl (Rd.newS (by simp) _ _ _ _ rfl) (by simp[Value.oneCell']) ?q1 ?q2 ?_)
      case q1=>unfold maxLen;omega
      case q2=>omega
      intro A7 c7 w7 h7 m7 _;have Hz:=q0_ (HQ2.out.2 Hes.out Hfr.out HL.out Hgl.out Hsz.out Hg.out _ _ _ _ h7 m7);clear q0 q1 q2 q3 q4 q5 h7 m7 hs5 hs6;go_wp2
      go_roundw
      case rel=>exact⟨m,L++[(⟨id,tier,shard,0,of_,B,of_,bc,bl⟩:zdg)],A7,k+1,c7,t,by go_num,by omega,by omega,rfl,by rw[q8_,List.length_singleton,Hll.out],Hz.out.1,Hz.out.2.1,Hz.out.2.2,by
       have h:=WAt.step Hat0.out He0.out;rw[HQ2.out.1] at h;rw[List.map_append]
       exact h⟩
      case measure=>simp[intOf]
theorem Blk.set12{w:World}{g:Nat}{t:TypeId}{o0 o1 o2 o3 o4 o5 o6 o7 o8 o9 o10 o11 a0 a1 a2 a3 a4 a5 a6 a7 a8 a9 a10 a11:Value}(h:Blk w g t #[o0,o1,o2,o3,o4,o5,o6,o7,o8,o9,o10,o11]):Blk ((((((((((((w.setCell ⟨g,0,none⟩ (a0)).setCell ⟨g,1,none⟩ (a1)).setCell ⟨g,2,none⟩ (a2)).setCell ⟨g,3,none⟩ (a3)).setCell ⟨g,4,none⟩ (a4)).setCell ⟨g,5,none⟩ (a5)).setCell ⟨g,6,none⟩ (a6)).setCell ⟨g,7,none⟩ (a7)).setCell ⟨g,8,none⟩ (a8)).setCell ⟨g,9,none⟩ (a9)).setCell ⟨g,10,none⟩ (a10)).setCell ⟨g,11,none⟩ (a11)) g t #[a0,a1,a2,a3,a4,a5,a6,a7,a8,a9,a10,a11]:=by
 have:=((((((((((((h.set_ 0 a0).set_ 1 a1).set_ 2 a2).set_ 3 a3).set_ 4 a4).set_ 5 a5).set_ 6 a6).set_ 7 a7).set_ 8 a8).set_ 9 a9).set_ 10 a10).set_ 11 a11)
 simpa using this
theorem Fr.set12{w1 w:World}{F:Nat→Prop}(h:Fr F w1 w){g:Nat}(hg:F g∨w1.heap.size≤g)(a0 a1 a2 a3 a4 a5 a6 a7 a8 a9 a10 a11:Value):Fr F w1 ((((((((((((w.setCell ⟨g,0,none⟩ (a0)).setCell ⟨g,1,none⟩ (a1)).setCell ⟨g,2,none⟩ (a2)).setCell ⟨g,3,none⟩ (a3)).setCell ⟨g,4,none⟩ (a4)).setCell ⟨g,5,none⟩ (a5)).setCell ⟨g,6,none⟩ (a6)).setCell ⟨g,7,none⟩ (a7)).setCell ⟨g,8,none⟩ (a8)).setCell ⟨g,9,none⟩ (a9)).setCell ⟨g,10,none⟩ (a10)).setCell ⟨g,11,none⟩ (a11)):=
 ((((((((((((h.setCell (p:=⟨g,0,none⟩) hg a0).setCell (p:=⟨g,1,none⟩) hg a1).setCell (p:=⟨g,2,none⟩) hg a2).setCell (p:=⟨g,3,none⟩) hg a3).setCell (p:=⟨g,4,none⟩) hg a4).setCell (p:=⟨g,5,none⟩) hg a5).setCell (p:=⟨g,6,none⟩) hg a6).setCell (p:=⟨g,7,none⟩) hg a7).setCell (p:=⟨g,8,none⟩) hg a8).setCell (p:=⟨g,9,none⟩) hg a9).setCell (p:=⟨g,10,none⟩) hg a10).setCell (p:=⟨g,11,none⟩) hg a11)
theorem zbG:(prog.info? 55).map (·.size)=some 12:=by kernel_rfl
theorem zd6(w:World):(Instr.build 55 #[]).run prog w=.ok (.agg #[.int .u64 0,.int .u64 0,.int .i64 0,.string {data:=#[]},.slice none 0 0,.slice none 0 0,.string {data:=#[]},.slice none 0 0,.slice none 0 0,.int .i64 0,.int .i64 0,.slice none 0 0]) w:=by kernel_rfl
section
variable {P:Program} {w:World} {g:Nat} {t:TypeId} {cs:Array Value}
theorem zc1(h:Blk w g t cs)(vs:Array Value)(n:Nat)(hs:cs.size=n)(hv:vs.size=n)(h1:vs.all (·.oneCell')=true)(hi:(P.info? t).map (·.size)=some n):
  ∃ w',(storeCells ⟨g,0,none⟩ vs.toList 0).run P w=.ok () w'∧(Instr.storeAt t (.pointer (some ⟨g,0,none⟩)) (.agg vs)).run P w=.ok () w'∧(storeVar t ⟨g,0,none⟩ (.agg vs)).run P w=.ok () w'∧Blk w' g t vs∧Fr (fun i=>i=g) w w':=by
 have hb:w.heap[g]? =some (Obj.cells cs t (0,0)):=h;have hlt:g<w.heap.size:=(Array.getElem?_eq_some_iff.1 hb).1;have hsv:(storeVar t ⟨g,0,none⟩ (.agg vs)).run P w=.ok () (w.setRow g vs):=run_storeVar_row _ _ t t cs vs hb (by rw[hi,hv]) (by omega) h1;refine⟨w.setRow g vs,?_,?_,hsv,?_,?_⟩
 ·have:=run_storeCells_from (P:=P) g t vs.toList 0 cs w hb (by simp;omega) (fun v hv=>by rw[Array.all_eq_true_iff_forall_mem] at h1;exact h1 v (by simpa using hv))
  simpa using this
 ·simp only[Instr.storeAt,Instr.sureAddr,Sem.run_bind,Sem.run_pure,Result.andThen]
  exact hsv
 ·show (w.setRow g vs).heap[g]? =_
  unfold World.setRow;simp[Array.getElem?_modify,hb]
 ·refine⟨rfl,rfl,rfl,by simp[World.setRow],fun i hi hn=>?_⟩
  show (w.setRow g vs).heap[i]? =_
  unfold World.setRow;simp only[Array.getElem?_modify];rw[if_neg (fun e=>hn e.symm)]
theorem zdp{fs:Array Field}(h:Blk w g t cs)(n:Nat)(hs:cs.size=n)(hu:P.underlying t=some (.struct fs))(hi:(P.info? t).map (·.size)=some n):
  (loadCellsFrom ⟨g,0,none⟩ 0 n #[]).run P w=.ok cs w∧(Instr.loadAt t (.pointer (some ⟨g,0,none⟩))).run P w=.ok (.agg cs) w∧(loadVar t ⟨g,0,none⟩).run P w=.ok (.agg cs) w:=by
 have hb:w.heap[g]? =some (Obj.cells cs t (0,0)):=h
 have h0:(loadCellsFrom ⟨g,0,none⟩ 0 n #[]).run P w=.ok cs w:=by
  subst hs
  have:=run_loadCells_list (P:=P) w ⟨g,0,none⟩ cs.toList (fun j v hv=>by
   have hadd:(⟨g,0,none⟩:Addr).add j=⟨g,j,none⟩:=by unfold Addr.add;split<;>simp_all
   rw[hadd,cell_of_row _ _ j cs t (0,0) hb]
   simpa using hv)
  simpa[loadCells] using this
 have h2:(loadVar t ⟨g,0,none⟩).run P w=.ok (.agg cs) w:=by
  cases hq:P.info? t with
  | none=>simp[hq] at hi
  | some i=>
   have hz:i.size=n:=by simpa[hq] using hi
   simp[loadVar,isAgg,underlying,sizeOf,typeInfo,hq,hu,hz,loadCells,h0]
 refine⟨h0,?_,h2⟩;simp only[Instr.loadAt,Instr.sureAddr,Sem.run_bind,Sem.run_pure,Result.andThen];exact h2
end
theorem zkp{fn:Func}{p u:Tmp}{t:TypeId}(h:fn.results=#[.cell p t,.tmp u])(tmps:Array Value)(P:Program)(w:World)(g:Nat)(vs:Array Value)(hp:tmps.getD p undef=.pointer (some ⟨g,0,none⟩))(hl:(loadVar t ⟨g,0,none⟩).run P w=.ok (.agg vs) w):
  (results fn tmps).run P w=.ok (.tuple #[.agg vs,tmps.getD u undef]) w:=by
 have hp2:tmps[p]?.getD undef=.pointer (some ⟨g,0,none⟩):=by rw[← hp];simp
 simp[results,h,asAddr,hp2,hl]
theorem zbT{P:Program}{fn:Func}{R:Ending→World→Prop}{a:Act}{w:World}{p u:Tmp}{t:TypeId}(hf:fn.results=#[.cell p t,.tmp u])(g:Nat)(vs:Array Value)(x:Value)(hp:a.tmps.getD p undef=.pointer (some ⟨g,0,none⟩))(hx:a.tmps.getD u undef=x)
  (hl:(loadVar t ⟨g,0,none⟩).run P w=.ok (.agg vs) w) (hd:a.defers=[]) (hR:R (.returned (.tuple #[.agg vs,x])) w):bodyPost P fn R .ret a w:=
 bodyPost_ret (by rw[zkp hf a.tmps P w g vs hp hl,hx]) hd hR
section
variable {P:Program} {w:World} {ops:Array Oper} {rest:List Oper} {o:Oper} {a:Act} {Q:Exit→Act→World→Prop}
theorem zbi(hgd:o.guard=none)(p x:Operand)(t:TypeId)(ho:o.op=.store t p x)(g:Nat)(vs:Array Value)(w':World)(hp:a.eval p=.pointer (some ⟨g,0,none⟩))(hx:a.eval x=.agg vs)
  (hrun:(Instr.storeAt t (.pointer (some ⟨g,0,none⟩)) (.agg vs)).run P w=.ok () w') (h:wpList P ops Q rest (a.put o.dst undef) w'):wpList P ops Q (o::rest) a w:=
 wpList_plain hgd fun K hK=>by
  unfold Oper.wp execOp;simp only[ho,Sem.run_bind,hp,hx,hrun,Result.andThen_ok,Sem.run_pure];exact hK _ _ h
theorem zbx(hgd:o.guard=none)(t:TypeId)(ho:o.op=.build t #[])(v:Value)(hrun:(Instr.build t #[]).run P w=.ok v w)(h:wpList P ops Q rest (a.put o.dst v) w):wpList P ops Q (o::rest) a w:=
 wpList_plain hgd fun K hK=>by
  unfold Oper.wp execOp
  have e:(Instr.build t ((#[]:Array (Nat×Operand)).map fun (i,x)=>(i,a.eval x))).run P w=.ok v w:=by simpa using hrun
  simp only[ho,Sem.run_bind,e,Result.andThen_ok,Sem.run_pure];exact hK _ _ h
theorem zg9(hgd:o.guard=none)(p:Operand)(t:TypeId)(ho:o.op=.load t p)(g:Nat)(vs:Array Value)(hp:a.eval p=.pointer (some ⟨g,0,none⟩))
  (hrun:(Instr.loadAt t (.pointer (some ⟨g,0,none⟩))).run P w=.ok (.agg vs) w) (h:wpList P ops Q rest (a.put o.dst (.agg vs)) w):wpList P ops Q (o::rest) a w:=
 wpList_plain hgd fun K hK=>by
  unfold Oper.wp execOp;simp only[ho,Sem.run_bind,hp,hrun,Result.andThen_ok,Sem.run_pure];exact hK _ _ h
end
def ZC:Array Value:=#[.int .u64 0,.int .u64 0,.int .i64 0,.string {data:=#[]},.slice none 0 0,.slice none 0 0,.string {data:=#[]},.slice none 0 0,.slice none 0 0,.int .i64 0,.int .i64 0,.slice none 0 0]
structure GA(w W:World)(g cb:Nat)(s:RS)(cs:Array Value):Prop where
 fr:Fr (fun _=>False) w W
 glo:w.heap.size<g
 clo:w.heap.size<cb
 rb:Blk W w.heap.size 55 ZC
 cb:Blk W cb 55 cs
 u:UQ W g s
section
variable {w W W':World} {g cb:Nat} {s s':RS} {cs:Array Value}
theorem GA.gc(h:GA w W g cb s cs):g≠cb:=h.u.1.ne_ h.cb (by decide)
theorem GA.read(h:GA w W g cb s cs)(u:UQ W' g s')(f:Fr (fun i=>i=g) W W'):GA w W' g cb s' cs:=
 ⟨h.fr.trans f (fun k hk=>.inr (by have:=h.glo;omega)),h.glo,h.clo,h.rb.fr f (fun e=>by have:=h.glo;omega),h.cb.fr f (fun e=>h.gc e.symm),u⟩
theorem GA.fr0(h:GA w W g cb s cs)(f:Fr (fun _=>False) W W'):GA w W' g cb s cs:=
 ⟨h.fr.trans f q4_,h.glo,h.clo,h.rb.fr f (fun h=>h),h.cb.fr f (fun h=>h),h.u.fr0 f⟩
theorem GA.set_(h:GA w W g cb s cs)(p:Nat)(v:Value):GA w (W.setCell ⟨cb,p,none⟩ v) g cb s (cs.setIfInBounds p v):=by
 have f:Fr (fun i=>i=cb) W (W.setCell ⟨cb,p,none⟩ v):=(Fr.refl (fun i=>i=cb) W).setCell (p:=⟨cb,p,none⟩) (.inl rfl) v;exact⟨h.fr.setCell (p:=⟨cb,p,none⟩) (.inr (Nat.le_of_lt h.clo)) v,h.glo,h.clo,h.rb.fr f (fun e=>by have:=h.clo;omega),h.cb.set_ p v,h.u.fr f h.gc⟩
theorem GA.lt(h:GA w W g cb s cs):g<W.heap.size∧cb<W.heap.size∧w.heap.size<W.heap.size:=⟨h.u.1.lt,h.cb.lt,h.rb.lt⟩
theorem GA.grow{wq w6 w7:World}{t t':RS}{m p j bc c7:Nat}{B A7:Option Addr}{bl:List Int}{v:Int}{o:Obj}(h:GA w wq g cb t cs)(hr:wq.ownsRow m 3 1 (.slice B j bc) j (zbg bl))(hm:g<m∧cb<m∧w.heap.size<m)(hp:cs[p]? =some (.slice B j bc))
  (hu:UQ w6 g t') (f6:Fr (fun i=>i=g) wq w6) (h7:w7.ownsRow m 3 1 (.slice A7 (j+1) c7) (j+1) (zbg bl++[.int .i64 v])) (mv:Mv (zaE (.slice B j bc)) (zaE (.slice A7 (j+1) c7)) (w6.alloc o) w7):
  (w7.cell? ⟨cb,p,none⟩=some (.slice B j bc)∧w7.frozen? ⟨cb,p,none⟩=false)∧
  GA w (w7.setCell ⟨cb,p,none⟩ (.slice A7 (j+1) c7)) g cb t' (cs.setIfInBounds p (.slice A7 (j+1) c7))∧
  (w7.setCell ⟨cb,p,none⟩ (.slice A7 (j+1) c7)).ownsRow m 3 1 (.slice A7 (j+1) c7) (j+1) (zbg (bl++[v]))∧
  Fr (fun i=>(i=g∨i=cb)∨zaE (.slice B j bc) i) wq (w7.setCell ⟨cb,p,none⟩ (.slice A7 (j+1) c7)):=by
 have h6:=(h.read hu f6).fr0 (Fr.none_alloc w6 o);have hrm:∀ k,zaE (.slice B j bc) k→m≤k:=fun k hk=>(hr.lt k hk).1
 have h7a:GA w w7 g cb t' cs:=⟨h6.fr.trans mv.fr (fun k hk=>.inr (by have:=hrm k hk;omega)),h6.glo,h6.clo,h6.rb.fr mv.fr (fun hk=>by have:=hrm _ hk;omega),h6.cb.fr mv.fr (fun hk=>by have:=hrm _ hk;omega),h6.u.fr mv.fr (fun hk=>by have:=hrm _ hk;omega)⟩
 have hst:Fr (fun i=>i=cb) w7 (w7.setCell ⟨cb,p,none⟩ (.slice A7 (j+1) c7)):=(Fr.refl (fun i=>i=cb) w7).setCell (p:=⟨cb,p,none⟩) (.inl rfl) _;refine⟨⟨by rw[h7a.cb.cell p,hp],h7a.cb.frozen p⟩,h7a.set_ p _,?_,?_⟩
 ·have e:zbg (bl++[v])=zbg bl++[.int .i64 v]:=by unfold zbg;rw[List.map_append];rfl
  rw[e];exact zaf h7 hst (fun k hk e=>zad h7 h7a.cb (by decide) (by rw[← e];exact hk))
 ·exact ((((f6.mono (G:=fun i=>(i=g∨i=cb)∨zaE (.slice B j bc) i) (fun k hk=>.inl (.inl (.inl hk)))).alloc o).trans mv.fr (fun k hk=>.inl (.inr hk))).trans hst (fun k hk=>.inl (.inl (.inr hk))))
end
theorem zpZ(t:ByteArray):((zaY t).1=0∧zb_ (zaY t).2.1 (zaY t).2.2∧(zaY t).2.1.size≤maxLen)∨((zaY t).1≠0∧(zaY t).2=(ByteArray.empty,[])):=by
 by_cases h:(zaY t).1=0
 ·exact .inl ⟨h,zkv t h⟩
 ·refine .inr ⟨h,?_⟩
  revert h
  unfold zaY;obtain⟨e,a,nm,l⟩:=zbS t;simp only
  by_cases he:e=0
  ·rw[if_pos he]
   by_cases hc:zak nm l=true
   ·rw[if_pos hc]
    intro h;exact absurd rfl h
   ·rw[if_neg hc]
    intro _
    rfl
  ·rw[if_neg he]
   intro _
   rfl
theorem zgs{t nm:ByteArray}{e:Int}{l:List za_}(h:zaY t=(e,nm,l)):nm.size≤maxLen∧(∀ t∈l,t.wf)∧l.length≤5:=by
 rcases zpZ t with ⟨_,p,hs⟩ | ⟨_,h2⟩
 ·rw[h] at p hs
  exact⟨hs,p.wf,p.five⟩
 ·rw[h] at h2
  dsimp only at h2
  injection h2 with h1 h2
  subst h1 h2;exact⟨Nat.zero_le _,fun t ht=>(by cases ht),Nat.zero_le _⟩
theorem zmA{t nm:ByteArray}{e1 e:Int}{l:List za_}(h:zom e1 t=(e,nm,l)):nm.size≤maxLen∧(∀ t∈l,t.wf)∧l.length≤5:=by
 unfold zom at h
 split at h
 ·injection h with _ h
  injection h with h1 h2
  subst h1 h2;exact⟨Nat.zero_le _,fun t ht=>(by cases ht),Nat.zero_le _⟩
 ·exact zgs h
end Go.Proofs.YtjhhodndlkpmhaaGreatDoor
