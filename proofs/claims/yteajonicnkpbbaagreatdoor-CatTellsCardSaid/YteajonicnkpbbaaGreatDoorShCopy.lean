/- Walk of shadow: Copy. -/
import Derived.Test.YteajonicnkpbbaaGreatDoorShStep
import Derived.Test.YteajonicnkpbbaaGreatDoorShBegin
import Derived.Test.YteajonicnkpbbaaGreatDoorCatP
namespace Go.Proofs.YteajonicnkpbbaaGreatDoor
set_option linter.all false
set_option maxHeartbeats 8000000
set_option maxRecDepth 100000
open Go.RowKit Tryz
theorem zeL.setTab{w : World}{t base : Nat}{X : ShX}{A B : Option Addr}{c d ct gr : Nat}{tb : List (Nat × Nat)}(h : zeL w t base X A c B d (some ⟨gr, 0, none⟩) ct tb){k g b : Nat}{x : zaa}{l' : List zah}(hk : k < X.tiers.length)(hx : X.tiers[k]? = some x)(ht : zbp w g x.every b l')(hg : base ≤ g)(hb : base ≤ b)(hnew : ∀ q ∈ tb, q.2 ≠ b) :
    zeL (w.setCell ⟨gr,k,none⟩ (.pointer (some ⟨g,0,none⟩))) t base {X with tabs:=X.tabs.set k l'} A c B d (some ⟨gr,0,none⟩) ct (tb.set k (g,b)):=by
  have f:Fr (fun j=>j=gr) w (w.setCell ⟨gr,k,none⟩ (.pointer (some ⟨g,0,none⟩))):=(Fr.refl (fun j=>j=gr) w).setCell (p:=⟨gr,k,none⟩) (.inl rfl) _;obtain⟨cs,hB⟩:=zjM h.row;have hoff:∀ {e:TypeId} {size n base':Nat} {v:Value} {xs:List Value},w.ownsRow base' e size v n xs→e≠208→∀ j,zag v j→¬ j=gr:=fun ho hne j hj e=>zac ho hB hne (by rw[← e];exact hj)
  have htab:∀ {g' b':Nat} {e:Int} {m:List zah},zbp w g' e b' m→zbp (w.setCell ⟨gr,k,none⟩ (.pointer (some ⟨g,0,none⟩))) g' e b' m:=fun {g' b' e m} hT=>by
    refine hT.fr f (zc6 hT.blk hB (by decide)) (fun e'=>?_);obtain⟨es,ck,hbm⟩:=hT.own.isMap;have hb0:w.heap[gr]? =some (Obj.cells cs _ (0,0)):=hB;rw[← e',hbm] at hb0
    cases hb0
  have hlen:=h.len;refine⟨h.blk.fr f (zc6 h.blk hB (by decide)),zad h.tiers f (hoff h.tiers (by decide)),zad h.srcs f (hoff h.srcs (by decide)),?_,by rw[List.length_set];exact h.tlen,fun i p y m h1 h2 h3=>?_,?_,fun p hp=>?_,h.tge⟩
  · have e:zfC (tb.set k (g,b))=(zfC tb).set k (.pointer (some ⟨g,0,none⟩)):=by unfold zfC;rw[List.map_set]
    rw[e];exact zom h.row
  · by_cases e:i=k
    · subst e
      rw[List.getElem?_set_self (by rw[hlen];exact hk)] at h1
      cases h1
      rw[hx] at h2
      cases h2
      have h3':(X.tabs.set i l')[i]? =some m:=h3;rw[List.getElem?_set_self (by rw[h.tlen];exact hk)] at h3'
      cases h3'
      exact htab ht
    · rw[List.getElem?_set_ne (fun e'=>e e'.symm)] at h1
      have h3':(X.tabs.set k l')[i]? =some m:=h3;rw[List.getElem?_set_ne (fun e'=>e e'.symm)] at h3';exact htab (h.tab i p y m h1 h2 h3')
  · rw[List.map_set]
    refine zmO h.nodup (fun hm=>?_);obtain⟨q,hq,e⟩:=List.mem_map.1 hm;exact hnew q hq e
  · rcases List.mem_or_eq_of_mem_set hp with hp | rfl
    · exact h.ge p hp
    · exact⟨hg,hb⟩
theorem zmw(t base : Nat)(X : ShX)(F : Nat → Prop)(w : World)(h : zhR w t base X F)(hn1 : 0 < X.tiers.length)(hn : X.tiers.length ≤ 1000)(hm : X.srcs.length ≤ 1000)(hs8 : ∀ t ∈ X.tiers, t.shards ≤ 8)(hev : ∀ t ∈ X.tiers, 1 ≤ t.every)(hb0 : 0 ≤ X.bound)(hst : 0 < zb1 X.tiers) :
    Calls prog 109 #[.pointer (some ⟨t,0,none⟩)] w fun r w'=>(∃ o F',r=.returned (.pointer (some ⟨o,0,none⟩))∧zhR w' o w.heap.size X F')∧Below w.heap.size w w':=by
  obtain⟨A,c,B,d,T,ct,tb,hi,_⟩:=h
  obtain⟨n,hn0⟩:∃ n,X.tiers.length=n:=⟨_,rfl⟩
  obtain⟨m,hm0⟩:∃ m,X.srcs.length=m:=⟨_,rfl⟩
  have hn9:n≤1000:=by rw[← hn0];exact hn
  have HI:=q0_ hi;have Hn0:=q0_ hn0;have Hm0:=q0_ hm0
  have HCt:Hid (∀ W,Fr (fun _=>False) w W→W.cell? ⟨t,0,none⟩=some (.string X.name)∧W.cell? ⟨t,1,none⟩=some (.slice A n c)∧W.cell? ⟨t,2,none⟩=some (.slice B m d)∧W.cell? ⟨t,3,none⟩=some (.int .i64 X.bound)∧W.cell? ⟨t,4,none⟩=some (.int .i64 X.done)∧W.cell? ⟨t,5,none⟩=some (.slice T n ct)):=fun W f=>by
    obtain⟨c0,c1,c2,c3,c4,c5⟩:=HI.out.cells f (fun h=>h);rw[Hn0.out] at c1 c5;rw[Hm0.out] at c2;exact⟨c0,c1,c2,c3,c4,c5⟩
  have HRe:Hid (∀ W,Fr (fun _=>False) w W→Calls prog 155 #[.agg #[.string X.name,.slice A n c,.slice B m d],.int .i64 X.bound,.int .i64 0] W fun r w'=>(∃ o,r=.returned (.tuple #[.pointer (some ⟨o,0,none⟩),.int .i64 0])∧zip w' o w.heap.size ⟨X.name,X.tiers,X.srcs,X.bound,0,X.tiers.map fun _=>[]⟩)∧Below W.heap.size W w'):=fun W f=>by
    have q1:=(zdb (HI.out.fr0 f).tiers).2.2.1;have q2:=(zdb (HI.out.fr0 f).srcs).2.2.1;rw[Hn0.out] at q1;rw[Hm0.out] at q2;refine (zll X.name X.tiers A n c X.srcs B m d X.bound 0 W q1 (by omega) hs8 hev q2 (by omega)).mono ?_;rintro r w' ⟨⟨h3,_⟩,hb⟩;obtain⟨o,h4,h5⟩:=h3 ⟨by omega,hb0,by omega,by omega⟩;exact⟨⟨o,h4,h5.down f.size⟩,hb⟩
  have hsX:zdM n (fun j=>X.tabs.getD j []) (fun _=>[]) 0=X.tiers.map fun _=>[]:=by
    rw[zk3]
    apply List.ext_getElem?
    intro i;rw[List.getElem?_map,List.getElem?_map]
    by_cases hii:i<n
    · rw[List.getElem?_range hii,q6_ (by omega)];rfl
    · rw[List.getElem?_eq_none (by simpa using hii),List.getElem?_eq_none (by omega)];rfl
  have HsX:=q0_ hsX
  have HeX:Hid (zdM n (fun j=>X.tabs.getD j []) (fun _=>[]) n=X.tabs):=by show _=_;rw[zma];exact zoB (by rw[hi.tlen,hn0])
  have htn:t<w.heap.size:=hi.blk.lt;obtain⟨adT,hadT,hcr⟩:=(zdb hi.row).2.2.1.2 (show 0<X.tiers.length by omega);subst hadT;have Hcr:=q0_ hcr;clear hi hn0 hm0 hsX hcr;go_enter func109,ntmps109;go_wp2_with fail;refine wp_region_held_drew (S:=fun W_=>Fr (fun _=>False) w W_) (by kernel_rfl) ((Fr.refl _ w).drew) (fun hY_=>?_);refine tq 8 [0,1,2,3,4,5,6,7] ?_
  iterate 7 refine sf HCt.out ?_
  refine sf HCt.out ?_
  try simp only[Act.put,sA,sB,sC]
  refine sz ?_
  try simp only[Act.put,sA,sB,sC]
  refine rl 8 rfl (fun K hK=>?_);go_simp
  go_wp2_with (go_at_call 155;refine (HRe.out _ hY_).mono ?_;rintro r w1 ⟨⟨o,rfl,ho⟩,b1⟩)
  have ho:=q0_ ho;refine hK.out _ _ (hY_.trans (Fr.b0 b1) q4_) (fun hY_=>?_);clear hK K;refine tq 5 [9,10,11,12,13] ?_
  iterate 4 refine sf HCt.out ?_
  refine sf HCt.out ?_
  try simp only[Act.put,sA,sB,sC]
  refine sz ?_
  try simp only[Act.put,sA,sB,sC]
  refine wpAnyH_done (by kernel_rfl) ?_ _;have F1:=q0_ hY_;obtain⟨A2,c2,B2,d2,T2,ct2,tb2,hO⟩:=ho.out;have H1:=q0_ hO
  have hO2:zeL (w1.setCell ⟨o,4,none⟩ (.int .i64 X.done)) o w.heap.size {X with tabs:=zdM n (fun j=>X.tabs.getD j []) (fun _=>[]) 0} A2 c2 B2 d2 T2 ct2 tb2:=by
    have:=hO.setDone X.done;rw[HsX.out];exact this
  have fD:Fr (fun i=>i=o) w1 (w1.setCell ⟨o,4,none⟩ (.int .i64 X.done)):=(Fr.refl (fun i=>i=o) w1).setCell (p:=⟨o,4,none⟩) (.inl rfl) _;have hog:w.heap.size≤o:=hO.tge;have F2:Hid (Fr (fun _=>False) w (w1.setCell ⟨o,4,none⟩ (.int .i64 X.done))):=F1.out.trans fD (fun i hi=>.inr (by omega));have H2:=q0_ hO2;have z4:=hO.blk.cell 4;have zf:=hO.blk.frozen 4;obtain⟨_,_,_,_,k4,_⟩:=HCt.out w1 F1.out;have k5:=(HCt.out _ F2.out).2.2.2.2.2;simp only[q1_,q2_,q3_] at z4;have hoT2:∃ gr,T2=some ⟨gr,0,none⟩:=zcH hO.row (show 0<X.tiers.length by omega);obtain⟨gr,rfl⟩:=hoT2;clear hY_ b1 ho hO hO2 fD;go_wp2_with fail
  go_loopw [33,5,6] (fun i _ _ wr=>∃ (k:Nat) (tbk:List (Nat×Nat)),k≤n∧i=.int .i64 k∧zeL wr o w.heap.size {X with tabs:=zdM n (fun j=>X.tabs.getD j []) (fun _=>[]) k} A2 c2 B2 d2 (some ⟨gr,0,none⟩) ct2 tbk∧Fr (fun _=>False) w wr) (fun i _ _ _=>n-(intOf i).toNat)
  case atStart=>exact⟨0,tb2,Nat.zero_le _,rfl,H2.out,F2.out⟩
  case round=>
    obtain⟨k,tbk,hk,rfl,hS,hf⟩:=hrel;have HS:=q0_ hS;have Hf:=q0_ hf;clear hS hf
    by_cases hlt:k<n
    · obtain⟨g,b,x,L,t1,t2,t3,hT⟩:=(HI.out.fr0 Hf.out).tabAt (k:=k) (by rw[Hn0.out];exact hlt)
      have hLk:X.tabs.getD k []=L:=by rw[List.getD_eq_getElem?_getD,t3];rfl
      have pk:=Hf.out.cell (Hcr.out k _ (zkt t1)) (fun h=>h)
      try simp only at pk
      have HTc:Hid (∀ W,Fr (fun _=>False) wr W→Calls prog 143 #[.pointer (some ⟨g,0,none⟩)] W fun r w'=>(∃ g' b',r=.returned (.pointer (some ⟨g',0,none⟩))∧zbp w' g' x.every b' L∧W.heap.size≤g'∧W.heap.size≤b')∧Below W.heap.size W w'):=fun W f=>zfM g x.every b L W (hT.fr0 f)
      have kn:0≤(k:Int)∧(k:Int)<(n:Int):=by omega
      have g0:decide ((k:Int)<(n:Int))=true:=qa_ (by omega)
      have hqw:IntKind.i64.wrap ((k:Int)+1)=(k:Int)+1:=by simp[IntKind.wrap,IntKind.signed,IntKind.bits];omega
      obtain⟨csr,hcsr⟩:=zjM HS.out.row
      have Hgr:Hid (∀ W,Fr (fun _=>False) wr W→W.cell? ⟨gr,k,none⟩=some (csr.getD k undef)∧W.frozen? ⟨gr,k,none⟩=false):=fun W f=>by
        have hB:=hcsr.fr f (fun h=>h);have hlen:=zpm HS.out.row hcsr;refine⟨?_,hB.frozen k⟩
        rw [hB.cell k, Array.getD_eq_getD_getElem?, Array.getElem?_eq_getElem (by have hX : k < X.tiers.length := by rw [Hn0.out]; exact hlt
                                                                                  have:X.tiers.length≤csr.size:=hlen
                                                                                  omega)]
        rfl
      have H5:Hid (∀ W,Fr (fun i=>i=gr) wr W→W.cell? ⟨o,5,none⟩=some (.slice (some ⟨gr,0,none⟩) n ct2)):=fun W f=>by
        have h:=(HS.out.cells f (fun e=>by subst e;exact zac HS.out.row HS.out.blk (by decide) rfl)).2.2.2.2.2;have e:({X with tabs:=zdM n (fun j=>X.tabs.getD j []) (fun _=>[]) k}:ShX).tiers.length=n:=Hn0.out;rw[e] at h;exact h
      have HZ:Hid (∀ W g' b',Fr (fun _=>False) wr W→zbp W g' x.every b' L→wr.heap.size≤g'→wr.heap.size≤b'→zeL (W.setCell ⟨gr,k,none⟩ (.pointer (some ⟨g',0,none⟩))) o w.heap.size {X with tabs:=zdM n (fun j=>X.tabs.getD j []) (fun _=>[]) (k+1)} A2 c2 B2 d2 (some ⟨gr,0,none⟩) ct2 (tbk.set k (g',b'))∧Fr (fun _=>False) w (W.setCell ⟨gr,k,none⟩ (.pointer (some ⟨g',0,none⟩)))):=fun W g' b' f hTn hg hb=>by
        have q:=(HS.out.fr0 f).setTab (k:=k) (g:=g') (b:=b') (x:=x) (l':=L) (by show _<X.tiers.length;rw[Hn0.out];exact hlt) t2 hTn (Nat.le_trans Hf.out.size hg) (Nat.le_trans Hf.out.size hb) (fun q hq=>by have:=(HS.out.map_ ⟨q,hq,rfl⟩).2.1;omega);simp only at q;have e:=zl9 (n:=n) (f:=fun j=>X.tabs.getD j []) (g:=fun _=>([]:List zah)) (i:=k) hlt
        try simp only at e
        rw[hLk] at e;rw[e] at q;exact⟨q,(Hf.out.trans f q4_).trans ((Fr.refl (fun i=>i=gr) W).setCell (p:=⟨gr,k,none⟩) (.inl rfl) _) (fun i hi=>.inr (by rw[hi];exact (HS.out.row.lt gr rfl).1))⟩
      clear t1 t2 t3 hT hLk hcsr z4 zf k4 k5;have k5:=(HCt.out _ Hf.out).2.2.2.2.2;go_wp2_with fail;refine wp_region_held_drew (S:=fun W_=>Fr (fun i=>i=gr) wr W_) (by kernel_rfl) ((Fr.refl _ wr).drew) (fun hY_=>?_);refine tq 6 [0,1,2,3,4,5] ?_
      iterate 5 refine sf H5.out ?_
      refine sk ?_
      try simp only[Act.put,sA,sB,sC]
      refine sz ?_
      try simp only[Act.put,sA,sB,sC]
      refine rl 6 rfl (fun K hK=>?_);go_simp
      go_wp2_with (go_at_call 143;refine (HTc.out _ (Fr.refl _ wr).drew).mono ?_;rintro r w6 ⟨⟨gn,bn,rfl,hTn,hgn,hbn⟩,b6⟩)
      have Q6:=q0_ (HZ.out w6 gn bn ((Fr.refl _ wr).drew.trans (Fr.b0 b6) q4_) hTn hgn hbn);obtain⟨y1,y2⟩:=Hgr.out w6 ((Fr.refl _ wr).drew.trans (Fr.b0 b6) q4_);refine hK.out _ _ (hY_.trans (Fr.b0 b6) q4_) (fun hY_=>?_);clear hK K;refine tl 7 ?v20 rfl ?q20 ?r20
      case q20=>intro W hSw;(try have q5:=H5.out W hSw);go_simp;try rfl
      try simp only[Act.put,sA,sB,sC]
      refine rl 8 rfl (fun K hK=>?_);go_simp;refine hK.out _ _ (hY_.setCell (.inl rfl) _) (fun hY_=>?_);clear hK K
      try simp only[Act.put,sA,sB,sC]
      refine wpAnyH_done (by kernel_rfl) ?_ _;clear hY_ b6 hTn;go_wp2
      go_roundw
      case rel=>exact⟨k+1,_,by omega,by go_num,Q6.out.1,Q6.out.2⟩
      case measure=>simp[intOf];omega
    · obtain rfl:k=n:=by omega
      have g0:decide ((k:Int)<(k:Int))=false:=q9_ (by omega);rw[HeX.out] at HS;clear z4 zf k4 k5;go_wp2;go_ret;exact⟨⟨o,_,rfl,_,_,_,_,_,_,_,HS.out,rfl⟩,Hf.out.below q4_⟩
theorem zow:(prog.info? 56).map (fun i=>(i.zero,i.size,i.bytes))=some (some (.agg #[.int .u64 0,.int .i64 0,.int .i64 0,.int .i64 0,.int .i64 0,.slice none 0 0]),6,64):=by kernel_rfl
section
variable {W:World} {g:Nat} {s s':RS}
theorem zeO{v:Int}(e:zcA s=(s',v))(h:UQ W g s):Calls prog 51 #[.pointer (some ⟨g,0,none⟩)] W fun r w'=>r=.returned (.int .u64 v)∧UQ w' g s'∧Fr (fun k=>k=g) W w':=by
  have:=zo7 h;rwa[e] at this
theorem zdr{v:Int}(e:ze_ s=(s',v))(h:UQ W g s):Calls prog 52 #[.pointer (some ⟨g,0,none⟩)] W fun r w'=>r=.returned (.int .i64 v)∧UQ w' g s'∧Fr (fun k=>k=g) W w':=by
  have:=zpR h;rwa[e] at this
theorem zbz{k v:Int}(e:zaB k s=(s',v))(h:UQ W g s):Calls prog 56 #[.pointer (some ⟨g,0,none⟩),.int .i64 k] W fun r w'=>r=.returned (.int .i64 v)∧UQ w' g s'∧Fr (fun k=>k=g) W w':=by
  have:=znW k h;rwa[e] at this
theorem zgW{v:ByteArray}(e:zdp s=(s',v))(h:UQ W g s):Calls prog 54 #[.pointer (some ⟨g,0,none⟩)] W fun r w'=>r=.returned (.string v)∧UQ w' g s'∧Fr (fun k=>k=g) W w':=by
  have:=zo8 h;rwa[e] at this
theorem zpj{sa sb sc sd : RS}{id tier shard : Int}{n : Nat}(ha : zcA s = (sa, id))(hb : zaB 1 sa = (sb, tier))(hc : zaB 1 sb = (sc, shard))(hd : zaB 2 sc = (sd, (n : Int))) :
    zjm s=((za4 (zaB 2) n sd).1,⟨id,tier,shard,0,n,(za4 (zaB 2) n sd).2⟩):=by
  unfold zjm;rw[zaW ha,zaW hb,zaW hc,zaW hd]
  rfl
end
def zeK(wr W:World)(g xb:Nat)(id tier shard:Int)(of_:Nat)(t:RS)(B:Option Addr)(j bc:Nat)(bl:List Int):Prop:=
  Blk W xb 56 #[.int .u64 id,.int .i64 tier,.int .i64 shard,.int .i64 0,.int .i64 of_,.slice B j bc]∧W.ownsRow wr.heap.size 3 1 (.slice B j bc) j (za6 bl)∧UQ W g t∧Fr (fun i=>i=g) wr W
section
variable {w wr wq w6 w7:World} {g xb:Nat} {id tier shard:Int} {of_:Nat} {t t':RS} {B:Option Addr} {j bc:Nat} {bl:List Int}
theorem zeK.first(hb : Blk wq xb 56 #[.int .u64 id, .int .i64 tier, .int .i64 shard, .int .i64 0, .int .i64 0, .slice none 0 0])(hu : UQ wq g t)(f : Fr (fun i => i = g) wr wq)(hg : g < wr.heap.size ∧ wr.heap.size ≤ xb)(hgx : g ≠ xb)(of_ : Nat) :
    zeK wr (wq.setCell ⟨xb,4,none⟩ (.int .i64 of_)) g xb id tier shard of_ t none 0 0 []:=by
  refine⟨?_,World.ownsRow_nil _ _ _ _,hu.fr (F:=fun i=>i=xb) ((Fr.refl (fun i=>i=xb) wq).setCell (p:=⟨xb,4,none⟩) (.inl rfl) _) hgx,f.setCell (p:=⟨xb,4,none⟩) (.inr hg.2) _⟩;have:=hb.set_ 4 (.int .i64 of_);simpa using this
theorem zeK.grow{A7 : Option Addr}{c7 : Nat}{v : Int}{o : Obj}(h : zeK wr wq g xb id tier shard of_ t B j bc bl)(hgx : g ≠ xb)(hg : g < wr.heap.size ∧ wr.heap.size ≤ xb)(hu : UQ w6 g t')(f6 : Fr (fun i => i = g) wq w6)
    (h7:w7.ownsRow wr.heap.size 3 1 (.slice A7 (j+1) c7) (j+1) (za6 bl++[.int .i64 v])) (mv:Mv (zag (.slice B j bc)) (zag (.slice A7 (j+1) c7)) (w6.alloc o) w7):
    (w7.cell? ⟨xb,5,none⟩=some (.slice B j bc)∧w7.frozen? ⟨xb,5,none⟩=false)∧zeK wr (w7.setCell ⟨xb,5,none⟩ (.slice A7 (j+1) c7)) g xb id tier shard of_ t' A7 (j+1) c7 (bl++[v]):=by
  obtain⟨b,r,u,f⟩:=h
  have hrg:∀ k,zag (.slice B j bc) k→k≠g:=fun k hk e=>by have:=(r.lt k hk).1;omega
  have fa:Fr (fun i=>i=g) wq (w6.alloc o):=f6.alloc o;have b6:Blk (w6.alloc o) xb 56 #[.int .u64 id,.int .i64 tier,.int .i64 shard,.int .i64 0,.int .i64 of_,.slice B j bc]:=b.fr fa (fun e=>hgx e.symm);have r6:=zad r fa (fun k hk e=>hrg k hk e);have hrx:∀ k,zag (.slice B j bc) k→k≠xb:=fun k hk e=>zac r6 b6 (by decide) (by rw[← e];exact hk);have b7:=b6.fr mv.fr (fun hk=>hrx xb hk rfl);have u7:UQ w7 g t':=(hu.fr0 (Fr.none_alloc _ o)).fr mv.fr (fun hk=>hrg g hk rfl);have f7:Fr (fun i=>i=g) wr w7:=(f.trans fa (fun _ h=>.inl h)).trans mv.fr (fun k hk=>.inr (r.lt k hk).1);have hst:Fr (fun i=>i=xb) w7 (w7.setCell ⟨xb,5,none⟩ (.slice A7 (j+1) c7)):=(Fr.refl (fun i=>i=xb) w7).setCell (p:=⟨xb,5,none⟩) (.inl rfl) _;refine⟨⟨b7.cell 5,b7.frozen 5⟩,?_,?_,u7.fr hst hgx,f7.setCell (p:=⟨xb,5,none⟩) (.inr hg.2) _⟩
  · have:=b7.set_ 5 (.slice A7 (j+1) c7)
    simpa using this
  · have e:za6 (bl++[v])=za6 bl++[.int .i64 v]:=by unfold za6;rw[List.map_append];rfl
    rw[e];exact zad h7 hst (fun k hk e=>zac h7 b7 (by decide) (by rw[← e];exact hk))
theorem zeK.done{O2 : RS × List Int}{s' : RS}(h : zeK wr wq g xb id tier shard of_ t B j bc bl)(hbl : bl.length = j)(hwf : ∀ y ∈ bl, zbT y)(hre : zjm s' = (O2.1, ⟨id, tier, shard, 0, of_, O2.2⟩))(hO : O2 = (t, bl))
    (v1:0≤id∧id<18446744073709551616) (v2:0≤tier∧tier<256) (v3:0≤shard∧shard<256) (v4:of_<65536):
    zjm s'=(t,za5.p ⟨id,tier,shard,0,of_,B,j,bc,bl⟩)∧
    ∀ {L:List za5} {A:Option Addr} {k c:Nat},za1 wq w.heap.size L A k c→Fr (fun i=>i=g) w wr→za1 wr w.heap.size L A k c→g<w.heap.size→w.heap.size≤wr.heap.size→(g<wr.heap.size∧wr.heap.size≤xb)→
      ∀ (o:Obj) (A7:Option Addr) (c7:Nat) (w7:World),w7.ownsRow w.heap.size 56 6 (.slice A7 (k+1) c7) (k+1) (zbN L++[.int .u64 id,.int .i64 tier,.int .i64 shard,.int .i64 0,.int .i64 of_,.slice B j bc])→Mv (zag (.slice A k c)) (zag (.slice A7 (k+1) c7)) (wq.alloc o) w7→
        za1 w7 w.heap.size (L++[⟨id,tier,shard,0,of_,B,j,bc,bl⟩]) A7 (k+1) c7∧UQ w7 g t∧Fr (fun i=>i=g) w w7:=by
  obtain⟨b,r,u,f⟩:=h;refine⟨by rw[hre,hO];rfl,fun {L A k c} hq fw hL hgl hlo hg o A7 c7 w7 h7 mv=>?_⟩;have fa:Fr (fun _=>False) wq (wq.alloc o):=Fr.none_alloc _ _;obtain⟨_,_,e,hjc,hcm,hrd⟩:=zam (za_ r fa)
  injection e with e1 e2 e3
  subst e1 e3;refine⟨(hq.fr0 fa).snoc hlo (fun y hy k hk=>((hL.own y hy).lt k hk).2) (za_ r fa) ⟨v1,⟨by show _≤tier;omega,by show tier≤_;omega⟩,⟨by show _≤shard;omega,by show shard≤_;omega⟩,⟨show (-9223372036854775808:Int)≤0 by decide,show (0:Int)≤9223372036854775807 by decide⟩,⟨by show _≤(of_:Int);omega,by show (of_:Int)≤_;omega⟩,hrd,hbl,hjc,hcm,hwf⟩ h7 mv,?_,?_⟩
  · exact (u.fr0 fa).fr mv.fr (fun hk=>by have:=(hq.row.lt g hk).1;omega)
  · exact ((fw.trans f (fun _ h=>.inl h)).trans fa q4_).trans mv.fr (fun k hk=>.inr (hq.row.lt k hk).1)
end
theorem zjg(g : Nat)(s : RS)(w : World)(h : UQ w g s) :
    Calls prog 57 #[.pointer (some ⟨g,0,none⟩)] w fun r w'=>∃ (es:List za5) (A:Option Addr) (n c:Nat),r=.returned (.slice A n c)∧za1 w' w.heap.size es A n c∧es.length=n∧es.map za5.p=(zeW s).2∧UQ w' g (zeW s).1∧Fr (fun j=>j=g) w w':=by
  have HU0:=q0_ h;have Hgl:Hid (g<w.heap.size):=h.1.lt
  obtain⟨⟨s1,ni⟩,hs⟩:∃ p,zaB 2 s=p:=⟨_,rfl⟩
  have hv:=zd7 s;rw[hs] at hv;dsimp only at hv
  obtain⟨N,rfl⟩:∃ n:Nat,ni=n:=⟨ni.toNat,by omega⟩
  have HS:=q0_ hs
  obtain⟨O,hO⟩:∃ o,zeW s=o:=⟨_,rfl⟩
  have HO0:Hid (WAt zjm O N s1 []):=by
    show WAt _ _ _ _ _
    rw[← hO];unfold zeW;rw[zaW hs];exact WAt.start
  rw[hO];clear hs h hO;obtain⟨i0,hi,hz0,hz1,hz2⟩:=info_parts zcL;obtain⟨j0,hjj,hy0,hy1,hy2⟩:=info_parts zow;go_enter func57,ntmps57;go_wp2_with fail;refine (zbz HS.out HU0.out).mono ?_;rintro r w1 ⟨rfl,u1,f1⟩;have U1:=q0_ u1;have F1:=q0_ f1;clear u1 f1;go_wp2_with fail
  go_loopw [3,4] (fun o i wr=>∃ (m:Nat) (L:List za5) (A:Option Addr) (k c:Nat) (s':RS),i=.int .i64 m∧m≤65535∧k+m≤65535∧o=.slice A k c∧L.length=k∧Hid (za1 wr w.heap.size L A k c)∧Hid (UQ wr g s')∧Hid (Fr (fun j=>j=g) w wr)∧Hid (WAt zjm O m s' (L.map za5.p))) (fun _ i _=>(intOf i).toNat)
  case atStart=>exact⟨N,[],none,0,0,s1,rfl,by omega,by omega,rfl,rfl,za1.nil _ _,U1.out,F1.out,HO0.out⟩
  case round=>
    obtain⟨wo,hwo⟩:∃ W,W=wr:=⟨_,rfl⟩
    rw[← hwo] at hrel ⊢;clear hwo;obtain⟨m,L,A,k,c,s',rfl,hm,hkm,rfl,hll,hL,hU,hF,hat⟩:=hrel;have HL:=q0_ hL.out;have HU:=q0_ hU.out;have Hfr:=q0_ hF.out;have Hat0:=q0_ hat.out;have Hll:=q0_ hll;have Hsz:Hid (w.heap.size≤wo.heap.size):=hF.out.size;clear hL hU hF hat hll
    rcases m with _ | m
    · have HO:=q0_ Hat0.out.end_
      go_wp2;go_ret;exact⟨L,A,k,c,rfl,HL.out,Hll.out,by rw[HO.out],by rw[HO.out];exact HU.out,Hfr.out⟩
    · have hm0:(0:Int)<((m+1:Nat):Int):=by omega
      by_cases he:s'.e=0
      rotate_left
      · have he2:(s'.e==0)=false:=by simpa using he
        have HO:=q0_ (Hat0.out.stop he);go_wp2_with fail;refine (zfa HU.out).mono ?_;rintro r w5 ⟨rfl,rfl⟩;go_wp2;go_ret;exact⟨L,A,k,c,rfl,HL.out,Hll.out,by rw[HO.out],by rw[HO.out];exact HU.out,Hfr.out⟩
      · have he2:(s'.e==0)=true:=by simpa using he
        have He0:=q0_ he
        obtain⟨⟨sa,id⟩,ha⟩:∃ p,zcA s'=p:=⟨_,rfl⟩
        obtain⟨⟨sb,tier⟩,hb⟩:∃ p,zaB 1 sa=p:=⟨_,rfl⟩
        obtain⟨⟨sc,shard⟩,hc⟩:∃ p,zaB 1 sb=p:=⟨_,rfl⟩
        obtain⟨⟨sd,ofi⟩,hd⟩:∃ p,zaB 2 sc=p:=⟨_,rfl⟩
        have v1:=zfX s';have v2:=zd8 sa;have v3:=zd8 sb;have v4:=zd7 sc;rw[ha] at v1;rw[hb] at v2;rw[hc] at v3;rw[hd] at v4;dsimp only at v1 v2 v3 v4
        obtain⟨of_,rfl⟩:∃ n:Nat,ofi=n:=⟨ofi.toNat,by omega⟩
        have hof:of_<65536:=by omega
        have Hof:=q0_ hof
        obtain⟨O2,hO2⟩:∃ o,za4 (zaB 2) of_ sd=o:=⟨_,rfl⟩
        have HRE:Hid (zjm s'=(O2.1,⟨id,tier,shard,0,of_,O2.2⟩)):=by
          show _=_
          rw[← hO2];exact zpj ha hb hc hd
        have HO2:Hid (WAt (zaB 2) O2 (of_-0) sd []):=by
          show WAt _ _ _ _ _
          rw[← hO2];exact WAt.start
        have HV1:=q0_ v1;have HV2:=q0_ v2;have HV3:=q0_ v3;have HA:=q0_ ha;have HBq:=q0_ hb;have HCq:=q0_ hc;have HDq:=q0_ hd;clear ha hb hc hd v1 v2 v3 v4 hO2 he;have hgr:Hid (g<wo.heap.size):=Nat.lt_of_lt_of_le Hgl.out Hsz.out;go_wp2_with fail;refine (zfa HU.out).mono ?_;rintro r w5 ⟨rfl,rfl⟩;go_wp2_with fail;refine (zeO HA.out HU.out).mono ?_;rintro r w1 ⟨rfl,u1,f1⟩;go_wp2_with fail;refine (zbz HBq.out u1).mono ?_;rintro r w2 ⟨rfl,u2,f2⟩;go_wp2_with fail;refine (zbz HCq.out u2).mono ?_;rintro r w3 ⟨rfl,u3,f3⟩;have F3:Hid (Fr (fun i=>i=g) wo w3):=(f1.trans f2 (fun _ h=>.inl h)).trans f3 (fun _ h=>.inl h);clear f1 f2 f3 u1 u2
        go_upto_region 6 with fail
        obtain⟨W4,hW4⟩:∃ W,W=w3.alloc (.cells #[.int .u64 id,.int .i64 tier,.int .i64 shard,.int .i64 0,.int .i64 0,.slice none 0 0] 56):=⟨_,rfl⟩
        rw[← hW4]
        obtain⟨xb,hxb⟩:∃ x,x=w3.heap.size:=⟨_,rfl⟩
        rw[← hxb]
        have B4:Hid (Blk W4 xb 56 #[.int .u64 id,.int .i64 tier,.int .i64 shard,.int .i64 0,.int .i64 0,.slice none 0 0]):=by show Blk _ _ _ _;rw[hW4,hxb];exact Blk.new _ _ _
        have F4:Hid (Fr (fun i=>i=g) wo W4):=by show Fr _ _ _;rw[hW4];exact F3.out.alloc _
        have U4:Hid (UQ W4 g sc):=by show UQ _ _ _;rw[hW4];exact u3.fr0 (Fr.none_alloc _ _)
        have Hgx:Hid (g≠xb):=by have:=F3.out.size;have:=hgr.out;show _≠_;omega
        have Hg:Hid (g<wo.heap.size∧wo.heap.size≤xb):=⟨hgr.out,by rw[hxb];exact F3.out.size⟩
        clear hW4 hxb u3 F3;go_wp2_with fail;refine (zbz HDq.out U4.out).mono ?_;rintro r w5 ⟨rfl,u5,f5⟩;have B5:=B4.out.fr f5 (fun e=>Hgx.out e.symm);have c4:=B5.cell 4;have z4:=B5.frozen 4;simp only[q1_,q2_,q3_] at c4;have HE5:=q0_ (zeK.first B5 u5 (F4.out.trans f5 (fun _ h=>.inl h)) Hg.out Hgx.out of_);clear u5 f5 B5
        go_upto_region 7 with fail
        obtain⟨W6,hW6⟩:∃ W,W=w5.setCell ⟨xb,4,none⟩ (.int .i64 of_):=⟨_,rfl⟩
        rw[← hW6] at HE5 ⊢;have HE0:=q0_ HE5.out;clear HE5 hW6 c4 z4 B4 F4 U4;go_wp2_with fail
        go_loopw [6] (fun i wq=>∃ (j:Nat) (B:Option Addr) (bc:Nat) (bl:List Int) (t:RS),i=.int .i64 j∧j≤of_∧bl.length=j∧Hid (zeK wo wq g xb id tier shard of_ t B j bc bl)∧Hid (WAt (zaB 2) O2 (of_-j) t bl)∧Hid (∀ y∈bl,zbT y)) (fun i _=>of_-(intOf i).toNat)
        case atStart=>exact⟨0,none,0,[],sd,rfl,Nat.zero_le _,rfl,HE0.out,HO2.out,fun y hy=>(by cases hy)⟩
        case round=>
          obtain⟨wq,hwq⟩:∃ W,W=wr:=⟨_,rfl⟩
          rw[← hwq] at hrel ⊢;clear hwq;obtain⟨j,B,bc,bl,t,rfl,hj,hbl,hq,hat,hwf⟩:=hrel;have Hq:=q0_ hq.out;have Hat:=q0_ hat.out;have Hwf:=q0_ hwf.out;have Hbl:=q0_ hbl;have HC:Hid (∀ W,Fr (fun i=>i=g) wq W→W.cell? ⟨xb,5,none⟩=some (.slice B j bc)):=fun W f=>(Hq.out.1.fr f (fun e=>Hgx.out e.symm)).cell 5;have q4:wq.cell? ⟨xb,4,none⟩=some (.int .i64 of_):=Hq.out.1.cell 4;clear hq hat hwf hbl
          by_cases hlt:j<of_
          · by_cases he:t.e=0
            · have he2:(t.e==0)=true:=by simpa using he
              have He:=q0_ he
              obtain⟨⟨t',v⟩,hsm⟩:∃ p,zaB 2 t=p:=⟨_,rfl⟩
              have hv:zbT v:=by
                have:=zd7 t;rw[hsm] at this;exact⟨by omega,by omega⟩
              have Hv:=q0_ hv;have HSm:=q0_ hsm;have l0:=HC.out wq.drew (Fr.refl _ wq).drew;have HB:=q0_ (zfa Hq.out.2.2.1);clear hsm hv he;go_wp2_with fail;refine HB.out.mono ?_;rintro r w5 ⟨rfl,rfl⟩;clear HB;go_wp2_with fail;refine wp_region_any (by kernel_rfl) ?_;change wpAny _ _ _ _ _ _ _ (World.drew _);refine nl 0 ?v1 rfl ?q1 ?r1
              case q1=>intro W;go_simp;try rfl
              refine nl 2 ?v2 rfl ?q2 ?r2
              case q2=>intro W;go_simp;try rfl
              try simp only[Act.put,sA,sB,sC]
              refine wpAny_ready (rs:=[1,3]) (by kernel_rfl) (by simp) ?_;refine AllReady.cons (dg rfl) (fun K hK=>?_) ?_
              · go_simp
                refine hK _ _ ?_;clear hK K
                try simp only[Act.put,sA,sB,sC]
                refine rn 3 rfl (fun K hK=>?_);go_simp
                go_wp2_with (go_at_call 56;refine (zbz HSm.out (Hq.out.2.2.1.fr0 (Fr.refl _ wq).drew)).mono ?_;rintro r w6 ⟨rfl,u6,f6⟩;have hf6:Fr (fun i=>i=g) wq w6:=(Fr.refl _ wq).drew.trans f6 (fun _ h=>.inl h);have l1:=HC.out w6 hf6;have l1a:=fun o=>HC.out (w6.alloc o) (hf6.alloc o);try dsimp only)
                refine rn 4 rfl (fun K hK=>?_);go_simp;refine hK _ _ ?_;clear hK K
                try simp only[Act.put,sA,sB,sC]
                refine rn 5 rfl (fun K hK=>?_);rw[if_pos (by rfl)];have hr6:=za_ (zad Hq.out.2.1 hf6 (fun k hk e=>by have:=(Hq.out.2.1.lt k hk).1;have:=Hg.out;omega)) (Fr.none_alloc w6 (.cells #[.int .i64 v] 3));refine zaZ _ _ 26 rfl 3 i0 (.int .i64 0) 1 8 underlying26 hi hz0 hz1 hz2 rfl (by decide) (.slice B j bc) j _ rfl wo.heap.size (Nat.le_trans Hq.out.2.2.2.size (hf6.alloc _).size) hr6 (some ⟨w6.heap.size,0,none⟩) 1 1 [.int .i64 v] rfl (Rd.new w6 [.int .i64 v] _ 1 rfl) (by simp[Value.oneCell']) (by unfold maxLen;omega) (by omega) (fun B7 c7 w7 h7 m7 _=>?_);obtain⟨⟨l3,z3⟩,hz⟩:=zeK.grow Hq.out Hgx.out Hg.out u6 hf6 h7 m7;have Hz:=q0_ hz;clear h7 m7 hz hr6;refine hK _ _ ?_;clear hK K;refine nl 6 ?v3 rfl ?q3 ?r3
                case q3=>intro W;go_simp;try rfl
                try simp only[Act.put,sA,sB,sC]
                refine rn 7 rfl (fun K hK=>?_);go_simp;refine hK _ _ ?_;clear hK K
                try simp only[Act.put,sA,sB,sC]
                refine wpAny_done (by kernel_rfl) ?_ _;clear l3 z3 l1 l1a u6 f6 hf6;go_wp2
                go_roundw
                case rel=>exact⟨j+1,B7,c7,bl++[v],t',by go_num,by omega,by rw[q8_,List.length_singleton,Hbl.out],Hz.out,by
                  have h:=Hat.out;rw[show of_-j=(of_-(j+1))+1 by omega] at h;have h2:=WAt.step h He.out;rw[HSm.out] at h2
                  exact h2,by
                  intro y hy
                  rcases List.mem_append.1 hy with hy | hy
                  · exact Hwf.out y hy
                  · rw[List.mem_singleton] at hy
                    rw[hy]
                    exact Hv.out⟩
                case measure=>simp[intOf];omega
              refine AllReady.cons (dg rfl) (fun K hK=>?_) ?_
              · go_simp
                go_wp2_with (go_at_call 56;refine (zbz HSm.out (Hq.out.2.2.1.fr0 (Fr.refl _ wq).drew)).mono ?_;rintro r w6 ⟨rfl,u6,f6⟩;have hf6:Fr (fun i=>i=g) wq w6:=(Fr.refl _ wq).drew.trans f6 (fun _ h=>.inl h);have l1:=HC.out w6 hf6;have l1a:=fun o=>HC.out (w6.alloc o) (hf6.alloc o);try dsimp only)
                try simp only[Act.put,sA,sB,sC]
                refine wpAny_ready (rs:=[1,4]) (by kernel_rfl) (by simp) ?_;refine AllReady.cons (dg rfl) (fun K hK=>?_) ?_
                · go_simp
                  refine hK _ _ ?_;clear hK K
                  try simp only[Act.put,sA,sB,sC]
                  refine rn 4 rfl (fun K hK=>?_);go_simp;refine hK _ _ ?_;clear hK K
                  try simp only[Act.put,sA,sB,sC]
                  refine rn 5 rfl (fun K hK=>?_);rw[if_pos (by rfl)];have hr6:=za_ (zad Hq.out.2.1 hf6 (fun k hk e=>by have:=(Hq.out.2.1.lt k hk).1;have:=Hg.out;omega)) (Fr.none_alloc w6 (.cells #[.int .i64 v] 3));refine zaZ _ _ 26 rfl 3 i0 (.int .i64 0) 1 8 underlying26 hi hz0 hz1 hz2 rfl (by decide) (.slice B j bc) j _ rfl wo.heap.size (Nat.le_trans Hq.out.2.2.2.size (hf6.alloc _).size) hr6 (some ⟨w6.heap.size,0,none⟩) 1 1 [.int .i64 v] rfl (Rd.new w6 [.int .i64 v] _ 1 rfl) (by simp[Value.oneCell']) (by unfold maxLen;omega) (by omega) (fun B7 c7 w7 h7 m7 _=>?_);obtain⟨⟨l3,z3⟩,hz⟩:=zeK.grow Hq.out Hgx.out Hg.out u6 hf6 h7 m7;have Hz:=q0_ hz;clear h7 m7 hz hr6;refine hK _ _ ?_;clear hK K;refine nl 6 ?v4 rfl ?q4 ?r4
                  case q4=>intro W;go_simp;try rfl
                  try simp only[Act.put,sA,sB,sC]
                  refine rn 7 rfl (fun K hK=>?_);go_simp;refine hK _ _ ?_;clear hK K
                  try simp only[Act.put,sA,sB,sC]
                  refine wpAny_done (by kernel_rfl) ?_ _;clear l3 z3 l1 l1a u6 f6 hf6;go_wp2
                  go_roundw
                  case rel=>exact⟨j+1,B7,c7,bl++[v],t',by go_num,by omega,by rw[q8_,List.length_singleton,Hbl.out],Hz.out,by
                    have h:=Hat.out;rw[show of_-j=(of_-(j+1))+1 by omega] at h;have h2:=WAt.step h He.out;rw[HSm.out] at h2
                    exact h2,by
                    intro y hy
                    rcases List.mem_append.1 hy with hy | hy
                    · exact Hwf.out y hy
                    · rw[List.mem_singleton] at hy
                      rw[hy]
                      exact Hv.out⟩
                  case measure=>simp[intOf];omega
                refine AllReady.cons (dg rfl) (fun K hK=>?_) ?_
                · go_simp
                  refine hK _ _ ?_;clear hK K
                  try simp only[Act.put,sA,sB,sC]
                  refine rn 1 rfl (fun K hK=>?_);go_simp;refine hK _ _ ?_;clear hK K
                  try simp only[Act.put,sA,sB,sC]
                  refine rn 5 rfl (fun K hK=>?_);rw[if_pos (by rfl)];have hr6:=za_ (zad Hq.out.2.1 hf6 (fun k hk e=>by have:=(Hq.out.2.1.lt k hk).1;have:=Hg.out;omega)) (Fr.none_alloc w6 (.cells #[.int .i64 v] 3));refine zaZ _ _ 26 rfl 3 i0 (.int .i64 0) 1 8 underlying26 hi hz0 hz1 hz2 rfl (by decide) (.slice B j bc) j _ rfl wo.heap.size (Nat.le_trans Hq.out.2.2.2.size (hf6.alloc _).size) hr6 (some ⟨w6.heap.size,0,none⟩) 1 1 [.int .i64 v] rfl (Rd.new w6 [.int .i64 v] _ 1 rfl) (by simp[Value.oneCell']) (by unfold maxLen;omega) (by omega) (fun B7 c7 w7 h7 m7 _=>?_);obtain⟨⟨l3,z3⟩,hz⟩:=zeK.grow Hq.out Hgx.out Hg.out u6 hf6 h7 m7;have Hz:=q0_ hz;clear h7 m7 hz hr6;refine hK _ _ ?_;clear hK K;refine nl 6 ?v5 rfl ?q5 ?r5
                  case q5=>intro W;go_simp;try rfl
                  try simp only[Act.put,sA,sB,sC]
                  refine rn 7 rfl (fun K hK=>?_);go_simp;refine hK _ _ ?_;clear hK K
                  try simp only[Act.put,sA,sB,sC]
                  refine wpAny_done (by kernel_rfl) ?_ _;clear l3 z3 l1 l1a u6 f6 hf6;go_wp2
                  go_roundw
                  case rel=>exact⟨j+1,B7,c7,bl++[v],t',by go_num,by omega,by rw[q8_,List.length_singleton,Hbl.out],Hz.out,by
                    have h:=Hat.out;rw[show of_-j=(of_-(j+1))+1 by omega] at h;have h2:=WAt.step h He.out;rw[HSm.out] at h2
                    exact h2,by
                    intro y hy
                    rcases List.mem_append.1 hy with hy | hy
                    · exact Hwf.out y hy
                    · rw[List.mem_singleton] at hy
                      rw[hy]
                      exact Hv.out⟩
                  case measure=>simp[intOf];omega
                exact AllReady.nil
              exact AllReady.nil
            · have he2:(t.e==0)=false:=by simpa using he
              have HB:=q0_ (zfa Hq.out.2.2.1);have HO:=q0_ (WAt.stop Hat.out he);clear he;go_wp2_with fail;refine HB.out.mono ?_;rintro r w5 ⟨rfl,rfl⟩;clear HB q4;have HQ2:=q0_ (zeK.done (w:=w) Hq.out Hbl.out Hwf.out HRE.out HO.out HV1.out HV2.out HV3.out Hof.out);have q0:wq.cell? ⟨xb,0,none⟩=some (.int .u64 id):=Hq.out.1.cell 0;have q1:wq.cell? ⟨xb,1,none⟩=some (.int .i64 tier):=Hq.out.1.cell 1;have q2:wq.cell? ⟨xb,2,none⟩=some (.int .i64 shard):=Hq.out.1.cell 2;have q3:wq.cell? ⟨xb,3,none⟩=some (.int .i64 0):=Hq.out.1.cell 3;have q4:wq.cell? ⟨xb,4,none⟩=some (.int .i64 of_):=Hq.out.1.cell 4;have q5:=HC.out wq (Fr.refl _ wq);have Hes:=q0_ (HL.out.fr Hq.out.2.2.2 (fun k hk e=>by have:=(HL.out.row.lt k hk).1;have:=Hgl.out;omega) (fun x hx k hk e=>by have:=((HL.out.own x hx).lt k hk).1;have:=Hgl.out;omega));have hs5:=Hq.out.2.2.2.size;have hs6:=Hsz.out
              go_wp2_with (at_builtin;refine zaq rfl _ _ 27 rfl 56 j0 _ 6 64 underlying27 hjj hy0 hy1 hy2 rfl (by decide) (.slice A k c) k _ rfl w.heap.size (by simp;omega) (za_ Hes.out.row (Fr.none_alloc _ _)) (some ⟨wq.heap.size,0,none⟩) 1 1 [.int .u64 id,.int .i64 tier,.int .i64 shard,.int .i64 0,.int .i64 of_,.slice B j bc] rfl (Rd.newS (by simp) _ _ _ _ rfl) (by simp[Value.oneCell']) ?q1 ?q2 ?_)
              case q1=>unfold maxLen;omega
              case q2=>omega
              intro A7 c7 w7 h7 m7 _;have Hz:=q0_ (HQ2.out.2 Hes.out Hfr.out HL.out Hgl.out Hsz.out Hg.out _ _ _ _ h7 m7);clear q0 q1 q2 q3 q4 q5 h7 m7 hs5 hs6;go_wp2
              go_roundw
              case rel=>exact⟨m,L++[(⟨id,tier,shard,0,of_,B,j,bc,bl⟩:za5)],A7,k+1,c7,t,by go_num,by omega,by omega,rfl,by rw[q8_,List.length_singleton,Hll.out],Hz.out.1,Hz.out.2.1,Hz.out.2.2,by
                have h:=WAt.step Hat0.out He0.out;rw[HQ2.out.1] at h;rw[List.map_append]
                exact h⟩
              case measure=>simp[intOf]
          · obtain rfl:of_=j:=by omega
            have HO:Hid (O2=(t,bl)):=by
              have h:=Hat.out;rw[Nat.sub_self] at h;exact h.end_
            have HQ2:=q0_ (zeK.done (w:=w) Hq.out Hbl.out Hwf.out HRE.out HO.out HV1.out HV2.out HV3.out Hof.out);have q0:wq.cell? ⟨xb,0,none⟩=some (.int .u64 id):=Hq.out.1.cell 0;have q1:wq.cell? ⟨xb,1,none⟩=some (.int .i64 tier):=Hq.out.1.cell 1;have q2:wq.cell? ⟨xb,2,none⟩=some (.int .i64 shard):=Hq.out.1.cell 2;have q3:wq.cell? ⟨xb,3,none⟩=some (.int .i64 0):=Hq.out.1.cell 3;have q5:=HC.out wq (Fr.refl _ wq);have Hes:=q0_ (HL.out.fr Hq.out.2.2.2 (fun k hk e=>by have:=(HL.out.row.lt k hk).1;have:=Hgl.out;omega) (fun x hx k hk e=>by have:=((HL.out.own x hx).lt k hk).1;have:=Hgl.out;omega));have hs5:=Hq.out.2.2.2.size;have hs6:=Hsz.out
            go_wp2_with (at_builtin;refine zaq rfl _ _ 27 rfl 56 j0 _ 6 64 underlying27 hjj hy0 hy1 hy2 rfl (by decide) (.slice A k c) k _ rfl w.heap.size (by simp;omega) (za_ Hes.out.row (Fr.none_alloc _ _)) (some ⟨wq.heap.size,0,none⟩) 1 1 [.int .u64 id,.int .i64 tier,.int .i64 shard,.int .i64 0,.int .i64 of_,.slice B of_ bc] rfl (Rd.newS (by simp) _ _ _ _ rfl) (by simp[Value.oneCell']) ?q1 ?q2 ?_)
            case q1=>unfold maxLen;omega
            case q2=>omega
            intro A7 c7 w7 h7 m7 _;have Hz:=q0_ (HQ2.out.2 Hes.out Hfr.out HL.out Hgl.out Hsz.out Hg.out _ _ _ _ h7 m7);clear q0 q1 q2 q3 q4 q5 h7 m7 hs5 hs6;go_wp2
            go_roundw
            case rel=>exact⟨m,L++[(⟨id,tier,shard,0,of_,B,of_,bc,bl⟩:za5)],A7,k+1,c7,t,by go_num,by omega,by omega,rfl,by rw[q8_,List.length_singleton,Hll.out],Hz.out.1,Hz.out.2.1,Hz.out.2.2,by
              have h:=WAt.step Hat0.out He0.out;rw[HQ2.out.1] at h;rw[List.map_append]
              exact h⟩
            case measure=>simp[intOf]
end Go.Proofs.YteajonicnkpbbaaGreatDoor
