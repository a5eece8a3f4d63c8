/- Walk of shadow: Step that fills. -/
import Derived.Test.YteajonicnkpbbaaGreatDoorShNext
namespace Go.Proofs.YteajonicnkpbbaaGreatDoor
set_option linter.all false
set_option maxHeartbeats 8000000
set_option maxRecDepth 100000
open Go.RowKit Tryz
theorem zdZ{w:World}{a:Addr}{b:Nat}{v:Value}{es:Array MapEntry}{ck:Nat}(hc:w.cell? a=some v)(hb:w.heap[b]? =some (.map es ck)):a.block≠b:=by
 rintro rfl;unfold World.cell? at hc;rw[hb] at hc
 cases hc
theorem zdv.setDone{w:World}{t base:Nat}{X:ShX}{A B T:Option Addr}{c d ct:Nat}{tb:List (Nat×Nat)}(h:zdv w t base X A c B d T ct tb)(v:Int):zdv (w.setCell ⟨t,4,none⟩ (.int .i64 v)) t base {X with done:=v} A c B d T ct tb:=by
 have f:Fr (fun j=>j=t) w (w.setCell ⟨t,4,none⟩ (.int .i64 v)):=(Fr.refl (fun j=>j=t) w).setCell (p:=⟨t,4,none⟩) (.inl rfl) _;have hoff:∀ {e:TypeId} {size n base':Nat} {v:Value} {xs:List Value},w.ownsRow base' e size v n xs→e≠93→∀ j,zay v j→¬ j=t:=fun ho hne j hj e=>zad ho h.blk hne (by rw[← e];exact hj);refine⟨by simpa using h.blk.set_ 4 (.int .i64 v),zah h.tiers f (hoff h.tiers (by decide)),zah h.srcs f (hoff h.srcs (by decide)),zah h.row f (hoff h.row (by decide)),h.tlen,fun i p x l h1 h2 h3=>?_,h.nodup,h.ge,h.tge⟩;have hT:=h.tab i p x l h1 h2 h3;refine hT.fr f (zds hT.blk h.blk (by decide)) (fun e=>?_);obtain⟨es,ck,hbm⟩:=hT.own.isMap;have hb0:w.heap[t]? =some (Obj.cells _ _ (0,0)):=h.blk;rw[← e,hbm] at hb0
 cases hb0
theorem zmw{nm nm2:ByteArray}{l lt:List za_}{fl:List Int}{o:Int}{lo:Nat}{W:World}{t s base:Nat}{X:zac}{S:ShX}{Ft F:Nat→Prop}{cc:Nat}(p:zaO nm l)(p2:zaO nm2 lt)(hnm2:nm2.size≤maxLen)(h:Tio nm l fl lo W t X Ft cc)(hc:cc≤1000000)(hfl:∀ f∈fl,0≤f∧f≤2199023255552)(hs:zcr W s base S F)(h1:S.name=nm2)(h2:S.tiers=lt)(h3:S.srcs=srcs o l fl lt)(hd:i64 S.done)(hl:∀ m∈S.tabs,m.length≤1000000){j:Nat}{y:za_}{k:Int}(hy:lt[j]? =some y)(hat:atV lt S.done=((1,(j:Int),k),true)):
  Calls prog 106 #[.pointer (some ⟨s,0,none⟩),.pointer (some ⟨t,0,none⟩)] W fun r w'=>r=.returned (.tuple #[zaM (1,(j:Int),k),.pointer none,.int .i64 0])∧zcr w' s base {S with done:=S.done+1,tabs:=S.tabs.set j (zbf y.every (zao (inS k y.shards) (S.tabs.getD j [])) (zao (zkr k y.shards) ((zaj X nm2 lt (srcs o l fl lt)).tabs.getD j [])))} F∧Fr F W w':=by
 obtain⟨A,c,B,d,T,ct,tb,hi,rfl⟩:=hs
 obtain⟨n,hn0⟩:∃ n,lt.length=n:=⟨_,rfl⟩
 have hSn:S.tiers.length=n:=by rw[h2,hn0]
 have hSm:S.srcs.length=n:=by rw[h3];unfold srcs;rw[List.length_map,hn0]
 have hfive:=p2.five;have HI:=q0_ hi
 have htc:n≤c:=by have:=(zal hi.tiers).1;omega
 have HBu:Hid (∀ W',Fr (fun _=>False) W W'→Calls prog 150 #[.agg #[.string nm2,.slice A n c,.slice B n d],.pointer (some ⟨t,0,none⟩)] W' fun r w'=>(∃ t' F',r=.returned (.tuple #[.pointer (some ⟨t',0,none⟩),.int .i64 0])∧Tio nm2 lt (zaw X.now l fl (srcs o l fl lt) lt) W.heap.size w' t' (zaj X nm2 lt (srcs o l fl lt)) F' cc∧∀ j,F' j→W'.heap.size≤j)∧Below W'.heap.size W' w'):=fun W' f=>by
  have q1:=(zal (HI.out.fr0 f).tiers).2.2.1;have q2:=(zal (HI.out.fr0 f).srcs).2.2.1;rw[hSn,h2] at q1;rw[hSm,h3] at q2;exact zcI p p2 hnm2 (h.fr0 f) hc hfl A n c B d q1 htc q2 W.heap.size f.size
 have HNx:Hid (∀ W',Fr (fun _=>False) W W'→Calls prog 157 #[.pointer (some ⟨s,0,none⟩)] W' fun r w'=>r=.returned (.tuple #[.agg #[.int .i64 1,.int .i64 (j:Nat),.int .i64 k],.bool true])∧Below W'.heap.size W' w'):=fun W' f=>
  zgq s base S ((1,(j:Nat),k),true) W' ⟨A,c,B,d,T,ct,tb,HI.out.fr0 f⟩ hd (by rw[h2];exact fun x hx=>(zaq p2.ck hx).2.2.2.2.2) (by omega) (by rw[h2];exact hat)
 have HCs:Hid (∀ {W':World} {G:Nat→Prop},Fr G W W'→¬ G s→W'.cell? ⟨s,0,none⟩=some (.string nm2)∧W'.cell? ⟨s,1,none⟩=some (.slice A n c)∧W'.cell? ⟨s,2,none⟩=some (.slice B n d)∧W'.cell? ⟨s,4,none⟩=some (.int .i64 S.done)∧W'.cell? ⟨s,5,none⟩=some (.slice T n ct)):=fun f hg=>by
  obtain⟨c0,c1,c2,_,c4,c5⟩:=HI.out.cells f hg;rw[h1] at c0;rw[hSn] at c1 c5;rw[hSm] at c2;exact⟨c0,c1,c2,c4,c5⟩
 obtain⟨rb,hrb⟩:∃ v,W.heap.size=v:=⟨_,rfl⟩
 obtain⟨W0,hW0⟩:∃ W0,W0=W.alloc (.cells #[.int .i64 0,.int .i64 0,.int .i64 0] 74):=⟨_,rfl⟩
 have HW0:=q0_ hW0
 have F0:Hid (Fr (fun _=>False) W W0):=by show Fr _ _ _;rw[hW0];exact Fr.none_alloc _ _
 have B0:Hid (Blk W0 rb 74 #[.int .i64 0,.int .i64 0,.int .i64 0]):=by show Blk _ _ _ _;rw[hW0, ← hrb];exact Blk.new _ _ _
 obtain⟨bs,hbs⟩:∃ v,zaw X.now l fl (srcs o l fl lt) lt=v:=⟨_,rfl⟩
 obtain⟨Y,hY⟩:∃ v,zaj X nm2 lt (srcs o l fl lt)=v:=⟨_,rfl⟩
 have HYt:Hid (Y.tiers=lt):=by show _=_;rw[← hY];rfl
 rw[hbs,hY] at HBu;rw[hY];have Hrb:=q0_ hrb;have Hn0:=q0_ hn0;have HSn:=q0_ hSn;have Ht:=q0_ h2;have Hl:=q0_ hl;have hsW:s<W.heap.size:=hi.blk.lt;rw[hrb] at hsW HBu;have c0:=fun o=>(HCs.out (Fr.none_alloc W o) (fun h=>h)).1;have c1:=fun o=>(HCs.out (Fr.none_alloc W o) (fun h=>h)).2.1;have c2:=fun o=>(HCs.out (Fr.none_alloc W o) (fun h=>h)).2.2.1;have HBb:Hid (zaj X nm2 lt (srcs o l fl lt)=Y):=hY;clear hi hn0 hSm hW0 hbs hY hrb h1 h2 h3 h hl hSn;go_enter func106,ntmps106;go_wp2_with fail;rw[← HW0.out]
 try rw[Hrb.out]
 refine (HBu.out _ F0.out).mono ?_;rintro r w1 ⟨⟨u,Fu,rfl,T1,_⟩,b1⟩;have F1:=q0_ (F0.out.trans (Fr.b0 b1) q4_);have B1:=q0_ (B0.out.below b1);have HT1:=q0_ T1;clear T1 b1 HBu c0 c1 c2;go_wp2_with fail;refine (HNx.out _ F1.out).mono ?_;rintro r w2 ⟨rfl,b2⟩;have F2:=q0_ (F1.out.trans (Fr.b0 b2) q4_);have B2:=q0_ (B1.out.below b2);have HT2:=q0_ (HT1.out.fr0 (Fr.b0 b2));clear b2 HNx
 obtain⟨vb,hvb⟩:∃ v,w2.heap.size=v:=⟨_,rfl⟩
 obtain⟨w8,hw8⟩:∃ v,v=w2.alloc (.cells #[.int .i64 1,.int .i64 (j:Nat),.int .i64 k] 74):=⟨_,rfl⟩
 have B8:Hid (Blk w8 rb 74 #[.int .i64 0,.int .i64 0,.int .i64 0]):=by show Blk _ _ _ _;rw[hw8];exact B2.out.alloc _
 have V8:Hid (Blk w8 vb 74 #[.int .i64 1,.int .i64 (j:Nat),.int .i64 k]):=by show Blk _ _ _ _;rw[hw8, ← hvb];exact Blk.new _ _ _
 have F8:Hid (Fr (fun _=>False) W w8):=by show Fr _ _ _;rw[hw8];exact F2.out.trans (Fr.none_alloc _ _) q4_
 have HT8:Hid (Tio nm2 lt bs rb w8 u Y Fu cc):=by show Tio _ _ _ _ _ _ _ _ _;rw[hw8];exact HT2.out.fr0 (Fr.none_alloc _ _)
 have hrv:rb<vb:=by rw[← hvb];exact B2.out.lt
 have HW8:=q0_ hw8;clear hw8 HT1 HT2 B1 B2 B0;go_wp2_with fail;rw[← HW8.out]
 try rw[hvb]
 have v0:=V8.out.cell 0;simp only[q1_,q2_,q3_] at v0;obtain⟨g,b,x,Lj,t1,t2,t3,hTj⟩:=HI.out.tabAt (k:=j) (by rw[HSn.out, ← Hn0.out];exact (List.getElem?_eq_some_iff.1 hy).1);rw[Ht.out,hy] at t2;obtain rfl:y=x:=Option.some.inj t2
 have hjn:j<n:=by rw[← Hn0.out];exact (List.getElem?_eq_some_iff.1 hy).1
 have hLj:S.tabs.getD j []=Lj:=by rw[List.getD_eq_getElem?_getD,t3];rfl
 have HTj:=q0_ hTj;have hLl:=Hl.out Lj (zaa t3);obtain⟨es,ck,hbm⟩:=hTj.own.isMap;have hbm0:=hbm
 try simp only at hbm
 obtain⟨ad,rfl,hcr⟩:=(zal HI.out.row).2.2.1.2 (show 0<S.tiers.length by rw[HSn.out];omega);have p0:=hcr j _ (zbY t1)
 try simp only at p0
 have hTr:=(zal HI.out.tiers).2.2.1;rw[HSn.out] at hTr
 have hTr2:Rd W 4 A n (zag lt):=by have:=hTr;rw[Ht.out] at this;exact this
 obtain⟨aA,y',rfl,hy',_,_,_,e3⟩:=hTr2.tier hjn
 obtain rfl:y=y':=by rw[hy] at hy';exact Option.some.inj hy'
 have T1:=q0_ t1
 have hj0:0≤(j:Int)∧(j:Int)<(n:Int):=by omega
 have hbs:b≠s:=fun e=>by have hB0:W.heap[s]? =some (Obj.cells _ _ (0,0)):=HI.out.blk;rw[← e,hbm] at hB0;cases hB0
 have hbr:b≠rb:=fun e=>by have:=hTj.own.lt;rw[Hrb.out] at this;(try simp only at this);omega
 have hbv:b≠vb:=fun e=>by have:=hTj.own.lt;rw[Hrb.out] at this;(try simp only at this);omega
 have hpb:(ad.add j).block≠b:=zdZ p0 hbm;have heb:=zdZ e3 hbm;have HFb:Hid (∀ W',Fr (fun i=>i=b) w8 W'→Fr (fun i=>i=b) W W'):=fun W' f=>(F8.out.mono (G:=fun i=>i=b) q4_).trans f (fun _ h=>.inl h)
 have HC:Hid (∀ W',Fr (fun i=>i=b) w8 W'→W'.cell? ⟨s,1,none⟩=some (.slice (some aA) n c)∧W'.cell? ⟨s,5,none⟩=some (.slice (some ad) n ct)∧W'.cell? ⟨vb,1,none⟩=some (.int .i64 (j:Nat))∧W'.cell? ⟨vb,2,none⟩=some (.int .i64 k)∧W'.cell? (ad.add j)=some (.pointer (some ⟨g,0,none⟩))∧W'.cell? ⟨(aA.add (j*4)).block,(aA.add (j*4)).off+3,none⟩=some (.int .i64 y.shards)):=fun W' f=>by
  have q:=HCs.out (HFb.out W' f) (fun e=>hbs e.symm);have bv:=V8.out.fr f (fun e=>hbv e.symm);exact⟨q.2.1,q.2.2.2.2,bv.cell 1,bv.cell 2,f.cell (F8.out.cell p0 (fun h=>h)) hpb,f.cell (F8.out.cell e3 (fun h=>h)) heb⟩
 have HM8:Hid (∃ es ck,w8.heap[b]? =some (.map es ck)):=⟨es,ck,by have hblt:=hTj.own.lt;(try simp only at hblt);rw[F8.out.block b hblt (fun h=>h)];exact hbm⟩
 have HTj8:Hid (∀ W',Fr (fun _=>False) w8 W'→zar W' g y.every b Lj):=fun W' f=>(HTj.out.fr0 F8.out).fr0 f
 have HCl:Hid (∀ W',Fr (fun _=>False) w8 W'→Calls prog 158 #[.pointer (some ⟨g,0,none⟩),.int .i64 k,.int .i64 y.shards] W' fun r w'=>(∃ v,r=.returned (.int .i64 v))∧zar w' g y.every b (zao (inS k y.shards) Lj)∧Fr (fun i=>i=b) W' w'):=fun W' f=>by
  refine (zjf g y.every b Lj k y.shards W' (HTj8.out W' f) (fun r hr=>(HTj8.out W' f).own.wf r hr) (by omega)).mono ?_;rintro r w' ⟨rfl,h1,h2⟩;exact⟨⟨_,rfl⟩,h1,h2⟩
 have HYj:Hid ((Y.tabs.getD j []).length≤1000000∧∃ Yl,Y.tabs[j]? =some Yl∧Y.tabs.getD j []=Yl):=by
  have hlen:=HT8.out.good.tlen
  have hjl:j<Y.tabs.length:=by rw[hlen,Hn0.out];exact hjn
  have e:Y.tabs.getD j []=Y.tabs[j]:=by rw[List.getD_eq_getElem?_getD,q6_ hjl];rfl
  refine⟨?_,Y.tabs[j],q6_ hjl,e⟩;rw[e];have:=HT8.out.good.len _ (List.getElem_mem hjl);omega
 obtain⟨hYl,Yl,hYl1,hYl2⟩:=HYj.out;have HYl1:=q0_ hYl1
 have HBt:Hid (∀ W',Fr (fun i=>i=b) w8 W'→zbA W' u rb Y):=fun W' f=>by
  obtain⟨base2,hb2,ho⟩:=HT8.out.on
  have:=ho.frSh f (fun i hi=>.inl (by obtain⟨es,ck,hm⟩:=HM8.out;exact⟨es,ck,by rw[hi];exact hm⟩)) (fun i hi e=>by
   have h1:=(ho.ge i hi).1;have h2:=HTj.out.own.lt;rw[Hrb.out] at h2
   try simp only at h2
   omega)
  exact (this.down hb2).at_
 have HTa:Hid (∀ W',Fr (fun i=>i=b) w8 W'→Calls prog 159 #[.pointer (some ⟨u,0,none⟩),.int .i64 (j:Nat)] W' fun r w'=>(∃ g' b',r=.returned (.pointer (some ⟨g',0,none⟩))∧zar w' g' y.every b' Yl)∧Below W'.heap.size W' w'):=fun W' f=>by
  refine (zgg u rb Y j y Yl W' (HBt.out W' f) (by rw[HYt.out];exact hy) HYl1.out).mono ?_;rintro r w' ⟨⟨g',b',h1,h2,_⟩,h3⟩;exact⟨⟨g',b',h1,h2⟩,h3⟩
 rw[hYl2] at hYl;have hYll:Yl.length≤1000000:=hYl
 obtain⟨L1,hL1⟩:∃ v,zao (inS k y.shards) Lj=v:=⟨_,rfl⟩
 obtain⟨L2,hL2⟩:∃ v,zao (zkr k y.shards) Yl=v:=⟨_,rfl⟩
 have hL1l:L1.length≤1000000:=by rw[← hL1];exact Nat.le_trans (List.length_filter_le _ _) hLl
 have hL2l:L2.length≤1000000:=by rw[← hL2];exact Nat.le_trans (List.length_filter_le _ _) hYll
 rw[hL1] at HCl
 have HSh:Hid (∀ W' (g' b':Nat),zar W' g' y.every b' Yl→Calls prog 160 #[.pointer (some ⟨g',0,none⟩),.int .i64 k,.int .i64 y.shards] W' fun r w'=>(∃ A c,r=.returned (.slice A L2.length c)∧Rd w' 7 A L2.length (zaA L2)∧∀ r∈L2,r.wf)∧Below W'.heap.size W' w'):=fun W' g' b' hT=>by
  have h:=zjd g' y.every b' Yl k y.shards W' hT (by omega) (fun r hr=>hT.own.wf r hr);rw[hL2] at h;refine h.mono ?_;rintro r w' ⟨⟨A,c,h1,h2⟩,h3⟩;exact⟨⟨A,c,h1,(zal h2).2.2.1,fun r hr=>by rw[← hL2] at hr;exact hT.own.wf r (List.mem_filter.1 hr).1⟩,h3⟩
 have HAd:Hid (∀ W' A c,zar W' g y.every b L1→Rd W' 7 A L2.length (zaA L2)→(∀ r∈L2,r.wf)→Calls prog 147 #[.pointer (some ⟨g,0,none⟩),.slice A L2.length c] W' fun r w'=>(∃ v,r=.returned (.int .i64 v))∧zar w' g y.every b (zbf y.every L1 L2)∧Fr (fun i=>i=b) W' w'):=fun W' A c hT hr hw=>by
  refine (zfJ g y.every b L1 L2 A L2.length c W' hT hr hw (by omega)).mono ?_;rintro r w' ⟨rfl,h1,h2⟩;exact⟨⟨_,rfl⟩,h1,h2⟩
 obtain⟨n2,hn2⟩:∃ v,L2.length=v:=⟨_,rfl⟩
 rw[hn2] at HSh HAd
 have hdn:0≤S.done∧S.done<100:=by
  have h8:∀ t∈lt,t.shards≤8:=fun x hx=>(zaq p2.ck hx).2.2.2.2.2;have hf:=zcS h8
  have hst:zaX lt≤zap lt+2:=by unfold zaX;split<;>omega
  unfold atV at hat
  split at hat
  ·simp at hat
  ·omega
 have hdw:IntKind.i64.wrap (S.done+1)=S.done+1:=by simp[IntKind.wrap,IntKind.signed,IntKind.bits];omega
 have HEnd:Hid (∀ W',Fr (fun i=>i=b) w8 W'→zar W' g y.every b (zbf y.every L1 L2)→zdv W' s base {S with tabs:=S.tabs.set j (zbf y.every (zao (inS k y.shards) (S.tabs.getD j [])) (zao (zkr k y.shards) (Y.tabs.getD j [])))} (some aA) c B d (some ad) ct tb):=fun W' f hT=>by
  rw[hLj,hYl2,hL1,hL2];exact (HI.out.fr0 F8.out).set T1.out (by rw[Ht.out];exact hy) hT f
 clear hL1 hL2 hn2 hTj hbm0 hbm hcr hTr hTr2 hy' e3 p0 t1 t3 hYl hYl1 hYl2 hYll hLj HYj hpb heb hat;go_wp2_with fail;refine wp_region_held_drew (S:=fun W_=>Fr (fun i=>i=b) w8 W_) (by kernel_rfl) ((Fr.refl _ w8).drew) (fun hY_=>?_);refine tq 12 [0,1,2,3,4,5,6,7,8,9,10,11] ?_
 iterate 11 refine sf HC.out ?_
 refine sf HC.out ?_
 try simp only[Act.put,sA,sB,sC]
 refine sz ?_
 try simp only[Act.put,sA,sB,sC]
 refine wpAnyH_done (by kernel_rfl) ?_ _;have G12:=q0_ hY_;clear hY_;go_wp2_with fail;refine wp_region_held_drew (S:=fun W_=>Fr (fun i=>i=b) w8 W_) (by kernel_rfl) (G12.out.drew) (fun hY_=>?_);refine tq 11 [0,1,2,3,4,5,6,7,8,9,10] ?_
 iterate 10 refine sf HC.out ?_
 refine sk ?_
 try simp only[Act.put,sA,sB,sC]
 refine sz ?_
 try simp only[Act.put,sA,sB,sC]
 refine rl 11 rfl (fun K hK=>?_);go_simp
 go_wp2_with (first | (go_at_call 158;refine (HCl.out _ (by first | exact (Fr.refl _ w8).drew.drew | exact (Fr.refl _ w8).drew)).mono ?_;rintro r w13 ⟨⟨v13,rfl⟩,tc,fc⟩))
 have tc:=q0_ tc;refine hK.out _ _ (hY_.trans fc (fun _ h=>.inl h)) (fun hY_=>?_);clear hK K
 try simp only[Act.put,sA,sB,sC]
 refine wpAnyH_done (by kernel_rfl) ?_ _;have G13:=q0_ hY_;clear hY_ fc;go_wp2_with fail;refine wp_region_held_drew (S:=fun W_=>Fr (fun i=>i=b) w8 W_) (by kernel_rfl) (G13.out.drew) (fun hY_=>?_);refine tq 14 [0,1,2,3,4,5,6,7,8,9,10,12,13,14] ?_
 iterate 13 refine sf HC.out ?_
 refine sk ?_
 try simp only[Act.put,sA,sB,sC]
 refine sz ?_
 try simp only[Act.put,sA,sB,sC]
 refine rl 11 rfl (fun K hK=>?_);go_simp
 go_wp2_with (go_at_call 159;refine (HTa.out _ hY_).mono ?_;rintro r wa ⟨⟨ga,ba,rfl,ta⟩,bb1⟩)
 have ta:=q0_ ta;have tc:=q0_ ((tc.out.fr0 ((Fr.refl _ w13).drew)).fr0 (Fr.b0 bb1));refine hK.out _ _ (hY_.trans (Fr.b0 bb1) q4_) (fun hY_=>?_);clear hK K
 try simp only[Act.put,sA,sB,sC]
 refine rl 15 rfl (fun K hK=>?_);go_simp
 go_wp2_with (go_at_call 160;refine (HSh.out _ _ _ ta.out).mono ?_;rintro r wb ⟨⟨Ab,cb,rfl,rb2,rw2⟩,bb2⟩)
 have rb2:=q0_ rb2;have rw2:=q0_ rw2;have tc:=q0_ (tc.out.fr0 (Fr.b0 bb2));refine hK.out _ _ (hY_.trans (Fr.b0 bb2) q4_) (fun hY_=>?_);clear hK K
 try simp only[Act.put,sA,sB,sC]
 refine rl 16 rfl (fun K hK=>?_);go_simp
 go_wp2_with (go_at_call 147;refine (HAd.out _ _ _ tc.out rb2.out rw2.out).mono ?_;rintro r w14 ⟨⟨v14,rfl⟩,te,fe⟩)
 have te:=q0_ te;refine hK.out _ _ (hY_.trans fe (fun _ h=>.inl h)) (fun hY_=>?_);clear hK K
 try simp only[Act.put,sA,sB,sC]
 refine wpAnyH_done (by kernel_rfl) ?_ _;have G14:=q0_ hY_;have I14:=q0_ (HEnd.out _ G14.out te.out);clear hY_ fe;have B14:=q0_ (B8.out.fr G14.out (fun e=>hbr e.symm));have V14:=q0_ (V8.out.fr G14.out (fun e=>hbv e.symm));obtain⟨_,_,_,_,z4,_⟩:=I14.out.cells (Fr.refl (fun _=>False) w14) (fun h=>h);have zf:=I14.out.blk.frozen 4;have fD:Fr (fun i=>i=s) w14 (w14.setCell ⟨s,4,none⟩ (.int .i64 (S.done+1))):=(Fr.refl (fun i=>i=s) w14).setCell (p:=⟨s,4,none⟩) (.inl rfl) _;have ID:Hid (zdv (w14.setCell ⟨s,4,none⟩ (.int .i64 (S.done+1))) s base {S with done:=S.done+1,tabs:=S.tabs.set j (zbf y.every (zao (inS k y.shards) (S.tabs.getD j [])) (zao (zkr k y.shards) (Y.tabs.getD j [])))} (some aA) c B d (some ad) ct tb):=I14.out.setDone (S.done+1);have BD:=B14.out.fr fD (by omega);have VD:=V14.out.fr fD (by omega);have BE:=q0_ (BD.set3 (a:=.int .i64 1) (b:=.int .i64 (j:Nat)) (c:=.int .i64 k));have FE:Hid (Fr (fun i=>i=rb) (w14.setCell ⟨s,4,none⟩ (.int .i64 (S.done+1))) (((((w14.setCell ⟨s,4,none⟩ (.int .i64 (S.done+1)))).setCell ⟨rb,0,none⟩ (.int .i64 1)).setCell ⟨rb,1,none⟩ (.int .i64 (j:Nat))).setCell ⟨rb,2,none⟩ (.int .i64 k))):=(Fr.refl (fun i=>i=rb) (w14.setCell ⟨s,4,none⟩ (.int .i64 (S.done+1)))).set3 (.inl rfl) _ _ _
 have IE:Hid (zcr (((((w14.setCell ⟨s,4,none⟩ (.int .i64 (S.done+1)))).setCell ⟨rb,0,none⟩ (.int .i64 1)).setCell ⟨rb,1,none⟩ (.int .i64 (j:Nat))).setCell ⟨rb,2,none⟩ (.int .i64 k)) s base {S with done:=S.done+1,tabs:=S.tabs.set j (zbf y.every (zao (inS k y.shards) (S.tabs.getD j [])) (zao (zkr k y.shards) (Y.tabs.getD j [])))} (tF s tb)):=
  zcr.fr ⟨_,_,_,_,_,_,_,ID.out,rfl⟩ FE.out (fun i hi=>by subst hi;exact .inr ⟨_,(0,0),74,BD,by decide,by decide,by decide,by decide⟩) (fun i hi e=>by
   have hK:=zcr.ge (F:=tF s tb) (w:=W) ⟨_,_,_,_,_,_,_,HI.out,rfl⟩ i hi;rw[Hrb.out] at hK
   omega)
 have FALL:Hid (Fr (tF s tb) W (((((w14.setCell ⟨s,4,none⟩ (.int .i64 (S.done+1)))).setCell ⟨rb,0,none⟩ (.int .i64 1)).setCell ⟨rb,1,none⟩ (.int .i64 (j:Nat))).setCell ⟨rb,2,none⟩ (.int .i64 k))):=
  (((F8.out.mono q4_).trans G14.out (fun i hi=>.inl (.inr ⟨_,List.mem_of_getElem? T1.out,hi⟩))).trans fD (fun i hi=>.inl (.inl hi))).trans FE.out (fun i hi=>.inr (by rw[hi,Hrb.out];exact Nat.le_refl _))
 have x0:=VD.cell 0;have x1:=VD.cell 1;have x2:=VD.cell 2;have y0:=BD.cell 0;have y1:=BD.cell 1;have y2:=BD.cell 2;have z0:=BD.frozen 0;have z1:=BD.frozen 1;have z2:=BD.frozen 2;simp only[q1_,q2_,q3_] at x0 x1 x2 y0 y1 y2;have e0:=BE.out.cell 0;have e1:=BE.out.cell 1;have e2:=BE.out.cell 2;simp only[q1_,q2_,q3_] at e0 e1 e2;clear I14 B14 V14 fD BD VD;go_wp2;refine bodyPost_ret (v:=.tuple #[zaM (1,(j:Nat),k),.pointer none,.int .i64 0]) ?_ rfl ⟨rfl,IE.out,FALL.out⟩;simp[results,results106,go_sem,zaM,e0,e1,e2]
end Go.Proofs.YteajonicnkpbbaaGreatDoor
