/- Walk of shadow: Note. -/
import Derived.Test.YteajonicnkpbbaaGreatDoorShStepU
import Derived.Test.YteajonicnkpbbaaGreatDoorShCopy
namespace Go.Proofs.YteajonicnkpbbaaGreatDoor
set_option linter.all false
set_option maxHeartbeats 8000000
set_option maxRecDepth 100000
open Go.RowKit Tryz
def zbW(Y:zac)(done:Int)(tabs:List (List zaf))(ls:List zaz):List (List zaf):=ls.foldl (zeH Y done) tabs
theorem zhQ{Y:zac}{done:Int}{n:Nat}(hY:Y.tiers.length=n):∀ {ls:List zaz} {tabs:List (List zaf)},tabs.length=n→(zbW Y done tabs ls).length=n
 | [],_,h=>h
 | s::ls,tabs,_=>zhQ hY (ls:=ls) (tabs:=zeH Y done tabs s) (by unfold zeH;rw[List.length_map,List.length_range,hY])
theorem zk4{Y:zac}{done:Int}{tabs:List (List zaf)}{c:Nat}(h:∀ m∈tabs,m.length≤c)(s:zaz):∀ m∈zeH Y done tabs s,m.length≤c+1:=by
 intro m hm;unfold zeH at hm;obtain⟨j,_,rfl⟩:=List.mem_map.1 hm
 have h2:(tabs.getD j []).length≤c:=by
  rcases zch (L:=tabs) j with h3 | h3
  ·exact h _ h3
  ·rw[h3];exact Nat.zero_le _
 unfold zhl
 split
 ·split
  ·exact Nat.le_trans (zhc _ _ _) (by omega)
  ·omega
 ·omega
theorem zfS{Y:zac}{done:Int}:∀ {ls:List zaz} {tabs:List (List zaf)} {c:Nat},(∀ m∈tabs,m.length≤c)→∀ m∈zbW Y done tabs ls,m.length≤c+ls.length
 | [],_,_,h=>h
 | s::ls,tabs,c,h=>fun m hm=>by
  have:=zfS (ls:=ls) (zk4 (Y:=Y) (done:=done) h s) m hm;rw[List.length_cons];omega
theorem znS{nm nm2:ByteArray}{l lt:List za_}{fl:List Int}{o:Int}{lo:Nat}{W:World}{t s base:Nat}{X:zac}{S:ShX}{Ft F:Nat→Prop}{cc:Nat}(p:zaO nm l)(p2:zaO nm2 lt)(hnm2:nm2.size≤maxLen)(h:Tio nm l fl lo W t X Ft cc)(hc:cc≤1000000)(hfl:∀ f∈fl,0≤f∧f≤2199023255552)(hs:zcr W s base S F)(h1:S.name=nm2)(h2:S.tiers=lt)(h3:S.srcs=srcs o l fl lt)(hd:0≤S.done∧S.done≤100)(hl:∀ m∈S.tabs,m.length≤1000000)(ls:List zaz)(A1:Option Addr)(n1 c1:Nat)(hr:Rd W 3 A1 n1 (zdE ls))(hsw:∀ z∈ls,z.wf)(hn1':n1≤1000)(hA:∀ j,adF A1 n1 j→¬ F j):
  Calls prog 102 #[.pointer (some ⟨s,0,none⟩),.pointer (some ⟨t,0,none⟩),.slice A1 n1 c1] W fun r w'=>r=.returned (.tuple #[])∧zcr w' s base {S with tabs:=zbW (zaj X nm2 lt (srcs o l fl lt)) S.done S.tabs ls} F∧Fr F W w':=by
 obtain⟨A,c,B,d,T,ct,tb,hi,rfl⟩:=hs
 obtain⟨n,hn0⟩:∃ n,lt.length=n:=⟨_,rfl⟩
 have hSn:S.tiers.length=n:=by rw[h2,hn0]
 have hSm:S.srcs.length=n:=by rw[h3];unfold srcs;rw[List.length_map,hn0]
 have hfive:=p2.five
 have hn5:n≤5:=by omega
 have hn1:0<n:=by have:=p2.pos;omega
 have HI:=q0_ hi
 have htc:n≤c:=by have:=(zal hi.tiers).1;omega
 obtain⟨ad,hadT,hcr⟩:=(zal hi.row).2.2.1.2 (show 0<S.tiers.length by omega);subst hadT;have Hcr:=q0_ hcr;have hrdA:=(zal hi.tiers).2.2.1;rw[hSn,h2] at hrdA;obtain⟨aA,haA,_⟩:=hrdA.2 hn1;subst haA;have HrdA:=q0_ hrdA
 have HBu:Hid (Calls prog 150 #[.agg #[.string nm2,.slice (some aA) n c,.slice B n d],.pointer (some ⟨t,0,none⟩)] W fun r w'=>(∃ t' F',r=.returned (.tuple #[.pointer (some ⟨t',0,none⟩),.int .i64 0])∧Tio nm2 lt (zaw X.now l fl (srcs o l fl lt) lt) W.heap.size w' t' (zaj X nm2 lt (srcs o l fl lt)) F' cc∧∀ j,F' j→W.heap.size≤j)∧Below W.heap.size W w'):=by
  have q2:=(zal HI.out.srcs).2.2.1;rw[hSm,h3] at q2;exact zcI p p2 hnm2 h hc hfl (some aA) n c B d HrdA.out htc q2 W.heap.size (Nat.le_refl _)
 obtain⟨bs,hbs⟩:∃ v,zaw X.now l fl (srcs o l fl lt) lt=v:=⟨_,rfl⟩
 obtain⟨Y,hY⟩:∃ v,zaj X nm2 lt (srcs o l fl lt)=v:=⟨_,rfl⟩
 have HYt:Hid (Y.tiers=lt):=by show _=_;rw[← hY];rfl
 rw[hbs,hY] at HBu;rw[hY];have Hn0:=q0_ hn0;have HSn:=q0_ hSn;have Ht:=q0_ h2;have Hl:=q0_ hl;have Hsw:=q0_ hsw;have Hr:=q0_ hr;have Hlen:=q0_ (Rd.samps_len hr);have HA:=q0_ hA
 have HCs:Hid (∀ {W':World} {G:Nat→Prop},Fr G W W'→¬ G s→W'.cell? ⟨s,0,none⟩=some (.string nm2)∧W'.cell? ⟨s,1,none⟩=some (.slice (some aA) n c)∧W'.cell? ⟨s,2,none⟩=some (.slice B n d)∧W'.cell? ⟨s,4,none⟩=some (.int .i64 S.done)∧W'.cell? ⟨s,5,none⟩=some (.slice (some ad) n ct)):=fun f hg=>by
  obtain⟨c0,c1,c2,_,c4,c5⟩:=HI.out.cells f hg;rw[h1] at c0;rw[hSn] at c1 c5;rw[hSm] at c2;exact⟨c0,c1,c2,c4,c5⟩
 have HMp:Hid (∀ j,tM tb j→∃ es ck,W.heap[j]? =some (.map es ck)):=fun j hj=>(HI.out.map_ hj).2.2;have HMl:Hid (∀ j,tM tb j→j<W.heap.size):=fun j hj=>(HI.out.map_ hj).2.1
 have HTl:Hid (S.tabs.length=n):=by show _=_;rw[HI.out.tlen,HSn.out]
 obtain⟨c0,c1,c2,c4,c5⟩:=HCs.out (Fr.refl (fun _=>False) W) (fun h=>h);clear hi hn0 hSm hbs hY h1 h2 h3 h hl hSn hcr hrdA hsw hr hA;go_enter func102,ntmps102;go_wp2_with fail;refine HBu.out.mono ?_;rintro r w1 ⟨⟨u,Fu,rfl,T1,hFu⟩,b1⟩;have F1:Hid (Fr (fun _=>False) W w1):=Fr.b0 b1;have HT1:=q0_ T1;have HFu:=q0_ hFu;obtain⟨tA,tc,tB,td,hR⟩:=T1.reach;have HR:=q0_ hR
 obtain⟨mf,hmf⟩:∃ m,bs.length=m:=⟨_,rfl⟩
 have hY0:=T1.good.now
 -- frames of the maps alone
 have HFm:Hid (∀ W',Fr (tM tb) w1 W'→Fr (fun j=>tM tb j∧∃ es ck,w1.heap[j]? =some (.map es ck)) w1 W'):=fun W' f=>f.mono (fun j hj=>.inl ⟨hj,by obtain⟨es,ck,h⟩:=HMp.out j hj;exact⟨es,ck,by rw[F1.out.block j (HMl.out j hj) (fun h=>h)];exact h⟩⟩)
 have HCw:Hid (∀ W_,Fr (tM tb) w1 W_→W_.cell? ⟨s,0,none⟩=some (.string nm2)∧W_.cell? ⟨s,1,none⟩=some (.slice (some aA) n c)∧W_.cell? ⟨s,2,none⟩=some (.slice B n d)∧W_.cell? ⟨s,4,none⟩=some (.int .i64 S.done)∧W_.cell? ⟨s,5,none⟩=some (.slice (some ad) n ct)∧W_.cell? ⟨u,0,none⟩=some (.int .i64 Y.now)∧W_.cell? ⟨u,1,none⟩=some (.string nm2)∧W_.cell? ⟨u,2,none⟩=some (.slice tA n tc)∧W_.cell? ⟨u,3,none⟩=some (.slice tB mf td)):=fun W_ f=>by
  obtain⟨k0,k1,k2,k3,k4⟩:=HCs.out F1.out (fun h=>h);have r2:=HR.out.c2;have r3:=HR.out.c3;rw[Hn0.out] at r2;rw[hmf] at r3;have g:=HFm.out W_ f;exact⟨zaG g k0,zaG g k1,zaG g k2,zaG g k3,zaG g k4,zaG g HR.out.c0,zaG g HR.out.c1,zaG g r2,zaG g r3⟩
 have HRdm:Hid (∀ W_,Fr (tM tb) w1 W_→Rd W_ 4 (some aA) n (zag lt)):=fun W_ f=>(HrdA.out.fr0 F1.out).mapfr (by decide) (HFm.out W_ f)
 have HFi:Hid (∀ W_ (j:Nat) (y:za_) (sn:ByteArray),Fr (tM tb) w1 W_→lt[j]? =some y→sn.size≤maxLen→Calls prog 152 #[.agg #[.string nm2,.slice (some aA) n c,.slice B n d],.int .i64 S.done,.int .i64 (j:Nat),.string sn] W_ fun r w'=>r=.returned (.bool (zj0 lt S.done j sn))∧Below W_.heap.size W_ w'):=fun W_ j y sn f hy hsz=>by
  have:=zm3 nm2 lt (some aA) n c B n d S.done j y sn W_ (HRdm.out W_ f) htc (by omega) (fun x hx=>(zaq p2.ck hx).2.2.2.2.2) hy hsz
  have e:zj0 lt S.done j sn=decide (za3 sn y.shards+zap (lt.take j)<S.done):=by unfold zj0;rw[hy]
  rw[e];exact this
 have HFr:Hid (∀ W_ (j:Nat),Fr (tM tb) w1 W_→j<n→Calls prog 110 #[.agg #[.int .i64 Y.now,.string nm2,.slice tA n tc,.slice tB mf td],.int .i64 (j:Nat)] W_ fun r w'=>r=.returned (.int .i64 (zat Y.now lt bs j))∧Below W_.heap.size W_ w'):=fun W_ j f hj=>by
  have g:=HFm.out W_ f
  have hR':zde W_ u Y.now nm2 lt bs tA tc tB td:=⟨zaG g HR.out.c0,zaG g HR.out.c1,zaG g HR.out.c2,zaG g HR.out.c3,HR.out.rt.mapfr (by decide) g,HR.out.rf.mapfr (by decide) g,HR.out.le⟩
  have:=zft p2 hR' hY0 j (by rw[Hn0.out];exact hj);rw[Hn0.out,hmf] at this;exact this
 have hYf:Y.floors=bs:=T1.good.floors
 have HNl:Hid (∀ j y (z:zaz) m,lt[j]? =some y→zhl Y S.done z j m=if zj0 lt S.done j z.name&&decide (zat Y.now lt bs j≤zas z.time y.every) then zb5 y.every m ⟨z.name,zas z.time y.every,zbj z.value⟩ else m):=fun j y z m hy=>by
  unfold zhl;rw[HYt.out,hYf,hy]
 have HRs:Hid (∀ W_,Fr (tM tb) w1 W_→Rd W_ 3 A1 n1 (zdE ls)):=fun W_ f=>(Hr.out.fr0 F1.out).fr f (fun j hj hm=>HA.out j hj (.inr hm));have HI1:Hid (zdv w1 s base {S with tabs:=zbW Y S.done S.tabs (ls.take 0)} (some aA) c B d (some ad) ct tb):=HI.out.fr0 F1.out;have HLq:Hid (∀ q,(zbW Y S.done S.tabs (ls.take q)).length=n):=fun q=>zhQ (by rw[HYt.out];exact Hn0.out) HTl.out
 have HLl:Hid (∀ q,∀ m∈zbW Y S.done S.tabs (ls.take q),m.length≤1000000+q):=fun q m hm=>by
  have:=zfS (Y:=Y) (done:=S.done) (ls:=ls.take q) Hl.out m hm;rw[List.length_take] at this;omega
 clear T1 b1 HBu c0 c1 c2 c4 c5 hR hFu hmf hYf;go_wp2_with fail
 go_loopw [28] (fun i wr=>∃ q:Nat,q≤n1∧i=.int .i64 q∧zdv wr s base {S with tabs:=zbW Y S.done S.tabs (ls.take q)} (some aA) c B d (some ad) ct tb∧Fr (tM tb) w1 wr) (fun i _=>n1-(intOf i).toNat)
 case atStart=>exact⟨0,Nat.zero_le _,rfl,HI1.out,Fr.refl _ _⟩
 case round=>
  obtain⟨q,hq,rfl,hiq,hfq⟩:=hrel;have Hiq:=q0_ hiq;have Hfq:=q0_ hfq;clear hiq hfq
  by_cases hlt:q<n1
  ·obtain⟨ar,z,rfl,hz,e0,e1,e2⟩:=(HRs.out wr Hfq.out).samp_ (k:=q) hlt
   have g0:decide ((q:Int)<(n1:Int))=true:=qa_ (by omega)
   have qn:0≤(q:Int)∧(q:Int)<(n1:Int):=by omega
   have hqw:IntKind.i64.wrap ((q:Int)+1)=(q:Int)+1:=by simp[IntKind.wrap,IntKind.signed,IntKind.bits];omega
   have hzw:=Hsw.out z (zaa hz);have Hz:=q0_ hz
   have HNq:Hid (zbW Y S.done S.tabs (ls.take (q+1))=zeH Y S.done (zbW Y S.done S.tabs (ls.take q)) z):=by
    show _=_
    rw[zak hz];unfold zbW;rw[List.foldl_append]
    rfl
   obtain⟨Lq,hLq⟩:∃ v,zbW Y S.done S.tabs (ls.take q)=v:=⟨_,rfl⟩
   have HLn:=HLq.out q;have HLs:=q0_ (HLl.out q);rw[hLq] at HNq HLn Hiq HLs;obtain⟨zn,zt,zv⟩:=z;obtain⟨hzt,hzv,hzs⟩:=hzw;simp only at e0 e1 e2 hzt hzv hzs;have k1:=fun o=>(HCw.out _ (Hfq.out.trans (Fr.none_alloc wr o) q4_)).2.1
   obtain⟨zb,hzb⟩:∃ v,wr.heap.size=v:=⟨_,rfl⟩
   obtain⟨ff,hff⟩:∃ f:Nat→List zaf,(fun k=>zhl Y S.done ⟨zn,zt,zv⟩ k (Lq.getD k []))=f:=⟨_,rfl⟩
   obtain⟨gg,hgg⟩:∃ f:Nat→List zaf,(fun k=>Lq.getD k [])=f:=⟨_,rfl⟩
   have Hff:Hid (∀ k y,lt[k]? =some y→ff k=if zj0 lt S.done k zn&&decide (zat Y.now lt bs k≤zas zt y.every) then zb5 y.every (gg k) ⟨zn,zas zt y.every,zbj zv⟩ else gg k):=fun k y hy=>by
    rw[← hff, ← hgg];exact HNl.out k y ⟨zn,zt,zv⟩ _ hy
   have Hgl:Hid (∀ k,(gg k).length≤1001000):=fun k=>by
    rw[← hgg];have:=ze8 HLs.out k;simp only;omega
   have He0:Hid (zbD n ff gg 0=Lq):=by show _=_;rw[zd9, ← hgg];exact zg_ HLn
   have HeN:Hid (zbD n ff gg n=zbW Y S.done S.tabs (ls.take (q+1))):=by
    show _=_
    rw[HNq.out,zeR, ← hff];unfold zeH;rw[HYt.out,Hn0.out]
   have Hzv:=q0_ hzv;clear hff hgg hLq;go_wp2_with fail
   obtain⟨W1,hW1⟩:∃ W1,W1=wr.alloc (.cells #[.string zn,.int .i64 zt,.int .i64 zv] 201):=⟨_,rfl⟩
   rw[← hW1]
   try rw[hzb]
   have hbx:Hid (Blk W1 zb 201 #[.string zn,.int .i64 zt,.int .i64 zv]):=by show Blk _ _ _ _;rw[hW1];exact Blk.new' hzb.symm _ _
   have HF1:Hid (Fr (tM tb) w1 W1):=by show Fr _ _ _;rw[hW1];exact Hfq.out.trans (Fr.none_alloc _ _) q4_
   have HI0:Hid (zdv W1 s base {S with tabs:=zbD n ff gg 0} (some aA) c B d (some ad) ct tb):=by
    show zdv _ _ _ _ _ _ _ _ _ _ _
    rw[hW1,He0.out];exact Hiq.out.fr0 (Fr.none_alloc _ _)
   have HzM:Hid (∀ j,tM tb j→zb≠j):=fun j hj e=>by
    have h1:=HMl.out j hj;have h2:=F1.out.size;have h3:=Hfq.out.size;omega
   clear hW1 e0 e1 e2 k1 Hiq
   go_loopw [39] (fun i wr=>∃ j:Nat,j≤n∧i=.int .i64 j∧zdv wr s base {S with tabs:=zbD n ff gg j} (some aA) c B d (some ad) ct tb∧Fr (tM tb) W1 wr) (fun i _=>n-(intOf i).toNat)
   case atStart=>exact⟨0,Nat.zero_le _,rfl,HI0.out,Fr.refl _ _⟩
   case round=>
    obtain⟨j,hj,rfl,hij,hfj⟩:=hrel;have Hij:=q0_ hij;have Hfj:=q0_ hfj;have Hbx:=q0_ (hbx.out.fr hfj (fun hm=>HzM.out zb hm rfl));have Hfw:Hid (Fr (tM tb) w1 wr):=HF1.out.trans hfj (fun i hi=>.inl hi);clear hij hfj
    by_cases hlj:j<n
    ·obtain⟨g,b,y,m,h1,h2,h3,hTb⟩:=Hij.out.tabAt (k:=j) (by show _<S.tiers.length;rw[HSn.out];exact hlj)
     have hy:lt[j]? =some y:=by rw[← Ht.out];exact h2
     have hmg:m=gg j:=by
      have h4:(zbD n ff gg j)[j]? =some m:=h3;rw[zeQ hlj] at h4;exact (Option.some.inj h4).symm
     subst hmg;obtain⟨ad',ea,hcr⟩:=(zal Hij.out.row).2.2.1.2 (show 0<S.tiers.length by rw[HSn.out];omega);obtain rfl:ad=ad':=Option.some.inj ea;have p0:=hcr j _ (zbY h1)
     try simp only at p0
     obtain⟨aA',y',ea2,hy',d0,d1,d2,d3⟩:=(HRdm.out wr Hfw.out).tier hlj;obtain rfl:aA=aA':=Option.some.inj ea2
     obtain rfl:y=y':=by rw[hy] at hy';exact Option.some.inj hy'
     have Hy:=q0_ hy
     have kj:0≤(j:Int)∧(j:Int)<(n:Int):=by omega
     have gj:decide ((j:Int)<(n:Int))=true:=qa_ (by omega)
     have hjw:IntKind.i64.wrap ((j:Int)+1)=(j:Int)+1:=by simp[IntKind.wrap,IntKind.signed,IntKind.bits];omega
     obtain⟨es,ck,hbm⟩:=hTb.own.isMap
     try simp only at hbm
     have hpb:(ad.add j).block≠b:=zdZ p0 hbm;have hzbb:zb≠b:=HzM.out b ⟨_,List.mem_of_getElem? h1,rfl⟩;have Hup:Hid (∀ W_,Fr (fun i=>i=b) wr W_→Fr (tM tb) w1 W_):=fun W_ f=>Hfw.out.trans f (fun i hi=>.inl ⟨_,List.mem_of_getElem? h1,hi⟩);have Hup0:Hid (∀ W_,Fr (fun _=>False) wr W_→Fr (tM tb) w1 W_):=fun W_ f=>Hup.out W_ (f.mono q4_)
     have HCb:Hid (∀ W_,Fr (fun i=>i=b) wr W_→(W_.cell? ⟨s,0,none⟩=some (.string nm2)∧W_.cell? ⟨s,1,none⟩=some (.slice (some aA) n c)∧W_.cell? ⟨s,2,none⟩=some (.slice B n d)∧W_.cell? ⟨s,4,none⟩=some (.int .i64 S.done)∧W_.cell? ⟨s,5,none⟩=some (.slice (some ad) n ct)∧W_.cell? ⟨u,0,none⟩=some (.int .i64 Y.now)∧W_.cell? ⟨u,1,none⟩=some (.string nm2)∧W_.cell? ⟨u,2,none⟩=some (.slice tA n tc)∧W_.cell? ⟨u,3,none⟩=some (.slice tB mf td))∧W_.cell? ⟨zb,0,none⟩=some (.string zn)∧W_.cell? ⟨zb,1,none⟩=some (.int .i64 zt)∧W_.cell? ⟨zb,2,none⟩=some (.int .i64 zv)∧W_.cell? (ad.add j)=some (.pointer (some ⟨g,0,none⟩))):=fun W_ f=>by
      have bz:=Hbx.out.fr f hzbb;exact⟨HCw.out W_ (Hup.out W_ f),bz.cell 0,bz.cell 1,bz.cell 2,f.cell p0 hpb⟩
     have HC:Hid (∀ W_,Fr (fun _=>False) wr W_→(W_.cell? ⟨s,0,none⟩=some (.string nm2)∧W_.cell? ⟨s,1,none⟩=some (.slice (some aA) n c)∧W_.cell? ⟨s,2,none⟩=some (.slice B n d)∧W_.cell? ⟨s,4,none⟩=some (.int .i64 S.done)∧W_.cell? ⟨s,5,none⟩=some (.slice (some ad) n ct)∧W_.cell? ⟨u,0,none⟩=some (.int .i64 Y.now)∧W_.cell? ⟨u,1,none⟩=some (.string nm2)∧W_.cell? ⟨u,2,none⟩=some (.slice tA n tc)∧W_.cell? ⟨u,3,none⟩=some (.slice tB mf td))∧W_.cell? ⟨zb,0,none⟩=some (.string zn)∧W_.cell? ⟨zb,1,none⟩=some (.int .i64 zt)∧W_.cell? ⟨zb,2,none⟩=some (.int .i64 zv)∧W_.cell? (ad.add j)=some (.pointer (some ⟨g,0,none⟩))):=fun W_ f=>HCb.out W_ (f.mono q4_)
     obtain⟨fb,hfb⟩:∃ v,zj0 lt S.done j zn=v:=⟨_,rfl⟩
     obtain⟨fv,hfv⟩:∃ v,zat Y.now lt bs j=v:=⟨_,rfl⟩
     obtain⟨sv,hsv⟩:∃ v,zas zt y.every=v:=⟨_,rfl⟩
     have HFi1:Hid (∀ W_,Fr (fun _=>False) wr W_→Calls prog 152 #[.agg #[.string nm2,.slice (some aA) n c,.slice B n d],.int .i64 S.done,.int .i64 (j:Nat),.string zn] W_ fun r w'=>r=.returned (.bool fb)∧Below W_.heap.size W_ w'):=fun W_ f=>by
      rw[← hfb];exact HFi.out W_ j y zn (Hup0.out W_ f) Hy.out hzs
     have HFr1:Hid (∀ W_,Fr (fun _=>False) wr W_→Calls prog 110 #[.agg #[.int .i64 Y.now,.string nm2,.slice tA n tc,.slice tB mf td],.int .i64 (j:Nat)] W_ fun r w'=>r=.returned (.int .i64 fv)∧Below W_.heap.size W_ w'):=fun W_ f=>by
      rw[← hfv];exact HFr.out W_ j (Hup0.out W_ f) hlj
     have hev:=zaq p2.ck (zaa hy)
     have HFl:Hid (∀ W_,Calls prog 151 #[.int .i64 zt,.int .i64 y.every] W_ fun r w'=>r=.returned (.int .i64 sv)∧W_=w'):=fun W_=>by
      rw[← hsv];exact zf_ zt y.every hzt.1 hzt.2 (by omega) (by omega) W_
     have hsvi:zbx sv:=by rw[← hsv];exact zga hzt.1 hzt.2
     have Hfk:Hid (ff j=if fb&&decide (fv≤sv) then zb5 y.every (gg j) ⟨zn,sv,zbj zv⟩ else gg j):=by
      show _=_
      rw[Hff.out j y hy,hfb,hfv,hsv]
     have Hnx:Hid ((zbD n ff gg j).set j (ff j)=zbD n ff gg (j+1)):=zeP hlj
     have Hsame:Hid (ff j=gg j→zbD n ff gg (j+1)=zbD n ff gg j):=fun e=>by rw[← Hnx.out,e];exact ziw (zeQ hlj)
     have H1:=q0_ h1;have H2:=q0_ h2;have HTb0:=q0_ hTb;have x1:=fun o=>(Hbx.out.alloc o).cell 1;simp only[q1_,q2_,q3_] at x1;have k1:=(HC.out wr (Fr.refl _ wr)).1.2.1;clear hcr h1 h2 h3 hTb hy' hfb hfv hsv hbm hev ea ea2 p0 hy;go_wp2_with fail
     obtain⟨W2,hW2⟩:∃ v,v=wr.alloc (.cells #[.string y.name,.int .i64 y.every,.int .i64 y.keep,.int .i64 y.shards] 99):=⟨_,rfl⟩
     rw[← hW2]
     have HF2:Hid (Fr (fun _=>False) wr W2):=by show Fr _ _ _;rw[hW2];exact Fr.none_alloc _ _
     clear hW2 x1 k1;refine (HFl.out _).mono ?_;rintro r W3 ⟨rfl,rfl⟩;go_wp2_with fail
     cases fb
     ·refine wp_region_held_drew (S:=fun W_=>Fr (fun _=>False) wr W_) (by kernel_rfl) (HF2.out.drew) (fun hY_=>?_)
      refine tq 11 [0,1,2,3,4,5,6,7,8,9,10] ?_
      iterate 10 refine sf HC.out ?_
      refine sf HC.out ?_
      try simp only[Act.put,sA,sB,sC]
      refine sz ?_
      try simp only[Act.put,sA,sB,sC]
      refine rl 11 rfl (fun K hK=>?_);go_simp
      go_wp2_with (go_at_call 152;refine (HFi1.out _ hY_).mono ?_;rintro r w6 ⟨rfl,b6⟩)
      refine hK.out _ _ (hY_.trans (Fr.b0 b6) q4_) (fun hY_=>?_);clear hK K;refine tq 10 [12,13,14,15,16,17,18,19,20,21] ?_;refine sk ?_
      try simp only[Act.put,sA,sB,sC]
      iterate 7 (refine su ?_;try simp only[Act.put,sA,sB,sC])
      refine su ?_;refine sk ?_
      try simp only[Act.put,sA,sB,sC]
      refine sz ?_
      try simp only[Act.put,sA,sB,sC]
      refine wpAnyH_done (by kernel_rfl) ?_ _;have G7:=q0_ hY_;clear hY_;go_wp2
      go_roundw
      case rel=>
       refine⟨j+1,by omega,by go_num,?_,Hfj.out.trans G7.out q4_⟩;rw[Hsame.out (by rw[Hfk.out];rfl)];exact Hij.out.fr0 G7.out
      case measure=>simp[intOf];omega
     ·refine wp_region_held_drew (S:=fun W_=>Fr (fun _=>False) wr W_) (by kernel_rfl) (HF2.out.drew) (fun hY_=>?_)
      refine tq 11 [0,1,2,3,4,5,6,7,8,9,10] ?_
      iterate 10 refine sf HC.out ?_
      refine sf HC.out ?_
      try simp only[Act.put,sA,sB,sC]
      refine sz ?_
      try simp only[Act.put,sA,sB,sC]
      refine rl 11 rfl (fun K hK=>?_);go_simp
      go_wp2_with (go_at_call 152;refine (HFi1.out _ hY_).mono ?_;rintro r w6 ⟨rfl,b6⟩)
      refine hK.out _ _ (hY_.trans (Fr.b0 b6) q4_) (fun hY_=>?_);clear hK K;refine tq 7 [12,13,14,15,16,17,18] ?_
      iterate 7 (refine sf HC.out ?_;try simp only[Act.put,sA,sB,sC])
      refine sz ?_
      try simp only[Act.put,sA,sB,sC]
      refine rl 19 rfl (fun K hK=>?_);go_simp
      go_wp2_with (go_at_call 110;refine (HFr1.out _ hY_).mono ?_;rintro r w7 ⟨rfl,b7⟩)
      refine hK.out _ _ (hY_.trans (Fr.b0 b7) q4_) (fun hY_=>?_);clear hK K
      try simp only[Act.put,sA,sB,sC]
      refine tq 2 [20,21] ?_;refine sf HC.out ?_;refine sk ?_
      try simp only[Act.put,sA,sB,sC]
      refine sz ?_
      try simp only[Act.put,sA,sB,sC]
      refine wpAnyH_done (by kernel_rfl) ?_ _
      by_cases hge:fv≤sv
      ·have dg:decide (fv≤sv)=true:=qa_ hge
       have Hfk2:Hid (ff j=zb5 y.every (gg j) ⟨zn,sv,zbj zv⟩):=by show _=_;rw[Hfk.out,dg];rfl
       have G7:=q0_ hY_;have HTb:=q0_ (HTb0.out.fr0 hY_);have HC7:Hid (∀ W_,Fr (fun i=>i=b) w7 W_→(W_.cell? ⟨s,0,none⟩=some (.string nm2)∧W_.cell? ⟨s,1,none⟩=some (.slice (some aA) n c)∧W_.cell? ⟨s,2,none⟩=some (.slice B n d)∧W_.cell? ⟨s,4,none⟩=some (.int .i64 S.done)∧W_.cell? ⟨s,5,none⟩=some (.slice (some ad) n ct)∧W_.cell? ⟨u,0,none⟩=some (.int .i64 Y.now)∧W_.cell? ⟨u,1,none⟩=some (.string nm2)∧W_.cell? ⟨u,2,none⟩=some (.slice tA n tc)∧W_.cell? ⟨u,3,none⟩=some (.slice tB mf td))∧W_.cell? ⟨zb,0,none⟩=some (.string zn)∧W_.cell? ⟨zb,1,none⟩=some (.int .i64 zt)∧W_.cell? ⟨zb,2,none⟩=some (.int .i64 zv)∧W_.cell? (ad.add j)=some (.pointer (some ⟨g,0,none⟩))):=fun W_ f=>HCb.out W_ ((G7.out.mono q4_).trans f (fun _ h=>.inl h));clear hY_;have hagw:=zki Hzv.out;have HOf:Hid (∀ W A c,Rd W 1 A 1 [.int .i64 zv]→Calls prog 148 #[.slice A 1 c] W fun r w'=>r=.returned (zbj zv).val∧Below W.heap.size W w'):=fun W A c hrd=>zjM zv Hzv.out A c W hrd
       obtain⟨ag,hag⟩:∃ ag,zbj zv=ag:=⟨_,rfl⟩
       rw[hag] at hagw HOf Hfk2
       have HAd:Hid (∀ W A c,zar W g y.every b (gg j)→Rd W 7 A 1 [.string zn,.int .i64 sv,.int .i64 ag.count,.int .i64 ag.hi,.int .u64 ag.lo,.int .i64 ag.min,.int .i64 ag.max]→Calls prog 147 #[.pointer (some ⟨g,0,none⟩),.slice A 1 c] W fun r' w'=>(∃ v,r'=.returned (.int .i64 v))∧zar w' g y.every b (zb5 y.every (gg j) ⟨zn,sv,ag⟩)∧Fr (fun i=>i=b) W w'):=fun W A c ht hrd=>by
        refine (zfJ g y.every b (gg j) [⟨zn,sv,ag⟩] A 1 c W ht hrd (fun a ha=>by rw[List.mem_singleton] at ha;rw[ha];exact⟨hsvi,hagw,hzs⟩) (by have:=Hgl.out j;omega)).mono ?_;rintro r' w' ⟨rfl,h1,h2⟩;exact⟨⟨_,rfl⟩,h1,h2⟩
       unfold zaS.val at HOf;clear hagw hag;go_wp2_with fail;refine wp_region_held_drew (S:=fun W_=>Fr (fun i=>i=b) w7 W_) (by kernel_rfl) ((Fr.refl _ w7).drew) (fun hY_=>?_);refine tq 12 [0,1,2,3,4,5,6,7,8,9,10,11] ?_
       iterate 11 refine sf HC7.out ?_
       refine sf HC7.out ?_
       try simp only[Act.put,sA,sB,sC]
       refine sz ?_
       try simp only[Act.put,sA,sB,sC]
       refine rl 12 rfl (fun K hK=>?_);go_simp;refine hK.out _ _ (((Fr.none_alloc w7 _).mono q4_).drew) (fun hY_=>?_);clear hK K
       try simp only[Act.put,sA,sB,sC]
       refine rl 13 rfl (fun K hK=>?_);go_simp
       go_wp2_with (go_at_call 148;refine (HOf.out _ _ _ (Rd.newS (w:=w7) (k:=w7.heap.size) rfl _ _ 1 1 rfl).drew).mono ?_;rintro r w8 ⟨rfl,b8⟩)
       refine hK.out _ _ (hY_.trans (Fr.b0 b8) q4_) (fun hY_=>?_);clear hK K;refine tl 14 ?v46 rfl ?q46 ?r46
       case q46=>intro W hSw;(try obtain⟨⟨q0,q1,q2,q3,q4,q5,q6,q7,q8⟩,q9,q10,q11,q12⟩:=HC7.out W hSw);go_simp;try rfl
       try simp only[Act.put,sA,sB,sC]
       refine rl 15 rfl (fun K hK=>?_);go_simp;refine hK.out _ _ (hY_.trans (Fr.none_alloc _ _) q4_) (fun hY_=>?_);clear hK K
       try simp only[Act.put,sA,sB,sC]
       refine rl 16 rfl (fun K hK=>?_);go_simp
       go_wp2_with (go_at_call 147;refine (HAd.out _ _ _ ((((HTb.out.fr0 (Fr.refl _ w7).drew).fr0 (Fr.none_alloc _ _)).fr0 (Fr.b0 b8)).fr0 (Fr.none_alloc _ _)) (Rd.newS (w:=w8) (k:=w8.heap.size) rfl _ _ 1 7 rfl)).mono ?_;rintro r w9 ⟨⟨v9,rfl⟩,t9,f9⟩)
       refine hK.out _ _ (hY_.trans f9 (fun i hi=>.inl hi)) (fun hY_=>?_);clear hK K
       try simp only[Act.put,sA,sB,sC]
       refine wpAnyH_done (by kernel_rfl) ?_ _;have G9:=q0_ hY_;have T9:=q0_ t9;clear hY_ t9 f9 b8;go_wp2
       go_roundw
       case rel=>
        have h:=Hij.out.set (k:=j) H1.out H2.out T9.out ((G7.out.mono q4_).trans G9.out (fun _ h=>.inl h));simp only at h;rw[← Hfk2.out,Hnx.out] at h;exact⟨j+1,by omega,by go_num,h,(Hfj.out.trans G7.out q4_).trans G9.out (fun i hi=>.inl ⟨_,List.mem_of_getElem? H1.out,hi⟩)⟩
       case measure=>simp[intOf];omega
      ·have dg:decide (fv≤sv)=false:=q9_ hge
       have G7:=q0_ hY_;clear hY_;go_wp2
       go_roundw
       case rel=>
        refine⟨j+1,by omega,by go_num,?_,Hfj.out.trans G7.out q4_⟩;rw[Hsame.out (by rw[Hfk.out,dg];rfl)];exact Hij.out.fr0 G7.out
       case measure=>simp[intOf];omega
    ·obtain rfl:j=n:=by omega
     have gj:decide ((j:Int)<(j:Int))=false:=q9_ (by omega);rw[HeN.out] at Hij;go_wp2
     go_roundw
     case rel=>exact⟨q+1,by omega,by go_num,Hij.out,HF1.out.trans Hfj.out (fun _ h=>.inl h)⟩
     case measure=>simp[intOf];omega
  ·obtain rfl:q=n1:=by omega
   have g0:decide ((q:Int)<(q:Int))=false:=q9_ (by omega);have hall:ls.take q=ls:=zaN (by rw[Hlen.out];exact Nat.le_refl _);rw[hall] at Hiq;have FE:Hid (Fr (tF s tb) W wr):=(F1.out.mono q4_).trans Hfq.out (fun i hi=>.inl (.inr hi));clear hall;go_wp2
   go_end0
   exact⟨rfl,⟨_,_,_,_,_,_,_,Hiq.out,rfl⟩,FE.out⟩
section
variable {nm nm2:ByteArray} {l lt:List za_} {fl:List Int} {o:Int} {lo:Nat} {W:World} {t s base:Nat} {X:zac} {S:ShX} {Ft F:Nat→Prop} {cc:Nat}
end
def zfD(ff gg:Nat→List zaf):Nat→Int
 | 0=>0
 | k+1=>zfD ff gg k+(((gg k).length:Int)-((ff k).length:Nat))
theorem zl8{ff gg:Nat→List zaf}(h:∀ k,(ff k).length≤(gg k).length∧(gg k).length≤1000000):∀ j,0≤zfD ff gg j∧zfD ff gg j≤j*1000000
 | 0=>by simp[zfD]
 | k+1=>by
  have h1:=zl8 h k;have h2:=h k;unfold zfD
  push_cast
  omega
def zgh(Y:zac)(S:ShX):ShX:={S with tabs:=(List.range Y.tiers.length).map fun j=>zao (zae (zat Y.now Y.tiers Y.floors j)) (S.tabs.getD j [])}
def zpn(Y:zac)(S:ShX):Int:=zfD (fun j=>zao (zae (zat Y.now Y.tiers Y.floors j)) (S.tabs.getD j [])) (fun j=>S.tabs.getD j []) Y.tiers.length
theorem znG{nm nm2:ByteArray}{l lt:List za_}{fl:List Int}{o:Int}{lo:Nat}{W:World}{t s base:Nat}{X:zac}{S:ShX}{Ft F:Nat→Prop}{cc:Nat}(p:zaO nm l)(p2:zaO nm2 lt)(hnm2:nm2.size≤maxLen)(h:Tio nm l fl lo W t X Ft cc)(hc:cc≤1000000)(hfl:∀ f∈fl,0≤f∧f≤2199023255552)(hs:zcr W s base S F)(h1:S.name=nm2)(h2:S.tiers=lt)(h3:S.srcs=srcs o l fl lt)(hl:∀ m∈S.tabs,m.length≤1000000):
  Calls prog 104 #[.pointer (some ⟨s,0,none⟩),.pointer (some ⟨t,0,none⟩)] W fun r w'=>r=.returned (.int .i64 (zpn (zaj X nm2 lt (srcs o l fl lt)) S))∧zcr w' s base (zgh (zaj X nm2 lt (srcs o l fl lt)) S) F∧Fr F W w':=by
 obtain⟨A,c,B,d,T,ct,tb,hi,rfl⟩:=hs
 obtain⟨n,hn0⟩:∃ n,lt.length=n:=⟨_,rfl⟩
 have hSn:S.tiers.length=n:=by rw[h2,hn0]
 have hSm:S.srcs.length=n:=by rw[h3];unfold srcs;rw[List.length_map,hn0]
 have hfive:=p2.five
 have hn5:n≤5:=by omega
 have hn1:0<n:=by have:=p2.pos;omega
 have HI:=q0_ hi
 have htc:n≤c:=by have:=(zal hi.tiers).1;omega
 obtain⟨ad,hadT,hcr⟩:=(zal hi.row).2.2.1.2 (show 0<S.tiers.length by omega);subst hadT;have Hcr:=q0_ hcr;have hrdA:=(zal hi.tiers).2.2.1;rw[hSn,h2] at hrdA;obtain⟨aA,haA,_⟩:=hrdA.2 hn1;subst haA;have HrdA:=q0_ hrdA
 have HBu:Hid (Calls prog 150 #[.agg #[.string nm2,.slice (some aA) n c,.slice B n d],.pointer (some ⟨t,0,none⟩)] W fun r w'=>(∃ t' F',r=.returned (.tuple #[.pointer (some ⟨t',0,none⟩),.int .i64 0])∧Tio nm2 lt (zaw X.now l fl (srcs o l fl lt) lt) W.heap.size w' t' (zaj X nm2 lt (srcs o l fl lt)) F' cc∧∀ j,F' j→W.heap.size≤j)∧Below W.heap.size W w'):=by
  have q2:=(zal HI.out.srcs).2.2.1;rw[hSm,h3] at q2;exact zcI p p2 hnm2 h hc hfl (some aA) n c B d HrdA.out htc q2 W.heap.size (Nat.le_refl _)
 obtain⟨bs,hbs⟩:∃ v,zaw X.now l fl (srcs o l fl lt) lt=v:=⟨_,rfl⟩
 obtain⟨Y,hY⟩:∃ v,zaj X nm2 lt (srcs o l fl lt)=v:=⟨_,rfl⟩
 have HYt:Hid (Y.tiers=lt):=by show _=_;rw[← hY];rfl
 rw[hbs,hY] at HBu;rw[hY];have Hn0:=q0_ hn0;have HSn:=q0_ hSn;have Ht:=q0_ h2;have Hl:=q0_ hl
 have HCs:Hid (∀ {W':World} {G:Nat→Prop},Fr G W W'→¬ G s→W'.cell? ⟨s,0,none⟩=some (.string nm2)∧W'.cell? ⟨s,1,none⟩=some (.slice (some aA) n c)∧W'.cell? ⟨s,2,none⟩=some (.slice B n d)∧W'.cell? ⟨s,4,none⟩=some (.int .i64 S.done)∧W'.cell? ⟨s,5,none⟩=some (.slice (some ad) n ct)):=fun f hg=>by
  obtain⟨c0,c1,c2,_,c4,c5⟩:=HI.out.cells f hg;rw[h1] at c0;rw[hSn] at c1 c5;rw[hSm] at c2;exact⟨c0,c1,c2,c4,c5⟩
 have HMp:Hid (∀ j,tM tb j→∃ es ck,W.heap[j]? =some (.map es ck)):=fun j hj=>(HI.out.map_ hj).2.2;have HMl:Hid (∀ j,tM tb j→j<W.heap.size):=fun j hj=>(HI.out.map_ hj).2.1
 have HTl:Hid (S.tabs.length=n):=by show _=_;rw[HI.out.tlen,HSn.out]
 obtain⟨c0,c1,c2,c4,c5⟩:=HCs.out (Fr.refl (fun _=>False) W) (fun h=>h);clear hi hn0 hSm hbs hY h1 h2 h3 h hl hSn hcr hrdA;go_enter func104,ntmps104;go_wp2_with fail;refine HBu.out.mono ?_;rintro r w1 ⟨⟨u,Fu,rfl,T1,hFu⟩,b1⟩;have F1:Hid (Fr (fun _=>False) W w1):=Fr.b0 b1;have HT1:=q0_ T1;have HFu:=q0_ hFu;obtain⟨tA,tc,tB,td,hR⟩:=T1.reach;have HR:=q0_ hR
 obtain⟨mf,hmf⟩:∃ m,bs.length=m:=⟨_,rfl⟩
 have hY0:=T1.good.now
 -- frames of the maps alone
 have HFm:Hid (∀ W',Fr (tM tb) w1 W'→Fr (fun j=>tM tb j∧∃ es ck,w1.heap[j]? =some (.map es ck)) w1 W'):=fun W' f=>f.mono (fun j hj=>.inl ⟨hj,by obtain⟨es,ck,h⟩:=HMp.out j hj;exact⟨es,ck,by rw[F1.out.block j (HMl.out j hj) (fun h=>h)];exact h⟩⟩)
 have HCw:Hid (∀ W_,Fr (tM tb) w1 W_→W_.cell? ⟨s,0,none⟩=some (.string nm2)∧W_.cell? ⟨s,1,none⟩=some (.slice (some aA) n c)∧W_.cell? ⟨s,2,none⟩=some (.slice B n d)∧W_.cell? ⟨s,4,none⟩=some (.int .i64 S.done)∧W_.cell? ⟨s,5,none⟩=some (.slice (some ad) n ct)∧W_.cell? ⟨u,0,none⟩=some (.int .i64 Y.now)∧W_.cell? ⟨u,1,none⟩=some (.string nm2)∧W_.cell? ⟨u,2,none⟩=some (.slice tA n tc)∧W_.cell? ⟨u,3,none⟩=some (.slice tB mf td)):=fun W_ f=>by
  obtain⟨k0,k1,k2,k3,k4⟩:=HCs.out F1.out (fun h=>h);have r2:=HR.out.c2;have r3:=HR.out.c3;rw[Hn0.out] at r2;rw[hmf] at r3;have g:=HFm.out W_ f;exact⟨zaG g k0,zaG g k1,zaG g k2,zaG g k3,zaG g k4,zaG g HR.out.c0,zaG g HR.out.c1,zaG g r2,zaG g r3⟩
 have HRdm:Hid (∀ W_,Fr (tM tb) w1 W_→Rd W_ 4 (some aA) n (zag lt)):=fun W_ f=>(HrdA.out.fr0 F1.out).mapfr (by decide) (HFm.out W_ f)
 have HFr:Hid (∀ W_ (j:Nat),Fr (tM tb) w1 W_→j<n→Calls prog 110 #[.agg #[.int .i64 Y.now,.string nm2,.slice tA n tc,.slice tB mf td],.int .i64 (j:Nat)] W_ fun r w'=>r=.returned (.int .i64 (zat Y.now lt bs j))∧Below W_.heap.size W_ w'):=fun W_ j f hj=>by
  have g:=HFm.out W_ f
  have hR':zde W_ u Y.now nm2 lt bs tA tc tB td:=⟨zaG g HR.out.c0,zaG g HR.out.c1,zaG g HR.out.c2,zaG g HR.out.c3,HR.out.rt.mapfr (by decide) g,HR.out.rf.mapfr (by decide) g,HR.out.le⟩
  have:=zft p2 hR' hY0 j (by rw[Hn0.out];exact hj);rw[Hn0.out,hmf] at this;exact this
 have hYf:Y.floors=bs:=T1.good.floors
 obtain⟨gg,hgg⟩:∃ f:Nat→List zaf,(fun j=>S.tabs.getD j [])=f:=⟨_,rfl⟩
 obtain⟨ff,hff⟩:∃ f:Nat→List zaf,(fun j=>zao (zae (zat Y.now lt bs j)) (gg j))=f:=⟨_,rfl⟩
 have Hff:Hid (∀ j,ff j=zao (zae (zat Y.now lt bs j)) (gg j)):=fun j=>by rw[← hff]
 have Hgl:Hid (∀ j,(gg j).length≤1000000):=fun j=>by
  rw[← hgg];exact ze8 Hl.out j
 have Hfl:Hid (∀ j,(ff j).length≤(gg j).length):=fun j=>by
  rw[Hff.out j];unfold zao;exact List.length_filter_le _ _
 have HI1:Hid (zdv w1 s base {S with tabs:=zbD n ff gg 0} (some aA) c B d (some ad) ct tb):=by
  have e:zbD n ff gg 0=S.tabs:=by rw[zd9, ← hgg];exact zg_ HTl.out
  rw[e];exact HI.out.fr0 F1.out
 have HTX:Hid ({S with tabs:=zbD n ff gg n}=zgh Y S):=by
  show _=_
  unfold zgh;rw[zeR, ← hff, ← hgg,HYt.out,hYf,Hn0.out]
 have HC0:Hid (zfD ff gg n=zpn Y S):=by
  show _=_
  unfold zpn;rw[← hff, ← hgg,HYt.out,hYf,Hn0.out]
 have HDb:Hid (∀ j,0≤zfD ff gg j∧zfD ff gg j≤j*1000000):=fun j=>zl8 (fun k=>⟨Hfl.out k,Hgl.out k⟩) j;clear T1 b1 HBu c0 c1 c2 c4 c5 hR hFu hmf hYf hgg hff;have k5:=(HCw.out w1 (Fr.refl _ _)).2.2.2.2.1;go_wp2_with fail;clear k5
 go_loopw [7,28] (fun v i wr=>∃ j:Nat,j≤n∧i=.int .i64 j∧v=.int .i64 (zfD ff gg j)∧zdv wr s base {S with tabs:=zbD n ff gg j} (some aA) c B d (some ad) ct tb∧Fr (tM tb) w1 wr) (fun _ i _=>n-(intOf i).toNat)
 case atStart=>exact⟨0,Nat.zero_le _,rfl,rfl,HI1.out,Fr.refl _ _⟩
 case round=>
  obtain⟨j,hj,rfl,rfl,hij,hfj⟩:=hrel;have Hij:=q0_ hij;have Hfw:=q0_ hfj;clear hij hfj
  obtain⟨dv,hdv⟩:∃ v,zfD ff gg j=v:=⟨_,rfl⟩
  rw[hdv]
  by_cases hlj:j<n
  ·obtain⟨g,b,y,m,h1,h2,h3,hTb⟩:=Hij.out.tabAt (k:=j) (by show _<S.tiers.length;rw[HSn.out];exact hlj)
   have hy:lt[j]? =some y:=by rw[← Ht.out];exact h2
   have hmg:m=gg j:=by
    have h4:(zbD n ff gg j)[j]? =some m:=h3;rw[zeQ hlj] at h4;exact (Option.some.inj h4).symm
   subst hmg;obtain⟨ad',ea,hcr⟩:=(zal Hij.out.row).2.2.1.2 (show 0<S.tiers.length by rw[HSn.out];omega);obtain rfl:ad=ad':=Option.some.inj ea;have p0:=hcr j _ (zbY h1)
   try simp only at p0
   have kj:0≤(j:Int)∧(j:Int)<(n:Int):=by omega
   have gj:decide ((j:Int)<(n:Int))=true:=qa_ (by omega)
   have hjw:IntKind.i64.wrap ((j:Int)+1)=(j:Int)+1:=by simp[IntKind.wrap,IntKind.signed,IntKind.bits];omega
   have HTb:=q0_ hTb
   obtain⟨fv,hfv⟩:∃ v,zat Y.now lt bs j=v:=⟨_,rfl⟩
   have HFr1:Hid (∀ W_,Fr (fun _=>False) wr W_→Calls prog 110 #[.agg #[.int .i64 Y.now,.string nm2,.slice tA n tc,.slice tB mf td],.int .i64 (j:Nat)] W_ fun r w'=>r=.returned (.int .i64 fv)∧Below W_.heap.size W_ w'):=fun W_ f=>by
    rw[← hfv];exact HFr.out W_ j (Hfw.out.trans f q4_) hlj
   have hfj:ff j=zao (zae fv) (gg j):=by rw[Hff.out j,hfv]
   have hgl:=Hgl.out j;have hfl:=Hfl.out j
   obtain⟨lv,hlv⟩:∃ v,((gg j).length:Int)-((ff j).length:Nat)=v:=⟨_,rfl⟩
   have HDp:Hid (∀ W_,Fr (fun _=>False) wr W_→Calls prog 153 #[.pointer (some ⟨g,0,none⟩),.int .i64 fv] W_ fun r w'=>r=.returned (.int .i64 lv)∧zar w' g y.every b (ff j)∧Fr (fun i=>i=b) W_ w'):=fun W_ f=>by
    have:=zgl g y.every b (gg j) fv W_ (HTb.out.fr0 f) (by omega);rw[← hfj,hlv] at this;exact this
   have hds:zfD ff gg (j+1)=dv+lv:=by show zfD ff gg j+_=_;rw[hdv,hlv]
   have hdb:=HDb.out j;rw[hdv] at hdb;have hw:=zin (x:=dv+lv) (by omega);have Hds:=q0_ hds;have Hup:Hid (∀ W_,Fr (fun i=>i=b) wr W_→Fr (tM tb) w1 W_):=fun W_ f=>Hfw.out.trans f (fun i hi=>.inl ⟨_,List.mem_of_getElem? h1,hi⟩);have Hnx:Hid ((zbD n ff gg j).set j (ff j)=zbD n ff gg (j+1)):=zeP hlj;have H1:=q0_ h1;have H2:=q0_ h2;obtain⟨q0,q1,q2,q3,q4,q5,q6,q7,q8⟩:=HCw.out wr Hfw.out;clear hcr h1 h2 h3 hTb hfv hlv hds hfj ea hdb hgl hfl hdv;go_wp2_with fail;refine (HFr1.out _ (Fr.refl _ _)).mono ?_;rintro r w5 ⟨rfl,b5⟩;have F5:Hid (Fr (fun _=>False) wr w5):=Fr.b0 b5;clear b5;go_wp2_with fail;refine (HDp.out _ F5.out).mono ?_;rintro r w6 ⟨rfl,t6,f6⟩;have T6:=q0_ t6;have F6:Hid (Fr (fun i=>i=b) wr w6):=(F5.out.mono q4_).trans f6 (fun i hi=>.inl hi);clear t6 f6 q0 q1 q2 q3 q4 q5 q6 q7 q8 p0;go_wp2
   go_roundw
   case rel=>
    refine⟨j+1,by omega,by go_num,by rw[Hds.out],?_,Hup.out _ F6.out⟩;rw[← Hnx.out];exact Hij.out.set H1.out H2.out T6.out F6.out
   case measure=>simp[intOf];omega
  ·obtain rfl:j=n:=by omega
   have g0:decide ((j:Int)<(j:Int))=false:=q9_ (by omega);have FE:Hid (Fr (tF s tb) W wr):=(F1.out.mono q4_).trans Hfw.out (fun i hi=>.inl (.inr hi))
   have hdn:dv=zpn Y S:=by rw[← hdv];exact HC0.out
   clear hdv;rw[HTX.out] at Hij;have Hdn:=q0_ hdn;clear hdn;go_wp2;go_ret;exact⟨by rw[← Hdn.out];rfl,⟨_,_,_,_,_,_,_,Hij.out,rfl⟩,FE.out⟩
section
variable {nm nm2:ByteArray} {l lt:List za_} {fl:List Int} {o:Int} {X:zac} {S:ShX} {c:Nat}
theorem zpS{Y Z:zac}{done:Int}(h1:Y.now=Z.now)(h2:Y.tiers=Z.tiers)(h3:Y.floors=Z.floors):zeH Y done=zeH Z done:=by
 funext tabs s
 unfold zeH zhl;rw[h1,h2,h3]
theorem znA{now:Int}{l:List za_}{fl:List Int}{z:zaz}(h:zcl now l fl z=0):0≤z.time:=by
 unfold zcl at h
 split at h
 ·rename_i h2;exact h2.2
 ·cases h
theorem zpK{z:zaz}(h:zcl X.now X.tiers X.floors z=0):zgD X [z]=0:=by
 show zfc X [z]=0
 exact zg1 (fun s hs=>by rw[List.mem_singleton] at hs;rw[hs];exact h)
theorem zjo(p:zai nm l=true)(hfl:∀ f∈fl,0≤f∧f≤2199023255552)(p2:zai nm2 lt=true)(done:Int):∀ (s:List zaz) (X:zac) (c:Nat),zbm nm l fl X c→(∀ a∈s,zcl X.now X.tiers X.floors a=0)→
  zbW (zaj {X with tabs:=zc2 X X.tabs s} nm2 lt (srcs o l fl lt)) done (shT lt done (zaj X nm2 lt (srcs o l fl lt)).tabs) s=shT lt done (zaj {X with tabs:=zc2 X X.tabs s} nm2 lt (srcs o l fl lt)).tabs
 | [],X,c,_,_=>rfl
 | a::s,X,c,hg,h=>by
  have ha:=h a (by simp);have hE:=zpK ha
  have hX:zbn X [a]={X with tabs:=zi1 X X.tabs a}:=by unfold zbn;rw[if_pos hE];rfl
  have hg2:=hg.put [a];have ih:=zjo p hfl p2 done s (zbn X [a]) (c+8) hg2 (fun b hb=>by rw[hX];exact h b (List.mem_cons_of_mem _ hb));have e2:=zpE (o:=o) (done:=done) p hg hfl p2 hE (znA ha)
  have e3:({zbn X [a] with tabs:=zc2 (zbn X [a]) (zbn X [a]).tabs s}:zac)={X with tabs:=zc2 X X.tabs (a::s)}:=by rw[hX];rfl
  rw[e3] at ih;have e4:zeH (zaj {X with tabs:=zc2 X X.tabs (a::s)} nm2 lt (srcs o l fl lt)) done=zeH (zaj (zbn X [a]) nm2 lt (srcs o l fl lt)) done:=zpS (by rw[hX];first | done | rfl) rfl (by rw[hX];first | done | rfl);rw[← ih, ← e2]
  show zbW _ done (zeH _ done _ a) s=_
  rw[e4]
theorem zqD(p:zai nm l=true)(hg:zbm nm l fl X c)(hfl:∀ f∈fl,0≤f∧f≤2199023255552)(p2:zai nm2 lt=true){s:List zaz}(hE:zgD X s=0)(done:Int):
  zbW (zaj (zbn X s) nm2 lt (srcs o l fl lt)) done (shT lt done (zaj X nm2 lt (srcs o l fl lt)).tabs) s=shT lt done (zaj (zbn X s) nm2 lt (srcs o l fl lt)).tabs:=by
 have hX:zbn X s={X with tabs:=zc2 X X.tabs s}:=by unfold zbn;rw[if_pos hE]
 rw[hX];refine zjo p hfl p2 done s X c hg (fun a ha=>?_)
 have h:zfc X s=0:=by
  unfold zgD at hE
  split at hE
  ·cases hE
  ·split at hE
   ·cases hE
   ·exact hE
 unfold zfc at h
 split at h
 ·rename_i z hz
  have:=List.find?_some hz;simp only[decide_eq_true_eq] at this;exact absurd h this
 ·rename_i hz
  have:=List.find?_eq_none.1 hz a ha;simpa using this
theorem zjw{e F F' G:Int}(he:1≤e)(hF:F≤F')(hG:G≤F'):∀ {L acc:List zaf},zby acc→(∀ r∈L,0≤r.start)→
  zao (zae F') (zbS e F acc L)=zbS e F' (zao (zae F') acc) (zao (zae G) L)
 | [],_,_,_=>rfl
 | r::L,acc,hg,hr=>by
  have h0:=hr r (by simp);obtain⟨_,f2,_⟩:=ze9 h0 he
  show zao (zae F') (zbS e F (zbT e F acc r) L)=_
  rw[zjw he hF hG (zdj hg r) (fun y hy=>hr y (List.mem_cons_of_mem _ hy))]
  have hcons:zao (zae G) (r::L)=if r.start<G then zao (zae G) L else r::zao (zae G) L:=by
   unfold zao
   by_cases h:r.start<G
   ·rw[if_pos h,List.filter_cons_of_neg (by unfold zae;simp[h])]
   ·rw[if_neg h,List.filter_cons_of_pos (by unfold zae;simp[h])]
  have hlow:zas r.start e<F'→zao (zae F') (zbT e F acc r)=zao (zae F') acc:=fun h=>by
   unfold zbT
   split
   ·exact zgS (zep F') hg.1 (by unfold zae;simpa using h)
   ·rfl
  rw[hcons]
  by_cases h1:r.start<G
  ·rw[if_pos h1,hlow (by omega)]
  ·rw[if_neg h1]
   show _=zbS e F' (zbT e F' (zao (zae F') acc) r) (zao (zae G) L)
   congr 1
   by_cases h2:F'≤zas r.start e
   ·unfold zbT
    rw[if_pos h2,if_pos (by omega)];exact zgT (zep F') hg.1 (by unfold zae;simp;omega)
   ·rw[hlow (by omega)]
    unfold zbT;rw[if_neg h2]
theorem zoQ{a b e:Int}(h0:0≤a)(hab:a≤b)(h1:b≤4398046511104)(he:1≤e)(he2:e≤1000000):zc4 a e≤zc4 b e:=by
 obtain⟨a1,a2,a3,a4,_⟩:=zfe (t:=a) (e:=e) h0 (by omega) he he2;obtain⟨b1,b2,b3,b4,_⟩:=zfe (t:=b) (e:=e) (by omega) h1 he he2;rw[Int.tmod_eq_emod_of_nonneg a4] at a1;rw[Int.tmod_eq_emod_of_nonneg b4] at b1;obtain⟨x,hx⟩:=Int.dvd_of_emod_eq_zero a1;obtain⟨y,hy⟩:=Int.dvd_of_emod_eq_zero b1;rw[hx] at a3;rw[hy] at b2;rw[hx,hy]
 rcases Int.lt_or_le y x with h | h
 ·have h4:e*(y+1)≤e*x:=Int.mul_le_mul_of_nonneg_left (by omega) (by omega)
  rw[Int.mul_add] at h4;omega
 ·exact Int.mul_le_mul_of_nonneg_left h (by omega)
theorem zm0{a b:Int}{l:List za_}{fl fl':List Int}{k:Nat}{f f':Int}(hl:∀ t∈l,t.keep≤1000000∧t.every≤1000000)(ha:0≤a)(hab:a≤b)(hf:fl[k]? =some f)(hf':fl'[k]? =some f')(hff:f≤f'):zat a l fl k≤zat b l fl' k:=by
 unfold zat;rw[hf,hf']
 split
 ·rename_i x y hx hy
  have hb:=zkg (keep:=x.keep) (e:=y.every) ha (hl x (zaa hx)).1 (hl y (zaa hy)).2 hab;simp only;omega
 ·exact Int.le_refl _
theorem zif(p:zai nm l=true)(hg:zbm nm l fl X c)(hfl:∀ f∈fl,0≤f∧f≤2199023255552)(p2:zai nm2 lt=true){n:Int}(hE:zdI X n=0){j:Nat}(hj:j<lt.length):
  (zaj (zaC X n) nm2 lt (srcs o l fl lt)).tabs.getD j []=zao (zae (zat (zaC X n).now lt (zaw (zaC X n).now l fl (srcs o l fl lt) lt) j)) ((zaj X nm2 lt (srcs o l fl lt)).tabs.getD j []):=by
 have hg2:=hg.tick n;have hX:=zpt hE
 have hn0:0≤n:=by unfold zdI at hE;split at hE<;>omega
 have hy:lt[j]? =some lt[j]:=q6_ hj;obtain⟨i,x,hx,hs,hd,hf,hb⟩:=zcV (o:=o) (X:=X) p hg.now hfl p2 hy;obtain⟨i2,x2,hx2,hs2,hd2,hf2,hb2⟩:=zcV (o:=o) (X:=zaC X n) p hg2.now hfl p2 hy;rw[hs] at hs2
 have hi2:i2=i:=by injection hs2 with h;omega
 subst hi2;have hi:=(List.getElem?_eq_some_iff.1 hx).1
 have hxX:X.tiers[i2]? =some x:=by rw[hg.tiers];exact hx
 have hxX2:(zaC X n).tiers[i2]? =some x:=by rw[hg2.tiers];exact hx
 have hy1:=zaq p2 (zaa hy)
 have hnow:(zaC X n).now=X.now+n:=by rw[hX]
 have hle:∀ {l:List za_} {nm:ByteArray},zai nm l=true→∀ t∈l,t.keep≤1000000∧t.every≤1000000:=fun h t ht=>by have:=zaq h ht;omega
 have hm1:=zoA (a:=X.now) (b:=(zaC X n).now) (l:=l) (fl:=fl) (hle p) hg.now.1 (by omega) i2;have hbd:=zfC p hg.now.1 hg.now.2 hfl i2;have hbd2:=zfC p hg2.now.1 hg2.now.2 hfl i2;have hm2:=zm0 (hle p2) hg.now.1 (show X.now≤(zaC X n).now by omega) hb hb2 (zoQ hbd.1 hm1 (by omega) hy1.1 hy1.2.1);rw[zcU hj,zcU hj];unfold zcW;rw[hs,hy];simp only[Int.toNat_natCast];rw[hxX,hxX2];simp only;rw[hg.tiers,hg.floors,hg2.tiers,hg2.floors];unfold zc1;simp only[if_pos hd,zf4]
 have ht:(zaC X n).tabs.getD i2 []=zao (zae (zat (X.now+n) l fl i2)) (X.tabs.getD i2 []):=by
  rw[hX]
  show (zdq (X.now+n) X).getD i2 []=_
  rw[zh9 _ _ _ (by rw[hg.tiers];exact hi),hg.tiers,hg.floors]
 rw[ht];rw[hnow] at hm2 hf2 ⊢;exact (zjw hy1.1 hm2 hf2 zb8 (fun r hr=>(hg.grid i2 x hx r hr).2.1)).symm
theorem zpD(p:zai nm l=true)(hg:zbm nm l fl X c)(hfl:∀ f∈fl,0≤f∧f≤2199023255552)(p2:zai nm2 lt=true){n:Int}(hE:zdI X n=0)(done:Int):
  (List.range lt.length).map (fun j=>zao (zae (zat (zaC X n).now lt (zaw (zaC X n).now l fl (srcs o l fl lt) lt) j)) ((shT lt done (zaj X nm2 lt (srcs o l fl lt)).tabs).getD j []))=shT lt done (zaj (zaC X n) nm2 lt (srcs o l fl lt)).tabs:=by
 conv=>rhs;unfold shT
 refine List.map_congr_left (fun j hj=>?_);have hj:=List.mem_range.1 hj;rw[ziu hj];unfold shL;rw[zif p hg hfl p2 hE hj];unfold zao;rw[List.filter_filter,List.filter_filter];refine List.filter_congr fun r _=>?_;rw[Bool.and_comm]
theorem zfp:∀ {a b:List Nat},a.length=b.length→(∀ (i:Nat) x y,a[i]? =some x→b[i]? =some y→x≤y)→a.sum≤b.sum
 | [],[],_,_=>Nat.le_refl _
 | x::a,y::b,hl,h=>by
  have h1:=h 0 x y rfl rfl;have h2:=zfp (a:=a) (b:=b) (by simpa using hl) (fun i x y hx hy=>h (i+1) x y hx hy);simp only[List.sum_cons];omega
 | [],_::_,hl,_=>by simp at hl
 | _::_,[],hl,_=>by simp at hl
theorem zhS(M:Int)(so:zaf→Bool)(m:List zaf):ze6 M (zao so m)≤ze6 M m:=by
 unfold ze6;refine zfp (by simp) (fun i x y hx hy=>?_);rw[List.getElem?_map] at hx hy
 cases hr:(List.range M.toNat)[i]? with
 | none=>rw[hr] at hx;cases hx
 | some k=>
  rw[hr] at hx hy;simp only[Option.map_some,Option.some.injEq] at hx hy;subst hx;subst hy
  have h:zhe M (zao so m) k≤zhe M m k:=by
   unfold zhe zao;rw[List.filter_filter, ← List.countP_eq_length_filter, ← List.countP_eq_length_filter];exact List.countP_mono_left (fun r _ h=>by simp only[Bool.and_eq_true] at h;exact h.1)
  omega
theorem zim.put(h:zim nm2 l lt fl o X S)(p:zai nm l=true)(hg:zbm nm l fl X c)(hfl:∀ f∈fl,0≤f∧f≤2199023255552)(p2:zai nm2 lt=true){s:List zaz}(hE:zgD X s=0):
  zim nm2 l lt fl o (zbn X s) {S with tabs:=zbW (zaj (zbn X s) nm2 lt (srcs o l fl lt)) S.done S.tabs s}:=
 ⟨h.name,h.tiers,h.src,by show zbW _ S.done S.tabs s=_;rw[h.tabs];exact zqD p hg hfl p2 hE S.done,h.d0,h.d1⟩
theorem zim.tick(h:zim nm2 l lt fl o X S)(p:zai nm l=true)(hg:zbm nm l fl X c)(hfl:∀ f∈fl,0≤f∧f≤2199023255552)(p2:zai nm2 lt=true){n:Int}(hE:zdI X n=0):
  zim nm2 l lt fl o (zaC X n) (zgh (zaj (zaC X n) nm2 lt (srcs o l fl lt)) S):=by
 have hg2:=hg.tick n;refine⟨h.name,h.tiers,h.src,?_,h.d0,h.d1⟩;have:=zpD (o:=o) p hg hfl p2 hE S.done
 show _=shT lt S.done (zaj (zaC X n) nm2 lt (srcs o l fl lt)).tabs
 rw[← this, ← h.tabs]
 show (List.range lt.length).map (fun j=>zao (zae (zat (zaC X n).now lt (zaw (zaC X n).now (zaC X n).tiers (zaC X n).floors (srcs o l fl lt) lt) j)) (S.tabs.getD j []))=_
 rw[hg2.tiers,hg2.floors]
end
section
variable {nm nm2:ByteArray} {l lt:List za_} {fl:List Int} {o:Int} {lo:Nat} {W:World} {t s base:Nat} {X:zac} {S:ShX} {Ft F:Nat→Prop} {cc c0:Nat}
theorem znQ(p:zaO nm l)(p2:zaO nm2 lt)(hnm2:nm2.size≤maxLen)(hg:zbm nm l fl X c0){sl:List zaz}(hE:zgD X sl=0)(hz:∀ z∈sl,z.wf)(h:Tio nm l fl lo W t (zbn X sl) Ft cc)(hc:cc≤1000000)(hc0:c0≤1000000)(hfl:∀ f∈fl,0≤f∧f≤2199023255552)(hs:zcr W s base S F)(hk:zim nm2 l lt fl o X S)(A1:Option Addr)(n1 c1:Nat)(hr:Rd W 3 A1 n1 (zdE sl))(hn1:n1≤1000)(hA:∀ j,adF A1 n1 j→¬ F j):
  Calls prog 102 #[.pointer (some ⟨s,0,none⟩),.pointer (some ⟨t,0,none⟩),.slice A1 n1 c1] W fun r w'=>r=.returned (.tuple #[])∧zcr w' s base {S with tabs:=zbW (zaj (zbn X sl) nm2 lt (srcs o l fl lt)) S.done S.tabs sl} F∧zim nm2 l lt fl o (zbn X sl) {S with tabs:=zbW (zaj (zbn X sl) nm2 lt (srcs o l fl lt)) S.done S.tabs sl}∧Fr F W w':=by
 have hst:=zcw p2;refine (znS p p2 hnm2 h hc hfl hs hk.name hk.tiers hk.src ⟨hk.d0,by have:=hk.d1;omega⟩ (fun m hm=>Nat.le_trans (hk.lens p p2 hg hfl m hm) hc0) sl A1 n1 c1 hr hz hn1 hA).mono ?_;rintro r w' ⟨rfl,h3,h4⟩;exact⟨rfl,h3,hk.put p.ck hg hfl p2.ck hE,h4⟩
end
structure StX where
 room:Int
 X:zac
 ch:Option ShX
def zcY:Option ShX→Int
 | none=>0
 | some S=>S.bound
def ShX.built(S:ShX)(X:zac):zac:=zaj X S.name S.tiers S.srcs
def zoE:Option ShX→zac→Bool
 | none,_=>true
 | some S,X=>decide (((zbb (S.built X):Nat):Int)≤S.bound)
def zju(Q:StX)(X:zac):Bool:=decide (((zbb X:Nat):Int)+zcY Q.ch≤Q.room)&&zoE Q.ch X
def zdD(Q:StX)(s:List zaz):Int:=if zgD Q.X s=0 then (if zju Q (zbn Q.X s) then 0 else 20) else zgD Q.X s
def ShX.noted(S:ShX)(X:zac)(s:List zaz):ShX:={S with tabs:=zbW (S.built X) S.done S.tabs s}
def zem(Q:StX)(s:List zaz):StX:=if zdD Q s=0 then {Q with X:=zbn Q.X s,ch:=Q.ch.map fun S=>S.noted (zbn Q.X s) s} else Q
def zdP(Q:StX)(n:Int):StX:=if zdI Q.X n=0 then {Q with X:=zaC Q.X n,ch:=Q.ch.map fun S=>zgh (S.built (zaC Q.X n)) S} else Q
def zdt(X:zac)(nm2:ByteArray)(lt:List za_):ShX:=
 ⟨nm2,lt,srcs X.now X.tiers X.floors lt,2*((zbb (zaj X nm2 lt (srcs X.now X.tiers X.floors lt)):Nat):Int)+zap lt,0,lt.map fun _=>[]⟩
def zbp(Q:StX)(R:Int×ByteArray×List za_):Int:=
 match Q.ch with
 | some _=>21
 | none=>if R.1=0 then (if ((zbb Q.X:Nat):Int)+(zdt Q.X R.2.1 R.2.2).bound≤Q.room then 0 else 20) else R.1
def zbB(Q:StX)(R:Int×ByteArray×List za_):StX:=if zbp Q R=0 then {Q with ch:=some (zdt Q.X R.2.1 R.2.2)} else Q
def zdQ(Q:StX):(Int×Int×Int)×Int:=
 match Q.ch with
 | none=>((0,0,0),8)
 | some S=>((atV S.tiers S.done).1,0)
def zc6(Q:StX):StX:=
 match Q.ch with
 | none=>Q
 | some S=>if S.done=zaX S.tiers-1 then {Q with X:=S.built Q.X,ch:=none} else {Q with ch:=some (S.go S.name S.tiers (S.built Q.X))}
def zeb(Q:StX):Int:=match Q.ch with | none=>8 | some _=>0
def zfq(Q:StX):StX:={Q with ch:=none}
structure zrB(X:zac)(S:ShX):Prop where
 pol:zaO S.name S.tiers
 nm:S.name.size≤maxLen
 ok:∃ o,zim S.name X.tiers S.tiers X.floors o X S
 done:S.done<zaX S.tiers
 b0:0≤S.bound
 fits:((zbb (S.built X):Nat):Int)≤S.bound
structure zax(Q:StX)(c:Nat):Prop where
 pol:zaO Q.X.name Q.X.tiers
 nm:Q.X.name.size≤maxLen
 good:zbm Q.X.name Q.X.tiers Q.X.floors Q.X c
 fl:∀ f∈Q.X.floors,0≤f∧f≤1099511627776+1000000*(c:Int)
 flen:Q.X.floors.length≤5
 room:0≤Q.room∧Q.room≤4096
 need:((zbb Q.X:Nat):Int)+zcY Q.ch≤Q.room
 ch:∀ S,Q.ch=some S→zrB Q.X S
section
variable {Q:StX} {c:Nat}
theorem zax.hfl(h:zax Q c)(hc:c≤1000000):∀ f∈Q.X.floors,0≤f∧f≤2199023255552:=fun f hf=>by
 have:=h.fl f hf;omega
theorem zax.more(h:zax Q c){d:Nat}(hd:c≤d):zax Q d:=
 ⟨h.pol,h.nm,h.good.more hd,fun f hf=>by have:=h.fl f hf;omega,h.flen,h.room,h.need,h.ch⟩
theorem zhI(X:zac)(s:List zaz):(zbn X s).name=X.name∧(zbn X s).tiers=X.tiers∧(zbn X s).floors=X.floors∧(zbn X s).now=X.now:=by
 unfold zbn
 split<;>exact⟨rfl,rfl,rfl,rfl⟩
theorem zgj(X:zac)(n:Int):(zaC X n).name=X.name∧(zaC X n).tiers=X.tiers∧(zaC X n).floors=X.floors:=by
 unfold zaC
 split<;>exact⟨rfl,rfl,rfl⟩
theorem zkP{X:zac}(h:zju Q X=true):((zbb X:Nat):Int)+zcY Q.ch≤Q.room∧zoE Q.ch X=true:=by
 unfold zju at h;rw[Bool.and_eq_true,decide_eq_true_eq] at h;exact h
theorem zax.put(h:zax Q c)(hc:c≤1000000)(s:List zaz):zax (zem Q s) (c+8):=by
 unfold zem
 split
 ·rename_i hE
  unfold zdD at hE
  have hP:zgD Q.X s=0:=by
   by_cases hp:zgD Q.X s=0
   ·exact hp
   ·rw[if_neg hp] at hE;exact absurd hE hp
  rw[if_pos hP] at hE
  have hR:zju Q (zbn Q.X s)=true:=by
   cases hr:zju Q (zbn Q.X s)
   ·rw[hr] at hE;cases hE
   ·rfl
  obtain⟨r1,r2⟩:=zkP hR;obtain⟨e1,e2,e3,e4⟩:=zhI Q.X s;have hg:=h.good.put s;refine⟨?_,?_,?_,?_,?_,h.room,?_,?_⟩
  ·show zaO (zbn Q.X s).name (zbn Q.X s).tiers
   rw[e1,e2];exact h.pol
  ·show (zbn Q.X s).name.size≤_
   rw[e1];exact h.nm
  ·show zbm (zbn Q.X s).name (zbn Q.X s).tiers (zbn Q.X s).floors (zbn Q.X s) (c+8)
   rw[e1,e2,e3];exact hg
  ·show ∀ f∈(zbn Q.X s).floors,_
   rw[e3];intro f hf;have:=h.fl f hf;omega
  ·show (zbn Q.X s).floors.length≤5
   rw[e3];exact h.flen
  ·show ((zbb (zbn Q.X s):Nat):Int)+zcY (Q.ch.map fun S=>S.noted (zbn Q.X s) s)≤Q.room
   have:zcY (Q.ch.map fun S=>S.noted (zbn Q.X s) s)=zcY Q.ch:=by cases Q.ch<;>rfl
   rw[this];exact r1
  ·intro S' hS'
   have hS0:(Q.ch.map fun S=>S.noted (zbn Q.X s) s)=some S':=hS'
   cases hch:Q.ch with
   | none=>rw[hch] at hS0;cases hS0
   | some S=>
    rw[hch] at hS0
    injection hS0 with hS0
    have hk:=h.ch S hch;obtain⟨o,ho⟩:=hk.ok;subst hS0;have hb:(S.noted (zbn Q.X s) s).built (zbn Q.X s)=S.built (zbn Q.X s):=rfl;refine⟨hk.pol,hk.nm,⟨o,?_⟩,hk.done,hk.b0,?_⟩
    ·have:=ho.put h.pol.ck h.good (h.hfl hc) hk.pol.ck hP
     show zim S.name (zbn Q.X s).tiers S.tiers (zbn Q.X s).floors o (zbn Q.X s) (S.noted (zbn Q.X s) s)
     rw[e2,e3]
     have e5:S.noted (zbn Q.X s) s={S with tabs:=zbW (zaj (zbn Q.X s) S.name S.tiers (srcs o Q.X.tiers Q.X.floors S.tiers)) S.done S.tabs s}:=by
      unfold ShX.noted ShX.built;rw[ho.src]
     rw[e5];exact this
    ·show ((zbb (S.built (zbn Q.X s)):Nat):Int)≤S.bound
     rw[hch] at r2;exact of_decide_eq_true r2
 ·exact h.more (by omega)
theorem zlQ{Y Z:zac}(ht:Y.tiers=Z.tiers)(hl:Y.tabs.length=Z.tabs.length)(h:∀ (j:Nat) (m m':List zaf),Y.tabs[j]? =some m→Z.tabs[j]? =some m'→∀ M,ze6 M m≤ze6 M m'):zbb Y≤zbb Z:=by
 unfold zbb zcu;rw[ht];refine zfp (by simp[hl]) (fun i x y hx hy=>?_);rw[List.getElem?_zipWith] at hx hy
 cases h1:Z.tiers[i]? with
 | none=>rw[h1] at hx;cases hx
 | some t=>
  rw[h1] at hx hy
  cases h2:Y.tabs[i]? with
  | none=>rw[h2] at hx;cases hx
  | some m=>
   cases h3:Z.tabs[i]? with
   | none=>rw[h3] at hy;cases hy
   | some m'=>
    rw[h2] at hx;rw[h3] at hy
    cases hx
    cases hy
    exact h i m m' h2 h3 _
theorem zny{nm:ByteArray}{l:List za_}{fl:List Int}{X:zac}(hg:zbm nm l fl X c)(n:Int):zbb (zaC X n)≤zbb X:=by
 unfold zaC
 split
 ·refine zlQ rfl (by show (zdq _ X).length=_;unfold zdq;rw[List.length_map,List.length_range,hg.tlen,hg.tiers]) (fun j m m' h1 h2 M=>?_)
  have hj:j<X.tiers.length:=by
   have h3:j<(zdq (X.now+n) X).length:=(List.getElem?_eq_some_iff.1 h1).1;unfold zdq at h3;simpa using h3
  have h1:(zdq (X.now+n) X)[j]? =some m:=h1;unfold zdq at h1;rw[List.getElem?_map,List.getElem?_range hj] at h1;simp only[Option.map_some,Option.some.injEq] at h1;subst h1
  have e:X.tabs.getD j []=m':=by rw[List.getD_eq_getElem?_getD,h2];rfl
  rw[e];exact zhS M _ m'
 ·exact Nat.le_refl _
theorem zeM{nm2:ByteArray}{lt:List za_}{X:zac}{ss:List Int}:(zaj X nm2 lt ss).tabs.length=lt.length:=by unfold zaj;simp
theorem zmo{nm nm2:ByteArray}{l lt:List za_}{fl:List Int}{X:zac}{o:Int}(p:zai nm l=true)(hg:zbm nm l fl X c)(hfl:∀ f∈fl,0≤f∧f≤2199023255552)(p2:zai nm2 lt=true){n:Int}(hE:zdI X n=0):
  zbb (zaj (zaC X n) nm2 lt (srcs o l fl lt))≤zbb (zaj X nm2 lt (srcs o l fl lt)):=by
 refine zlQ rfl (by rw[zeM,zeM]) (fun j m m' h1 h2 M=>?_)
 have hj:j<lt.length:=by
  have:=(List.getElem?_eq_some_iff.1 h1).1;rwa[zeM] at this
 have e1:(zaj (zaC X n) nm2 lt (srcs o l fl lt)).tabs.getD j []=m:=by rw[List.getD_eq_getElem?_getD,h1];rfl
 have e2:(zaj X nm2 lt (srcs o l fl lt)).tabs.getD j []=m':=by rw[List.getD_eq_getElem?_getD,h2];rfl
 have:=zif (o:=o) p hg hfl p2 hE hj;rw[e1,e2] at this;rw[this];exact zhS M _ m'
theorem zax.tick(h:zax Q c)(hc:c≤1000000)(n:Int):zax (zdP Q n) c:=by
 unfold zdP
 split
 ·rename_i hE
  obtain⟨e1,e2,e3⟩:=zgj Q.X n;have hg:=h.good.tick n;have hnd:=zny h.good n;have hneed:=h.need;refine⟨?_,?_,?_,?_,?_,h.room,?_,?_⟩
  ·show zaO (zaC Q.X n).name (zaC Q.X n).tiers
   rw[e1,e2];exact h.pol
  ·show (zaC Q.X n).name.size≤_
   rw[e1];exact h.nm
  ·show zbm (zaC Q.X n).name (zaC Q.X n).tiers (zaC Q.X n).floors (zaC Q.X n) c
   rw[e1,e2,e3];exact hg
  ·show ∀ f∈(zaC Q.X n).floors,_
   rw[e3];exact h.fl
  ·show (zaC Q.X n).floors.length≤5
   rw[e3];exact h.flen
  ·show ((zbb (zaC Q.X n):Nat):Int)+zcY (Q.ch.map fun S=>zgh (S.built (zaC Q.X n)) S)≤Q.room
   have:zcY (Q.ch.map fun S=>zgh (S.built (zaC Q.X n)) S)=zcY Q.ch:=by cases Q.ch<;>rfl
   rw[this];omega
  ·intro S' hS'
   have hS0:(Q.ch.map fun S=>zgh (S.built (zaC Q.X n)) S)=some S':=hS'
   cases hch:Q.ch with
   | none=>rw[hch] at hS0;cases hS0
   | some S=>
    rw[hch] at hS0
    injection hS0 with hS0
    have hk:=h.ch S hch;obtain⟨o,ho⟩:=hk.ok;subst hS0;refine⟨hk.pol,hk.nm,⟨o,?_⟩,hk.done,hk.b0,?_⟩
    ·have:=ho.tick h.pol.ck h.good (h.hfl hc) hk.pol.ck hE
     show zim S.name (zaC Q.X n).tiers S.tiers (zaC Q.X n).floors o (zaC Q.X n) (zgh (S.built (zaC Q.X n)) S)
     rw[e2,e3]
     have e5:S.built (zaC Q.X n)=zaj (zaC Q.X n) S.name S.tiers (srcs o Q.X.tiers Q.X.floors S.tiers):=by
      unfold ShX.built;rw[ho.src]
     rw[e5];exact this
    ·show ((zbb (S.built (zaC Q.X n)):Nat):Int)≤S.bound
     have h1:=zmo (o:=o) h.pol.ck h.good (h.hfl hc) hk.pol.ck hE;have h2:=hk.fits;unfold ShX.built at h2 ⊢;rw[ho.src] at h2 ⊢;omega
 ·exact h
theorem zh_(X:zac){nm2:ByteArray}{lt:List za_}(p2:zaO nm2 lt):((zbb ((zdt X nm2 lt).built X):Nat):Int)≤(zdt X nm2 lt).bound∧0≤(zdt X nm2 lt).bound:=by
 have h:=(zcw p2).1;have e:(zdt X nm2 lt).bound=2*((zbb ((zdt X nm2 lt).built X):Nat):Int)+zap lt:=rfl;omega
theorem zqk(X:zac){nm2:ByteArray}{lt:List za_}(p2:zaO nm2 lt):zim nm2 X.tiers lt X.floors X.now X (zdt X nm2 lt):=
 ⟨rfl,rfl,rfl,by show (lt.map fun _=>[])=shT lt 0 _;rw[zpC],Int.le_refl _,by have:=zcw p2;show (0:Int)≤_;omega⟩
def zko(R:Int×ByteArray×List za_):Prop:=R.1=0→zaO R.2.1 R.2.2∧R.2.1.size≤maxLen
theorem zax.change(h:zax Q c){R:Int×ByteArray×List za_}(hR:zko R):zax (zbB Q R) c:=by
 unfold zbB
 split
 ·rename_i hE
  unfold zbp at hE
  cases hch:Q.ch with
  | some S=>rw[hch] at hE;cases hE
  | none=>
   rw[hch] at hE;simp only at hE
   have hR0:R.1=0:=by
    by_cases hr:R.1=0
    ·exact hr
    ·rw[if_neg hr] at hE;exact absurd hE hr
   rw[if_pos hR0] at hE
   have hroom:((zbb Q.X:Nat):Int)+(zdt Q.X R.2.1 R.2.2).bound≤Q.room:=by
    by_cases hr:((zbb Q.X:Nat):Int)+(zdt Q.X R.2.1 R.2.2).bound≤Q.room
    ·exact hr
    ·rw[if_neg hr] at hE;cases hE
   obtain⟨p2,hnm2⟩:=hR hR0;refine⟨h.pol,h.nm,h.good,h.fl,h.flen,h.room,hroom,?_⟩;intro S' hS'
   injection hS' with hS'
   subst hS';have hb:=zh_ Q.X p2;have hst:=zcw p2;exact⟨p2,hnm2,⟨Q.X.now,zqk Q.X p2⟩,by show (0:Int)<zaX R.2.2;omega,hb.2,hb.1⟩
 ·exact h
theorem zoB{now:Int}{l:List za_}{fl:List Int}{B:Int}(hl:∀ t∈l,t.keep≤1000000∧t.every≤1000000)(hn:0≤now)(hnB:now≤B)(hfl:∀ f∈fl,f≤B)(h0:∀ t∈l,0≤t.keep∧1≤t.every)(k:Nat):zat now l fl k≤B:=by
 unfold zat
 split
 ·rename_i a b ha hb
  have h1:zcp now a.keep b.every≤now:=by
   have ha1:=hl a (zaa ha);have hb1:=hl b (zaa hb);have ha2:=h0 a (zaa ha);have hb2:=h0 b (zaa hb);unfold zcp;rw[if_neg (by omega)];have:=zl3 (t:=now-a.keep) (e:=b.every) hb2.2 (by omega) hb1.2;omega
  simp only
  split
  ·rename_i f hf
   have:=hfl f (zaa hf);omega
  ·omega
 ·omega
theorem zax.step(h:zax Q c)(hc:c≤1000000):zax (zc6 Q) (c+8):=by
 unfold zc6
 cases hch:Q.ch with
 | none=>exact h.more (by omega)
 | some S=>
  simp only;have hk:=h.ch S hch;obtain⟨o,ho⟩:=hk.ok;have hneed:=h.need;rw[hch] at hneed;have hneed:((zbb Q.X:Nat):Int)+S.bound≤Q.room:=hneed;have hfits:=hk.fits
  have eb:S.built Q.X=zaj Q.X S.name S.tiers (srcs o Q.X.tiers Q.X.floors S.tiers):=by unfold ShX.built;rw[ho.src]
  split
  ·have hg:=zbI (o:=o) h.pol.ck h.good (h.hfl hc) hk.pol.ck
   refine⟨hk.pol,hk.nm,?_,?_,?_,h.room,?_,fun _ h=>by cases h⟩
   ·show zbm S.name S.tiers (S.built Q.X).floors (S.built Q.X) (c+8)
    rw[eb];exact hg.more (by omega)
   ·show ∀ f∈(S.built Q.X).floors,_
    rw[eb];intro f hf;obtain⟨k,hkk⟩:=List.getElem?_of_mem (show f∈zaw Q.X.now Q.X.tiers Q.X.floors (srcs o Q.X.tiers Q.X.floors S.tiers) S.tiers from hf)
    have hkl:k<S.tiers.length:=by
     have:=(List.getElem?_eq_some_iff.1 hkk).1;unfold zaw at this;rw[List.length_zipWith] at this;omega
    obtain⟨i,x,hx,_,_,_,hb⟩:=zcV (o:=o) (X:=Q.X) h.pol.ck h.good.now (h.hfl hc) hk.pol.ck (q6_ hkl);rw[hb] at hkk
    cases hkk
    have hn:=h.good.now;have hbd:=zfC h.pol.ck hn.1 hn.2 (h.hfl hc) i;have hy1:=zaq hk.pol.ck (zaa (q6_ hkl));have hcl:=zfe (t:=zat Q.X.now Q.X.tiers Q.X.floors i) (e:=S.tiers[k].every) hbd.1 (by omega) hy1.1 hy1.2.1;have hhi:=zoB (l:=Q.X.tiers) (fl:=Q.X.floors) (B:=1099511627776+1000000*(c:Int)) (fun t ht=>by have:=zaq h.pol.ck ht;omega) hn.1 (by omega) (fun f hf=>(h.fl f hf).2) (fun t ht=>by have:=zaq h.pol.ck ht;omega) i;omega
   ·show (S.built Q.X).floors.length≤5
    rw[eb]
    show (zaw Q.X.now Q.X.tiers Q.X.floors (srcs o Q.X.tiers Q.X.floors S.tiers) S.tiers).length≤5
    unfold zaw;rw[List.length_zipWith];have:=hk.pol.five;omega
   ·show ((zbb (S.built Q.X):Nat):Int)+0≤Q.room
    omega
  ·rename_i hd
   have hdd:=hk.done;refine⟨h.pol,h.nm,h.good.more (by omega),fun f hf=>by have:=h.fl f hf;omega,h.flen,h.room,hneed,?_⟩;intro S' hS'
   injection hS' with hS'
   subst hS';refine⟨hk.pol,hk.nm,⟨o,?_⟩,by show S.done+1<zaX S.tiers;omega,hk.b0,hfits⟩;rw[eb];exact ho.next hk.done
theorem zax.abort(h:zax Q c):zax (zfq Q) c:=by
 refine⟨h.pol,h.nm,h.good,h.fl,h.flen,h.room,?_,fun _ h=>by cases h⟩
 show ((zbb Q.X:Nat):Int)+0≤Q.room
 have hn:=h.need
 cases hch:Q.ch with
 | none=>rw[hch] at hn;exact hn
 | some S=>
  rw[hch] at hn;have:=(h.ch S hch).b0;have hn:((zbb Q.X:Nat):Int)+S.bound≤Q.room:=hn;omega
theorem zoj(nm:ByteArray)(l:List za_)(now:Int)(fl:List Int):zbb (zhm nm l now fl)=0:=by
 have hz:∀ L:List za_,(List.zipWith (fun (x:za_) (m:List zaf)=>ze6 (max x.shards 1) m) L (L.map fun _=>[])).sum=0:=by
  intro L
  induction L with
  | nil=>rfl
  | cons a L ih=>
   rw[List.map_cons,List.zipWith_cons_cons,List.sum_cons,ih]
   have hz:∀ R:List Nat,(R.map fun k=>(zhe (max a.shards 1) [] k+2) / 3).sum=0:=by
    intro R
    induction R with
    | nil=>rfl
    | cons x R ihR=>rw[List.map_cons,List.sum_cons,ihR,show zhe (max a.shards 1) [] x=0 from rfl]
   unfold ze6;rw[hz]
 unfold zbb zcu zhm;exact hz l
theorem zok{nm:ByteArray}{l:List za_}(p:zaO nm l):zhR nm l 0 []=0:=by
 unfold zhR;rw[if_pos p.ck,if_neg (by simp),if_pos];unfold ziN;rw[List.all_eq_true];intro k _;unfold zeK;simp
theorem zax.new{nm:ByteArray}{l:List za_}(p:zaO nm l)(hnm:nm.size≤maxLen){room:Int}(h0:0≤room)(h1:room≤4096):zax ⟨room,zhm nm l 0 [],none⟩ 0:=by
 refine⟨p,hnm,zbm.new (zok p),(fun _ h=>by cases h),Nat.zero_le _,⟨h0,h1⟩,?_,(fun _ h=>by cases h)⟩
 show ((zbb (zhm nm l 0 []):Nat):Int)+0≤room
 rw[zoj];omega
end
end Go.Proofs.YteajonicnkpbbaaGreatDoor
