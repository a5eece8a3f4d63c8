/- Walk of shadow: Step that checks. -/
import Derived.Test.YteajonicnkpbbaaGreatDoorShStep
namespace Go.Proofs.YteajonicnkpbbaaGreatDoor
set_option linter.all false
set_option maxHeartbeats 8000000
set_option maxRecDepth 100000
open Go.RowKit Tryz
theorem zkK{nm nm2:ByteArray}{l lt:List za_}{fl:List Int}{o:Int}{lo:Nat}{W:World}{t s base:Nat}{X:zac}{S:ShX}{Ft F:Nat→Prop}{cc:Nat}(p:zaO nm l)(p2:zaO nm2 lt)(hnm2:nm2.size≤maxLen)(h:Tio nm l fl lo W t X Ft cc)(hc:cc≤1000000)(hfl:∀ f∈fl,0≤f∧f≤2199023255552)(hs:zcr W s base S F)(h1:S.name=nm2)(h2:S.tiers=lt)(h3:S.srcs=srcs o l fl lt)(hd:i64 S.done)(hl:∀ m∈S.tabs,m.length≤1000000)(hat:atV lt S.done=((2,0,0),true)):
  Calls prog 106 #[.pointer (some ⟨s,0,none⟩),.pointer (some ⟨t,0,none⟩)] W fun r w'=>((zd2 S (zaj X nm2 lt (srcs o l fl lt))=true→r=.returned (.tuple #[zaM (2,0,0),.pointer none,.int .i64 0])∧zcr w' s base {S with done:=S.done+1} F)∧(zd2 S (zaj X nm2 lt (srcs o l fl lt))=false→r=.returned (.tuple #[zaM (0,0,0),.pointer none,.int .i64 7])∧zcr w' s base S F))∧Fr F W w':=by
 obtain⟨A,c,B,d,T,ct,tb,hi,rfl⟩:=hs
 obtain⟨n,hn0⟩:∃ n,lt.length=n:=⟨_,rfl⟩
 have hSn:S.tiers.length=n:=by rw[h2,hn0]
 have hSm:S.srcs.length=n:=by rw[h3];unfold srcs;rw[List.length_map,hn0]
 have hfive:=p2.five;have HI:=q0_ hi
 have htc:n≤c:=by have:=(zal hi.tiers).1;omega
 have HBu:Hid (∀ W',Fr (fun _=>False) W W'→Calls prog 150 #[.agg #[.string nm2,.slice A n c,.slice B n d],.pointer (some ⟨t,0,none⟩)] W' fun r w'=>(∃ t' F',r=.returned (.tuple #[.pointer (some ⟨t',0,none⟩),.int .i64 0])∧Tio nm2 lt (zaw X.now l fl (srcs o l fl lt) lt) W.heap.size w' t' (zaj X nm2 lt (srcs o l fl lt)) F' cc∧∀ j,F' j→W'.heap.size≤j)∧Below W'.heap.size W' w'):=fun W' f=>by
  have q1:=(zal (HI.out.fr0 f).tiers).2.2.1;have q2:=(zal (HI.out.fr0 f).srcs).2.2.1;rw[hSn,h2] at q1;rw[hSm,h3] at q2;exact zcI p p2 hnm2 (h.fr0 f) hc hfl A n c B d q1 htc q2 W.heap.size f.size
 have HNx:Hid (∀ W',Fr (fun _=>False) W W'→Calls prog 157 #[.pointer (some ⟨s,0,none⟩)] W' fun r w'=>r=.returned (.tuple #[.agg #[.int .i64 2,.int .i64 0,.int .i64 0],.bool true])∧Below W'.heap.size W' w'):=fun W' f=>
  zgq s base S ((2,0,0),true) W' ⟨A,c,B,d,T,ct,tb,HI.out.fr0 f⟩ hd (by rw[h2];exact fun x hx=>(zaq p2.ck hx).2.2.2.2.2) (by omega) (by rw[h2];exact hat)
 have HCs:Hid (∀ {W':World} {G:Nat→Prop},Fr G W W'→¬ G s→W'.cell? ⟨s,0,none⟩=some (.string nm2)∧W'.cell? ⟨s,1,none⟩=some (.slice A n c)∧W'.cell? ⟨s,2,none⟩=some (.slice B n d)∧W'.cell? ⟨s,4,none⟩=some (.int .i64 S.done)∧W'.cell? ⟨s,5,none⟩=some (.slice T n ct)):=fun f hg=>by
  obtain⟨c0,c1,c2,_,c4,c5⟩:=HI.out.cells f hg;rw[h1] at c0;rw[hSn] at c1 c5;rw[hSm] at c2;exact⟨c0,c1,c2,c4,c5⟩
 obtain⟨rb,hrb⟩:∃ v,W.heap.size=v:=⟨_,rfl⟩
 obtain⟨W0,hW0⟩:∃ W0,W0=W.alloc (.cells #[.int .i64 0,.int .i64 0,.int .i64 0] 74):=⟨_,rfl⟩
 have HW0:=q0_ hW0
 have F0:Hid (Fr (fun _=>False) W W0):=by show Fr _ _ _;rw[hW0];exact Fr.none_alloc _ _
 have B0:Hid (Blk W0 rb 74 #[.int .i64 0,.int .i64 0,.int .i64 0]):=by show Blk _ _ _ _;rw[hW0, ← hrb];exact Blk.new _ _ _
 obtain⟨bs,hbs⟩:∃ v,zaw X.now l fl (srcs o l fl lt) lt=v:=⟨_,rfl⟩
 obtain⟨Y,hY⟩:∃ v,zaj X nm2 lt (srcs o l fl lt)=v:=⟨_,rfl⟩
 have HYt:Hid (Y.tiers=lt):=by show _=_;rw[← hY];rfl
 rw[hbs,hY] at HBu;rw[hY];have Hrb:=q0_ hrb;have Hn0:=q0_ hn0;have HSn:=q0_ hSn;have Ht:=q0_ h2;have Hl:=q0_ hl;have hsW:s<W.heap.size:=hi.blk.lt;rw[hrb] at hsW HBu;have c0:=fun o=>(HCs.out (Fr.none_alloc W o) (fun h=>h)).1;have c1:=fun o=>(HCs.out (Fr.none_alloc W o) (fun h=>h)).2.1;have c2:=fun o=>(HCs.out (Fr.none_alloc W o) (fun h=>h)).2.2.1;have HBb:Hid (zaj X nm2 lt (srcs o l fl lt)=Y):=hY;clear hi hn0 hSm hW0 hbs hY hrb h1 h2 h3 h hl hSn;go_enter func106,ntmps106;go_wp2_with fail;rw[← HW0.out]
 try rw[Hrb.out]
 refine (HBu.out _ F0.out).mono ?_;rintro r w1 ⟨⟨u,Fu,rfl,T1,_⟩,b1⟩;have F1:=q0_ (F0.out.trans (Fr.b0 b1) q4_);have B1:=q0_ (B0.out.below b1);have HT1:=q0_ T1;clear T1 b1 HBu c0 c1 c2;go_wp2_with fail;refine (HNx.out _ F1.out).mono ?_;rintro r w2 ⟨rfl,b2⟩;have F2:=q0_ (F1.out.trans (Fr.b0 b2) q4_);have B2:=q0_ (B1.out.below b2);have HT2:=q0_ (HT1.out.fr0 (Fr.b0 b2));clear b2 HNx
 obtain⟨vb,hvb⟩:∃ v,w2.heap.size=v:=⟨_,rfl⟩
 obtain⟨w8,hw8⟩:∃ v,v=w2.alloc (.cells #[.int .i64 2,.int .i64 0,.int .i64 0] 74):=⟨_,rfl⟩
 have B8:Hid (Blk w8 rb 74 #[.int .i64 0,.int .i64 0,.int .i64 0]):=by show Blk _ _ _ _;rw[hw8];exact B2.out.alloc _
 have V8:Hid (Blk w8 vb 74 #[.int .i64 2,.int .i64 0,.int .i64 0]):=by show Blk _ _ _ _;rw[hw8, ← hvb];exact Blk.new _ _ _
 have F8:Hid (Fr (fun _=>False) W w8):=by show Fr _ _ _;rw[hw8];exact F2.out.trans (Fr.none_alloc _ _) q4_
 have HT8:Hid (Tio nm2 lt bs rb w8 u Y Fu cc):=by show Tio _ _ _ _ _ _ _ _ _;rw[hw8];exact HT2.out.fr0 (Fr.none_alloc _ _)
 have hrv:rb<vb:=by rw[← hvb];exact B2.out.lt
 have HW8:=q0_ hw8;clear hw8 HT1 HT2 B1 B2 B0;go_wp2_with fail;rw[← HW8.out]
 try rw[hvb]
 have v0:=V8.out.cell 0;simp only[q1_,q2_,q3_] at v0
 have hdn:0≤S.done∧S.done<100:=by
  have h8:∀ t∈lt,t.shards≤8:=fun x hx=>(zaq p2.ck hx).2.2.2.2.2;have hf:=zcS h8
  have hst:zaX lt≤zap lt+2:=by unfold zaX;split<;>omega
  unfold atV at hat
  split at hat
  ·simp at hat
  ·omega
 have hdw:IntKind.i64.wrap (S.done+1)=S.done+1:=by simp[IntKind.wrap,IntKind.signed,IntKind.bits];omega
 have HAg:Hid (Calls prog 161 #[.pointer (some ⟨s,0,none⟩),.pointer (some ⟨u,0,none⟩)] w8 fun r w'=>r=.returned (.bool (zd2 S Y))∧Below w8.heap.size w8 w'):=zkO p2 s base S u rb Y Fu cc w8 ⟨_,_,_,_,_,_,_,HI.out.fr0 F8.out⟩ Ht.out Hl.out HT8.out hc
 obtain⟨ab,hab⟩:∃ v,zd2 S Y=v:=⟨_,rfl⟩
 have Hab:=q0_ hab;rw[hab] at HAg;clear hat hab;go_wp2_with fail;refine HAg.out.mono ?_;rintro r w14 ⟨rfl,b14⟩;have G14:Hid (Fr (fun _=>False) w8 w14):=Fr.b0 b14;have I14:=q0_ ((HI.out.fr0 F8.out).fr0 G14.out);have B14:=q0_ (B8.out.below b14);have V14:=q0_ (V8.out.below b14);clear b14
 cases ab with
 | false=>
  have BD:=B14.out;have y0:=BD.cell 0;have y1:=BD.cell 1;have y2:=BD.cell 2;have z0:=BD.frozen 0;have z1:=BD.frozen 1;have z2:=BD.frozen 2;simp only[q1_,q2_,q3_] at y0 y1 y2;have BE:=q0_ (BD.set3 (a:=.int .i64 0) (b:=.int .i64 0) (c:=.int .i64 0));have FE:Hid (Fr (fun i=>i=rb) w14 (((w14.setCell ⟨rb,0,none⟩ (.int .i64 0)).setCell ⟨rb,1,none⟩ (.int .i64 0)).setCell ⟨rb,2,none⟩ (.int .i64 0))):=(Fr.refl (fun i=>i=rb) w14).set3 (.inl rfl) _ _ _
  have IE:Hid (zcr (((w14.setCell ⟨rb,0,none⟩ (.int .i64 0)).setCell ⟨rb,1,none⟩ (.int .i64 0)).setCell ⟨rb,2,none⟩ (.int .i64 0)) s base S (tF s tb)):=
   zcr.fr ⟨_,_,_,_,_,_,_,I14.out,rfl⟩ FE.out (fun i hi=>by subst hi;exact .inr ⟨_,(0,0),74,BD,by decide,by decide,by decide,by decide⟩) (fun i hi e=>by
    have hK:=zcr.ge (F:=tF s tb) (w:=W) ⟨_,_,_,_,_,_,_,HI.out,rfl⟩ i hi;rw[Hrb.out] at hK
    omega)
  have FALL:Hid (Fr (tF s tb) W (((w14.setCell ⟨rb,0,none⟩ (.int .i64 0)).setCell ⟨rb,1,none⟩ (.int .i64 0)).setCell ⟨rb,2,none⟩ (.int .i64 0))):=
   (((F8.out.trans G14.out q4_).mono q4_)).trans FE.out (fun i hi=>.inr (by rw[hi,Hrb.out];exact Nat.le_refl _))
  have e0:=BE.out.cell 0;have e1:=BE.out.cell 1;have e2:=BE.out.cell 2;simp only[q1_,q2_,q3_] at e0 e1 e2;clear I14 B14 V14 BD;go_wp2;refine bodyPost_ret (v:=.tuple #[zaM (0,0,0),.pointer none,.int .i64 7]) ?_ rfl ⟨⟨fun h=>absurd h (by rw[Hab.out];simp),fun _=>⟨rfl,IE.out⟩⟩,FALL.out⟩;simp[results,results106,go_sem,zaM,e0,e1,e2]
 | true=>
 obtain⟨_,_,_,_,z4,_⟩:=I14.out.cells (Fr.refl (fun _=>False) w14) (fun h=>h);have zf:=I14.out.blk.frozen 4;have fD:Fr (fun i=>i=s) w14 (w14.setCell ⟨s,4,none⟩ (.int .i64 (S.done+1))):=(Fr.refl (fun i=>i=s) w14).setCell (p:=⟨s,4,none⟩) (.inl rfl) _;have ID:Hid (zdv (w14.setCell ⟨s,4,none⟩ (.int .i64 (S.done+1))) s base {S with done:=S.done+1} A c B d T ct tb):=I14.out.setDone (S.done+1);have BD:=B14.out.fr fD (by omega);have VD:=V14.out.fr fD (by omega);have BE:=q0_ (BD.set3 (a:=.int .i64 2) (b:=.int .i64 0) (c:=.int .i64 0));have FE:Hid (Fr (fun i=>i=rb) (w14.setCell ⟨s,4,none⟩ (.int .i64 (S.done+1))) (((((w14.setCell ⟨s,4,none⟩ (.int .i64 (S.done+1)))).setCell ⟨rb,0,none⟩ (.int .i64 2)).setCell ⟨rb,1,none⟩ (.int .i64 0)).setCell ⟨rb,2,none⟩ (.int .i64 0))):=(Fr.refl (fun i=>i=rb) (w14.setCell ⟨s,4,none⟩ (.int .i64 (S.done+1)))).set3 (.inl rfl) _ _ _
 have IE:Hid (zcr (((((w14.setCell ⟨s,4,none⟩ (.int .i64 (S.done+1)))).setCell ⟨rb,0,none⟩ (.int .i64 2)).setCell ⟨rb,1,none⟩ (.int .i64 0)).setCell ⟨rb,2,none⟩ (.int .i64 0)) s base {S with done:=S.done+1} (tF s tb)):=
  zcr.fr ⟨_,_,_,_,_,_,_,ID.out,rfl⟩ FE.out (fun i hi=>by subst hi;exact .inr ⟨_,(0,0),74,BD,by decide,by decide,by decide,by decide⟩) (fun i hi e=>by
   have hK:=zcr.ge (F:=tF s tb) (w:=W) ⟨_,_,_,_,_,_,_,HI.out,rfl⟩ i hi;rw[Hrb.out] at hK
   omega)
 have FALL:Hid (Fr (tF s tb) W (((((w14.setCell ⟨s,4,none⟩ (.int .i64 (S.done+1)))).setCell ⟨rb,0,none⟩ (.int .i64 2)).setCell ⟨rb,1,none⟩ (.int .i64 0)).setCell ⟨rb,2,none⟩ (.int .i64 0))):=
  (((F8.out.mono q4_).trans G14.out q4_).trans fD (fun i hi=>.inl (.inl hi))).trans FE.out (fun i hi=>.inr (by rw[hi,Hrb.out];exact Nat.le_refl _))
 have x0:=VD.cell 0;have x1:=VD.cell 1;have x2:=VD.cell 2;have y0:=BD.cell 0;have y1:=BD.cell 1;have y2:=BD.cell 2;have z0:=BD.frozen 0;have z1:=BD.frozen 1;have z2:=BD.frozen 2;simp only[q1_,q2_,q3_] at x0 x1 x2 y0 y1 y2;have e0:=BE.out.cell 0;have e1:=BE.out.cell 1;have e2:=BE.out.cell 2;simp only[q1_,q2_,q3_] at e0 e1 e2;clear I14 B14 V14 fD BD VD;go_wp2;refine bodyPost_ret (v:=.tuple #[zaM (2,0,0),.pointer none,.int .i64 0]) ?_ rfl ⟨⟨fun _=>⟨rfl,IE.out⟩,fun h=>absurd h (by rw[Hab.out];simp)⟩,FALL.out⟩;simp[results,results106,go_sem,zaM,e0,e1,e2]
def zlm(S:ShX)(Y:zac)(k:Nat):zac:=(List.range k).foldl (fun Z i=>zfy Z i (S.tabs.getD i [])) (zhm Y.name Y.tiers Y.now Y.floors)
theorem zj6(S:ShX)(Y:zac)(k:Nat):zlm S Y (k+1)=zfy (zlm S Y k) k (S.tabs.getD k []):=by
 unfold zlm;rw[List.range_succ,List.foldl_append]
 rfl
section
variable {nm:ByteArray} {l:List za_} {fl:List Int} {o:Int} {lo lo2:Nat} {W W':World} {t:Nat} {X:zac} {F G:Nat→Prop} {c:Nat}
theorem Tio.frK(h:Tio nm l fl lo W t X F c)(hf:Fr G W W')(hG:∀ j,G j→(∃ es ck,W.heap[j]? =some (.map es ck))∨(∃ cs fz ty,W.heap[j]? =some (.cells cs ty fz)∧ty≠99∧ty≠3∧ty≠208∧ty≠244))(hd:∀ j,F j→¬ G j):Tio nm l fl lo W' t X F c:=by
 obtain⟨b,hb,ho⟩:=h.on;exact⟨⟨b,hb,ho.frSh hf hG hd⟩,h.good⟩
theorem Tio.lower(h:Tio nm l fl lo W t X F c)(hl:lo2≤lo):Tio nm l fl lo2 W t X F c:=by
 obtain⟨b,hb,ho⟩:=h.on;exact⟨⟨b,Nat.le_trans hl hb,ho⟩,h.good⟩
theorem zpr(p:zaO nm l)(h:Tio nm l fl lo W t X F c)(hc:c≤100000000)(k:Nat)(hk:k<l.length)(rs:List zaf)(D:Option Addr)(n e:Nat)(hr:Rd W 7 D n (zaA rs))(hrw:∀ r∈rs,r.wf)(hn:n≤100000000):
  Calls prog 162 #[.pointer (some ⟨t,0,none⟩),.int .i64 k,.slice D n e] W fun r w'=>r=.returned (.int .i64 (zmR X k rs:Nat))∧Tio nm l fl lo w' t (zfy X k rs) F (c+rs.length)∧Fr F W w':=by
 obtain⟨base,hb,ho⟩:=h.on;refine (zlC t base X F k rs D n e W ho (by rw[h.good.tiers];exact hk) (h.five p) (h.short hc) hn h.good.now (h.wf p) hr hrw).mono ?_;rintro r w' ⟨rfl,h1,h2⟩;exact⟨rfl,⟨⟨base,hb,h1⟩,h.good.load k rs⟩,h2.mono (fun _ h=>.inl h.1)⟩
end
theorem znK{nm nm2:ByteArray}{l lt:List za_}{fl:List Int}{o:Int}{lo:Nat}{W:World}{t s base:Nat}{X:zac}{S:ShX}{Ft F:Nat→Prop}{cc:Nat}(p:zaO nm l)(p2:zaO nm2 lt)(hnm2:nm2.size≤maxLen)(h:Tio nm l fl lo W t X Ft cc)(hc:cc≤1000000)(hfl:∀ f∈fl,0≤f∧f≤2199023255552)(hs:zcr W s base S F)(h1:S.name=nm2)(h2:S.tiers=lt)(h3:S.srcs=srcs o l fl lt)(hd:i64 S.done)(hl:∀ m∈S.tabs,m.length≤1000000)(hat:atV lt S.done=((3,0,0),true)):
  Calls prog 106 #[.pointer (some ⟨s,0,none⟩),.pointer (some ⟨t,0,none⟩)] W fun r w'=>(∃ ot Fo,r=.returned (.tuple #[zaM (3,0,0),.pointer (some ⟨ot,0,none⟩),.int .i64 0])∧Tio nm2 lt (zaw X.now l fl (srcs o l fl lt) lt) W.heap.size w' ot (zlm S (zaj X nm2 lt (srcs o l fl lt)) lt.length) Fo (lt.length*1000000)∧∀ i,Fo i→W.heap.size≤i)∧zcr w' s base {S with done:=S.done+1} F∧Fr F W w':=by
 obtain⟨A,c,B,d,T,ct,tb,hi,rfl⟩:=hs
 obtain⟨n,hn0⟩:∃ n,lt.length=n:=⟨_,rfl⟩
 have hSn:S.tiers.length=n:=by rw[h2,hn0]
 have hSm:S.srcs.length=n:=by rw[h3];unfold srcs;rw[List.length_map,hn0]
 have hfive:=p2.five;have HI:=q0_ hi
 have htc:n≤c:=by have:=(zal hi.tiers).1;omega
 have HBu:Hid (∀ W',Fr (fun _=>False) W W'→Calls prog 150 #[.agg #[.string nm2,.slice A n c,.slice B n d],.pointer (some ⟨t,0,none⟩)] W' fun r w'=>(∃ t' F',r=.returned (.tuple #[.pointer (some ⟨t',0,none⟩),.int .i64 0])∧Tio nm2 lt (zaw X.now l fl (srcs o l fl lt) lt) W.heap.size w' t' (zaj X nm2 lt (srcs o l fl lt)) F' cc∧∀ j,F' j→W'.heap.size≤j)∧Below W'.heap.size W' w'):=fun W' f=>by
  have q1:=(zal (HI.out.fr0 f).tiers).2.2.1;have q2:=(zal (HI.out.fr0 f).srcs).2.2.1;rw[hSn,h2] at q1;rw[hSm,h3] at q2;exact zcI p p2 hnm2 (h.fr0 f) hc hfl A n c B d q1 htc q2 W.heap.size f.size
 have HNx:Hid (∀ W',Fr (fun _=>False) W W'→Calls prog 157 #[.pointer (some ⟨s,0,none⟩)] W' fun r w'=>r=.returned (.tuple #[.agg #[.int .i64 3,.int .i64 0,.int .i64 0],.bool true])∧Below W'.heap.size W' w'):=fun W' f=>
  zgq s base S ((3,0,0),true) W' ⟨A,c,B,d,T,ct,tb,HI.out.fr0 f⟩ hd (by rw[h2];exact fun x hx=>(zaq p2.ck hx).2.2.2.2.2) (by omega) (by rw[h2];exact hat)
 have HCs:Hid (∀ {W':World} {G:Nat→Prop},Fr G W W'→¬ G s→W'.cell? ⟨s,0,none⟩=some (.string nm2)∧W'.cell? ⟨s,1,none⟩=some (.slice A n c)∧W'.cell? ⟨s,2,none⟩=some (.slice B n d)∧W'.cell? ⟨s,4,none⟩=some (.int .i64 S.done)∧W'.cell? ⟨s,5,none⟩=some (.slice T n ct)):=fun f hg=>by
  obtain⟨c0,c1,c2,_,c4,c5⟩:=HI.out.cells f hg;rw[h1] at c0;rw[hSn] at c1 c5;rw[hSm] at c2;exact⟨c0,c1,c2,c4,c5⟩
 obtain⟨rb,hrb⟩:∃ v,W.heap.size=v:=⟨_,rfl⟩
 obtain⟨W0,hW0⟩:∃ W0,W0=W.alloc (.cells #[.int .i64 0,.int .i64 0,.int .i64 0] 74):=⟨_,rfl⟩
 have HW0:=q0_ hW0
 have F0:Hid (Fr (fun _=>False) W W0):=by show Fr _ _ _;rw[hW0];exact Fr.none_alloc _ _
 have B0:Hid (Blk W0 rb 74 #[.int .i64 0,.int .i64 0,.int .i64 0]):=by show Blk _ _ _ _;rw[hW0, ← hrb];exact Blk.new _ _ _
 obtain⟨bs,hbs⟩:∃ v,zaw X.now l fl (srcs o l fl lt) lt=v:=⟨_,rfl⟩
 obtain⟨Y,hY⟩:∃ v,zaj X nm2 lt (srcs o l fl lt)=v:=⟨_,rfl⟩
 have HYt:Hid (Y.tiers=lt):=by show _=_;rw[← hY];rfl
 rw[hbs,hY] at HBu;rw[hY];have Hrb:=q0_ hrb;have Hn0:=q0_ hn0;have HSn:=q0_ hSn;have Ht:=q0_ h2;have Hl:=q0_ hl;have hsW:s<W.heap.size:=hi.blk.lt;rw[hrb] at hsW HBu;have c0:=fun o=>(HCs.out (Fr.none_alloc W o) (fun h=>h)).1;have c1:=fun o=>(HCs.out (Fr.none_alloc W o) (fun h=>h)).2.1;have c2:=fun o=>(HCs.out (Fr.none_alloc W o) (fun h=>h)).2.2.1;have HBb:Hid (zaj X nm2 lt (srcs o l fl lt)=Y):=hY;rw[hbs]
 have HBl:Hid (bs.length≤n):=by show _≤_;rw[← hbs];unfold zaw;rw[List.length_zipWith,hn0];exact Nat.min_le_right _ _
 have HNz:Hid (zhR nm2 lt Y.now bs=0):=by
  have hq:=zma (o:=o) p.ck h.good hfl p2.ck;unfold zcX at hq;rw[if_pos (by rw[h.good.tiers];exact zig p.ck h.good.now hfl p2.ck)] at hq;rw[h.good.tiers,h.good.floors,hbs] at hq
  show zhR nm2 lt Y.now bs=0
  rw[← hY];exact hq
 clear hi hn0 hSm hW0 hbs hY hrb h1 h2 h3 h hl hSn;go_enter func106,ntmps106;go_wp2_with fail;rw[← HW0.out]
 try rw[Hrb.out]
 refine (HBu.out _ F0.out).mono ?_;rintro r w1 ⟨⟨u,Fu,rfl,T1,_⟩,b1⟩;have F1:=q0_ (F0.out.trans (Fr.b0 b1) q4_);have B1:=q0_ (B0.out.below b1);have HT1:=q0_ T1;clear T1 b1 HBu c0 c1 c2;go_wp2_with fail;refine (HNx.out _ F1.out).mono ?_;rintro r w2 ⟨rfl,b2⟩;have F2:=q0_ (F1.out.trans (Fr.b0 b2) q4_);have B2:=q0_ (B1.out.below b2);have HT2:=q0_ (HT1.out.fr0 (Fr.b0 b2));clear b2 HNx
 obtain⟨vb,hvb⟩:∃ v,w2.heap.size=v:=⟨_,rfl⟩
 obtain⟨w8,hw8⟩:∃ v,v=w2.alloc (.cells #[.int .i64 3,.int .i64 0,.int .i64 0] 74):=⟨_,rfl⟩
 have B8:Hid (Blk w8 rb 74 #[.int .i64 0,.int .i64 0,.int .i64 0]):=by show Blk _ _ _ _;rw[hw8];exact B2.out.alloc _
 have V8:Hid (Blk w8 vb 74 #[.int .i64 3,.int .i64 0,.int .i64 0]):=by show Blk _ _ _ _;rw[hw8, ← hvb];exact Blk.new _ _ _
 have F8:Hid (Fr (fun _=>False) W w8):=by show Fr _ _ _;rw[hw8];exact F2.out.trans (Fr.none_alloc _ _) q4_
 have HT8:Hid (Tio nm2 lt bs rb w8 u Y Fu cc):=by show Tio _ _ _ _ _ _ _ _ _;rw[hw8];exact HT2.out.fr0 (Fr.none_alloc _ _)
 have hrv:rb<vb:=by rw[← hvb];exact B2.out.lt
 have HW8:=q0_ hw8;clear hw8 HT1 HT2 B1 B2 B0;go_wp2_with fail;rw[← HW8.out]
 try rw[hvb]
 have v0:=V8.out.cell 0;simp only[q1_,q2_,q3_] at v0
 have hdn:0≤S.done∧S.done<100:=by
  have h8:∀ t∈lt,t.shards≤8:=fun x hx=>(zaq p2.ck hx).2.2.2.2.2;have hf:=zcS h8
  have hst:zaX lt≤zap lt+2:=by unfold zaX;split<;>omega
  unfold atV at hat
  split at hat
  ·simp at hat
  ·omega
 have hdw:IntKind.i64.wrap (S.done+1)=S.done+1:=by simp[IntKind.wrap,IntKind.signed,IntKind.bits];omega
 obtain⟨tA,tc,tB,td,hR⟩:=HT8.out.reach
 obtain⟨mf,hmf⟩:∃ n,bs.length=n:=⟨_,rfl⟩
 have hmfn:mf≤n:=by rw[← hmf];exact HBl.out
 have hn5:n≤5:=by have:=Hn0.out;omega
 have HCu:Hid (∀ {W9:World},Fr (fun _=>False) w8 W9→W9.cell? ⟨u,0,none⟩=some (.int .i64 Y.now)∧W9.cell? ⟨u,1,none⟩=some (.string nm2)∧W9.cell? ⟨u,2,none⟩=some (.slice tA n tc)∧W9.cell? ⟨u,3,none⟩=some (.slice tB mf td)):=fun f=>by
  have h:=hR.fr0 f;have h2:=h.c2;have h3:=h.c3;rw[Hn0.out] at h2;rw[hmf] at h3;exact⟨h.c0,h.c1,h2,h3⟩
 have hYg:=HT8.out.good
 have HNw:Hid (∀ W9,Fr (fun _=>False) w8 W9→Calls prog 95 #[.agg #[.string nm2,.slice tA n tc],.int .i64 Y.now,.slice tB mf td] W9 fun r w'=>(∃ t' Fo,r=.returned (.tuple #[.pointer (some ⟨t',0,none⟩),.int .i64 0])∧Tio nm2 lt bs W9.heap.size w' t' (zlm S Y 0) Fo 0)∧Below W9.heap.size W9 w'):=fun W9 f=>by
  have h:=hR.fr0 f;have h1:=h.rt;have h2:=h.rf;rw[Hn0.out] at h1;rw[hmf] at h2
  have htc2:n≤tc:=by have:=h.le;rw[Hn0.out] at this;exact this
  refine (zip nm2 hnm2 lt tA n tc Y.now (by have:=hYg.now;unfold i64;omega) bs tB mf td W9 h1 htc2 p2.wf (by omega) h2 (by omega)).mono ?_;rintro r w' ⟨⟨h3,_⟩,hb⟩;obtain⟨t',h4,h5⟩:=h3 HNz.out;obtain⟨Fo,h6⟩:=h5.on
  have e:zhm nm2 lt Y.now bs=zlm S Y 0:=by
   show zhm nm2 lt Y.now bs=zhm Y.name Y.tiers Y.now Y.floors
   rw[hYg.name,hYg.tiers,hYg.floors]
  have hg:=zbm.new HNz.out;rw[e] at h6 hg;exact⟨⟨t',Fo,h4,⟨⟨_,Nat.le_refl _,h6⟩,hg⟩⟩,hb⟩
 have HSo8:Hid (zcr w8 s base S (tF s tb)):=⟨_,_,_,_,_,_,_,HI.out.fr0 F8.out,rfl⟩
 have hFlt:Hid (∀ i,tF s tb i→i<rb):=fun i hi=>by
  have hK:=zcr.ge (F:=tF s tb) (w:=W) ⟨_,_,_,_,_,_,_,HI.out,rfl⟩ i hi;rw[Hrb.out] at hK;exact hK.2
 have hYtl:Hid (S.tabs.length=n):=by show _=_;rw[HI.out.tlen,HSn.out]
 obtain⟨nw,hnw⟩:∃ v,Y.now=v:=⟨_,rfl⟩
 rw[hnw] at HNw HCu;have hv8:rb<w8.heap.size:=B8.out.lt;clear hat hR hnw hYg HNz;go_wp2_with fail;refine wp_region_held_drew (S:=fun W_=>Fr (fun _=>False) w8 W_) (by kernel_rfl) ((Fr.refl _ w8).drew) (fun hY_=>?_);refine tq 15 [0,1,2,3,4,5,6,7,8,9,10,11,12,13,14] ?_
 iterate 14 refine sf (fun W hSw=>HCu.out hSw) ?_
 refine sf (fun W hSw=>HCu.out hSw) ?_
 try simp only[Act.put,sA,sB,sC]
 refine sz ?_
 try simp only[Act.put,sA,sB,sC]
 refine rl 15 rfl (fun K hK=>?_);go_simp
 go_wp2_with (go_at_call 95;refine (HNw.out _ hY_).mono ?_;rintro r w9 ⟨⟨ot,Fo,rfl,To⟩,b9⟩)
 have To:=q0_ To;refine hK.out _ _ (hY_.trans (Fr.b0 b9) q4_) (fun hY_=>?_);clear hK K;refine tq 4 [16,17,18,19] ?_
 iterate 3 refine sf (fun W hSw=>HCu.out hSw) ?_
 refine sf (fun W hSw=>HCu.out hSw) ?_
 try simp only[Act.put,sA,sB,sC]
 refine sz ?_
 try simp only[Act.put,sA,sB,sC]
 refine wpAnyH_done (by kernel_rfl) ?_ _;have G9:=q0_ hY_;clear hY_ b9;have To9:Hid (Tio nm2 lt bs w8.heap.size w9 ot (zlm S Y 0) Fo 0):=To.out;have HFo:Hid (∀ i,Fo i→w8.heap.size≤i):=fun i hi=>(To.out.ge i hi).1;obtain⟨ad,rfl,hcr⟩:=(zal HI.out.row).2.2.1.2 (show 0<S.tiers.length by rw[HSn.out];have:=p2.pos;rw[Hn0.out] at this;exact this);have Hcr:=q0_ hcr;have hrW:W.heap.size=rb:=Hrb.out;have y5:=(HCs.out (F8.out.trans G9.out q4_) (fun h=>h)).2.2.2.2;clear To hcr;go_wp2_with fail
 go_loopw [115,13] (fun i _ wr=>∃ k:Nat,k≤n∧i=.int .i64 k∧Fr Fo w9 wr∧Tio nm2 lt bs w8.heap.size wr ot (zlm S Y k) Fo (k*1000000)) (fun i _ _=>n-(intOf i).toNat)
 case atStart=>exact⟨0,Nat.zero_le _,rfl,Fr.refl _ _,To9.out.more (by omega)⟩
 case round=>
  obtain⟨k,hk,rfl,hf,hT⟩:=hrel;have Hf:=q0_ hf;have HT:=q0_ hT;have FN:Hid (Fr (fun _=>False) W wr):=(F8.out.trans G9.out q4_).trans hf (fun i hi=>.inr (by have:=HFo.out i hi;omega));have z5:=(HCs.out FN.out (fun h=>h)).2.2.2.2;clear hf hT
  by_cases hlt:k<n
  ·obtain⟨g,b,x,L,t1,t2,t3,hT⟩:=(HI.out.fr0 FN.out).tabAt (k:=k) (by rw[HSn.out];exact hlt)
   have hLk:S.tabs.getD k []=L:=by rw[List.getD_eq_getElem?_getD,t3];rfl
   have hLl:=Hl.out L (zaa t3);have pk:=FN.out.cell (Hcr.out k _ (zbY t1)) (fun h=>h)
   try simp only at pk
   have HA:=q0_ (zcd g x.every b L wr hT (by omega));have hLw:=hT.own.wf
   have kn:0≤(k:Int)∧(k:Int)<(n:Int):=by omega
   have g0:decide ((k:Int)<(n:Int))=true:=qa_ (by omega)
   have hqw:IntKind.i64.wrap ((k:Int)+1)=(k:Int)+1:=by simp[IntKind.wrap,IntKind.signed,IntKind.bits];omega
   have hcK:zfy (zlm S Y k) k L=zlm S Y (k+1):=by rw[← hLk];exact (zj6 S Y k).symm
   have HLd:Hid (∀ w10 A c,Fr (fun _=>False) wr w10→Rd w10 7 A L.length (zaA L)→Calls prog 162 #[.pointer (some ⟨ot,0,none⟩),.int .i64 (k:Nat),.slice A L.length c] w10 fun r w'=>(∃ v,r=.returned (.int .i64 v))∧Tio nm2 lt bs w8.heap.size w' ot (zlm S Y (k+1)) Fo ((k+1)*1000000)∧Fr Fo w10 w'):=fun w10 A c f hr=>by
    refine (zpr p2 (HT.out.fr0 f) (by omega) k (by have:=Hn0.out;omega) L A L.length c hr hLw (by omega)).mono ?_;rintro r w' ⟨rfl,h1,h2⟩;rw[hcK] at h1;exact⟨⟨_,rfl⟩,h1.more (by omega),h2⟩
   obtain⟨nL,hnL⟩:∃ v,L.length=v:=⟨_,rfl⟩
   rw[hnL] at HA HLd;clear t1 t2 t3 hT hLk hcK hLl hnL hLw;go_wp2_with fail;refine HA.out.mono ?_;rintro r w10 ⟨⟨Aa,ca,rfl,oa⟩,b10⟩;have HL2:=q0_ (HLd.out w10 Aa ca (Fr.b0 b10) (zal oa).2.2.1);have F10:Hid (Fr Fo w9 w10):=Hf.out.trans (Fr.b0 b10) q4_;clear oa b10 HA HLd;go_wp2_with fail;refine HL2.out.mono ?_;rintro r w11 ⟨⟨v11,rfl⟩,T11,f11⟩;have HT11:=q0_ T11;have F11:Hid (Fr Fo w9 w11):=F10.out.trans f11 (fun _ h=>.inl h);clear T11 f11 HL2;go_wp2
   go_roundw
   case rel=>exact⟨k+1,by omega,by go_num,F11.out,HT11.out⟩
   case measure=>simp[intOf];omega
  ·obtain rfl:k=n:=by omega
   have g0:decide ((k:Int)<(k:Int))=false:=q9_ (by omega);have G14:Hid (Fr Fo w8 wr):=(G9.out.mono q4_).trans Hf.out (fun _ h=>.inl h);have I14:Hid (zdv wr s base S A c B d (some ad) ct tb):=HI.out.fr0 FN.out;have B14:=q0_ (B8.out.fr G14.out (fun hh=>by have:=HFo.out _ hh;omega));have V14:=q0_ (V8.out.fr G14.out (fun hh=>by have:=HFo.out _ hh;have:=V8.out.lt;omega));have HTk:=q0_ HT.out;obtain⟨_,_,_,_,z4,_⟩:=I14.out.cells (Fr.refl (fun _=>False) wr) (fun h=>h);have zf:=I14.out.blk.frozen 4;have fD:Fr (fun i=>i=s) wr (wr.setCell ⟨s,4,none⟩ (.int .i64 (S.done+1))):=(Fr.refl (fun i=>i=s) wr).setCell (p:=⟨s,4,none⟩) (.inl rfl) _;have ID:Hid (zdv (wr.setCell ⟨s,4,none⟩ (.int .i64 (S.done+1))) s base {S with done:=S.done+1} A c B d (some ad) ct tb):=I14.out.setDone (S.done+1);have BD:=B14.out.fr fD (by omega);have VD:=V14.out.fr fD (by omega);have BE:=q0_ (BD.set3 (a:=.int .i64 3) (b:=.int .i64 0) (c:=.int .i64 0));have FE:Hid (Fr (fun i=>i=rb) (wr.setCell ⟨s,4,none⟩ (.int .i64 (S.done+1))) (((((wr.setCell ⟨s,4,none⟩ (.int .i64 (S.done+1)))).setCell ⟨rb,0,none⟩ (.int .i64 3)).setCell ⟨rb,1,none⟩ (.int .i64 0)).setCell ⟨rb,2,none⟩ (.int .i64 0))):=(Fr.refl (fun i=>i=rb) (wr.setCell ⟨s,4,none⟩ (.int .i64 (S.done+1)))).set3 (.inl rfl) _ _ _
   have IE:Hid (zcr (((((wr.setCell ⟨s,4,none⟩ (.int .i64 (S.done+1)))).setCell ⟨rb,0,none⟩ (.int .i64 3)).setCell ⟨rb,1,none⟩ (.int .i64 0)).setCell ⟨rb,2,none⟩ (.int .i64 0)) s base {S with done:=S.done+1} (tF s tb)):=
    zcr.fr ⟨_,_,_,_,_,_,_,ID.out,rfl⟩ FE.out (fun i hi=>by subst hi;exact .inr ⟨_,(0,0),74,BD,by decide,by decide,by decide,by decide⟩) (fun i hi e=>by
     have hK:=zcr.ge (F:=tF s tb) (w:=W) ⟨_,_,_,_,_,_,_,HI.out,rfl⟩ i hi;rw[Hrb.out] at hK
     omega)
   have FALL:Hid (Fr (tF s tb) W (((((wr.setCell ⟨s,4,none⟩ (.int .i64 (S.done+1)))).setCell ⟨rb,0,none⟩ (.int .i64 3)).setCell ⟨rb,1,none⟩ (.int .i64 0)).setCell ⟨rb,2,none⟩ (.int .i64 0))):=
    (((F8.out.mono q4_).trans G14.out (fun i hi=>.inr (by have:=HFo.out i hi;omega))).trans fD (fun i hi=>.inl (.inl hi))).trans FE.out (fun i hi=>.inr (by rw[hi,Hrb.out];exact Nat.le_refl _))
   have ToE:Hid (Tio nm2 lt bs w8.heap.size (((wr.setCell ⟨s,4,none⟩ (.int .i64 (S.done+1))).setCell ⟨rb,0,none⟩ (.int .i64 3)).setCell ⟨rb,1,none⟩ (.int .i64 0) |>.setCell ⟨rb,2,none⟩ (.int .i64 0)) ot (zlm S Y k) Fo (k*1000000)):=
    (HTk.out.frK fD (fun i hi=>by subst hi;exact .inr ⟨_,(0,0),93,I14.out.blk,by decide,by decide,by decide,by decide⟩) (fun i hi e=>by have:=HFo.out i hi;omega)).frK FE.out (fun i hi=>by subst hi;exact .inr ⟨_,(0,0),74,BD,by decide,by decide,by decide,by decide⟩) (fun i hi e=>by have:=HFo.out i hi;omega)
   clear HTk;have x0:=VD.cell 0;have x1:=VD.cell 1;have x2:=VD.cell 2;have y0:=BD.cell 0;have y1:=BD.cell 1;have y2:=BD.cell 2;have z0:=BD.frozen 0;have z1:=BD.frozen 1;have z2:=BD.frozen 2;simp only[q1_,q2_,q3_] at x0 x1 x2 y0 y1 y2;have e0:=BE.out.cell 0;have e1:=BE.out.cell 1;have e2:=BE.out.cell 2;simp only[q1_,q2_,q3_] at e0 e1 e2;clear I14 B14 V14 fD BD VD;go_wp2;refine bodyPost_ret (v:=.tuple #[zaM (3,0,0),.pointer (some ⟨ot,0,none⟩),.int .i64 0]) ?_ rfl ⟨⟨ot,Fo,rfl,(by rw[Hn0.out];exact ToE.out.lower F8.out.size),fun i hi=>Nat.le_trans F8.out.size (HFo.out i hi)⟩,IE.out,FALL.out⟩;simp[results,results106,go_sem,zaM,e0,e1,e2]
def zj0(lt:List za_)(done:Int)(j:Nat)(s:ByteArray):Bool:=
 match lt[j]? with
 | some y=>decide (za3 s y.shards+zap (lt.take j)<done)
 | none=>false
def unf(lt:List za_)(done:Int)(j:Nat)(r:zaf):Bool:= !zj0 lt done j r.name
theorem zns(lt:List za_)(done:Int)(j:Nat):∀ x y,zbZ x y→unf lt done j x=unf lt done j y:=fun x y h=>by unfold unf;rw[h.1]
def shL(lt:List za_)(done:Int)(Y:List (List zaf))(j:Nat):List zaf:=zao (unf lt done j) (Y.getD j [])
def shT(lt:List za_)(done:Int)(Y:List (List zaf)):List (List zaf):=(List.range lt.length).map (shL lt done Y)
theorem zkN(lt:List za_)(done:Int)(Y:List (List zaf)):(shT lt done Y).length=lt.length:=by unfold shT;simp
theorem ziv{lt:List za_}{done:Int}{Y:List (List zaf)}{j:Nat}(hj:j<lt.length):(shT lt done Y)[j]? =some (shL lt done Y j):=by unfold shT;rw[List.getElem?_map,List.getElem?_range hj];rfl
theorem ziu{lt:List za_}{done:Int}{Y:List (List zaf)}{j:Nat}(hj:j<lt.length):(shT lt done Y).getD j []=shL lt done Y j:=by rw[List.getD_eq_getElem?_getD,ziv hj];rfl
theorem zgM{so:zaf→Bool}{l:List zaf}{r:zaf}:r∈zao so l↔r∈l∧so r=false:=by unfold zao;rw[List.mem_filter];simp
theorem ziS{lt:List za_}(j:Nat):0≤zap (lt.take j)∧zap (lt.take j)≤zap lt:=by
 constructor
 ·have:=zei (l:=lt) 0 j (Nat.zero_le _)
  simpa[zap] using this
 ·have h:=zei (l:=lt) j (max j lt.length) (by omega)
  rwa[List.take_of_length_le (by omega:lt.length≤max j lt.length)] at h
theorem zlH{s:ByteArray}{M:Int}(h:1≤M):0≤za3 s M∧za3 s M<M:=by
 obtain⟨j,e,hj⟩:=zhx s M h;omega
theorem zmf{e:Int}:∀ {l acc:List zaf},zby acc→zav l→(∀ r∈l,zaJ e r=true)→(∀ r∈l,∀ x∈acc,¬ zbZ x r)→∀ y,y∈zbf e acc l↔y∈acc∨y∈l
 | [],acc,_,_,_,_,y=>by simp[zbf]
 | r::l,acc,hg,hs,hr,hd,y=>by
  have h1:=hr r (by simp)
  have ha:zaR r.agg=true:=by unfold zaJ at h1;simp only[Bool.and_eq_true] at h1;exact h1.2
  have hm:∀ z,z∈zb5 e acc r↔z=r∨z∈acc:=fun z=>by
   unfold zb5;rw[if_pos h1,zaH mgM hg.1];have hf:zbz acc r=none:=zb3 (hd r (by simp))
   have hn:ze5 mgM acc r=r:=by
    unfold ze5;rw[hf,zcA ha]
   rw[hn]
   constructor
   ·rintro (h | h)
    ·exact .inl h
    ·exact .inr h.1
   ·rintro (h | h)
    ·exact .inl h
    ·exact .inr ⟨h,hd r (by simp) z h⟩
  show y∈zbf e (zb5 e acc r) l↔_
  rw[zmf (zd4 hg r) hs.tail (fun z hz=>hr z (List.mem_cons_of_mem _ hz)) (fun z hz x hx hk=>by
   rcases (hm x).1 hx with rfl | hx
   ·have hlt:=(List.pairwise_cons.1 hs).1 z hz
    exact absurd hk (zer hlt)
   ·exact hd z (List.mem_cons_of_mem _ hz) x hx hk),hm]
  simp only[List.mem_cons]
  constructor
  ·rintro ((h | h) | h)
   ·exact .inr (.inl h)
   ·exact .inl h
   ·exact .inr (.inr h)
  ·rintro (h | h | h)
   ·exact .inl (.inr h)
   ·exact .inl (.inl h)
   ·exact .inr h
section
variable {nm2:ByteArray} {lt:List za_} {Y:List (List zaf)} {done:Int}
theorem zpC:shT lt 0 Y=lt.map fun _=>[]:=by
 unfold shT
 apply List.ext_getElem?
 intro j;rw[List.getElem?_map,List.getElem?_map]
 by_cases hj:j<lt.length
 ·rw[List.getElem?_range hj,q6_ hj]
  simp only[Option.map_some]
  congr 1
  unfold shL zao;rw[List.filter_eq_nil_iff];intro r _;unfold unf zj0;have h1:=(zjm r.name lt[j].shards).1;have h2:=(ziS (lt:=lt) j).1;simp only[q6_ hj];rw[q9_ (by omega)];simp
 ·rw[List.getElem?_eq_none (by simpa using hj),List.getElem?_eq_none (by omega)]
  rfl
theorem zec(p2:zai nm2 lt=true)(hl:Y.length=lt.length)(hd:zap lt≤done):shT lt done Y=Y:=by
 unfold shT
 apply List.ext_getElem?
 intro j;rw[List.getElem?_map]
 by_cases hj:j<lt.length
 ·rw[List.getElem?_range hj]
  simp only[Option.map_some];rw[q6_ (by omega:j<Y.length)]
  congr 1
  unfold shL
  have e:Y.getD j []=Y[j]:=by rw[List.getD_eq_getElem?_getD,q6_ (by omega:j<Y.length)];rfl
  rw[e];unfold zao;rw[List.filter_eq_self];intro r _;unfold unf zj0;simp only[q6_ hj];have hm:=zaq p2 (List.getElem_mem hj);have h1:=zlH (s:=r.name) hm.2.2.2.2.1;have h2:=zcF (l:=lt) (q6_ hj);have h3:=(ziS (lt:=lt) (j+1)).2;simp only[Bool.not_not,decide_eq_true_eq];omega
 ·rw[List.getElem?_eq_none (by simpa using hj),List.getElem?_eq_none (by omega)]
  rfl
theorem zpF(p2:zai nm2 lt=true){j:Nat}{y:za_}{k:Int}(hy:lt[j]? =some y)(hk:0≤k∧k<y.shards)(hd:done=zap (lt.take j)+k)(hg:zby (Y.getD j []))(hr:∀ r∈Y.getD j [],zaJ y.every r=true):
  (shT lt done Y).set j (zbf y.every (zao (inS k y.shards) (shL lt done Y j)) (zao (zkr k y.shards) (Y.getD j [])))=shT lt (done+1) Y:=by
 have hj:j<lt.length:=(List.getElem?_eq_some_iff.1 hy).1
 apply List.ext_getElem?
 intro i
 by_cases e:j=i
 ·subst e
  rw[List.getElem?_set_self (by rw[zkN];exact hj),ziv hj]
  congr 1
  have hacc:zby (zao (inS k y.shards) (shL lt done Y j)):=⟨(hg.1.filter _).filter _,fun r h=>hg.2 r (List.mem_filter.1 (List.mem_filter.1 h).1).1⟩
  refine zav.ext (zfX _ hacc.1) (hg.1.filter _) (fun r=>?_)
  rw[zmf (l:=zao (zkr k y.shards) (Y.getD j [])) hacc (hg.1.filter _) (fun z hz=>hr z (List.mem_filter.1 hz).1) (fun z hz x hx hkk=>by
   have h1:=(zgM.1 hx).2;have h2:=(zgM.1 hz).2;unfold inS at h1;unfold zkr at h2;rw[hkk.1] at h1;rw[h1] at h2
   cases h2)]
  show _↔r∈shL lt (done+1) Y j
  unfold shL;simp only[zgM];unfold inS zkr unf zj0;simp only[hy,decide_eq_false_iff_not,Bool.not_eq_false',decide_eq_true_eq]
  constructor
  ·rintro (⟨⟨h1,h2⟩,h3⟩ | ⟨h1,h2⟩)
   ·exact⟨h1,by omega⟩
   ·exact⟨h1,by omega⟩
  ·rintro⟨h1,h2⟩
   by_cases h3:za3 r.name y.shards=k
   ·exact .inr ⟨h1,h3⟩
   ·exact .inl ⟨⟨h1,by omega⟩,h3⟩
 ·rw[List.getElem?_set_ne e]
  by_cases hi:i<lt.length
  ·rw[ziv hi,ziv hi]
   congr 1
   unfold shL zao;refine List.filter_congr (fun r _=>?_);unfold unf zj0;simp only[q6_ hi];have hm:=zaq p2 (List.getElem_mem hi);have h1:=zlH (s:=r.name) hm.2.2.2.2.1;have h2:=zcF (l:=lt) (q6_ hi);have h3:=zcF hy
   congr 2
   rw[decide_eq_decide]
   rcases Nat.lt_or_gt_of_ne e with h4 | h4
   ·have h5:=zei (l:=lt) (j+1) i h4
    omega
   ·have h5:=zei (l:=lt) (i+1) j h4
    omega
  ·rw[List.getElem?_eq_none (by rw[zkN];omega),List.getElem?_eq_none (by rw[zkN];omega)]
theorem zra(p2:zai nm2 lt=true)(h0:0≤done)(h1:done<zaX lt):
  (∃ (j:Nat) (y:za_) (k:Int),lt[j]? =some y∧atV lt done=((1,(j:Int),k),true)∧0≤k∧k<y.shards∧done=zap (lt.take j)+k∧done<zap lt)∨
  (atV lt done=((2,0,0),true)∧done=zap lt)∨(atV lt done=((3,0,0),true)∧done=zap lt+1):=by
 have hne:lt≠[]:=by rintro rfl;have:=zb9 p2;simp at this
 have hst:zaX lt=zap lt+2:=by simp[zaX,hne]
 have hl:∀ t∈lt,0≤t.shards:=fun t ht=>by have:=zaq p2 ht;omega
 by_cases hlt:done<zap lt
 ·obtain⟨j,y,hy,e,e0,e1⟩:=zo1 lt hl 0 done h0 hlt
  refine .inl ⟨j,y,done-zap (lt.take j),hy,?_,e0,e1,by omega,hlt⟩;unfold atV;rw[if_neg (by omega),e];simp
 ·have hge:∀ (l:List za_) (i:Nat) (k:Int),(∀ t∈l,0≤t.shards)→zap l≤k→zlu k i l=if k-zap l=0 then (2,0,0) else (3,0,0):=by
   intro l
   induction l with
   | nil=>intro i k _ _;simp[zlu,zap]
   | cons a t ih=>
    intro i k hh hk
    have hf:zap (a::t)=max a.shards 0+zap t:=by simp[zap]
    have ha:=hh a (by simp)
    have ht0:0≤zap t:=by have:=(ziS (lt:=t) t.length).1;rwa[List.take_length] at this
    unfold zlu;rw[if_neg (by omega),ih (i+1) (k-max a.shards 0) (fun x hx=>hh x (List.mem_cons_of_mem _ hx)) (by omega),hf]
    have:k-max a.shards 0-zap t=k-(max a.shards 0+zap t):=by omega
    rw[this]
  have hg:=hge lt 0 done hl (by omega)
  by_cases hz:done-zap lt=0
  ·refine .inr (.inl ⟨?_,by omega⟩)
   unfold atV;rw[if_neg (by omega),hg,if_pos hz]
  ·refine .inr (.inr ⟨?_,by omega⟩)
   unfold atV;rw[if_neg (by omega),hg,if_neg hz]
end
section
variable {nm nm2:ByteArray} {l lt:List za_} {X:zac} {fl:List Int} {o:Int} {c:Nat}
def zhl(Y:zac)(done:Int)(s:zaz)(j:Nat)(m:List zaf):List zaf:=
 match Y.tiers[j]? with
 | some y=>if zj0 Y.tiers done j s.name&&decide (zat Y.now Y.tiers Y.floors j≤zas s.time y.every) then zb5 y.every m ⟨s.name,zas s.time y.every,zbj s.value⟩ else m
 | none=>m
def zeH(Y:zac)(done:Int)(tabs:List (List zaf))(s:zaz):List (List zaf):=(List.range Y.tiers.length).map fun j=>zhl Y done s j (tabs.getD j [])
theorem zmN{Y:zac}{done:Int}{s:zaz}{j:Nat}{m:List zaf}(h0:0≤s.time)(hj:j<Y.tiers.length):zhl Y done s j m=if zj0 Y.tiers done j s.name then zdJ Y s j m else m:=by
 unfold zhl zdJ zcm;rw[if_pos (⟨by omega,by omega,h0⟩:0≤(j:Int)∧(j:Int)<(Y.tiers.length:Int)∧0≤s.time)];simp only[Int.toNat_natCast,zdp hj,q6_ hj]
 cases zj0 Y.tiers done j s.name<;>simp
theorem zoR(p:zai nm l=true)(hg:zbm nm l fl X c)(hfl:∀ f∈fl,0≤f∧f≤2199023255552)(p2:zai nm2 lt=true){s:zaz}(hE:zgD X [s]=0){j:Nat}(hj:j<lt.length):
  (zaj (zbn X [s]) nm2 lt (srcs o l fl lt)).tabs.getD j []=zdJ (zaj X nm2 lt (srcs o l fl lt)) s j ((zaj X nm2 lt (srcs o l fl lt)).tabs.getD j []):=by
 have hn:=hg.now
 have hX:zbn X [s]={X with tabs:=zi1 X X.tabs s}:=by unfold zbn;rw[if_pos hE];rfl
 rw[hX,zcU hj,zcU hj];have hy:lt[j]? =some lt[j]:=q6_ hj;obtain⟨i,x,hx,hs,hd,hf,_⟩:=zcV (o:=o) (X:=X) p hn hfl p2 hy;have hi:=(List.getElem?_eq_some_iff.1 hx).1
 have hxX:X.tiers[i]? =some x:=by rw[hg.tiers];exact hx
 have hy1:=zaq p2 (zaa hy);unfold zcW;rw[hs,hy];simp only[Int.toNat_natCast];rw[hxX];simp only;rw[zhd,if_pos (by rw[hg.tiers];exact hi)];unfold zc1;simp only[if_pos hd,zf4];exact zn5 (X:=X) (Y:=zaj X nm2 lt (srcs o l fl lt)) hxX hy (zg4 hd).1 hy1.1 (zg4 hd).2 (by rw[hg.tiers,hg.floors];show _≤zat X.now lt (zaw X.now X.tiers X.floors _ lt) j;rw[hg.tiers,hg.floors];exact hf) (hg.good i) s
theorem zpE(p:zai nm l=true)(hg:zbm nm l fl X c)(hfl:∀ f∈fl,0≤f∧f≤2199023255552)(p2:zai nm2 lt=true){s:zaz}(hE:zgD X [s]=0)(h0:0≤s.time)(done:Int):
  zeH (zaj (zbn X [s]) nm2 lt (srcs o l fl lt)) done (shT lt done (zaj X nm2 lt (srcs o l fl lt)).tabs) s=shT lt done (zaj (zbn X [s]) nm2 lt (srcs o l fl lt)).tabs:=by
 have hX:zbn X [s]={X with tabs:=zi1 X X.tabs s}:=by unfold zbn;rw[if_pos hE];rfl
 unfold zeH;rw[show (zaj (zbn X [s]) nm2 lt (srcs o l fl lt)).tiers=lt from rfl]
 conv=>rhs;unfold shT
 refine List.map_congr_left (fun j hj=>?_);have hj:=List.mem_range.1 hj;rw[ziu hj];unfold shL;rw[zoR p hg hfl p2 hE hj];have hgY:zby ((zaj X nm2 lt (srcs o l fl lt)).tabs.getD j []):=(zbI p hg hfl p2).good j
 have e1:zhl (zaj (zbn X [s]) nm2 lt (srcs o l fl lt)) done s j (zao (unf lt done j) ((zaj X nm2 lt (srcs o l fl lt)).tabs.getD j []))=zhl (zaj X nm2 lt (srcs o l fl lt)) done s j (zao (unf lt done j) ((zaj X nm2 lt (srcs o l fl lt)).tabs.getD j [])):=by rw[hX];rfl
 rw[e1,zmN h0 hj]
 show (if zj0 lt done j s.name then _ else _)=_
 generalize (zaj X nm2 lt (srcs o l fl lt)).tabs.getD j []=m at hgY ⊢
 generalize zaj X nm2 lt (srcs o l fl lt)=Y
 have hk:∀ (e t:Int) (a:zaS),unf lt done j ⟨s.name,t,a⟩= !zj0 lt done j s.name:=fun e t a=>rfl
 cases hb:zj0 lt done j s.name
 ·rw[if_neg (by simp)]
  unfold zdJ
  split
  ·split
   ·rw[zgS (zns lt done j) hgY.1 (by rw[hk 0,hb];rfl)]
   ·rfl
  ·rfl
 ·rw[if_pos rfl]
  unfold zdJ
  split
  ·split
   ·rw[zgT (zns lt done j) hgY.1 (by rw[hk 0,hb];rfl)]
   ·rfl
  ·rfl
end
structure zim(nm2:ByteArray)(l lt:List za_)(fl:List Int)(o:Int)(X:zac)(S:ShX):Prop where
 name:S.name=nm2
 tiers:S.tiers=lt
 src:S.srcs=Proofs.YteajonicnkpbbaaGreatDoor.srcs o l fl lt
 tabs:S.tabs=shT lt S.done (zaj X nm2 lt (Proofs.YteajonicnkpbbaaGreatDoor.srcs o l fl lt)).tabs
 d0:0≤S.done
 d1:S.done≤zaX lt
section
variable {nm nm2:ByteArray} {l lt:List za_} {fl:List Int} {o:Int} {lo:Nat} {W:World} {t s base:Nat} {X:zac} {S:ShX} {Ft F:Nat→Prop} {cc:Nat}
theorem zcw(p2:zaO nm2 lt):0≤zap lt∧zaX lt=zap lt+2∧zaX lt≤42:=by
 have h8:∀ t∈lt,t.shards≤8:=fun x hx=>(zaq p2.ck hx).2.2.2.2.2;have hf:=zcS h8;have h5:=p2.five
 have hne:lt≠[]:=by rintro rfl;have:=p2.pos;simp at this
 have:zaX lt=zap lt+2:=by simp[zaX,hne]
 omega
theorem zeN(p:zaO nm l)(p2:zaO nm2 lt)(hg:zbm nm l fl X cc)(hfl:∀ f∈fl,0≤f∧f≤2199023255552){j:Nat}{y:za_}(hy:lt[j]? =some y):
  zby ((zaj X nm2 lt (srcs o l fl lt)).tabs.getD j [])∧∀ r∈(zaj X nm2 lt (srcs o l fl lt)).tabs.getD j [],zaJ y.every r=true∧zat X.now lt (zaw X.now l fl (srcs o l fl lt) lt) j≤r.start:=by
 rw[zcU (List.getElem?_eq_some_iff.1 hy).1];obtain⟨i,x,hx,hs,hd,_,_⟩:=zcV (o:=o) (X:=X) p.ck hg.now hfl p2.ck hy
 have hxX:X.tiers[i]? =some x:=by rw[hg.tiers];exact hx
 unfold zcW;rw[hs,hy];simp only[Int.toNat_natCast];rw[hxX];simp only;rw[hg.tiers,hg.floors];exact zcM
theorem zim.lens(h:zim nm2 l lt fl o X S)(p:zaO nm l)(p2:zaO nm2 lt)(hg:zbm nm l fl X cc)(hfl:∀ f∈fl,0≤f∧f≤2199023255552):∀ m∈S.tabs,m.length≤cc:=by
 intro m hm;rw[h.tabs] at hm;unfold shT at hm;obtain⟨j,hj,rfl⟩:=List.mem_map.1 hm;refine Nat.le_trans (List.length_filter_le _ _) ?_
 rcases zch (L:=(zaj X nm2 lt (srcs o l fl lt)).tabs) j with h3 | h3
 ·exact (zbI (o:=o) p.ck hg hfl p2.ck).len _ h3
 ·rw[h3];exact Nat.zero_le _
theorem zel(p:zaO nm l)(p2:zaO nm2 lt)(hg:zbm nm l fl X cc)(hfl:∀ f∈fl,0≤f∧f≤2199023255552):(zaj X nm2 lt (srcs o l fl lt)).tabs.length=lt.length:=(zbI p.ck hg hfl p2.ck).tlen
theorem zo3(p:zaO nm l)(p2:zaO nm2 lt)(hg:zbm nm l fl X cc)(hfl:∀ f∈fl,0≤f∧f≤2199023255552)(h:zim nm2 l lt fl o X S)(hd:zap lt≤S.done):zd2 S (zaj X nm2 lt (srcs o l fl lt))=true:=by
 unfold zd2;rw[List.all_eq_true];intro i hi;have hi:=List.mem_range.1 hi;rw[h.tiers] at hi;unfold zi0;rw[h.tabs,zec p2.ck (zel p p2 hg hfl) hd];have hr:=zeN (o:=o) p p2 hg hfl (q6_ hi);rw[decide_eq_true_eq];unfold zao;rw[List.filter_eq_self];intro r hrr;have h1:=(hr.2 r hrr).2;unfold zae
 show (!decide (r.start<zat X.now lt (zaw X.now X.tiers X.floors (srcs o l fl lt) lt) i))=true
 rw[hg.tiers,hg.floors,q9_ (by omega)]
 rfl
theorem zru(p:zaO nm l)(p2:zaO nm2 lt)(hg:zbm nm l fl X cc)(hfl:∀ f∈fl,0≤f∧f≤2199023255552)(h:zim nm2 l lt fl o X S)(hd:zap lt≤S.done):zlm S (zaj X nm2 lt (srcs o l fl lt)) lt.length=zaj X nm2 lt (srcs o l fl lt):=by
 have hS:S.tabs=(zaj X nm2 lt (srcs o l fl lt)).tabs:=by rw[h.tabs,zec p2.ck (zel p p2 hg hfl) hd]
 have hlen:=zel (o:=o) (nm:=nm) (nm2:=nm2) p p2 hg hfl;have hright:=fun {j:Nat} {y:za_} (hy:lt[j]? =some y)=>zeN (o:=o) (nm:=nm) (nm2:=nm2) p p2 hg hfl hy;have hYt:(zaj X nm2 lt (srcs o l fl lt)).tiers=lt:=rfl;have hYn:(zaj X nm2 lt (srcs o l fl lt)).now=X.now:=rfl
 have hYf:(zaj X nm2 lt (srcs o l fl lt)).floors=zaw X.now l fl (srcs o l fl lt) lt:=by show zaw X.now X.tiers X.floors _ _=_;rw[hg.tiers,hg.floors]
 generalize zaj X nm2 lt (srcs o l fl lt)=Y at hS hlen hright hYt hYn hYf ⊢
 have key:∀ k,k≤lt.length→zlm S Y k={Y with tabs:=zbD lt.length (fun j=>Y.tabs.getD j []) (fun _=>[]) k}:=by
  intro k
  induction k with
  | zero=>
   intro _;unfold zlm zhm;rw[zd9]
   show (⟨Y.now,Y.name,Y.tiers,Y.floors,Y.tiers.map fun _=>[]⟩:zac)=⟨Y.now,Y.name,Y.tiers,Y.floors,(List.range lt.length).map fun _=>[]⟩
   congr 1
   rw[hYt]
   apply List.ext_getElem?
   intro i;rw[List.getElem?_map,List.getElem?_map]
   by_cases hi:i<lt.length
   ·rw[q6_ hi,List.getElem?_range hi];rfl
   ·rw[List.getElem?_eq_none (by omega),List.getElem?_eq_none (by simpa using hi)];rfl
  | succ k ih=>
   intro hk;have hy:lt[k]? =some lt[k]:=q6_ (by omega);obtain⟨q1,q2⟩:=hright hy;rw[zj6,ih (by omega),hS];unfold zfy;simp only;rw[hYt,hy,zeQ (by omega)];simp only
   have hfil:(Y.tabs.getD k []).filter (ldB {Y with tiers:=lt,tabs:=zbD lt.length (fun j=>Y.tabs.getD j []) (fun _=>[]) k} k)=Y.tabs.getD k []:=by
    rw[List.filter_eq_self];intro r hr;have h1:=(q2 r hr).2;unfold ldB;simp only;rw[hYn,hYf,qa_ h1]
   have e2:zbf lt[k].every [] (Y.tabs.getD k [])=Y.tabs.getD k []:=by
    have:=zha (e:=lt[k].every) (acc:=[]) (l:=Y.tabs.getD k []) (by rw[List.nil_append];exact q1.1) (fun r hr=>(q2 r hr).1);rwa[List.nil_append] at this
   rw[hfil,e2];have:=zeP (n:=lt.length) (f:=fun j=>Y.tabs.getD j []) (g:=fun _=>([]:List zaf)) (i:=k) (by omega)
   try simp only at this
   rw[this]
 rw[key lt.length (Nat.le_refl _),zeR,zg_ hlen]
def ShX.go(S:ShX)(nm2:ByteArray)(lt:List za_)(Y:zac):ShX:={S with done:=S.done+1,tabs:=shT lt (S.done+1) Y.tabs}
def zrW(nm2:ByteArray)(lt:List za_)(bs:List Int)(lo:Nat)(w':World)(Y:zac)(cc:Nat)(last:Bool)(co:Value):Prop:=
 (last=true→∃ ot Fo,co=.pointer (some ⟨ot,0,none⟩)∧Tio nm2 lt bs lo w' ot Y Fo cc∧∀ i,Fo i→lo≤i)∧(last=false→co=.pointer none)
theorem zim.next(h:zim nm2 l lt fl o X S)(hd:S.done<zaX lt):zim nm2 l lt fl o X (S.go nm2 lt (zaj X nm2 lt (srcs o l fl lt))):=
 ⟨h.name,h.tiers,h.src,rfl,by have:=h.d0;show 0≤S.done+1;omega,by show S.done+1≤_;omega⟩
theorem znL(p:zaO nm l)(p2:zaO nm2 lt)(hnm2:nm2.size≤maxLen)(h:Tio nm l fl lo W t X Ft cc)(hc:cc≤1000000)(hfl:∀ f∈fl,0≤f∧f≤2199023255552)(hs:zcr W s base S F)(hk:zim nm2 l lt fl o X S)(hd:S.done<zaX lt):
  Calls prog 106 #[.pointer (some ⟨s,0,none⟩),.pointer (some ⟨t,0,none⟩)] W fun r w'=>(∃ co,r=.returned (.tuple #[zaM (atV lt S.done).1,co,.int .i64 0])∧zrW nm2 lt (zaw X.now l fl (srcs o l fl lt) lt) W.heap.size w' (zaj X nm2 lt (srcs o l fl lt)) cc (decide (S.done=zaX lt-1)) co)∧zcr w' s base (S.go nm2 lt (zaj X nm2 lt (srcs o l fl lt))) F∧Fr F W w':=by
 have hg:=h.good;have hst:=zcw p2
 have hd64:i64 S.done:=by have:=hk.d0;unfold i64;omega
 have hlen:=zel (o:=o) (nm:=nm) (nm2:=nm2) p p2 hg hfl;have hl:∀ m∈S.tabs,m.length≤1000000:=fun m hm=>Nat.le_trans (hk.lens p p2 hg hfl m hm) hc
 rcases zra p2.ck hk.d0 hd with ⟨j,y,k,hy,hat,k0,k1,hdk,hlt⟩ | ⟨hat,hdk⟩ | ⟨hat,hdk⟩
 ·refine (zmw p p2 hnm2 h hc hfl hs hk.name hk.tiers hk.src hd64 hl hy hat).mono ?_
  rintro r w' ⟨rfl,q1,q2⟩;rw[hat];refine⟨⟨_,rfl,fun e=>?_,fun _=>rfl⟩,?_,q2⟩
  ·have:=of_decide_eq_true e;omega
  ·obtain⟨g1,g2⟩:=zeN (o:=o) (nm:=nm) (nm2:=nm2) p p2 hg hfl hy
   have hj:=(List.getElem?_eq_some_iff.1 hy).1;have e:=zpF (Y:=(zaj X nm2 lt (srcs o l fl lt)).tabs) p2.ck hy ⟨k0,k1⟩ hdk g1 (fun r hr=>(g2 r hr).1);rw[hk.tabs,ziu hj,e] at q1;exact q1
 ·refine (zkK p p2 hnm2 h hc hfl hs hk.name hk.tiers hk.src hd64 hl hat).mono ?_
  rintro r w' ⟨⟨q1,_⟩,q2⟩;obtain⟨rfl,q3⟩:=q1 (zo3 p p2 hg hfl hk (by omega));rw[hat];refine⟨⟨_,rfl,fun e=>?_,fun _=>rfl⟩,?_,q2⟩
  ·have:=of_decide_eq_true e;omega
  ·have e:S.tabs=shT lt (S.done+1) (zaj X nm2 lt (srcs o l fl lt)).tabs:=by
    rw[hk.tabs,zec p2.ck hlen (by omega),zec p2.ck hlen (by omega)]
   unfold ShX.go;rw[← e];exact q3
 ·refine (znK p p2 hnm2 h hc hfl hs hk.name hk.tiers hk.src hd64 hl hat).mono ?_
  rintro r w' ⟨⟨ot,Fo,rfl,q3,q4⟩,q1,q2⟩;rw[zru p p2 hg hfl hk (by omega)] at q3;rw[hat];refine⟨⟨_,rfl,fun _=>⟨ot,Fo,rfl,⟨q3.on,zbI p.ck hg hfl p2.ck⟩,q4⟩,fun e=>?_⟩,?_,q2⟩
  ·have:=of_decide_eq_false e;omega
  ·have e:S.tabs=shT lt (S.done+1) (zaj X nm2 lt (srcs o l fl lt)).tabs:=by
    rw[hk.tabs,zec p2.ck hlen (by omega),zec p2.ck hlen (by omega)]
   unfold ShX.go;rw[← e];exact q1
end
section
variable {nm nm2:ByteArray} {l lt:List za_} {fl:List Int} {o:Int} {X:zac} {S:ShX} {cc:Nat}
end
end Go.Proofs.YteajonicnkpbbaaGreatDoor
