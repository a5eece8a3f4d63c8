/- The plain law of a shadow: what it has is what is built, of the shards that are filled. -/
import Derived.Test.YtjhhodndlkpmhaaGreatDoorTioR
import Derived.Test.YtjhhodndlkpmhaaGreatDoorRefMerge
namespace Go.Proofs.YtjhhodndlkpmhaaGreatDoor
set_option linter.all false
set_option maxHeartbeats 8000000
set_option maxRecDepth 100000
open Go.RowKit Tryz
def zm1(lt:List za_)(done:Int)(j:Nat)(s:ByteArray):Bool:=
 match lt[j]? with
 | some y=>decide (zbR s y.shards+zbp (lt.take j)<done)
 | none=>false
def unf(lt:List za_)(done:Int)(j:Nat)(r:zae):Bool:= !zm1 lt done j r.name
theorem znz(lt:List za_)(done:Int)(j:Nat):∀ x y,zbQ x y→unf lt done j x=unf lt done j y:=fun x y h=>by unfold unf;rw[h.1]
def shL(lt:List za_)(done:Int)(Y:List (List zae))(j:Nat):List zae:=zaK (unf lt done j) (Y.getD j [])
def shT(lt:List za_)(done:Int)(Y:List (List zae)):List (List zae):=(List.range lt.length).map (shL lt done Y)
theorem zre{lt:List za_}{done:Int}{Y:List (List zae)}{j:Nat}(hj:j<lt.length):(shT lt done Y)[j]? =some (shL lt done Y j):=by unfold shT;rw[List.getElem?_map,List.getElem?_range hj];rfl
theorem zlh{lt:List za_}{done:Int}{Y:List (List zae)}{j:Nat}(hj:j<lt.length):(shT lt done Y).getD j []=shL lt done Y j:=by rw[List.getD_eq_getElem?_getD,zre hj];rfl
section
variable {nm2:ByteArray} {lt:List za_} {Y:List (List zae)} {done:Int}
end
section
variable {nm nm2:ByteArray} {l lt:List za_} {X:zaa} {fl:List Int} {o:Int} {c:Nat}
def zhc(Y:zaa)(done:Int)(s:zas)(j:Nat)(m:List zae):List zae:=
 match Y.tiers[j]? with
 | some y=>if zm1 Y.tiers done j s.name&&decide (zar Y.now Y.tiers Y.floors j≤zaq s.time y.every) then zb0 y.every m ⟨s.name,zaq s.time y.every,zbd s.value⟩ else m
 | none=>m
def zem(Y:zaa)(done:Int)(tabs:List (List zae))(s:zas):List (List zae):=(List.range Y.tiers.length).map fun j=>zhc Y done s j (tabs.getD j [])
theorem zmI{Y:zaa}{done:Int}{s:zas}{j:Nat}{m:List zae}(h0:0≤s.time)(hj:j<Y.tiers.length):zhc Y done s j m=if zm1 Y.tiers done j s.name then zcd Y s j m else m:=by
 unfold zhc zcd zbW;rw[if_pos (⟨by omega,by omega,h0⟩:0≤(j:Int)∧(j:Int)<(Y.tiers.length:Int)∧0≤s.time)];simp only[Int.toNat_natCast,zcD hj,q6_ hj]
 cases zm1 Y.tiers done j s.name<;>simp
theorem zo9(p:zak nm l=true)(hg:zbf nm l fl X c)(hfl:∀ f∈fl,0≤f∧f≤2199023255552)(p2:zak nm2 lt=true){s:zas}(hE:zfR X [s]=0){j:Nat}(hj:j<lt.length):
  (zap (za4 X [s]) nm2 lt (srcs o l fl lt)).tabs.getD j []=zcd (zap X nm2 lt (srcs o l fl lt)) s j ((zap X nm2 lt (srcs o l fl lt)).tabs.getD j []):=by
 have hn:=hg.now
 have hX:za4 X [s]={X with tabs:=ze1 X X.tabs s}:=by unfold za4;rw[if_pos hE];rfl
 rw[hX,zdc hj,zdc hj];have hy:lt[j]? =some lt[j]:=q6_ hj;obtain⟨i,x,hx,hs,hd,hf,_⟩:=zdW (o:=o) (X:=X) p hn hfl p2 hy;have hi:=(List.getElem?_eq_some_iff.1 hx).1
 have hxX:X.tiers[i]? =some x:=by rw[hg.tiers];exact hx
 have hy1:=zaN p2 (zab hy);unfold zcQ;rw[hs,hy];simp only[Int.toNat_natCast];rw[hxX];simp only;rw[zg4,if_pos (by rw[hg.tiers];exact hi)];unfold zcH;simp only[if_pos hd,zfV];exact zob (X:=X) (Y:=zap X nm2 lt (srcs o l fl lt)) hxX hy (zgX hd).1 hy1.1 (zgX hd).2 (by rw[hg.tiers,hg.floors];show _≤zar X.now lt (zaR X.now X.tiers X.floors _ lt) j;rw[hg.tiers,hg.floors];exact hf) (hg.good i) s
theorem zpU(p:zak nm l=true)(hg:zbf nm l fl X c)(hfl:∀ f∈fl,0≤f∧f≤2199023255552)(p2:zak nm2 lt=true){s:zas}(hE:zfR X [s]=0)(h0:0≤s.time)(done:Int):
  zem (zap (za4 X [s]) nm2 lt (srcs o l fl lt)) done (shT lt done (zap X nm2 lt (srcs o l fl lt)).tabs) s=shT lt done (zap (za4 X [s]) nm2 lt (srcs o l fl lt)).tabs:=by
 have hX:za4 X [s]={X with tabs:=ze1 X X.tabs s}:=by unfold za4;rw[if_pos hE];rfl
 unfold zem;rw[show (zap (za4 X [s]) nm2 lt (srcs o l fl lt)).tiers=lt from rfl]
 conv=>rhs;unfold shT
 refine List.map_congr_left (fun j hj=>?_);have hj:=List.mem_range.1 hj;rw[zlh hj];unfold shL;rw[zo9 p hg hfl p2 hE hj];have hgY:za6 ((zap X nm2 lt (srcs o l fl lt)).tabs.getD j []):=(zet p hg hfl p2).good j
 have e1:zhc (zap (za4 X [s]) nm2 lt (srcs o l fl lt)) done s j (zaK (unf lt done j) ((zap X nm2 lt (srcs o l fl lt)).tabs.getD j []))=zhc (zap X nm2 lt (srcs o l fl lt)) done s j (zaK (unf lt done j) ((zap X nm2 lt (srcs o l fl lt)).tabs.getD j [])):=by rw[hX];rfl
 rw[e1,zmI h0 hj]
 show (if zm1 lt done j s.name then _ else _)=_
 generalize (zap X nm2 lt (srcs o l fl lt)).tabs.getD j []=m at hgY ⊢
 generalize zap X nm2 lt (srcs o l fl lt)=Y
 have hk:∀ (e t:Int) (a:zaL),unf lt done j ⟨s.name,t,a⟩= !zm1 lt done j s.name:=fun e t a=>rfl
 cases hb:zm1 lt done j s.name
 ·rw[if_neg (by simp)]
  unfold zcd
  split
  ·split
   ·rw[zgO (znz lt done j) hgY.1 (by rw[hk 0,hb];rfl)]
   ·rfl
  ·rfl
 ·rw[if_pos rfl]
  unfold zcd
  split
  ·split
   ·rw[zgP (znz lt done j) hgY.1 (by rw[hk 0,hb];rfl)]
   ·rfl
  ·rfl
end
structure znm(nm2:ByteArray)(l lt:List za_)(fl:List Int)(o:Int)(X:zaa)(S:ShX):Prop where
 name:S.name=nm2
 tiers:S.tiers=lt
 src:S.srcs=Proofs.YtjhhodndlkpmhaaGreatDoor.srcs o l fl lt
 tabs:S.tabs=shT lt S.done (zap X nm2 lt (Proofs.YtjhhodndlkpmhaaGreatDoor.srcs o l fl lt)).tabs
 d0:0≤S.done
 d1:S.done≤zcz lt
section
variable {nm nm2:ByteArray} {l lt:List za_} {fl:List Int} {o:Int} {lo:Nat} {W:World} {t s base:Nat} {X:zaa} {S:ShX} {Ft F:Nat→Prop} {cc:Nat}
theorem zie(p2:zb_ nm2 lt):0≤zbp lt∧zcz lt=zbp lt+2∧zcz lt≤42:=by
 have h8:∀ t∈lt,t.shards≤8:=fun x hx=>(zaN p2.ck hx).2.2.2.2.2;have hf:=zjC h8;have h5:=p2.five
 have hne:lt≠[]:=by rintro rfl;have:=p2.pos;simp at this
 have:zcz lt=zbp lt+2:=by simp[zcz,hne]
 omega
theorem znm.lens(h:znm nm2 l lt fl o X S)(p:zb_ nm l)(p2:zb_ nm2 lt)(hg:zbf nm l fl X cc)(hfl:∀ f∈fl,0≤f∧f≤2199023255552):∀ m∈S.tabs,m.length≤cc:=by
 intro m hm;rw[h.tabs] at hm;unfold shT at hm;obtain⟨j,hj,rfl⟩:=List.mem_map.1 hm;refine Nat.le_trans (List.length_filter_le _ _) ?_
 rcases zds (L:=(zap X nm2 lt (srcs o l fl lt)).tabs) j with h3 | h3
 ·exact (zet (o:=o) p.ck hg hfl p2.ck).len _ h3
 ·rw[h3];exact Nat.zero_le _
end
section
variable {nm nm2:ByteArray} {l lt:List za_} {fl:List Int} {o:Int} {X:zaa} {S:ShX} {cc:Nat}
end
def zbM(Y:zaa)(done:Int)(tabs:List (List zae))(ls:List zas):List (List zae):=ls.foldl (zem Y done) tabs
theorem zhC{Y:zaa}{done:Int}{n:Nat}(hY:Y.tiers.length=n):∀ {ls:List zas} {tabs:List (List zae)},tabs.length=n→(zbM Y done tabs ls).length=n
 | [],_,h=>h
 | s::ls,tabs,_=>zhC hY (ls:=ls) (tabs:=zem Y done tabs s) (by unfold zem;rw[List.length_map,List.length_range,hY])
theorem zkK{Y:zaa}{done:Int}{tabs:List (List zae)}{c:Nat}(h:∀ m∈tabs,m.length≤c)(s:zas):∀ m∈zem Y done tabs s,m.length≤c+1:=by
 intro m hm;unfold zem at hm;obtain⟨j,_,rfl⟩:=List.mem_map.1 hm
 have h2:(tabs.getD j []).length≤c:=by
  rcases zds (L:=tabs) j with h3 | h3
  ·exact h _ h3
  ·rw[h3];exact Nat.zero_le _
 unfold zhc
 split
 ·split
  ·exact Nat.le_trans (zg3 _ _ _) (by omega)
  ·omega
 ·omega
theorem zfM{Y:zaa}{done:Int}:∀ {ls:List zas} {tabs:List (List zae)} {c:Nat},(∀ m∈tabs,m.length≤c)→∀ m∈zbM Y done tabs ls,m.length≤c+ls.length
 | [],_,_,h=>h
 | s::ls,tabs,c,h=>fun m hm=>by
  have:=zfM (ls:=ls) (zkK (Y:=Y) (done:=done) h s) m hm;rw[List.length_cons];omega
theorem zn3{nm nm2:ByteArray}{l lt:List za_}{fl:List Int}{o:Int}{lo:Nat}{W:World}{t s base:Nat}{X:zaa}{S:ShX}{Ft F:Nat→Prop}{cc:Nat}(p:zb_ nm l)(p2:zb_ nm2 lt)(hnm2:nm2.size≤maxLen)(h:Tio nm l fl lo W t X Ft cc)(hc:cc≤1000000)(hfl:∀ f∈fl,0≤f∧f≤2199023255552)(hs:ze5 W s base S F)(h1:S.name=nm2)(h2:S.tiers=lt)(h3:S.srcs=srcs o l fl lt)(hd:0≤S.done∧S.done≤100)(hl:∀ m∈S.tabs,m.length≤1000000)(ls:List zas)(A1:Option Addr)(n1 c1:Nat)(hr:Rd W 3 A1 n1 (zdz ls))(hsw:∀ z∈ls,z.wf)(hn1':n1≤1000)(hA:∀ j,adF A1 n1 j→¬ F j):
  Calls prog 45 #[.pointer (some ⟨s,0,none⟩),.pointer (some ⟨t,0,none⟩),.slice A1 n1 c1] W fun r w'=>r=.returned (.tuple #[])∧ze5 w' s base {S with tabs:=zbM (zap X nm2 lt (srcs o l fl lt)) S.done S.tabs ls} F∧Fr F W w':=by
 obtain⟨A,c,B,d,T,ct,tb,hi,rfl⟩:=hs
 obtain⟨n,hn0⟩:∃ n,lt.length=n:=⟨_,rfl⟩
 have hSn:S.tiers.length=n:=by rw[h2,hn0]
 have hSm:S.srcs.length=n:=by rw[h3];unfold srcs;rw[List.length_map,hn0]
 have hfive:=p2.five
 have hn5:n≤5:=by omega
 have hn1:0<n:=by have:=p2.pos;omega
 have HI:=q0_ hi
 have htc:n≤c:=by have:=(zat hi.tiers).1;omega
 obtain⟨ad,hadT,hcr⟩:=(zat hi.row).2.2.1.2 (show 0<S.tiers.length by omega);subst hadT;have Hcr:=q0_ hcr;have hrdA:=(zat hi.tiers).2.2.1;rw[hSn,h2] at hrdA;obtain⟨aA,haA,_⟩:=hrdA.2 hn1;subst haA;have HrdA:=q0_ hrdA
 have HBu:Hid (Calls prog 85 #[.agg #[.string nm2,.slice (some aA) n c,.slice B n d],.pointer (some ⟨t,0,none⟩)] W fun r w'=>(∃ t' F',r=.returned (.tuple #[.pointer (some ⟨t',0,none⟩),.int .i64 0])∧Tio nm2 lt (zaR X.now l fl (srcs o l fl lt) lt) W.heap.size w' t' (zap X nm2 lt (srcs o l fl lt)) F' cc∧∀ j,F' j→W.heap.size≤j)∧Below W.heap.size W w'):=by
  have q2:=(zat HI.out.srcs).2.2.1;rw[hSm,h3] at q2;exact zgg p p2 hnm2 h hc hfl (some aA) n c B d HrdA.out htc q2 W.heap.size (Nat.le_refl _)
 obtain⟨bs,hbs⟩:∃ v,zaR X.now l fl (srcs o l fl lt) lt=v:=⟨_,rfl⟩
 obtain⟨Y,hY⟩:∃ v,zap X nm2 lt (srcs o l fl lt)=v:=⟨_,rfl⟩
 have HYt:Hid (Y.tiers=lt):=by show _=_;rw[← hY];rfl
 rw[hbs,hY] at HBu;rw[hY];have Hn0:=q0_ hn0;have HSn:=q0_ hSn;have Ht:=q0_ h2;have Hl:=q0_ hl;have Hsw:=q0_ hsw;have Hr:=q0_ hr;have Hlen:=q0_ (Rd.samps_len hr);have HA:=q0_ hA
 have HCs:Hid (∀ {W':World} {G:Nat→Prop},Fr G W W'→¬ G s→W'.cell? ⟨s,0,none⟩=some (.string nm2)∧W'.cell? ⟨s,1,none⟩=some (.slice (some aA) n c)∧W'.cell? ⟨s,2,none⟩=some (.slice B n d)∧W'.cell? ⟨s,4,none⟩=some (.int .i64 S.done)∧W'.cell? ⟨s,5,none⟩=some (.slice (some ad) n ct)):=fun f hg=>by
  obtain⟨c0,c1,c2,_,c4,c5⟩:=HI.out.cells f hg;rw[h1] at c0;rw[hSn] at c1 c5;rw[hSm] at c2;exact⟨c0,c1,c2,c4,c5⟩
 have HMp:Hid (∀ j,tM tb j→∃ es ck,W.heap[j]? =some (.map es ck)):=fun j hj=>(HI.out.map_ hj).2.2;have HMl:Hid (∀ j,tM tb j→j<W.heap.size):=fun j hj=>(HI.out.map_ hj).2.1
 have HTl:Hid (S.tabs.length=n):=by show _=_;rw[HI.out.tlen,HSn.out]
 obtain⟨c0,c1,c2,c4,c5⟩:=HCs.out (Fr.refl (fun _=>False) W) (fun h=>h);clear hi hn0 hSm hbs hY h1 h2 h3 h hl hSn hcr hrdA hsw hr hA;go_enter func45,ntmps45;go_wp2_with fail;refine HBu.out.mono ?_;rintro r w1 ⟨⟨u,Fu,rfl,T1,hFu⟩,b1⟩;have F1:Hid (Fr (fun _=>False) W w1):=Fr.b0 b1;have HT1:=q0_ T1;have HFu:=q0_ hFu;obtain⟨tA,tc,tB,td,hR⟩:=T1.reach;have HR:=q0_ hR
 obtain⟨mf,hmf⟩:∃ m,bs.length=m:=⟨_,rfl⟩
 have hY0:=T1.good.now
 -- frames of the maps alone
 have HFm:Hid (∀ W',Fr (tM tb) w1 W'→Fr (fun j=>tM tb j∧∃ es ck,w1.heap[j]? =some (.map es ck)) w1 W'):=fun W' f=>f.mono (fun j hj=>.inl ⟨hj,by obtain⟨es,ck,h⟩:=HMp.out j hj;exact⟨es,ck,by rw[F1.out.block j (HMl.out j hj) (fun h=>h)];exact h⟩⟩)
 have HCw:Hid (∀ W_,Fr (tM tb) w1 W_→W_.cell? ⟨s,0,none⟩=some (.string nm2)∧W_.cell? ⟨s,1,none⟩=some (.slice (some aA) n c)∧W_.cell? ⟨s,2,none⟩=some (.slice B n d)∧W_.cell? ⟨s,4,none⟩=some (.int .i64 S.done)∧W_.cell? ⟨s,5,none⟩=some (.slice (some ad) n ct)∧W_.cell? ⟨u,0,none⟩=some (.int .i64 Y.now)∧W_.cell? ⟨u,1,none⟩=some (.string nm2)∧W_.cell? ⟨u,2,none⟩=some (.slice tA n tc)∧W_.cell? ⟨u,3,none⟩=some (.slice tB mf td)):=fun W_ f=>by
  obtain⟨k0,k1,k2,k3,k4⟩:=HCs.out F1.out (fun h=>h);have r2:=HR.out.c2;have r3:=HR.out.c3;rw[Hn0.out] at r2;rw[hmf] at r3;have g:=HFm.out W_ f;exact⟨zaF g k0,zaF g k1,zaF g k2,zaF g k3,zaF g k4,zaF g HR.out.c0,zaF g HR.out.c1,zaF g r2,zaF g r3⟩
 have HRdm:Hid (∀ W_,Fr (tM tb) w1 W_→Rd W_ 4 (some aA) n (zah lt)):=fun W_ f=>(HrdA.out.fr0 F1.out).mapfr (by decide) (HFm.out W_ f)
 have HFi:Hid (∀ W_ (j:Nat) (y:za_) (sn:ByteArray),Fr (tM tb) w1 W_→lt[j]? =some y→sn.size≤maxLen→Calls prog 92 #[.agg #[.string nm2,.slice (some aA) n c,.slice B n d],.int .i64 S.done,.int .i64 (j:Nat),.string sn] W_ fun r w'=>r=.returned (.bool (zm1 lt S.done j sn))∧Below W_.heap.size W_ w'):=fun W_ j y sn f hy hsz=>by
  have:=zm0 nm2 lt (some aA) n c B n d S.done j y sn W_ (HRdm.out W_ f) htc (by omega) (fun x hx=>(zaN p2.ck hx).2.2.2.2.2) hy hsz
  have e:zm1 lt S.done j sn=decide (zbR sn y.shards+zbp (lt.take j)<S.done):=by unfold zm1;rw[hy]
  rw[e];exact this
 have HFr:Hid (∀ W_ (j:Nat),Fr (tM tb) w1 W_→j<n→Calls prog 84 #[.agg #[.int .i64 Y.now,.string nm2,.slice tA n tc,.slice tB mf td],.int .i64 (j:Nat)] W_ fun r w'=>r=.returned (.int .i64 (zar Y.now lt bs j))∧Below W_.heap.size W_ w'):=fun W_ j f hj=>by
  have g:=HFm.out W_ f
  have hR':zdx W_ u Y.now nm2 lt bs tA tc tB td:=⟨zaF g HR.out.c0,zaF g HR.out.c1,zaF g HR.out.c2,zaF g HR.out.c3,HR.out.rt.mapfr (by decide) g,HR.out.rf.mapfr (by decide) g,HR.out.le⟩
  have:=zhs p2 hR' hY0 j (by rw[Hn0.out];exact hj);rw[Hn0.out,hmf] at this;exact this
 have hYf:Y.floors=bs:=T1.good.floors
 have HNl:Hid (∀ j y (z:zas) m,lt[j]? =some y→zhc Y S.done z j m=if zm1 lt S.done j z.name&&decide (zar Y.now lt bs j≤zaq z.time y.every) then zb0 y.every m ⟨z.name,zaq z.time y.every,zbd z.value⟩ else m):=fun j y z m hy=>by
  unfold zhc;rw[HYt.out,hYf,hy]
 have HRs:Hid (∀ W_,Fr (tM tb) w1 W_→Rd W_ 3 A1 n1 (zdz ls)):=fun W_ f=>(Hr.out.fr0 F1.out).fr f (fun j hj hm=>HA.out j hj (.inr hm));have HI1:Hid (zd0 w1 s base {S with tabs:=zbM Y S.done S.tabs (ls.take 0)} (some aA) c B d (some ad) ct tb):=HI.out.fr0 F1.out;have HLq:Hid (∀ q,(zbM Y S.done S.tabs (ls.take q)).length=n):=fun q=>zhC (by rw[HYt.out];exact Hn0.out) HTl.out
 have HLl:Hid (∀ q,∀ m∈zbM Y S.done S.tabs (ls.take q),m.length≤1000000+q):=fun q m hm=>by
  have:=zfM (Y:=Y) (done:=S.done) (ls:=ls.take q) Hl.out m hm;rw[List.length_take] at this;omega
 clear T1 b1 HBu c0 c1 c2 c4 c5 hR hFu hmf hYf;go_wp2_with fail
 go_loopw [28] (fun i wr=>∃ q:Nat,q≤n1∧i=.int .i64 q∧zd0 wr s base {S with tabs:=zbM Y S.done S.tabs (ls.take q)} (some aA) c B d (some ad) ct tb∧Fr (tM tb) w1 wr) (fun i _=>n1-(intOf i).toNat)
 case atStart=>exact⟨0,Nat.zero_le _,rfl,HI1.out,Fr.refl _ _⟩
 case round=>
  obtain⟨q,hq,rfl,hiq,hfq⟩:=hrel;have Hiq:=q0_ hiq;have Hfq:=q0_ hfq;clear hiq hfq
  by_cases hlt:q<n1
  ·obtain⟨ar,z,rfl,hz,e0,e1,e2⟩:=(HRs.out wr Hfq.out).samp_ (k:=q) hlt
   have g0:decide ((q:Int)<(n1:Int))=true:=qa_ (by omega)
   have qn:0≤(q:Int)∧(q:Int)<(n1:Int):=by omega
   have hqw:IntKind.i64.wrap ((q:Int)+1)=(q:Int)+1:=by simp[IntKind.wrap,IntKind.signed,IntKind.bits];omega
   have hzw:=Hsw.out z (zab hz);have Hz:=q0_ hz
   have HNq:Hid (zbM Y S.done S.tabs (ls.take (q+1))=zem Y S.done (zbM Y S.done S.tabs (ls.take q)) z):=by
    show _=_
    rw[zan hz];unfold zbM;rw[List.foldl_append]
    rfl
   obtain⟨Lq,hLq⟩:∃ v,zbM Y S.done S.tabs (ls.take q)=v:=⟨_,rfl⟩
   have HLn:=HLq.out q;have HLs:=q0_ (HLl.out q);rw[hLq] at HNq HLn Hiq HLs;obtain⟨zn,zt,zv⟩:=z;obtain⟨hzt,hzv,hzs⟩:=hzw;simp only at e0 e1 e2 hzt hzv hzs;have k1:=fun o=>(HCw.out _ (Hfq.out.trans (Fr.none_alloc wr o) q4_)).2.1
   obtain⟨zb,hzb⟩:∃ v,wr.heap.size=v:=⟨_,rfl⟩
   obtain⟨ff,hff⟩:∃ f:Nat→List zae,(fun k=>zhc Y S.done ⟨zn,zt,zv⟩ k (Lq.getD k []))=f:=⟨_,rfl⟩
   obtain⟨gg,hgg⟩:∃ f:Nat→List zae,(fun k=>Lq.getD k [])=f:=⟨_,rfl⟩
   have Hff:Hid (∀ k y,lt[k]? =some y→ff k=if zm1 lt S.done k zn&&decide (zar Y.now lt bs k≤zaq zt y.every) then zb0 y.every (gg k) ⟨zn,zaq zt y.every,zbd zv⟩ else gg k):=fun k y hy=>by
    rw[← hff, ← hgg];exact HNl.out k y ⟨zn,zt,zv⟩ _ hy
   have Hgl:Hid (∀ k,(gg k).length≤1001000):=fun k=>by
    rw[← hgg];have:=zeR HLs.out k;simp only;omega
   have He0:Hid (zbA n ff gg 0=Lq):=by show _=_;rw[ze8, ← hgg];exact zix HLn
   have HeN:Hid (zbA n ff gg n=zbM Y S.done S.tabs (ls.take (q+1))):=by
    show _=_
    rw[HNq.out,zgc, ← hff];unfold zem;rw[HYt.out,Hn0.out]
   have Hzv:=q0_ hzv;clear hff hgg hLq;go_wp2_with fail
   obtain⟨W1,hW1⟩:∃ W1,W1=wr.alloc (.cells #[.string zn,.int .i64 zt,.int .i64 zv] 84):=⟨_,rfl⟩
   rw[← hW1]
   try rw[hzb]
   have hbx:Hid (Blk W1 zb 84 #[.string zn,.int .i64 zt,.int .i64 zv]):=by show Blk _ _ _ _;rw[hW1];exact Blk.new' hzb.symm _ _
   have HF1:Hid (Fr (tM tb) w1 W1):=by show Fr _ _ _;rw[hW1];exact Hfq.out.trans (Fr.none_alloc _ _) q4_
   have HI0:Hid (zd0 W1 s base {S with tabs:=zbA n ff gg 0} (some aA) c B d (some ad) ct tb):=by
    show zd0 _ _ _ _ _ _ _ _ _ _ _
    rw[hW1,He0.out];exact Hiq.out.fr0 (Fr.none_alloc _ _)
   have HzM:Hid (∀ j,tM tb j→zb≠j):=fun j hj e=>by
    have h1:=HMl.out j hj;have h2:=F1.out.size;have h3:=Hfq.out.size;omega
   clear hW1 e0 e1 e2 k1 Hiq
   go_loopw [39] (fun i wr=>∃ j:Nat,j≤n∧i=.int .i64 j∧zd0 wr s base {S with tabs:=zbA n ff gg j} (some aA) c B d (some ad) ct tb∧Fr (tM tb) W1 wr) (fun i _=>n-(intOf i).toNat)
   case atStart=>exact⟨0,Nat.zero_le _,rfl,HI0.out,Fr.refl _ _⟩
   case round=>
    obtain⟨j,hj,rfl,hij,hfj⟩:=hrel;have Hij:=q0_ hij;have Hfj:=q0_ hfj;have Hbx:=q0_ (hbx.out.fr hfj (fun hm=>HzM.out zb hm rfl));have Hfw:Hid (Fr (tM tb) w1 wr):=HF1.out.trans hfj (fun i hi=>.inl hi);clear hij hfj
    by_cases hlj:j<n
    ·obtain⟨g,b,y,m,h1,h2,h3,hTb⟩:=Hij.out.tabAt (k:=j) (by show _<S.tiers.length;rw[HSn.out];exact hlj)
     have hy:lt[j]? =some y:=by rw[← Ht.out];exact h2
     have hmg:m=gg j:=by
      have h4:(zbA n ff gg j)[j]? =some m:=h3;rw[zgb hlj] at h4;exact (Option.some.inj h4).symm
     subst hmg;obtain⟨ad',ea,hcr⟩:=(zat Hij.out.row).2.2.1.2 (show 0<S.tiers.length by rw[HSn.out];omega);obtain rfl:ad=ad':=Option.some.inj ea;have p0:=hcr j _ (zcq h1)
     try simp only at p0
     obtain⟨aA',y',ea2,hy',d0,d1,d2,d3⟩:=(HRdm.out wr Hfw.out).tier hlj;obtain rfl:aA=aA':=Option.some.inj ea2
     obtain rfl:y=y':=by rw[hy] at hy';exact Option.some.inj hy'
     have Hy:=q0_ hy
     have kj:0≤(j:Int)∧(j:Int)<(n:Int):=by omega
     have gj:decide ((j:Int)<(n:Int))=true:=qa_ (by omega)
     have hjw:IntKind.i64.wrap ((j:Int)+1)=(j:Int)+1:=by simp[IntKind.wrap,IntKind.signed,IntKind.bits];omega
     obtain⟨es,ck,hbm⟩:=hTb.own.isMap
     try simp only at hbm
     have hpb:(ad.add j).block≠b:=zjN p0 hbm;have hzbb:zb≠b:=HzM.out b ⟨_,List.mem_of_getElem? h1,rfl⟩;have Hup:Hid (∀ W_,Fr (fun i=>i=b) wr W_→Fr (tM tb) w1 W_):=fun W_ f=>Hfw.out.trans f (fun i hi=>.inl ⟨_,List.mem_of_getElem? h1,hi⟩);have Hup0:Hid (∀ W_,Fr (fun _=>False) wr W_→Fr (tM tb) w1 W_):=fun W_ f=>Hup.out W_ (f.mono q4_)
     have HCb:Hid (∀ W_,Fr (fun i=>i=b) wr W_→(W_.cell? ⟨s,0,none⟩=some (.string nm2)∧W_.cell? ⟨s,1,none⟩=some (.slice (some aA) n c)∧W_.cell? ⟨s,2,none⟩=some (.slice B n d)∧W_.cell? ⟨s,4,none⟩=some (.int .i64 S.done)∧W_.cell? ⟨s,5,none⟩=some (.slice (some ad) n ct)∧W_.cell? ⟨u,0,none⟩=some (.int .i64 Y.now)∧W_.cell? ⟨u,1,none⟩=some (.string nm2)∧W_.cell? ⟨u,2,none⟩=some (.slice tA n tc)∧W_.cell? ⟨u,3,none⟩=some (.slice tB mf td))∧W_.cell? ⟨zb,0,none⟩=some (.string zn)∧W_.cell? ⟨zb,1,none⟩=some (.int .i64 zt)∧W_.cell? ⟨zb,2,none⟩=some (.int .i64 zv)∧W_.cell? (ad.add j)=some (.pointer (some ⟨g,0,none⟩))):=fun W_ f=>by
      have bz:=Hbx.out.fr f hzbb;exact⟨HCw.out W_ (Hup.out W_ f),bz.cell 0,bz.cell 1,bz.cell 2,f.cell p0 hpb⟩
     have HC:Hid (∀ W_,Fr (fun _=>False) wr W_→(W_.cell? ⟨s,0,none⟩=some (.string nm2)∧W_.cell? ⟨s,1,none⟩=some (.slice (some aA) n c)∧W_.cell? ⟨s,2,none⟩=some (.slice B n d)∧W_.cell? ⟨s,4,none⟩=some (.int .i64 S.done)∧W_.cell? ⟨s,5,none⟩=some (.slice (some ad) n ct)∧W_.cell? ⟨u,0,none⟩=some (.int .i64 Y.now)∧W_.cell? ⟨u,1,none⟩=some (.string nm2)∧W_.cell? ⟨u,2,none⟩=some (.slice tA n tc)∧W_.cell? ⟨u,3,none⟩=some (.slice tB mf td))∧W_.cell? ⟨zb,0,none⟩=some (.string zn)∧W_.cell? ⟨zb,1,none⟩=some (.int .i64 zt)∧W_.cell? ⟨zb,2,none⟩=some (.int .i64 zv)∧W_.cell? (ad.add j)=some (.pointer (some ⟨g,0,none⟩))):=fun W_ f=>HCb.out W_ (f.mono q4_)
     obtain⟨fb,hfb⟩:∃ v,zm1 lt S.done j zn=v:=⟨_,rfl⟩
     obtain⟨fv,hfv⟩:∃ v,zar Y.now lt bs j=v:=⟨_,rfl⟩
     obtain⟨sv,hsv⟩:∃ v,zaq zt y.every=v:=⟨_,rfl⟩
     have HFi1:Hid (∀ W_,Fr (fun _=>False) wr W_→Calls prog 92 #[.agg #[.string nm2,.slice (some aA) n c,.slice B n d],.int .i64 S.done,.int .i64 (j:Nat),.string zn] W_ fun r w'=>r=.returned (.bool fb)∧Below W_.heap.size W_ w'):=fun W_ f=>by
      rw[← hfb];exact HFi.out W_ j y zn (Hup0.out W_ f) Hy.out hzs
     have HFr1:Hid (∀ W_,Fr (fun _=>False) wr W_→Calls prog 84 #[.agg #[.int .i64 Y.now,.string nm2,.slice tA n tc,.slice tB mf td],.int .i64 (j:Nat)] W_ fun r w'=>r=.returned (.int .i64 fv)∧Below W_.heap.size W_ w'):=fun W_ f=>by
      rw[← hfv];exact HFr.out W_ j (Hup0.out W_ f) hlj
     have hev:=zaN p2.ck (zab hy)
     have HFl:Hid (∀ W_,Calls prog 91 #[.int .i64 zt,.int .i64 y.every] W_ fun r w'=>r=.returned (.int .i64 sv)∧W_=w'):=fun W_=>by
      rw[← hsv];exact zeU zt y.every hzt.1 hzt.2 (by omega) (by omega) W_
     have hsvi:zbh sv:=by rw[← hsv];exact zf3 hzt.1 hzt.2
     have Hfk:Hid (ff j=if fb&&decide (fv≤sv) then zb0 y.every (gg j) ⟨zn,sv,zbd zv⟩ else gg j):=by
      show _=_
      rw[Hff.out j y hy,hfb,hfv,hsv]
     have Hnx:Hid ((zbA n ff gg j).set j (ff j)=zbA n ff gg (j+1)):=zga hlj
     have Hsame:Hid (ff j=gg j→zbA n ff gg (j+1)=zbA n ff gg j):=fun e=>by rw[← Hnx.out,e];exact zif (zgb hlj)
     have H1:=q0_ h1;have H2:=q0_ h2;have HTb0:=q0_ hTb;have x1:=fun o=>(Hbx.out.alloc o).cell 1;simp only[q1_,q2_,q3_] at x1;have k1:=(HC.out wr (Fr.refl _ wr)).1.2.1;clear hcr h1 h2 h3 hTb hy' hfb hfv hsv hbm hev ea ea2 p0 hy;go_wp2_with fail
     obtain⟨W2,hW2⟩:∃ v,v=wr.alloc (.cells #[.string y.name,.int .i64 y.every,.int .i64 y.keep,.int .i64 y.shards] 130):=⟨_,rfl⟩
     rw[← hW2]
     have HF2:Hid (Fr (fun _=>False) wr W2):=by show Fr _ _ _;rw[hW2];exact Fr.none_alloc _ _
     clear hW2 x1 k1;refine (HFl.out _).mono ?_;rintro r W3 ⟨rfl,rfl⟩;go_wp2_with fail
     cases fb
     ·refine wp_region_held_drew (S:=fun W_=>Fr (fun _=>False) wr W_) (by kernel_rfl) (HF2.out.drew) (fun hY_=>?_)
      refine tq 11 [0,1,2,3,4,5,6,7,8,9,10] ?_
      iterate 10 refine sf HC.out ?_
      refine sf HC.out ?_
      try simp only[Act.put,sA,sB,sC]
      refine sz ?_
      try simp only[Act.put,sA,sB,sC]
      refine rl 11 rfl (fun K hK=>?_);go_simp
      go_wp2_with (go_at_call 92;refine (HFi1.out _ hY_).mono ?_;rintro r w6 ⟨rfl,b6⟩)
      refine hK.out _ _ (hY_.trans (Fr.b0 b6) q4_) (fun hY_=>?_);clear hK K;refine tq 10 [12,13,14,15,16,17,18,19,20,21] ?_;refine sk ?_
      try simp only[Act.put,sA,sB,sC]
      iterate 7 (refine su ?_;try simp only[Act.put,sA,sB,sC])
      refine su ?_;refine sk ?_
      try simp only[Act.put,sA,sB,sC]
      refine sz ?_
      try simp only[Act.put,sA,sB,sC]
      refine wpAnyH_done (by kernel_rfl) ?_ _;have G7:=q0_ hY_;clear hY_;go_wp2
      go_roundw
      case rel=>
       refine⟨j+1,by omega,by go_num,?_,Hfj.out.trans G7.out q4_⟩;rw[Hsame.out (by rw[Hfk.out];rfl)];exact Hij.out.fr0 G7.out
      case measure=>simp[intOf];omega
     ·refine wp_region_held_drew (S:=fun W_=>Fr (fun _=>False) wr W_) (by kernel_rfl) (HF2.out.drew) (fun hY_=>?_)
      refine tq 11 [0,1,2,3,4,5,6,7,8,9,10] ?_
      iterate 10 refine sf HC.out ?_
      refine sf HC.out ?_
      try simp only[Act.put,sA,sB,sC]
      refine sz ?_
      try simp only[Act.put,sA,sB,sC]
      refine rl 11 rfl (fun K hK=>?_);go_simp
      go_wp2_with (go_at_call 92;refine (HFi1.out _ hY_).mono ?_;rintro r w6 ⟨rfl,b6⟩)
      refine hK.out _ _ (hY_.trans (Fr.b0 b6) q4_) (fun hY_=>?_);clear hK K;refine tq 7 [12,13,14,15,16,17,18] ?_
      iterate 7 (refine sf HC.out ?_;try simp only[Act.put,sA,sB,sC])
      refine sz ?_
      try simp only[Act.put,sA,sB,sC]
      refine rl 19 rfl (fun K hK=>?_);go_simp
      go_wp2_with (go_at_call 84;refine (HFr1.out _ hY_).mono ?_;rintro r w7 ⟨rfl,b7⟩)
      refine hK.out _ _ (hY_.trans (Fr.b0 b7) q4_) (fun hY_=>?_);clear hK K
      try simp only[Act.put,sA,sB,sC]
      refine tq 2 [20,21] ?_;refine sf HC.out ?_;refine sk ?_
      try simp only[Act.put,sA,sB,sC]
      refine sz ?_
      try simp only[Act.put,sA,sB,sC]
      refine wpAnyH_done (by kernel_rfl) ?_ _
      by_cases hge:fv≤sv
      ·have dg:decide (fv≤sv)=true:=qa_ hge
       have Hfk2:Hid (ff j=zb0 y.every (gg j) ⟨zn,sv,zbd zv⟩):=by show _=_;rw[Hfk.out,dg];rfl
       have G7:=q0_ hY_;have HTb:=q0_ (HTb0.out.fr0 hY_);have HC7:Hid (∀ W_,Fr (fun i=>i=b) w7 W_→(W_.cell? ⟨s,0,none⟩=some (.string nm2)∧W_.cell? ⟨s,1,none⟩=some (.slice (some aA) n c)∧W_.cell? ⟨s,2,none⟩=some (.slice B n d)∧W_.cell? ⟨s,4,none⟩=some (.int .i64 S.done)∧W_.cell? ⟨s,5,none⟩=some (.slice (some ad) n ct)∧W_.cell? ⟨u,0,none⟩=some (.int .i64 Y.now)∧W_.cell? ⟨u,1,none⟩=some (.string nm2)∧W_.cell? ⟨u,2,none⟩=some (.slice tA n tc)∧W_.cell? ⟨u,3,none⟩=some (.slice tB mf td))∧W_.cell? ⟨zb,0,none⟩=some (.string zn)∧W_.cell? ⟨zb,1,none⟩=some (.int .i64 zt)∧W_.cell? ⟨zb,2,none⟩=some (.int .i64 zv)∧W_.cell? (ad.add j)=some (.pointer (some ⟨g,0,none⟩))):=fun W_ f=>HCb.out W_ ((G7.out.mono q4_).trans f (fun _ h=>.inl h));clear hY_;have hagw:=zjY Hzv.out;have HOf:Hid (∀ W A c,Rd W 1 A 1 [.int .i64 zv]→Calls prog 90 #[.slice A 1 c] W fun r w'=>r=.returned (zbd zv).val∧Below W.heap.size W w'):=fun W A c hrd=>zjk zv Hzv.out A c W hrd
       obtain⟨ag,hag⟩:∃ ag,zbd zv=ag:=⟨_,rfl⟩
       rw[hag] at hagw HOf Hfk2
       have HAd:Hid (∀ W A c,zaw W g y.every b (gg j)→Rd W 7 A 1 [.string zn,.int .i64 sv,.int .i64 ag.count,.int .i64 ag.hi,.int .u64 ag.lo,.int .i64 ag.min,.int .i64 ag.max]→Calls prog 89 #[.pointer (some ⟨g,0,none⟩),.slice A 1 c] W fun r' w'=>(∃ v,r'=.returned (.int .i64 v))∧zaw w' g y.every b (zb0 y.every (gg j) ⟨zn,sv,ag⟩)∧Fr (fun i=>i=b) W w'):=fun W A c ht hrd=>by
        refine (zg2 g y.every b (gg j) [⟨zn,sv,ag⟩] A 1 c W ht hrd (fun a ha=>by rw[List.mem_singleton] at ha;rw[ha];exact⟨hsvi,hagw,hzs⟩) (by have:=Hgl.out j;omega)).mono ?_;rintro r' w' ⟨rfl,h1,h2⟩;exact⟨⟨_,rfl⟩,h1,h2⟩
       unfold zaL.val at HOf;clear hagw hag;go_wp2_with fail;refine wp_region_held_drew (S:=fun W_=>Fr (fun i=>i=b) w7 W_) (by kernel_rfl) ((Fr.refl _ w7).drew) (fun hY_=>?_);refine tq 12 [0,1,2,3,4,5,6,7,8,9,10,11] ?_
       iterate 11 refine sf HC7.out ?_
       refine sf HC7.out ?_
       try simp only[Act.put,sA,sB,sC]
       refine sz ?_
       try simp only[Act.put,sA,sB,sC]
       refine rl 12 rfl (fun K hK=>?_);go_simp;refine hK.out _ _ (((Fr.none_alloc w7 _).mono q4_).drew) (fun hY_=>?_);clear hK K
       try simp only[Act.put,sA,sB,sC]
       refine rl 13 rfl (fun K hK=>?_);go_simp
       go_wp2_with (go_at_call 90;refine (HOf.out _ _ _ (Rd.newS (w:=w7) (k:=w7.heap.size) rfl _ _ 1 1 rfl).drew).mono ?_;rintro r w8 ⟨rfl,b8⟩)
       refine hK.out _ _ (hY_.trans (Fr.b0 b8) q4_) (fun hY_=>?_);clear hK K;refine tl 14 ?v46 rfl ?q46 ?r46
       case q46=>intro W hSw;(try obtain⟨⟨q0,q1,q2,q3,q4,q5,q6,q7,q8⟩,q9,q10,q11,q12⟩:=HC7.out W hSw);go_simp;try rfl
       try simp only[Act.put,sA,sB,sC]
       refine rl 15 rfl (fun K hK=>?_);go_simp;refine hK.out _ _ (hY_.trans (Fr.none_alloc _ _) q4_) (fun hY_=>?_);clear hK K
       try simp only[Act.put,sA,sB,sC]
       refine rl 16 rfl (fun K hK=>?_);go_simp
       go_wp2_with (go_at_call 89;refine (HAd.out _ _ _ ((((HTb.out.fr0 (Fr.refl _ w7).drew).fr0 (Fr.none_alloc _ _)).fr0 (Fr.b0 b8)).fr0 (Fr.none_alloc _ _)) (Rd.newS (w:=w8) (k:=w8.heap.size) rfl _ _ 1 7 rfl)).mono ?_;rintro r w9 ⟨⟨v9,rfl⟩,t9,f9⟩)
       refine hK.out _ _ (hY_.trans f9 (fun i hi=>.inl hi)) (fun hY_=>?_);clear hK K
       try simp only[Act.put,sA,sB,sC]
       refine wpAnyH_done (by kernel_rfl) ?_ _;have G9:=q0_ hY_;have T9:=q0_ t9;clear hY_ t9 f9 b8;go_wp2
       go_roundw
       case rel=>
        have h:=Hij.out.set (k:=j) H1.out H2.out T9.out ((G7.out.mono q4_).trans G9.out (fun _ h=>.inl h));simp only at h;rw[← Hfk2.out,Hnx.out] at h;exact⟨j+1,by omega,by go_num,h,(Hfj.out.trans G7.out q4_).trans G9.out (fun i hi=>.inl ⟨_,List.mem_of_getElem? H1.out,hi⟩)⟩
       case measure=>simp[intOf];omega
      ·have dg:decide (fv≤sv)=false:=q9_ hge
       have G7:=q0_ hY_;clear hY_;go_wp2
       go_roundw
       case rel=>
        refine⟨j+1,by omega,by go_num,?_,Hfj.out.trans G7.out q4_⟩;rw[Hsame.out (by rw[Hfk.out,dg];rfl)];exact Hij.out.fr0 G7.out
       case measure=>simp[intOf];omega
    ·obtain rfl:j=n:=by omega
     have gj:decide ((j:Int)<(j:Int))=false:=q9_ (by omega);rw[HeN.out] at Hij;go_wp2
     go_roundw
     case rel=>exact⟨q+1,by omega,by go_num,Hij.out,HF1.out.trans Hfj.out (fun _ h=>.inl h)⟩
     case measure=>simp[intOf];omega
  ·obtain rfl:q=n1:=by omega
   have g0:decide ((q:Int)<(q:Int))=false:=q9_ (by omega);have hall:ls.take q=ls:=za3 (by rw[Hlen.out];exact Nat.le_refl _);rw[hall] at Hiq;have FE:Hid (Fr (tF s tb) W wr):=(F1.out.mono q4_).trans Hfq.out (fun i hi=>.inl (.inr hi));clear hall;go_wp2
   go_end0
   exact⟨rfl,⟨_,_,_,_,_,_,_,Hiq.out,rfl⟩,FE.out⟩
section
variable {nm nm2:ByteArray} {l lt:List za_} {fl:List Int} {o:Int} {lo:Nat} {W:World} {t s base:Nat} {X:zaa} {S:ShX} {Ft F:Nat→Prop} {cc:Nat}
end
def zfy(ff gg:Nat→List zae):Nat→Int
 | 0=>0
 | k+1=>zfy ff gg k+(((gg k).length:Int)-((ff k).length:Nat))
theorem zlL{ff gg:Nat→List zae}(h:∀ k,(ff k).length≤(gg k).length∧(gg k).length≤1000000):∀ j,0≤zfy ff gg j∧zfy ff gg j≤j*1000000
 | 0=>by simp[zfy]
 | k+1=>by
  have h1:=zlL h k;have h2:=h k;unfold zfy
  push_cast
  omega
def zgf(Y:zaa)(S:ShX):ShX:={S with tabs:=(List.range Y.tiers.length).map fun j=>zaK (zag (zar Y.now Y.tiers Y.floors j)) (S.tabs.getD j [])}
def zpH(Y:zaa)(S:ShX):Int:=zfy (fun j=>zaK (zag (zar Y.now Y.tiers Y.floors j)) (S.tabs.getD j [])) (fun j=>S.tabs.getD j []) Y.tiers.length
theorem znT{nm nm2:ByteArray}{l lt:List za_}{fl:List Int}{o:Int}{lo:Nat}{W:World}{t s base:Nat}{X:zaa}{S:ShX}{Ft F:Nat→Prop}{cc:Nat}(p:zb_ nm l)(p2:zb_ nm2 lt)(hnm2:nm2.size≤maxLen)(h:Tio nm l fl lo W t X Ft cc)(hc:cc≤1000000)(hfl:∀ f∈fl,0≤f∧f≤2199023255552)(hs:ze5 W s base S F)(h1:S.name=nm2)(h2:S.tiers=lt)(h3:S.srcs=srcs o l fl lt)(hl:∀ m∈S.tabs,m.length≤1000000):
  Calls prog 41 #[.pointer (some ⟨s,0,none⟩),.pointer (some ⟨t,0,none⟩)] W fun r w'=>r=.returned (.int .i64 (zpH (zap X nm2 lt (srcs o l fl lt)) S))∧ze5 w' s base (zgf (zap X nm2 lt (srcs o l fl lt)) S) F∧Fr F W w':=by
 obtain⟨A,c,B,d,T,ct,tb,hi,rfl⟩:=hs
 obtain⟨n,hn0⟩:∃ n,lt.length=n:=⟨_,rfl⟩
 have hSn:S.tiers.length=n:=by rw[h2,hn0]
 have hSm:S.srcs.length=n:=by rw[h3];unfold srcs;rw[List.length_map,hn0]
 have hfive:=p2.five
 have hn5:n≤5:=by omega
 have hn1:0<n:=by have:=p2.pos;omega
 have HI:=q0_ hi
 have htc:n≤c:=by have:=(zat hi.tiers).1;omega
 obtain⟨ad,hadT,hcr⟩:=(zat hi.row).2.2.1.2 (show 0<S.tiers.length by omega);subst hadT;have Hcr:=q0_ hcr;have hrdA:=(zat hi.tiers).2.2.1;rw[hSn,h2] at hrdA;obtain⟨aA,haA,_⟩:=hrdA.2 hn1;subst haA;have HrdA:=q0_ hrdA
 have HBu:Hid (Calls prog 85 #[.agg #[.string nm2,.slice (some aA) n c,.slice B n d],.pointer (some ⟨t,0,none⟩)] W fun r w'=>(∃ t' F',r=.returned (.tuple #[.pointer (some ⟨t',0,none⟩),.int .i64 0])∧Tio nm2 lt (zaR X.now l fl (srcs o l fl lt) lt) W.heap.size w' t' (zap X nm2 lt (srcs o l fl lt)) F' cc∧∀ j,F' j→W.heap.size≤j)∧Below W.heap.size W w'):=by
  have q2:=(zat HI.out.srcs).2.2.1;rw[hSm,h3] at q2;exact zgg p p2 hnm2 h hc hfl (some aA) n c B d HrdA.out htc q2 W.heap.size (Nat.le_refl _)
 obtain⟨bs,hbs⟩:∃ v,zaR X.now l fl (srcs o l fl lt) lt=v:=⟨_,rfl⟩
 obtain⟨Y,hY⟩:∃ v,zap X nm2 lt (srcs o l fl lt)=v:=⟨_,rfl⟩
 have HYt:Hid (Y.tiers=lt):=by show _=_;rw[← hY];rfl
 rw[hbs,hY] at HBu;rw[hY];have Hn0:=q0_ hn0;have HSn:=q0_ hSn;have Ht:=q0_ h2;have Hl:=q0_ hl
 have HCs:Hid (∀ {W':World} {G:Nat→Prop},Fr G W W'→¬ G s→W'.cell? ⟨s,0,none⟩=some (.string nm2)∧W'.cell? ⟨s,1,none⟩=some (.slice (some aA) n c)∧W'.cell? ⟨s,2,none⟩=some (.slice B n d)∧W'.cell? ⟨s,4,none⟩=some (.int .i64 S.done)∧W'.cell? ⟨s,5,none⟩=some (.slice (some ad) n ct)):=fun f hg=>by
  obtain⟨c0,c1,c2,_,c4,c5⟩:=HI.out.cells f hg;rw[h1] at c0;rw[hSn] at c1 c5;rw[hSm] at c2;exact⟨c0,c1,c2,c4,c5⟩
 have HMp:Hid (∀ j,tM tb j→∃ es ck,W.heap[j]? =some (.map es ck)):=fun j hj=>(HI.out.map_ hj).2.2;have HMl:Hid (∀ j,tM tb j→j<W.heap.size):=fun j hj=>(HI.out.map_ hj).2.1
 have HTl:Hid (S.tabs.length=n):=by show _=_;rw[HI.out.tlen,HSn.out]
 obtain⟨c0,c1,c2,c4,c5⟩:=HCs.out (Fr.refl (fun _=>False) W) (fun h=>h);clear hi hn0 hSm hbs hY h1 h2 h3 h hl hSn hcr hrdA;go_enter func41,ntmps41;go_wp2_with fail;refine HBu.out.mono ?_;rintro r w1 ⟨⟨u,Fu,rfl,T1,hFu⟩,b1⟩;have F1:Hid (Fr (fun _=>False) W w1):=Fr.b0 b1;have HT1:=q0_ T1;have HFu:=q0_ hFu;obtain⟨tA,tc,tB,td,hR⟩:=T1.reach;have HR:=q0_ hR
 obtain⟨mf,hmf⟩:∃ m,bs.length=m:=⟨_,rfl⟩
 have hY0:=T1.good.now
 -- frames of the maps alone
 have HFm:Hid (∀ W',Fr (tM tb) w1 W'→Fr (fun j=>tM tb j∧∃ es ck,w1.heap[j]? =some (.map es ck)) w1 W'):=fun W' f=>f.mono (fun j hj=>.inl ⟨hj,by obtain⟨es,ck,h⟩:=HMp.out j hj;exact⟨es,ck,by rw[F1.out.block j (HMl.out j hj) (fun h=>h)];exact h⟩⟩)
 have HCw:Hid (∀ W_,Fr (tM tb) w1 W_→W_.cell? ⟨s,0,none⟩=some (.string nm2)∧W_.cell? ⟨s,1,none⟩=some (.slice (some aA) n c)∧W_.cell? ⟨s,2,none⟩=some (.slice B n d)∧W_.cell? ⟨s,4,none⟩=some (.int .i64 S.done)∧W_.cell? ⟨s,5,none⟩=some (.slice (some ad) n ct)∧W_.cell? ⟨u,0,none⟩=some (.int .i64 Y.now)∧W_.cell? ⟨u,1,none⟩=some (.string nm2)∧W_.cell? ⟨u,2,none⟩=some (.slice tA n tc)∧W_.cell? ⟨u,3,none⟩=some (.slice tB mf td)):=fun W_ f=>by
  obtain⟨k0,k1,k2,k3,k4⟩:=HCs.out F1.out (fun h=>h);have r2:=HR.out.c2;have r3:=HR.out.c3;rw[Hn0.out] at r2;rw[hmf] at r3;have g:=HFm.out W_ f;exact⟨zaF g k0,zaF g k1,zaF g k2,zaF g k3,zaF g k4,zaF g HR.out.c0,zaF g HR.out.c1,zaF g r2,zaF g r3⟩
 have HRdm:Hid (∀ W_,Fr (tM tb) w1 W_→Rd W_ 4 (some aA) n (zah lt)):=fun W_ f=>(HrdA.out.fr0 F1.out).mapfr (by decide) (HFm.out W_ f)
 have HFr:Hid (∀ W_ (j:Nat),Fr (tM tb) w1 W_→j<n→Calls prog 84 #[.agg #[.int .i64 Y.now,.string nm2,.slice tA n tc,.slice tB mf td],.int .i64 (j:Nat)] W_ fun r w'=>r=.returned (.int .i64 (zar Y.now lt bs j))∧Below W_.heap.size W_ w'):=fun W_ j f hj=>by
  have g:=HFm.out W_ f
  have hR':zdx W_ u Y.now nm2 lt bs tA tc tB td:=⟨zaF g HR.out.c0,zaF g HR.out.c1,zaF g HR.out.c2,zaF g HR.out.c3,HR.out.rt.mapfr (by decide) g,HR.out.rf.mapfr (by decide) g,HR.out.le⟩
  have:=zhs p2 hR' hY0 j (by rw[Hn0.out];exact hj);rw[Hn0.out,hmf] at this;exact this
 have hYf:Y.floors=bs:=T1.good.floors
 obtain⟨gg,hgg⟩:∃ f:Nat→List zae,(fun j=>S.tabs.getD j [])=f:=⟨_,rfl⟩
 obtain⟨ff,hff⟩:∃ f:Nat→List zae,(fun j=>zaK (zag (zar Y.now lt bs j)) (gg j))=f:=⟨_,rfl⟩
 have Hff:Hid (∀ j,ff j=zaK (zag (zar Y.now lt bs j)) (gg j)):=fun j=>by rw[← hff]
 have Hgl:Hid (∀ j,(gg j).length≤1000000):=fun j=>by
  rw[← hgg];exact zeR Hl.out j
 have Hfl:Hid (∀ j,(ff j).length≤(gg j).length):=fun j=>by
  rw[Hff.out j];unfold zaK;exact List.length_filter_le _ _
 have HI1:Hid (zd0 w1 s base {S with tabs:=zbA n ff gg 0} (some aA) c B d (some ad) ct tb):=by
  have e:zbA n ff gg 0=S.tabs:=by rw[ze8, ← hgg];exact zix HTl.out
  rw[e];exact HI.out.fr0 F1.out
 have HTX:Hid ({S with tabs:=zbA n ff gg n}=zgf Y S):=by
  show _=_
  unfold zgf;rw[zgc, ← hff, ← hgg,HYt.out,hYf,Hn0.out]
 have HC0:Hid (zfy ff gg n=zpH Y S):=by
  show _=_
  unfold zpH;rw[← hff, ← hgg,HYt.out,hYf,Hn0.out]
 have HDb:Hid (∀ j,0≤zfy ff gg j∧zfy ff gg j≤j*1000000):=fun j=>zlL (fun k=>⟨Hfl.out k,Hgl.out k⟩) j;clear T1 b1 HBu c0 c1 c2 c4 c5 hR hFu hmf hYf hgg hff;have k5:=(HCw.out w1 (Fr.refl _ _)).2.2.2.2.1;go_wp2_with fail;clear k5
 go_loopw [7,28] (fun v i wr=>∃ j:Nat,j≤n∧i=.int .i64 j∧v=.int .i64 (zfy ff gg j)∧zd0 wr s base {S with tabs:=zbA n ff gg j} (some aA) c B d (some ad) ct tb∧Fr (tM tb) w1 wr) (fun _ i _=>n-(intOf i).toNat)
 case atStart=>exact⟨0,Nat.zero_le _,rfl,rfl,HI1.out,Fr.refl _ _⟩
 case round=>
  obtain⟨j,hj,rfl,rfl,hij,hfj⟩:=hrel;have Hij:=q0_ hij;have Hfw:=q0_ hfj;clear hij hfj
  obtain⟨dv,hdv⟩:∃ v,zfy ff gg j=v:=⟨_,rfl⟩
  rw[hdv]
  by_cases hlj:j<n
  ·obtain⟨g,b,y,m,h1,h2,h3,hTb⟩:=Hij.out.tabAt (k:=j) (by show _<S.tiers.length;rw[HSn.out];exact hlj)
   have hy:lt[j]? =some y:=by rw[← Ht.out];exact h2
   have hmg:m=gg j:=by
    have h4:(zbA n ff gg j)[j]? =some m:=h3;rw[zgb hlj] at h4;exact (Option.some.inj h4).symm
   subst hmg;obtain⟨ad',ea,hcr⟩:=(zat Hij.out.row).2.2.1.2 (show 0<S.tiers.length by rw[HSn.out];omega);obtain rfl:ad=ad':=Option.some.inj ea;have p0:=hcr j _ (zcq h1)
   try simp only at p0
   have kj:0≤(j:Int)∧(j:Int)<(n:Int):=by omega
   have gj:decide ((j:Int)<(n:Int))=true:=qa_ (by omega)
   have hjw:IntKind.i64.wrap ((j:Int)+1)=(j:Int)+1:=by simp[IntKind.wrap,IntKind.signed,IntKind.bits];omega
   have HTb:=q0_ hTb
   obtain⟨fv,hfv⟩:∃ v,zar Y.now lt bs j=v:=⟨_,rfl⟩
   have HFr1:Hid (∀ W_,Fr (fun _=>False) wr W_→Calls prog 84 #[.agg #[.int .i64 Y.now,.string nm2,.slice tA n tc,.slice tB mf td],.int .i64 (j:Nat)] W_ fun r w'=>r=.returned (.int .i64 fv)∧Below W_.heap.size W_ w'):=fun W_ f=>by
    rw[← hfv];exact HFr.out W_ j (Hfw.out.trans f q4_) hlj
   have hfj:ff j=zaK (zag fv) (gg j):=by rw[Hff.out j,hfv]
   have hgl:=Hgl.out j;have hfl:=Hfl.out j
   obtain⟨lv,hlv⟩:∃ v,((gg j).length:Int)-((ff j).length:Nat)=v:=⟨_,rfl⟩
   have HDp:Hid (∀ W_,Fr (fun _=>False) wr W_→Calls prog 83 #[.pointer (some ⟨g,0,none⟩),.int .i64 fv] W_ fun r w'=>r=.returned (.int .i64 lv)∧zaw w' g y.every b (ff j)∧Fr (fun i=>i=b) W_ w'):=fun W_ f=>by
    have:=zgj g y.every b (gg j) fv W_ (HTb.out.fr0 f) (by omega);rw[← hfj,hlv] at this;exact this
   have hds:zfy ff gg (j+1)=dv+lv:=by show zfy ff gg j+_=_;rw[hdv,hlv]
   have hdb:=HDb.out j;rw[hdv] at hdb;have hw:=zf7 (x:=dv+lv) (by omega);have Hds:=q0_ hds;have Hup:Hid (∀ W_,Fr (fun i=>i=b) wr W_→Fr (tM tb) w1 W_):=fun W_ f=>Hfw.out.trans f (fun i hi=>.inl ⟨_,List.mem_of_getElem? h1,hi⟩);have Hnx:Hid ((zbA n ff gg j).set j (ff j)=zbA n ff gg (j+1)):=zga hlj;have H1:=q0_ h1;have H2:=q0_ h2;obtain⟨q0,q1,q2,q3,q4,q5,q6,q7,q8⟩:=HCw.out wr Hfw.out;clear hcr h1 h2 h3 hTb hfv hlv hds hfj ea hdb hgl hfl hdv;go_wp2_with fail;refine (HFr1.out _ (Fr.refl _ _)).mono ?_;rintro r w5 ⟨rfl,b5⟩;have F5:Hid (Fr (fun _=>False) wr w5):=Fr.b0 b5;clear b5;go_wp2_with fail;refine (HDp.out _ F5.out).mono ?_;rintro r w6 ⟨rfl,t6,f6⟩;have T6:=q0_ t6;have F6:Hid (Fr (fun i=>i=b) wr w6):=(F5.out.mono q4_).trans f6 (fun i hi=>.inl hi);clear t6 f6 q0 q1 q2 q3 q4 q5 q6 q7 q8 p0;go_wp2
   go_roundw
   case rel=>
    refine⟨j+1,by omega,by go_num,by rw[Hds.out],?_,Hup.out _ F6.out⟩;rw[← Hnx.out];exact Hij.out.set H1.out H2.out T6.out F6.out
   case measure=>simp[intOf];omega
  ·obtain rfl:j=n:=by omega
   have g0:decide ((j:Int)<(j:Int))=false:=q9_ (by omega);have FE:Hid (Fr (tF s tb) W wr):=(F1.out.mono q4_).trans Hfw.out (fun i hi=>.inl (.inr hi))
   have hdn:dv=zpH Y S:=by rw[← hdv];exact HC0.out
   clear hdv;rw[HTX.out] at Hij;have Hdn:=q0_ hdn;clear hdn;go_wp2;go_ret;exact⟨by rw[← Hdn.out];rfl,⟨_,_,_,_,_,_,_,Hij.out,rfl⟩,FE.out⟩
section
variable {nm nm2:ByteArray} {l lt:List za_} {fl:List Int} {o:Int} {X:zaa} {S:ShX} {c:Nat}
theorem zqd{Y Z:zaa}{done:Int}(h1:Y.now=Z.now)(h2:Y.tiers=Z.tiers)(h3:Y.floors=Z.floors):zem Y done=zem Z done:=by
 funext tabs s
 unfold zem zhc;rw[h1,h2,h3]
theorem znM{now:Int}{l:List za_}{fl:List Int}{z:zas}(h:zbP now l fl z=0):0≤z.time:=by
 unfold zbP at h
 split at h
 ·rename_i h2;exact h2.2
 ·cases h
theorem zp6{z:zas}(h:zbP X.now X.tiers X.floors z=0):zfR X [z]=0:=by
 show zef X [z]=0
 exact zgW (fun s hs=>by rw[List.mem_singleton] at hs;rw[hs];exact h)
theorem ziX(p:zak nm l=true)(hfl:∀ f∈fl,0≤f∧f≤2199023255552)(p2:zak nm2 lt=true)(done:Int):∀ (s:List zas) (X:zaa) (c:Nat),zbf nm l fl X c→(∀ a∈s,zbP X.now X.tiers X.floors a=0)→
  zbM (zap {X with tabs:=zcp X X.tabs s} nm2 lt (srcs o l fl lt)) done (shT lt done (zap X nm2 lt (srcs o l fl lt)).tabs) s=shT lt done (zap {X with tabs:=zcp X X.tabs s} nm2 lt (srcs o l fl lt)).tabs
 | [],X,c,_,_=>rfl
 | a::s,X,c,hg,h=>by
  have ha:=h a (by simp);have hE:=zp6 ha
  have hX:za4 X [a]={X with tabs:=ze1 X X.tabs a}:=by unfold za4;rw[if_pos hE];rfl
  have hg2:=hg.put [a];have ih:=ziX p hfl p2 done s (za4 X [a]) (c+8) hg2 (fun b hb=>by rw[hX];exact h b (List.mem_cons_of_mem _ hb));have e2:=zpU (o:=o) (done:=done) p hg hfl p2 hE (znM ha)
  have e3:({za4 X [a] with tabs:=zcp (za4 X [a]) (za4 X [a]).tabs s}:zaa)={X with tabs:=zcp X X.tabs (a::s)}:=by rw[hX];rfl
  rw[e3] at ih;have e4:zem (zap {X with tabs:=zcp X X.tabs (a::s)} nm2 lt (srcs o l fl lt)) done=zem (zap (za4 X [a]) nm2 lt (srcs o l fl lt)) done:=zqd (by rw[hX];first | done | rfl) rfl (by rw[hX];first | done | rfl);rw[← ih, ← e2]
  show zbM _ done (zem _ done _ a) s=_
  rw[e4]
theorem zrd(p:zak nm l=true)(hg:zbf nm l fl X c)(hfl:∀ f∈fl,0≤f∧f≤2199023255552)(p2:zak nm2 lt=true){s:List zas}(hE:zfR X s=0)(done:Int):
  zbM (zap (za4 X s) nm2 lt (srcs o l fl lt)) done (shT lt done (zap X nm2 lt (srcs o l fl lt)).tabs) s=shT lt done (zap (za4 X s) nm2 lt (srcs o l fl lt)).tabs:=by
 have hX:za4 X s={X with tabs:=zcp X X.tabs s}:=by unfold za4;rw[if_pos hE]
 rw[hX];refine ziX p hfl p2 done s X c hg (fun a ha=>?_)
 have h:zef X s=0:=by
  unfold zfR at hE
  split at hE
  ·cases hE
  ·split at hE
   ·cases hE
   ·exact hE
 unfold zef at h
 split at h
 ·rename_i z hz
  have:=List.find?_some hz;simp only[decide_eq_true_eq] at this;exact absurd h this
 ·rename_i hz
  have:=List.find?_eq_none.1 hz a ha;simpa using this
theorem zi3{e F F' G:Int}(he:1≤e)(hF:F≤F')(hG:G≤F'):∀ {L acc:List zae},za6 acc→(∀ r∈L,0≤r.start)→
  zaK (zag F') (zbH e F acc L)=zbH e F' (zaK (zag F') acc) (zaK (zag G) L)
 | [],_,_,_=>rfl
 | r::L,acc,hg,hr=>by
  have h0:=hr r (by simp);obtain⟨_,f2,_⟩:=zeT h0 he
  show zaK (zag F') (zbH e F (zbJ e F acc r) L)=_
  rw[zi3 he hF hG (zc3 hg r) (fun y hy=>hr y (List.mem_cons_of_mem _ hy))]
  have hcons:zaK (zag G) (r::L)=if r.start<G then zaK (zag G) L else r::zaK (zag G) L:=by
   unfold zaK
   by_cases h:r.start<G
   ·rw[if_pos h,List.filter_cons_of_neg (by unfold zag;simp[h])]
   ·rw[if_neg h,List.filter_cons_of_pos (by unfold zag;simp[h])]
  have hlow:zaq r.start e<F'→zaK (zag F') (zbJ e F acc r)=zaK (zag F') acc:=fun h=>by
   unfold zbJ
   split
   ·exact zgO (zec F') hg.1 (by unfold zag;simpa using h)
   ·rfl
  rw[hcons]
  by_cases h1:r.start<G
  ·rw[if_pos h1,hlow (by omega)]
  ·rw[if_neg h1]
   show _=zbH e F' (zbJ e F' (zaK (zag F') acc) r) (zaK (zag G) L)
   congr 1
   by_cases h2:F'≤zaq r.start e
   ·unfold zbJ
    rw[if_pos h2,if_pos (by omega)];exact zgP (zec F') hg.1 (by unfold zag;simp;omega)
   ·rw[hlow (by omega)]
    unfold zbJ;rw[if_neg h2]
theorem zo5{a b e:Int}(h0:0≤a)(hab:a≤b)(h1:b≤4398046511104)(he:1≤e)(he2:e≤1000000):zcK a e≤zcK b e:=by
 obtain⟨a1,a2,a3,a4,_⟩:=zf5 (t:=a) (e:=e) h0 (by omega) he he2;obtain⟨b1,b2,b3,b4,_⟩:=zf5 (t:=b) (e:=e) (by omega) h1 he he2;rw[Int.tmod_eq_emod_of_nonneg a4] at a1;rw[Int.tmod_eq_emod_of_nonneg b4] at b1;obtain⟨x,hx⟩:=Int.dvd_of_emod_eq_zero a1;obtain⟨y,hy⟩:=Int.dvd_of_emod_eq_zero b1;rw[hx] at a3;rw[hy] at b2;rw[hx,hy]
 rcases Int.lt_or_le y x with h | h
 ·have h4:e*(y+1)≤e*x:=Int.mul_le_mul_of_nonneg_left (by omega) (by omega)
  rw[Int.mul_add] at h4;omega
 ·exact Int.mul_le_mul_of_nonneg_left h (by omega)
theorem zmX{a b:Int}{l:List za_}{fl fl':List Int}{k:Nat}{f f':Int}(hl:∀ t∈l,t.keep≤1000000∧t.every≤1000000)(ha:0≤a)(hab:a≤b)(hf:fl[k]? =some f)(hf':fl'[k]? =some f')(hff:f≤f'):zar a l fl k≤zar b l fl' k:=by
 unfold zar;rw[hf,hf']
 split
 ·rename_i x y hx hy
  have hb:=zjR (keep:=x.keep) (e:=y.every) ha (hl x (zab hx)).1 (hl y (zab hy)).2 hab;simp only;omega
 ·exact Int.le_refl _
theorem zhW(p:zak nm l=true)(hg:zbf nm l fl X c)(hfl:∀ f∈fl,0≤f∧f≤2199023255552)(p2:zak nm2 lt=true){n:Int}(hE:zdj X n=0){j:Nat}(hj:j<lt.length):
  (zap (zaz X n) nm2 lt (srcs o l fl lt)).tabs.getD j []=zaK (zag (zar (zaz X n).now lt (zaR (zaz X n).now l fl (srcs o l fl lt) lt) j)) ((zap X nm2 lt (srcs o l fl lt)).tabs.getD j []):=by
 have hg2:=hg.tick n;have hX:=zpM hE
 have hn0:0≤n:=by unfold zdj at hE;split at hE<;>omega
 have hy:lt[j]? =some lt[j]:=q6_ hj;obtain⟨i,x,hx,hs,hd,hf,hb⟩:=zdW (o:=o) (X:=X) p hg.now hfl p2 hy;obtain⟨i2,x2,hx2,hs2,hd2,hf2,hb2⟩:=zdW (o:=o) (X:=zaz X n) p hg2.now hfl p2 hy;rw[hs] at hs2
 have hi2:i2=i:=by injection hs2 with h;omega
 subst hi2;have hi:=(List.getElem?_eq_some_iff.1 hx).1
 have hxX:X.tiers[i2]? =some x:=by rw[hg.tiers];exact hx
 have hxX2:(zaz X n).tiers[i2]? =some x:=by rw[hg2.tiers];exact hx
 have hy1:=zaN p2 (zab hy)
 have hnow:(zaz X n).now=X.now+n:=by rw[hX]
 have hle:∀ {l:List za_} {nm:ByteArray},zak nm l=true→∀ t∈l,t.keep≤1000000∧t.every≤1000000:=fun h t ht=>by have:=zaN h ht;omega
 have hm1:=zoO (a:=X.now) (b:=(zaz X n).now) (l:=l) (fl:=fl) (hle p) hg.now.1 (by omega) i2;have hbd:=ziy p hg.now.1 hg.now.2 hfl i2;have hbd2:=ziy p hg2.now.1 hg2.now.2 hfl i2;have hm2:=zmX (hle p2) hg.now.1 (show X.now≤(zaz X n).now by omega) hb hb2 (zo5 hbd.1 hm1 (by omega) hy1.1 hy1.2.1);rw[zdc hj,zdc hj];unfold zcQ;rw[hs,hy];simp only[Int.toNat_natCast];rw[hxX,hxX2];simp only;rw[hg.tiers,hg.floors,hg2.tiers,hg2.floors];unfold zcH;simp only[if_pos hd,zfV]
 have ht:(zaz X n).tabs.getD i2 []=zaK (zag (zar (X.now+n) l fl i2)) (X.tabs.getD i2 []):=by
  rw[hX]
  show (zda (X.now+n) X).getD i2 []=_
  rw[zhR _ _ _ (by rw[hg.tiers];exact hi),hg.tiers,hg.floors]
 rw[ht];rw[hnow] at hm2 hf2 ⊢;exact (zi3 hy1.1 hm2 hf2 zbF (fun r hr=>(hg.grid i2 x hx r hr).2.1)).symm
theorem zpT(p:zak nm l=true)(hg:zbf nm l fl X c)(hfl:∀ f∈fl,0≤f∧f≤2199023255552)(p2:zak nm2 lt=true){n:Int}(hE:zdj X n=0)(done:Int):
  (List.range lt.length).map (fun j=>zaK (zag (zar (zaz X n).now lt (zaR (zaz X n).now l fl (srcs o l fl lt) lt) j)) ((shT lt done (zap X nm2 lt (srcs o l fl lt)).tabs).getD j []))=shT lt done (zap (zaz X n) nm2 lt (srcs o l fl lt)).tabs:=by
 conv=>rhs;unfold shT
 refine List.map_congr_left (fun j hj=>?_);have hj:=List.mem_range.1 hj;rw[zlh hj];unfold shL;rw[zhW p hg hfl p2 hE hj];unfold zaK;rw[List.filter_filter,List.filter_filter];refine List.filter_congr fun r _=>?_;rw[Bool.and_comm]
theorem zfd:∀ {a b:List Nat},a.length=b.length→(∀ (i:Nat) x y,a[i]? =some x→b[i]? =some y→x≤y)→a.sum≤b.sum
 | [],[],_,_=>Nat.le_refl _
 | x::a,y::b,hl,h=>by
  have h1:=h 0 x y rfl rfl;have h2:=zfd (a:=a) (b:=b) (by simpa using hl) (fun i x y hx hy=>h (i+1) x y hx hy);simp only[List.sum_cons];omega
 | [],_::_,hl,_=>by simp at hl
 | _::_,[],hl,_=>by simp at hl
theorem zhF(M:Int)(so:zae→Bool)(m:List zae):zeJ M (zaK so m)≤zeJ M m:=by
 unfold zeJ;refine zfd (by simp) (fun i x y hx hy=>?_);rw[List.getElem?_map] at hx hy
 cases hr:(List.range M.toNat)[i]? with
 | none=>rw[hr] at hx;cases hx
 | some k=>
  rw[hr] at hx hy;simp only[Option.map_some,Option.some.injEq] at hx hy;subst hx;subst hy
  have h:zg6 M (zaK so m) k≤zg6 M m k:=by
   unfold zg6 zaK;rw[List.filter_filter, ← List.countP_eq_length_filter, ← List.countP_eq_length_filter];exact List.countP_mono_left (fun r _ h=>by simp only[Bool.and_eq_true] at h;exact h.1)
  omega
theorem znm.put(h:znm nm2 l lt fl o X S)(p:zak nm l=true)(hg:zbf nm l fl X c)(hfl:∀ f∈fl,0≤f∧f≤2199023255552)(p2:zak nm2 lt=true){s:List zas}(hE:zfR X s=0):
  znm nm2 l lt fl o (za4 X s) {S with tabs:=zbM (zap (za4 X s) nm2 lt (srcs o l fl lt)) S.done S.tabs s}:=
 ⟨h.name,h.tiers,h.src,by show zbM _ S.done S.tabs s=_;rw[h.tabs];exact zrd p hg hfl p2 hE S.done,h.d0,h.d1⟩
theorem znm.tick(h:znm nm2 l lt fl o X S)(p:zak nm l=true)(hg:zbf nm l fl X c)(hfl:∀ f∈fl,0≤f∧f≤2199023255552)(p2:zak nm2 lt=true){n:Int}(hE:zdj X n=0):
  znm nm2 l lt fl o (zaz X n) (zgf (zap (zaz X n) nm2 lt (srcs o l fl lt)) S):=by
 have hg2:=hg.tick n;refine⟨h.name,h.tiers,h.src,?_,h.d0,h.d1⟩;have:=zpT (o:=o) p hg hfl p2 hE S.done
 show _=shT lt S.done (zap (zaz X n) nm2 lt (srcs o l fl lt)).tabs
 rw[← this, ← h.tabs]
 show (List.range lt.length).map (fun j=>zaK (zag (zar (zaz X n).now lt (zaR (zaz X n).now (zaz X n).tiers (zaz X n).floors (srcs o l fl lt) lt) j)) (S.tabs.getD j []))=_
 rw[hg2.tiers,hg2.floors]
end
section
variable {nm nm2:ByteArray} {l lt:List za_} {fl:List Int} {o:Int} {lo:Nat} {W:World} {t s base:Nat} {X:zaa} {S:ShX} {Ft F:Nat→Prop} {cc c0:Nat}
theorem zn1(p:zb_ nm l)(p2:zb_ nm2 lt)(hnm2:nm2.size≤maxLen)(hg:zbf nm l fl X c0){sl:List zas}(hE:zfR X sl=0)(hz:∀ z∈sl,z.wf)(h:Tio nm l fl lo W t (za4 X sl) Ft cc)(hc:cc≤1000000)(hc0:c0≤1000000)(hfl:∀ f∈fl,0≤f∧f≤2199023255552)(hs:ze5 W s base S F)(hk:znm nm2 l lt fl o X S)(A1:Option Addr)(n1 c1:Nat)(hr:Rd W 3 A1 n1 (zdz sl))(hn1:n1≤1000)(hA:∀ j,adF A1 n1 j→¬ F j):
  Calls prog 45 #[.pointer (some ⟨s,0,none⟩),.pointer (some ⟨t,0,none⟩),.slice A1 n1 c1] W fun r w'=>r=.returned (.tuple #[])∧ze5 w' s base {S with tabs:=zbM (zap (za4 X sl) nm2 lt (srcs o l fl lt)) S.done S.tabs sl} F∧znm nm2 l lt fl o (za4 X sl) {S with tabs:=zbM (zap (za4 X sl) nm2 lt (srcs o l fl lt)) S.done S.tabs sl}∧Fr F W w':=by
 have hst:=zie p2;refine (zn3 p p2 hnm2 h hc hfl hs hk.name hk.tiers hk.src ⟨hk.d0,by have:=hk.d1;omega⟩ (fun m hm=>Nat.le_trans (hk.lens p p2 hg hfl m hm) hc0) sl A1 n1 c1 hr hz hn1 hA).mono ?_;rintro r w' ⟨rfl,h3,h4⟩;exact⟨rfl,h3,hk.put p.ck hg hfl p2.ck hE,h4⟩
end
end Go.Proofs.YtjhhodndlkpmhaaGreatDoor
