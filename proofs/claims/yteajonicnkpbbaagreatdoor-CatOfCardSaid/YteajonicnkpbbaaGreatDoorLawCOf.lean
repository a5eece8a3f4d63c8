/- Walk of sedimentlaw23.CatApart. -/
import Derived.Test.YteajonicnkpbbaaGreatDoorCatO
import Derived.Test.YteajonicnkpbbaaGreatDoorCatSame
namespace Go.Proofs.YteajonicnkpbbaaGreatDoor
set_option linter.all false
set_option maxHeartbeats 16000000
set_option maxRecDepth 100000
open Go.RowKit Tryz
theorem s4:(∀ (a:Act) (d:Option Tmp) (v:Value),a.put d v=match d with | some t=>{tmps:=a.tmps.setIfInBounds t v,defers:=a.defers} | none=>a)∧(∀ {α:Type} (l:List α) (i:Nat) (a:α),l.toArray.setIfInBounds i a=(l.set i a).toArray)∧(∀ {α:Type} (a b:α) (l:List α),(a::l).set 0 b=b::l)∧(∀ {α:Type} (a b:α) (l:List α) (n:Nat),(a::l).set (n+1) b=a::l.set n b):=⟨fun _ _ _=>rfl,sA,sB,sC⟩
section
variable {w:World} {c d:zcv} {a b:zks}
end
open Go.ChangeShapes Go.WideShapes Go.ChangeAt Go.RowKit
theorem zll{w:World}{cs:List Value}(h:Dat prog w 66 cs):∃ A n c,∃ l:List zaz,cs=[.slice A n c]∧Rd w 3 A n (zdE l)∧l.length=n∧n≤c∧c≤maxLen∧∀ t∈l,t.wf:=
 h.rows_ zaz.cells zaz.wf underlying66 (by kernel_rfl) (fun _ h=>zqe h)
theorem zqf{w:World}{cs:List Value}(h:Dat prog w 68 cs):∃ o:OpS,cs=o.cells∧o.ok w:=by
 have hl:=h.len_ underlying68 (show prog.cellsOf 68=4 by kernel_rfl)
 match cs,hl with
 | [c0,c1,c2,c3],_=>
  obtain⟨k,h0,w0⟩:=(h.field_ underlying68 0 0 1 rfl rfl (by kernel_rfl)).i64_ underlying3;obtain⟨a,h1,w1⟩:=(h.field_ underlying68 1 1 1 rfl rfl (by kernel_rfl)).i64_ underlying3;obtain⟨A,n,c,l,h2,r1,r2,r3,r4,r5⟩:=zll (h.field_ underlying68 2 2 1 rfl rfl (by kernel_rfl));obtain⟨s,h3,w3⟩:=(h.field_ underlying68 3 3 1 rfl rfl (by kernel_rfl)).str_ underlying9;simp at h0 h1 h2 h3;subst h0 h1 h2 h3;exact⟨⟨k,a,A,n,c,l,s⟩,rfl,w0,w1,r1,r2,r3,r4,r5,w3⟩
theorem in_ops15{H:Type}{enc:TypeId×Value→H}{w:World}{A:Option Addr}{n c:Nat}{d:DataW H}{ps:List MemPlace}(h:DataW.Trod enc prog w 0 (fun _=>true) true 61 (.slice A n c) d ps):
  ∃ l:List OpS,Rd w 4 A n (ze4 l)∧l.length=n∧n≤c∧c≤maxLen∧∀ o∈l,o.ok w:=by
 have h:=Dat.of h;simp only[Value.cells] at h;obtain⟨A',n',c',l,e,r1,r2,r3,r4,r5⟩:=Dat.rows_ (t:=61) OpS.cells (OpS.ok w) underlying61 (show prog.cellsOf 68=4 by kernel_rfl) (fun _ h=>zqf h) h;simp at e;obtain⟨rfl,rfl,rfl⟩:=e;exact⟨l,r1,r2,r3,r4,r5⟩
theorem zkG  (W:World):Calls prog 29 #[.pointer none] W fun r w'=>r=.returned (.pointer none)∧W=w':=by
 go_enter func29,ntmps29;go_wp2;go_ret;exact⟨by first | rfl | simp[*],rfl⟩
theorem zlO{Q:StX}{c:Nat}(hg:zax Q c)(hc:c≤1000000):zq7 (ofQ Q)=true∧(zqr (ofQ Q)).length≤40000:=by
 have hn:=hg.good.now;have h5:=hg.pol.five;have hpr:(zbi Q.X.name Q.X.tiers).size≤1150:=zdz hg.pol.ck hg.pol.wf
 have hfl:∀ f∈za0 Q.X.now Q.X.tiers Q.X.floors,inB f 4611686018427387904=true:=fun f hf=>by
  unfold za0 at hf;obtain⟨k,_,rfl⟩:=List.mem_map.1 hf;have:=zfC hg.pol.ck hn.1 hn.2 (hg.hfl hc) k;unfold inB;simp only[Bool.and_eq_true,decide_eq_true_eq];omega
 have hlen:(za0 Q.X.now Q.X.tiers Q.X.floors).length=Q.X.tiers.length:=by unfold za0;simp
 have hnow:inB Q.X.now 1099511627776=true:=by unfold inB;simp only[Bool.and_eq_true,decide_eq_true_eq];exact hn
 have hpl:((!decide ((1:Int)=0)&&(inB Q.X.now 1099511627776&&(zai Q.X.name Q.X.tiers&&decide ((za0 Q.X.now Q.X.tiers Q.X.floors).length=Q.X.tiers.length))))&&(za0 Q.X.now Q.X.tiers Q.X.floors).all (fun f=>inB f 4611686018427387904))=true:=by
  rw[hnow,hg.pol.ck,qa_ hlen,List.all_eq_true.2 hfl]
  rfl
 cases hch:Q.ch with
 | none=>
  have e:ofQ Q=⟨1,1,Q.X.now,Q.X.name,Q.X.tiers,za0 Q.X.now Q.X.tiers Q.X.floors,ByteArray.empty,[],[],0,0,[]⟩:=by unfold ofQ;rw[hch]
  rw[e];refine⟨?_,?_⟩
  ·unfold zq7
   dsimp only;have hpq:zjG ⟨1,1,Q.X.now,Q.X.name,Q.X.tiers,za0 Q.X.now Q.X.tiers Q.X.floors,ByteArray.empty,[],[],0,0,[]⟩=false:=rfl;rw[hpl,hpq]
   rfl
  ·unfold zqr
   simp only[q8_,zcf,zfA,zeT,List.length_cons,List.length_nil,List.flatMap_nil];have hpq:zjG ⟨1,1,Q.X.now,Q.X.name,Q.X.tiers,za0 Q.X.now Q.X.tiers Q.X.floors,ByteArray.empty,[],[],0,0,[]⟩=false:=rfl;rw[hpq];have:(if false=true then zbi ByteArray.empty [] else ByteArray.empty).size=0:=rfl;omega
 | some S=>
  have e:ofQ Q=⟨1,1,Q.X.now,Q.X.name,Q.X.tiers,za0 Q.X.now Q.X.tiers Q.X.floors,S.name,S.tiers,S.srcs,S.bound,S.done,[]⟩:=by unfold ofQ;rw[hch]
  have hS:=hg.ch S hch;obtain⟨oo,ok⟩:=hS.ok;have h52:=hS.pol.five;have h12:=hS.pol.pos;have hst:=zcw hS.pol;have hneed:=hg.need;rw[hch] at hneed;have hbo:zcY (some S)=S.bound:=rfl;rw[hbo] at hneed;have hroom:=hg.room;have hb0:=hS.b0;have hd0:=ok.d0;have hd1:=hS.done
  have hsl:S.srcs.length=S.tiers.length:=by rw[ok.src];unfold srcs;rw[List.length_map]
  have hsrc:∀ x∈S.srcs,inB x ((Q.X.tiers.length:Int)-1)=true:=fun x hx=>by
   rw[ok.src] at hx;unfold srcs at hx;obtain⟨t,_,rfl⟩:=List.mem_map.1 hx;obtain⟨k,t',hk,he,_⟩:=znM (now:=oo) (fl:=Q.X.floors) t.every hg.pol.ck;rw[he];unfold inB;simp only[Bool.and_eq_true,decide_eq_true_eq];omega
  have hpr2:(zbi S.name S.tiers).size≤1150:=zdz hS.pol.ck hS.pol.wf
  have hpq:zjG ⟨1,1,Q.X.now,Q.X.name,Q.X.tiers,za0 Q.X.now Q.X.tiers Q.X.floors,S.name,S.tiers,S.srcs,S.bound,S.done,[]⟩=true:=by
   unfold zjG;dsimp only;rw[qa_ h12,Bool.or_true]
  have hbd:inB S.bound 4096=true:=by unfold inB;simp only[Bool.and_eq_true,decide_eq_true_eq];omega
  have hdn:inB S.done 100=true:=by unfold inB;simp only[Bool.and_eq_true,decide_eq_true_eq];omega
  rw[e];refine⟨?_,?_⟩
  ·unfold zq7
   rw[hpq];dsimp only;rw[hpl,if_pos rfl,List.all_eq_true.2 hsrc,hS.pol.ck,qa_ hsl,hbd,hdn]
   rfl
  ·unfold zqr
   rw[hpq];simp only[q8_,zcf,zfA,zeT,List.length_cons,List.length_nil,List.flatMap_nil,if_true];omega
theorem ziX{w:World}{b:Nat}{t:TypeId}{v0 v1 v2 v3 v4 v5 v6 v7 v8 v9 v10 v11:Value}(h:Blk w b t #[v0,v1,v2,v3,v4,v5,v6,v7,v8,v9,v10,v11]):w.cell? ⟨b,0,none⟩=some v0∧w.cell? ⟨b,1,none⟩=some v1∧w.cell? ⟨b,2,none⟩=some v2∧w.cell? ⟨b,3,none⟩=some v3∧w.cell? ⟨b,4,none⟩=some v4∧w.cell? ⟨b,5,none⟩=some v5∧w.cell? ⟨b,6,none⟩=some v6∧w.cell? ⟨b,7,none⟩=some v7∧w.cell? ⟨b,8,none⟩=some v8∧w.cell? ⟨b,9,none⟩=some v9∧w.cell? ⟨b,10,none⟩=some v10∧w.cell? ⟨b,11,none⟩=some v11:=⟨h.cell 0,h.cell 1,h.cell 2,h.cell 3,h.cell 4,h.cell 5,h.cell 6,h.cell 7,h.cell 8,h.cell 9,h.cell 10,h.cell 11⟩
structure zrV(c:zcv):Prop where
 p:c.pl.length≤5
 f:c.fl.length≤5
 t:c.pl2.length≤5
 s:c.src.length≤5
 e:c.es=[]
theorem zl_{w:World}{c:zcv}{a:zks}(h:zc5 w c a)(s:zrV c):zrF c a:=by
 have h1:=h.lp;have h2:=h.lt;have h3:=h.lf;have h4:=h.ls;have k1:=s.p;have k2:=s.f;have k3:=s.t;have k4:=s.s;exact⟨by omega,by omega,by omega,by omega,fun x hx=>by rw[s.e] at hx;cases hx⟩
theorem zlU{w:World}{c d:zcv}{a b:zks}(h:zc5 w c a)(k:zc5 w d b)(e:c.p=d.p)(s:zrV c):zrF d b:=
 zl_ k ⟨by rw[← show c.pl=d.pl from congrArg zd6.pl e];exact s.p,by rw[← show c.fl=d.fl from congrArg zd6.fl e];exact s.f,by rw[← show c.pl2=d.pl2 from congrArg zd6.pl2 e];exact s.t,by rw[← show c.src=d.src from congrArg zd6.src e];exact s.s,by
  have h1:c.es.map zbK.p=d.es.map zbK.p:=congrArg zd6.es e;rw[s.e] at h1
  exact List.map_eq_nil_iff.1 h1.symm⟩
theorem zoL(W:World):Calls prog 28 #[.pointer none] W fun r w'=>r=.returned (.tuple #[.agg #[.int .u64 0,.int .u64 0,.int .i64 0,.string {data:=#[]},.slice none 0 0,.slice none 0 0,.string {data:=#[]},.slice none 0 0,.slice none 0 0,.int .i64 0,.int .i64 0,.slice none 0 0],.int .i64 1])∧Below W.heap.size W w':=by
 go_enter func28,ntmps28
 go_upto_region 1 with fail
 obtain⟨W0,hW0⟩:∃ W0,W0=W.alloc (.cells #[.int .u64 0,.int .u64 0,.int .i64 0,.string {data:=#[]},.slice none 0 0,.slice none 0 0,.string {data:=#[]},.slice none 0 0,.slice none 0 0,.int .i64 0,.int .i64 0,.slice none 0 0] 29):=⟨_,rfl⟩
 rw[← hW0]
 have B0:Blk W0 W.heap.size 29 #[.int .u64 0,.int .u64 0,.int .i64 0,.string {data:=#[]},.slice none 0 0,.slice none 0 0,.string {data:=#[]},.slice none 0 0,.slice none 0 0,.int .i64 0,.int .i64 0,.slice none 0 0]:=by rw[hW0];exact Blk.new _ _ _
 have F0:Hid (Fr (fun _=>False) W W0):=by show Fr _ _ _;rw[hW0];exact Fr.none_alloc _ _
 clear hW0;obtain⟨W9,_,hsa,_,B9,F9⟩:=zcL (P:=prog) B0 #[.int .u64 0,.int .u64 0,.int .i64 0,.string {data:=#[]},.slice none 0 0,.slice none 0 0,.string {data:=#[]},.slice none 0 0,.slice none 0 0,.int .i64 0,.int .i64 0,.slice none 0 0] 12 rfl rfl (by simp[Value.oneCell']) zbu;have HLR:=q0_ (zc9 (P:=prog) B9 12 rfl underlying29 zbu);have HSA:=q0_ hsa;have HF9:=q0_ F9;clear F9 B9 hsa B0;go_wp2_with fail;refine (zkG W0).mono ?_;rintro r w1 ⟨rfl,rfl⟩
 go_wp2_with (first | (with_reducible refine za6 rfl _ _ 29 rfl W.heap.size #[.int .u64 0,.int .u64 0,.int .i64 0,.string {data:=#[]},.slice none 0 0,.slice none 0 0,.string {data:=#[]},.slice none 0 0,.slice none 0 0,.int .i64 0,.int .i64 0,.slice none 0 0] W9 (by kernel_rfl) (by kernel_rfl) HSA.out ?_) | (with_reducible refine zbs rfl 29 rfl _ (zdC _) ?_) | ((try simp only[Exit.inBlock,Exit.then]);with_reducible refine zbJ (p:=2) (t:=29) (u:=3) (by kernel_rfl) W.heap.size #[.int .u64 0,.int .u64 0,.int .i64 0,.string {data:=#[]},.slice none 0 0,.slice none 0 0,.string {data:=#[]},.slice none 0 0,.slice none 0 0,.int .i64 0,.int .i64 0,.slice none 0 0] (.int .i64 1) (by kernel_rfl) (by kernel_rfl) HLR.out.2.2 (by kernel_rfl) ?_;exact⟨rfl,(F0.out.trans HF9.out (fun k hk=>.inr (by omega))).below q4_⟩))
theorem catof_walk(room:Int)(text:ByteArray)(l:List OpS)(A:Option Addr)(n c:Nat)(w:World)(hr:Rd w 4 A n (ze4 l))(hok:∀ o∈l,o.ok w)(hn:n≤9223372036854775807)(hmx:MaxL w)(htab:Tab w):
  Calls prog 6 #[.int .i64 room,.string text,.slice A n c] w fun e w'=>e=.returned (.bool true)∧Below w.heap.size w w':=by
 have HAl:Hid (∀ W,Fr (fun _=>False) w W→Calls prog 8 #[] W fun r w'=>r=.returned (.bool true)∧Below W.heap.size W w'):=fun W f=>zlv W (hmx.fr f (fun h=>h)) (htab.below (f.below q4_));have HLi:=q0_ (zk8 l A n c w hr hok hn);have Hr:=q0_ hr;have Hln:=q0_ hr.opsS_len;have Hok:=q0_ hok;have HMX:=q0_ hmx;have HTB:=q0_ htab;have F0:=q0_ (Fr.refl (fun _=>False) w);clear hr hok hmx htab;go_enter func6,ntmps6;go_wp2_with fail;refine HLi.out.mono ?_;rintro r w1 ⟨⟨b,rfl,hb⟩,rfl⟩;have Hlb:=q0_ hb;clear hb HLi
 cases b with
 | false=>
  go_wp2_with fail;refine (HAl.out _ (F0.out)).mono ?_;rintro r wz ⟨rfl,bz⟩;go_wp2;go_ret;exact⟨rfl,bz⟩
 | true=>
 have hl60:n≤60:=(Hlb.out rfl).1
 by_cases h41:(4100:Int)<(text.size:Int)
 ·have HH:=q0_ h41
  go_wp2_with fail;refine (HAl.out _ (F0.out)).mono ?_;rintro r wz ⟨rfl,bz⟩;go_wp2;go_ret;exact⟨rfl,bz⟩
 have h41b:(text.size:Int)≤4100:=by omega
 clear h41;have HNw:=q0_ (zqq room text (by omega) w HMX.out w.heap.size (Nat.le_refl _))
 obtain⟨E,hE⟩:∃ x,zdi room (zaL text)=x:=⟨_,rfl⟩
 rw[hE] at HNw;have HE:=q0_ hE;clear hE;go_wp2_with fail;refine HNw.out.mono ?_;rintro r w1 ⟨⟨h1,h2⟩,b1⟩
 by_cases e0:E=0
 rotate_left
 ·obtain rfl:=h2 e0
  have g0:(E != 0)=true:=by simpa using e0
  have F1:=q0_ (Fr.b0 b1);have B1:=q0_ b1;clear h1 h2 b1 e0;go_wp2_with fail;refine (HAl.out _ (F1.out)).mono ?_;rintro r wz ⟨rfl,bz⟩;go_wp2;go_ret;exact⟨rfl,B1.out.trans (bz.mono B1.out.size)⟩
 obtain⟨g,rfl,hs1⟩:=h1 e0;subst e0;have HG0:Hid (zax (zgo room (zaL text)) 0):=zhw HE.out
 obtain⟨Q0,hQ0⟩:∃ x,zgo room (zaL text)=x:=⟨_,rfl⟩
 rw[hQ0] at HG0 hs1;have H1:=q0_ hs1;have B1:=q0_ b1;clear h1 h2 b1 hs1 hQ0 HNw HE;go_wp2_with fail
 go_loopw [9] (fun i wr=>∃ k:Nat,k≤n∧i=.int .i64 k∧StP wr g w.heap.size (zgm Q0 (l.take k)) (8*k)∧Below w.heap.size w wr) (fun i _=>n-(intOf i).toNat)
 case atStart=>exact⟨0,by omega,rfl,H1.out,B1.out⟩
 case round=>
  obtain⟨k,hk,rfl,hs,hb⟩:=hrel
  by_cases hlt:k<n
  ·obtain⟨ad,o,rfl,ho,a0,a1,a2,a3⟩:=(Hr.out.below hb).opS hlt
   have hom:=zaa ho;have HOk:=q0_ (show o.ok wr∧∀ j,adF o.sa o.sn j→j<w.heap.size from⟨(Hok.out o hom).below hb,(Hok.out o hom).s.adlt (by decide)⟩);have HMx:=q0_ (HMX.out.below hb);have Ht:=q0_ ((Hlb.out (by trivial)).2 o hom)
   have hgk:zax (zgm Q0 (l.take k)) (8*k):=by
    have h:=zhv HG0.out (l.take k) (by rw[List.length_take];omega);rw[List.length_take,Hln.out,Nat.min_eq_left hk] at h;rwa[Nat.zero_add] at h
   have HQN:Hid (∀ Q8,zgn (zgm Q0 (l.take k)) o=Q8→zgm Q0 (l.take (k+1))=Q8):=fun Q8 h=>by rw[zak ho,zmv];exact h
   have HsO:=q0_ hs;have HbO:=q0_ hb
   obtain⟨Qk,hQk⟩:∃ v,zgm Q0 (l.take k)=v:=⟨_,rfl⟩
   rw[hQk] at HsO hgk HQN;have Gk:=q0_ hgk
   have hkI:0≤(k:Int)∧(k:Int)<(n:Int):=by omega
   have hkw:IntKind.i64.wrap ((k:Int)+1)=(k:Int)+1:=by simp[IntKind.wrap,IntKind.signed,IntKind.bits];omega
   clear hs hb ho hom hgk hQk
   by_cases e1:o.kind=1
   ·as_aux_lemma=>
     have hd1:(o.kind==1)=true:=by simpa using e1
     have hop:zgn Qk o=zem Qk o.sl:=by unfold zgn;simp[e1]
     have Hop:=q0_ hop;clear hop e1;have HC:=q0_ (zrh Gk.out (by omega) HsO.out o.sl o.sa o.sn o.sc HOk.out.1.s HOk.out.1.swf HOk.out.2);go_wp2_with fail;refine HC.out.mono ?_;rintro r w8 ⟨hv,h8,b8⟩;subst hv
     obtain⟨Q8,hQ8⟩:∃ v,zgn Qk o=v:=⟨_,rfl⟩
     have HQ8:=q0_ (HQN.out Q8 hQ8)
     have H8:Hid (StP w8 g w.heap.size Q8 (8*(k+1))):=by show StP _ _ _ _ _;rw[← hQ8,Hop.out];first | exact h8 | exact h8.more (by omega)
     have B8:=q0_ (HbO.out.trans b8);clear h8 b8 hQ8 HC HQN Hop;go_wp2
     go_roundw
     case rel=>exact⟨k+1,by omega,by go_num,by rw[HQ8.out];exact H8.out,B8.out⟩
     case measure=>simp[intOf];omega
   by_cases e2:o.kind=2
   ·as_aux_lemma=>
     have hd1:(o.kind==1)=false:=by simpa using e1
     have hd2:(o.kind==2)=true:=by simpa using e2
     have hop:zgn Qk o=zdP Qk o.n:=by unfold zgn;simp[e1,e2]
     have Hop:=q0_ hop;clear hop e1 e2;have HC:=q0_ (zqA Gk.out (by omega) HsO.out o.n HOk.out.1.n);go_wp2_with fail;refine HC.out.mono ?_;rintro r w8 ⟨hv,h8,b8⟩;subst hv
     obtain⟨Q8,hQ8⟩:∃ v,zgn Qk o=v:=⟨_,rfl⟩
     have HQ8:=q0_ (HQN.out Q8 hQ8)
     have H8:Hid (StP w8 g w.heap.size Q8 (8*(k+1))):=by show StP _ _ _ _ _;rw[← hQ8,Hop.out];first | exact h8 | exact h8.more (by omega)
     have B8:=q0_ (HbO.out.trans b8);clear h8 b8 hQ8 HC HQN Hop;go_wp2
     go_roundw
     case rel=>exact⟨k+1,by omega,by go_num,by rw[HQ8.out];exact H8.out,B8.out⟩
     case measure=>simp[intOf];omega
   by_cases e3:o.kind=3
   ·as_aux_lemma=>
     have hd1:(o.kind==1)=false:=by simpa using e1
     have hd2:(o.kind==2)=false:=by simpa using e2
     have hd3:(o.kind==3)=true:=by simpa using e3
     have hop:zgn Qk o=zbB Qk (zaL o.text):=by unfold zgn;simp[e1,e2,e3]
     have Hop:=q0_ hop;clear hop e1 e2 e3;have HC:=q0_ (znP Gk.out (by omega) HsO.out o.text (by have:=Ht.out;omega) HMx.out);go_wp2_with fail;refine HC.out.mono ?_;rintro r w8 ⟨hv,h8,b8⟩;obtain⟨kk,rfl,_⟩:=hv
     obtain⟨Q8,hQ8⟩:∃ v,zgn Qk o=v:=⟨_,rfl⟩
     have HQ8:=q0_ (HQN.out Q8 hQ8)
     have H8:Hid (StP w8 g w.heap.size Q8 (8*(k+1))):=by show StP _ _ _ _ _;rw[← hQ8,Hop.out];first | exact h8 | exact h8.more (by omega)
     have B8:=q0_ (HbO.out.trans b8);clear h8 b8 hQ8 HC HQN Hop;go_wp2
     go_roundw
     case rel=>exact⟨k+1,by omega,by go_num,by rw[HQ8.out];exact H8.out,B8.out⟩
     case measure=>simp[intOf];omega
   by_cases e4:o.kind=4
   ·as_aux_lemma=>
     have hd1:(o.kind==1)=false:=by simpa using e1
     have hd2:(o.kind==2)=false:=by simpa using e2
     have hd3:(o.kind==3)=false:=by simpa using e3
     have hd4:(o.kind==4)=true:=by simpa using e4
     have hop:zgn Qk o=zc6 Qk:=by unfold zgn;simp[e1,e2,e3,e4]
     have Hop:=q0_ hop;clear hop e1 e2 e3 e4;have HC:=q0_ (zqB Gk.out (by omega) HsO.out);go_wp2_with fail;refine HC.out.mono ?_;rintro r w8 ⟨hv,h8,b8⟩;subst hv
     obtain⟨Q8,hQ8⟩:∃ v,zgn Qk o=v:=⟨_,rfl⟩
     have HQ8:=q0_ (HQN.out Q8 hQ8)
     have H8:Hid (StP w8 g w.heap.size Q8 (8*(k+1))):=by show StP _ _ _ _ _;rw[← hQ8,Hop.out];first | exact h8 | exact h8.more (by omega)
     have B8:=q0_ (HbO.out.trans b8);clear h8 b8 hQ8 HC HQN Hop;go_wp2
     go_roundw
     case rel=>exact⟨k+1,by omega,by go_num,by rw[HQ8.out];exact H8.out,B8.out⟩
     case measure=>simp[intOf];omega
   by_cases e5:o.kind=5
   ·as_aux_lemma=>
     have hd1:(o.kind==1)=false:=by simpa using e1
     have hd2:(o.kind==2)=false:=by simpa using e2
     have hd3:(o.kind==3)=false:=by simpa using e3
     have hd4:(o.kind==4)=false:=by simpa using e4
     have hd5:(o.kind==5)=true:=by simpa using e5
     have hop:zgn Qk o=zfq Qk:=by unfold zgn;simp[e1,e2,e3,e4,e5]
     have Hop:=q0_ hop;clear hop e1 e2 e3 e4 e5;have HC:=q0_ (zpy HsO.out);go_wp2_with fail;refine HC.out.mono ?_;rintro r w8 ⟨hv,h8,b8⟩;subst hv
     obtain⟨Q8,hQ8⟩:∃ v,zgn Qk o=v:=⟨_,rfl⟩
     have HQ8:=q0_ (HQN.out Q8 hQ8)
     have H8:Hid (StP w8 g w.heap.size Q8 (8*(k+1))):=by show StP _ _ _ _ _;rw[← hQ8,Hop.out];first | exact h8 | exact h8.more (by omega)
     have B8:=q0_ (HbO.out.trans b8);clear h8 b8 hQ8 HC HQN Hop;go_wp2
     go_roundw
     case rel=>exact⟨k+1,by omega,by go_num,by rw[HQ8.out];exact H8.out,B8.out⟩
     case measure=>simp[intOf];omega
   ·as_aux_lemma=>
     have hd1:(o.kind==1)=false:=by simpa using e1
     have hd2:(o.kind==2)=false:=by simpa using e2
     have hd3:(o.kind==3)=false:=by simpa using e3
     have hd4:(o.kind==4)=false:=by simpa using e4
     have hd5:(o.kind==5)=false:=by simpa using e5
     have hop:zgn Qk o=Qk:=by unfold zgn;simp[e1,e2,e3,e4,e5]
     have Hop:=q0_ hop;clear hop e1 e2 e3 e4 e5
     obtain⟨Q8,hQ8⟩:∃ v,zgn Qk o=v:=⟨_,rfl⟩
     have HQ8:=q0_ (HQN.out Q8 hQ8)
     have H8:Hid (StP wr g w.heap.size Q8 (8*(k+1))):=by show StP _ _ _ _ _;rw[← hQ8,Hop.out];exact HsO.out.more (by omega)
     have B8:=HbO;clear hQ8 HQN Hop;go_wp2
     go_roundw
     case rel=>exact⟨k+1,by omega,by go_num,by rw[HQ8.out];exact H8.out,B8.out⟩
     case measure=>simp[intOf];omega
  ·obtain rfl:k=n:=by omega
   have e:l.take k=l:=zaN (Nat.le_of_eq Hln.out);rw[e] at hs
   have hgk:zax (zgm Q0 l) (8*k):=by
    have h:=zhv HG0.out l (by rw[Hln.out];omega);rw[Hln.out,Nat.zero_add] at h;exact h
   obtain⟨Qn,hQn⟩:∃ v,zgm Q0 l=v:=⟨_,rfl⟩
   rw[hQn] at hs hgk;have Gn:=q0_ hgk;have Hs:=q0_ hs;have HFr:Hid (Fr (fun _=>False) w wr):=Fr.b0 hb;have HOf:=q0_ (zoM hgk (by omega) hs);clear hs hb hgk e hQn;go_wp2_with fail;refine HOf.out.mono ?_;rintro r w2 ⟨⟨d,a,rfl,hin,hp⟩,b2⟩;have Hs2:=q0_ (Hs.out.fr0 (Fr.b0 b2));have Hfw2:Hid (Fr (fun _=>False) w w2):=HFr.out.trans (Fr.b0 b2) q4_;unfold zcB;clear b2 HOf
   cases hch:Qn.ch with
   | none=>
    as_aux_lemma=>
     obtain⟨n,hn⟩:∃ x,Qn.X.tiers.length=x:=⟨_,rfl⟩
     obtain⟨ts,hts⟩:∃ x,Qn.X.tiers=x:=⟨_,rfl⟩
     obtain⟨nm,hnm⟩:∃ x,Qn.X.name=x:=⟨_,rfl⟩
     obtain⟨now,hnow⟩:∃ x,Qn.X.now=x:=⟨_,rfl⟩
     obtain⟨fls,hfls⟩:∃ x,Qn.X.floors=x:=⟨_,rfl⟩
     obtain⟨mf,hmf⟩:∃ x,fls.length=x:=⟨_,rfl⟩
     obtain⟨fl,hfl⟩:∃ x,za0 now ts fls=x:=⟨_,rfl⟩
     have hQ:ofQ Qn=⟨1,1,now,nm,ts,fl,ByteArray.empty,[],[],0,0,[]⟩:=by unfold ofQ;rw[hch];simp only[hts,hnm,hnow,hfls,hfl]
     have HVa:=q0_ (zlO Gn.out (by omega));rw[hQ] at hp HVa;have Hp:=q0_ hp
     have hd:d=⟨1,1,now,nm,ts,fl,ByteArray.empty,[],[],0,0,[]⟩:=by
      obtain⟨g1,g2,g3,g4,g5,g6,g7,g8,g9,g10,g11,g12⟩:=d;unfold zcv.p at hp;simp only[zd6.mk.injEq] at hp;obtain⟨rfl,rfl,rfl,rfl,rfl,rfl,rfl,rfl,rfl,rfl,rfl,h12⟩:=hp;rw[List.map_eq_nil_iff.1 h12]
     subst hd
     have hlp:a.pn=n:=by rw[← hin.lp, ← hn,hts]
     have hlf:a.fn=n:=by rw[← hin.lf, ← hn,hts, ← hfl];unfold za0;simp
     have hlt:a.tn=0:=by rw[← hin.lt];rfl
     have hls:a.sn=0:=by rw[← hin.ls];rfl
     have hle:a.en=0:=by rw[← hin.le];rfl
     have Hin:=q0_ hin;have HLe:=q0_ (show (a.pn=n∧a.fn=n)∧(a.tn=0∧a.sn=0)∧a.en=0 from⟨⟨hlp,hlf⟩,⟨hlt,hls⟩,hle⟩)
     have hn5:n≤5:=by rw[← hn];exact Gn.out.pol.five
     have hm5:mf≤5:=by rw[← hmf, ← hfls];exact Gn.out.flen
     have Hnow:Hid (i64 now):=by have:=Gn.out.good.now;rw[hnow] at this;exact⟨by omega,by omega⟩
     have Hwf:Hid (∀ t∈ts,t.wf):=by have:=Gn.out.pol.wf;rw[hts] at this;exact this
     have HTi:=q0_ (fun (W':World) (f:Fr (fun _=>False) w2 W')=>zgp Gn.out (Hs2.out.fr0 f));have HSh:=q0_ (fun (W':World) (f:Fr (fun _=>False) w2 W')=>zfr Gn.out (Hs2.out.fr0 f));rw[hnow,hnm,hts,hfls] at HTi;have HNt:=q0_ (show ts.length=n by rw[← hts];exact hn);have HNf:=q0_ hmf;have Hfl:=q0_ hfl;have Hch:=q0_ hch;clear hp hQ hin hlp hlf hlt hls hle hn hts hnm hnow hfls hmf hfl hch
     go_upto_region 21 with fail
     obtain⟨W3,hW3⟩:∃ W3,W3=w2.alloc (.cells #[.int .u64 1,.int .u64 1,.int .i64 now,.string nm,.slice a.pA a.pn a.pc,.slice a.fA a.fn a.fc,.string ByteArray.empty,.slice a.tA a.tn a.tc,.slice a.sA a.sn a.sc,.int .i64 0,.int .i64 0,.slice a.eA a.en a.ec] 29):=⟨_,rfl⟩
     rw[← hW3]
     obtain⟨cb,hcb⟩:∃ x,x=w2.heap.size:=⟨_,rfl⟩
     rw[← hcb]
     have X3:Blk W3 cb 29 #[.int .u64 1,.int .u64 1,.int .i64 now,.string nm,.slice a.pA a.pn a.pc,.slice a.fA a.fn a.fc,.string ByteArray.empty,.slice a.tA a.tn a.tc,.slice a.sA a.sn a.sc,.int .i64 0,.int .i64 0,.slice a.eA a.en a.ec]:=by rw[hW3,hcb];exact Blk.new _ _ _
     rw[HLe.out.1.1,HLe.out.1.2,HLe.out.2.1.1,HLe.out.2.1.2,HLe.out.2.2] at X3
     have F23:Hid (Fr (fun _=>False) w2 W3):=by show Fr _ _ _;rw[hW3];exact Fr.none_alloc _ _
     have HX3:Hid (Blk W3 cb 29 #[.int .u64 1,.int .u64 1,.int .i64 now,.string nm,.slice a.pA n a.pc,.slice a.fA n a.fc,.string ByteArray.empty,.slice a.tA 0 a.tc,.slice a.sA 0 a.sc,.int .i64 0,.int .i64 0,.slice a.eA 0 a.ec]):=X3;clear hW3 hcb X3;go_wp2_with fail;refine (HTi.out _ F23.out).mono ?_;rintro r w4 ⟨⟨t,tA,tc,tB,td,rfl,hR⟩,b4⟩;have F4:Hid (Fr (fun _=>False) w2 w4):=F23.out.trans (Fr.b0 b4) q4_;have HR4:=q0_ hR;have HX4:=q0_ (HX3.out.below b4);clear hR b4 F23 HX3 HTi;go_wp2_with fail;refine (HSh.out _ F4.out).mono ?_;rintro r w5 ⟨hv,b5⟩;have F5:Hid (Fr (fun _=>False) w2 w5):=F4.out.trans (Fr.b0 b5) q4_;have HR5:=q0_ (HR4.out.fr0 (Fr.b0 b5));have HX5:=q0_ (HX4.out.below b5);obtain rfl:=hv.1 Hch.out;clear hv b5 HSh F4 HR4 HX4
     have HC:Hid (∀ W,Fr (fun _=>False) w5 W→(W.cell? ⟨cb,0,none⟩=some (.int .u64 1)∧W.cell? ⟨cb,1,none⟩=some (.int .u64 1)∧W.cell? ⟨cb,2,none⟩=some (.int .i64 now)∧W.cell? ⟨cb,3,none⟩=some (.string nm)∧W.cell? ⟨cb,4,none⟩=some (.slice a.pA n a.pc)∧W.cell? ⟨cb,5,none⟩=some (.slice a.fA n a.fc)∧W.cell? ⟨cb,11,none⟩=some (.slice a.eA 0 a.ec))∧(W.cell? ⟨t,0,none⟩=some (.int .i64 now)∧W.cell? ⟨t,1,none⟩=some (.string nm)∧W.cell? ⟨t,2,none⟩=some (.slice tA n tc)∧W.cell? ⟨t,3,none⟩=some (.slice tB mf td))):=fun W f=>by
      have b:=HX5.out.fr f (fun h=>h);have h:=HR5.out.fr0 f;have h2:=h.c2;have h3:=h.c3;rw[HNt.out] at h2;rw[HNf.out] at h3;exact⟨⟨b.cell 0,b.cell 1,b.cell 2,b.cell 3,b.cell 4,b.cell 5,b.cell 11⟩,h.c0,h.c1,h2,h3⟩
     have HRd:Hid (∀ W,Fr (fun _=>False) w5 W→Rd W 4 a.pA n (zag ts)∧Rd W 1 a.fA n (zaU fl)∧Rd W 4 tA n (zag ts)∧Rd W 1 tB mf (zaU fls)):=fun W f=>by
      have h:=HR5.out.fr0 f;have h1:=h.rt;have h2:=h.rf;rw[HNt.out] at h1;rw[HNf.out] at h2;have k:=Hin.out.fr0 (F5.out.trans f q4_);have k1:Rd W 4 a.pA a.pn (zag ts):=k.rp;have k2:Rd W 1 a.fA a.fn (zaU fl):=k.rf;rw[HLe.out.1.1] at k1;rw[HLe.out.1.2] at k2;exact⟨k1,k2,h1,h2⟩
     have HSm:Hid (∀ W,Fr (fun _=>False) w5 W→Calls prog 31 #[.agg #[.string nm,.slice a.pA n a.pc],.agg #[.string nm,.slice tA n tc]] W fun r w'=>r=.returned (.bool true)∧Below W.heap.size W w'):=fun W f=>by
      have:=zcn nm nm ts ts a.pA n a.pc tA n tc W (HRd.out W f).1 (HRd.out W f).2.2.1 (by omega) (by omega);unfold zcZ at this;simpa using this
     have HAl2:Hid (∀ W,Fr (fun _=>False) w5 W→Calls prog 33 #[.agg #[.int .i64 now,.string nm,.slice tA n tc,.slice tB mf td]] W fun r w'=>(∃ R cs,r=.returned (.slice R n cs)∧w'.ownsRow W.heap.size 3 1 (.slice R n cs) n (zaU fl))∧Below W.heap.size W w'):=fun W f=>by
      have:=zix now Hnow.out nm ts tA n tc fls tB mf td W (HRd.out W f).2.2.1 (HRd.out W f).2.2.2 Hwf.out (by omega);rw[Hfl.out] at this;exact this
     have HSi:Hid (∀ W R cs,Fr (fun _=>False) w5 W→Rd W 1 R n (zaU fl)→Calls prog 32 #[.slice a.fA n a.fc,.slice R n cs] W fun r w'=>r=.returned (.bool true)∧Below W.heap.size W w'):=fun W R cs f hr=>by
      have:=zb2 fl fl a.fA n a.fc R n cs W (by rw[za1];exact (HRd.out W f).2.1) (by rw[za1];exact hr) (by omega) (by omega);simpa using this
     go_wp2_with fail;refine wp_region_held_drew (S:=fun W=>Fr (fun _=>False) w5 W) (by kernel_rfl) ((Fr.refl _ w5).drew) (fun hY_=>?_);refine tl 0 ?v1 rfl ?q1 ?r1
     case q1=>intro W hSw;go_simp;try rfl
     try simp only[s4]
     refine tl 1 ?v2 rfl ?q2 ?r2
     case q2=>intro W hSw;(try obtain⟨⟨c0,c1,c2,c3,c4,c5,c11⟩,t0,t1,t2,t3⟩:=HC.out W hSw);go_simp;try rfl
     try simp only[s4]
     refine tl 2 ?v3 rfl ?q3 ?r3
     case q3=>intro W hSw;go_simp;try rfl
     try simp only[s4]
     refine tl 3 ?v4 rfl ?q4 ?r4
     case q4=>intro W hSw;go_simp;try rfl
     try simp only[s4]
     refine tl 4 ?v5 rfl ?q5 ?r5
     case q5=>intro W hSw;(try obtain⟨⟨c0,c1,c2,c3,c4,c5,c11⟩,t0,t1,t2,t3⟩:=HC.out W hSw);go_simp;try rfl
     try simp only[s4]
     refine tl 5 ?v6 rfl ?q6 ?r6
     case q6=>intro W hSw;go_simp;try rfl
     try simp only[s4]
     refine tl 6 ?v7 rfl ?q7 ?r7
     case q7=>intro W hSw;go_simp;try rfl
     try simp only[s4]
     refine tl 7 ?v8 rfl ?q8 ?r8
     case q8=>intro W hSw;go_simp;try rfl
     try simp only[s4]
     refine tl 8 ?v9 rfl ?q9 ?r9
     case q9=>intro W hSw;(try obtain⟨⟨c0,c1,c2,c3,c4,c5,c11⟩,t0,t1,t2,t3⟩:=HC.out W hSw);go_simp;try rfl
     try simp only[s4]
     refine tl 9 ?v10 rfl ?q10 ?r10
     case q10=>intro W hSw;(try obtain⟨⟨c0,c1,c2,c3,c4,c5,c11⟩,t0,t1,t2,t3⟩:=HC.out W hSw);go_simp;try rfl
     try simp only[s4]
     refine tl 10 ?v11 rfl ?q11 ?r11
     case q11=>intro W hSw;go_simp;try rfl
     try simp only[s4]
     refine tl 11 ?v12 rfl ?q12 ?r12
     case q12=>intro W hSw;go_simp;try rfl
     try simp only[s4]
     refine tl 12 ?v13 rfl ?q13 ?r13
     case q13=>intro W hSw;go_simp;try rfl
     try simp only[s4]
     refine tl 13 ?v14 rfl ?q14 ?r14
     case q14=>intro W hSw;(try obtain⟨⟨c0,c1,c2,c3,c4,c5,c11⟩,t0,t1,t2,t3⟩:=HC.out W hSw);go_simp;try rfl
     try simp only[s4]
     refine tl 14 ?v15 rfl ?q15 ?r15
     case q15=>intro W hSw;(try obtain⟨⟨c0,c1,c2,c3,c4,c5,c11⟩,t0,t1,t2,t3⟩:=HC.out W hSw);go_simp;try rfl
     try simp only[s4]
     refine tl 15 ?v16 rfl ?q16 ?r16
     case q16=>intro W hSw;go_simp;try rfl
     try simp only[s4]
     refine tl 16 ?v17 rfl ?q17 ?r17
     case q17=>intro W hSw;go_simp;try rfl
     try simp only[s4]
     refine tl 17 ?v18 rfl ?q18 ?r18
     case q18=>intro W hSw;go_simp;try rfl
     try simp only[s4]
     refine tl 18 ?v19 rfl ?q19 ?r19
     case q19=>intro W hSw;(try obtain⟨⟨c0,c1,c2,c3,c4,c5,c11⟩,t0,t1,t2,t3⟩:=HC.out W hSw);go_simp;try rfl
     try simp only[s4]
     refine tl 19 ?v20 rfl ?q20 ?r20
     case q20=>intro W hSw;go_simp;try rfl
     try simp only[s4]
     refine tl 20 ?v21 rfl ?q21 ?r21
     case q21=>intro W hSw;go_simp;try rfl
     try simp only[s4]
     refine tl 21 ?v22 rfl ?q22 ?r22
     case q22=>intro W hSw;go_simp;try rfl
     try simp only[s4]
     refine tl 22 ?v23 rfl ?q23 ?r23
     case q23=>intro W hSw;go_simp;try rfl
     try simp only[s4]
     refine tl 23 ?v24 rfl ?q24 ?r24
     case q24=>intro W hSw;(try obtain⟨⟨c0,c1,c2,c3,c4,c5,c11⟩,t0,t1,t2,t3⟩:=HC.out W hSw);go_simp;try rfl
     try simp only[s4]
     refine tl 24 ?v25 rfl ?q25 ?r25
     case q25=>intro W hSw;(try obtain⟨⟨c0,c1,c2,c3,c4,c5,c11⟩,t0,t1,t2,t3⟩:=HC.out W hSw);go_simp;try rfl
     try simp only[s4]
     refine tl 25 ?v26 rfl ?q26 ?r26
     case q26=>intro W hSw;go_simp;try rfl
     try simp only[s4]
     refine tl 26 ?v27 rfl ?q27 ?r27
     case q27=>intro W hSw;go_simp;try rfl
     try simp only[s4]
     refine tl 27 ?v28 rfl ?q28 ?r28
     case q28=>intro W hSw;go_simp;try rfl
     try simp only[s4]
     refine tl 28 ?v29 rfl ?q29 ?r29
     case q29=>intro W hSw;(try obtain⟨⟨c0,c1,c2,c3,c4,c5,c11⟩,t0,t1,t2,t3⟩:=HC.out W hSw);go_simp;try rfl
     try simp only[s4]
     refine tl 29 ?v30 rfl ?q30 ?r30
     case q30=>intro W hSw;go_simp;try rfl
     try simp only[s4]
     refine tl 30 ?v31 rfl ?q31 ?r31
     case q31=>intro W hSw;go_simp;try rfl
     try simp only[s4]
     refine tl 31 ?v32 rfl ?q32 ?r32
     case q32=>intro W hSw;go_simp;try rfl
     try simp only[s4]
     refine tl 32 ?v33 rfl ?q33 ?r33
     case q33=>intro W hSw;go_simp;try rfl
     try simp only[s4]
     refine tl 33 ?v34 rfl ?q34 ?r34
     case q34=>intro W hSw;(try obtain⟨⟨c0,c1,c2,c3,c4,c5,c11⟩,t0,t1,t2,t3⟩:=HC.out W hSw);go_simp;try rfl
     try simp only[s4]
     refine rl 34 rfl (fun K hK=>?_);go_simp
     go_wp2_with (go_at_call 31;refine (HSm.out _ hY_).mono ?_;rintro r wa ⟨rfl,ba⟩)
     refine hK.out _ _ (hY_.trans (Fr.b0 ba) q4_) (fun hY_=>?_);clear hK K
     try simp only[s4]
     refine tl 35 ?v35 rfl ?q35 ?r35
     case q35=>intro W hSw;go_simp;try rfl
     try simp only[s4]
     refine tl 36 ?v36 rfl ?q36 ?r36
     case q36=>intro W hSw;go_simp;try rfl
     try simp only[s4]
     refine tl 37 ?v37 rfl ?q37 ?r37
     case q37=>intro W hSw;go_simp;try rfl
     try simp only[s4]
     refine tl 38 ?v38 rfl ?q38 ?r38
     case q38=>intro W hSw;go_simp;try rfl
     try simp only[s4]
     refine tl 39 ?v39 rfl ?q39 ?r39
     case q39=>intro W hSw;(try obtain⟨⟨c0,c1,c2,c3,c4,c5,c11⟩,t0,t1,t2,t3⟩:=HC.out W hSw);go_simp;try rfl
     try simp only[s4]
     refine tl 40 ?v40 rfl ?q40 ?r40
     case q40=>intro W hSw;(try obtain⟨⟨c0,c1,c2,c3,c4,c5,c11⟩,t0,t1,t2,t3⟩:=HC.out W hSw);go_simp;try rfl
     try simp only[s4]
     refine tl 41 ?v41 rfl ?q41 ?r41
     case q41=>intro W hSw;(try obtain⟨⟨c0,c1,c2,c3,c4,c5,c11⟩,t0,t1,t2,t3⟩:=HC.out W hSw);go_simp;try rfl
     try simp only[s4]
     refine tl 42 ?v42 rfl ?q42 ?r42
     case q42=>intro W hSw;go_simp;try rfl
     try simp only[s4]
     refine tl 43 ?v43 rfl ?q43 ?r43
     case q43=>intro W hSw;go_simp;try rfl
     try simp only[s4]
     refine tl 44 ?v44 rfl ?q44 ?r44
     case q44=>intro W hSw;go_simp;try rfl
     try simp only[s4]
     refine tl 45 ?v45 rfl ?q45 ?r45
     case q45=>intro W hSw;(try obtain⟨⟨c0,c1,c2,c3,c4,c5,c11⟩,t0,t1,t2,t3⟩:=HC.out W hSw);go_simp;try rfl
     try simp only[s4]
     refine tl 46 ?v46 rfl ?q46 ?r46
     case q46=>intro W hSw;go_simp;try rfl
     try simp only[s4]
     refine tl 47 ?v47 rfl ?q47 ?r47
     case q47=>intro W hSw;go_simp;try rfl
     try simp only[s4]
     refine tl 48 ?v48 rfl ?q48 ?r48
     case q48=>intro W hSw;go_simp;try rfl
     try simp only[s4]
     refine tl 49 ?v49 rfl ?q49 ?r49
     case q49=>intro W hSw;(try obtain⟨⟨c0,c1,c2,c3,c4,c5,c11⟩,t0,t1,t2,t3⟩:=HC.out W hSw);go_simp;try rfl
     try simp only[s4]
     refine rl 50 rfl (fun K hK=>?_);go_simp
     go_wp2_with (go_at_call 33;refine (HAl2.out _ hY_).mono ?_;rintro r wb ⟨⟨R2,cs2,rfl,ho2⟩,bb⟩)
     have Ho2:=q0_ ho2;clear ho2;refine hK.out _ _ (hY_.trans (Fr.b0 bb) q4_) (fun hY_=>?_);clear hK K
     try simp only[s4]
     refine rl 51 rfl (fun K hK=>?_);go_simp
     go_wp2_with (go_at_call 32;refine (HSi.out _ R2 cs2 hY_ (Rd.of_own Ho2.out)).mono ?_;rintro r wc ⟨rfl,bc⟩)
     refine hK.out _ _ (hY_.trans (Fr.b0 bc) q4_) (fun hY_=>?_);clear hK K
     try simp only[s4]
     refine tl 52 ?v50 rfl ?q50 ?r50
     case q50=>intro W hSw;go_simp;try rfl
     try simp only[s4]
     refine tl 53 ?v51 rfl ?q51 ?r51
     case q51=>intro W hSw;go_simp;try rfl
     try simp only[s4]
     refine wpAnyH_done (by kernel_rfl) ?_ _;have F6:=q0_ hY_;clear hY_ ba bb bc
     have HC6:Hid (∀ W,Fr (fun _=>False) wc W→W.cell? ⟨cb,6,none⟩=some (.string ByteArray.empty)∧W.cell? ⟨cb,7,none⟩=some (.slice a.tA 0 a.tc)∧W.cell? ⟨cb,8,none⟩=some (.slice a.sA 0 a.sc)∧W.cell? ⟨cb,9,none⟩=some (.int .i64 0)∧W.cell? ⟨cb,10,none⟩=some (.int .i64 0)):=fun W f=>by
      have b:=HX5.out.fr (F6.out.trans f q4_) (fun h=>h);exact⟨b.cell 6,b.cell 7,b.cell 8,b.cell 9,b.cell 10⟩
     go_wp2_with fail;refine wp_region_held_drew (S:=fun W=>Fr (fun _=>False) wc W) (by kernel_rfl) ((Fr.refl _ wc).drew) (fun hY_=>?_);refine tl 0 ?v52 rfl ?q52 ?r52
     case q52=>intro W hSw;go_simp;try rfl
     try simp only[s4]
     refine tl 1 ?v53 rfl ?q53 ?r53
     case q53=>intro W hSw;(try obtain⟨c6,c7,c8,c9,c10⟩:=HC6.out W hSw);go_simp;try rfl
     try simp only[s4]
     refine tl 2 ?v54 rfl ?q54 ?r54
     case q54=>intro W hSw;go_simp;try rfl
     try simp only[s4]
     refine tl 3 ?v55 rfl ?q55 ?r55
     case q55=>intro W hSw;go_simp;try rfl
     try simp only[s4]
     refine tl 4 ?v56 rfl ?q56 ?r56
     case q56=>intro W hSw;go_simp;try rfl
     try simp only[s4]
     refine tl 5 ?v57 rfl ?q57 ?r57
     case q57=>intro W hSw;(try obtain⟨c6,c7,c8,c9,c10⟩:=HC6.out W hSw);go_simp;try rfl
     try simp only[s4]
     refine tl 6 ?v58 rfl ?q58 ?r58
     case q58=>intro W hSw;(try obtain⟨c6,c7,c8,c9,c10⟩:=HC6.out W hSw);go_simp;try rfl
     try simp only[s4]
     refine tl 7 ?v59 rfl ?q59 ?r59
     case q59=>intro W hSw;(try obtain⟨c6,c7,c8,c9,c10⟩:=HC6.out W hSw);go_simp;try rfl
     try simp only[s4]
     refine tl 8 ?v60 rfl ?q60 ?r60
     case q60=>intro W hSw;go_simp;try rfl
     try simp only[s4]
     refine tl 9 ?v61 rfl ?q61 ?r61
     case q61=>intro W hSw;go_simp;try rfl
     try simp only[s4]
     refine tl 10 ?v62 rfl ?q62 ?r62
     case q62=>intro W hSw;(try obtain⟨c6,c7,c8,c9,c10⟩:=HC6.out W hSw);go_simp;try rfl
     try simp only[s4]
     refine tl 11 ?v63 rfl ?q63 ?r63
     case q63=>intro W hSw;(try obtain⟨c6,c7,c8,c9,c10⟩:=HC6.out W hSw);go_simp;try rfl
     try simp only[s4]
     refine tl 12 ?v64 rfl ?q64 ?r64
     case q64=>intro W hSw;(try obtain⟨c6,c7,c8,c9,c10⟩:=HC6.out W hSw);go_simp;try rfl
     try simp only[s4]
     refine tl 13 ?v65 rfl ?q65 ?r65
     case q65=>intro W hSw;go_simp;try rfl
     try simp only[s4]
     refine tl 14 ?v66 rfl ?q66 ?r66
     case q66=>intro W hSw;go_simp;try rfl
     try simp only[s4]
     refine tl 15 ?v67 rfl ?q67 ?r67
     case q67=>intro W hSw;go_simp;try rfl
     try simp only[s4]
     refine tl 16 ?v68 rfl ?q68 ?r68
     case q68=>intro W hSw;(try obtain⟨c6,c7,c8,c9,c10⟩:=HC6.out W hSw);go_simp;try rfl
     try simp only[s4]
     refine tl 17 ?v69 rfl ?q69 ?r69
     case q69=>intro W hSw;(try obtain⟨c6,c7,c8,c9,c10⟩:=HC6.out W hSw);go_simp;try rfl
     try simp only[s4]
     refine tl 18 ?v70 rfl ?q70 ?r70
     case q70=>intro W hSw;go_simp;try rfl
     try simp only[s4]
     refine tl 19 ?v71 rfl ?q71 ?r71
     case q71=>intro W hSw;go_simp;try rfl
     try simp only[s4]
     refine tl 20 ?v72 rfl ?q72 ?r72
     case q72=>intro W hSw;go_simp;try rfl
     try simp only[s4]
     refine tl 21 ?v73 rfl ?q73 ?r73
     case q73=>intro W hSw;(try obtain⟨c6,c7,c8,c9,c10⟩:=HC6.out W hSw);go_simp;try rfl
     try simp only[s4]
     refine tl 22 ?v74 rfl ?q74 ?r74
     case q74=>intro W hSw;(try obtain⟨c6,c7,c8,c9,c10⟩:=HC6.out W hSw);go_simp;try rfl
     try simp only[s4]
     refine tl 23 ?v75 rfl ?q75 ?r75
     case q75=>intro W hSw;go_simp;try rfl
     try simp only[s4]
     refine tl 24 ?v76 rfl ?q76 ?r76
     case q76=>intro W hSw;go_simp;try rfl
     try simp only[s4]
     refine tl 25 ?v77 rfl ?q77 ?r77
     case q77=>intro W hSw;go_simp;try rfl
     try simp only[s4]
     refine tl 26 ?v78 rfl ?q78 ?r78
     case q78=>intro W hSw;go_simp;try rfl
     try simp only[s4]
     refine tl 27 ?v79 rfl ?q79 ?r79
     case q79=>intro W hSw;(try obtain⟨c6,c7,c8,c9,c10⟩:=HC6.out W hSw);go_simp;try rfl
     try simp only[s4]
     refine tl 28 ?v80 rfl ?q80 ?r80
     case q80=>intro W hSw;go_simp;try rfl
     try simp only[s4]
     refine tu 29 rfl ?_
     try simp only[s4]
     refine tu 30 rfl ?_
     try simp only[s4]
     refine tu 31 rfl ?_
     try simp only[s4]
     refine tu 32 rfl ?_
     try simp only[s4]
     refine tu 33 rfl ?_
     try simp only[s4]
     refine tu 34 rfl ?_
     try simp only[s4]
     refine tu 35 rfl ?_
     try simp only[s4]
     refine tu 36 rfl ?_
     try simp only[s4]
     refine tu 37 rfl ?_
     try simp only[s4]
     refine tu 38 rfl ?_
     try simp only[s4]
     refine tu 39 rfl ?_
     try simp only[s4]
     refine tu 40 rfl ?_
     try simp only[s4]
     refine tu 41 rfl ?_
     try simp only[s4]
     refine tu 42 rfl ?_
     try simp only[s4]
     refine tu 43 rfl ?_
     try simp only[s4]
     refine tu 44 rfl ?_
     try simp only[s4]
     refine tu 45 rfl ?_
     try simp only[s4]
     refine tu 46 rfl ?_
     try simp only[s4]
     refine tu 47 rfl ?_
     try simp only[s4]
     refine tu 48 rfl ?_
     try simp only[s4]
     refine tu 49 rfl ?_
     try simp only[s4]
     refine tu 50 rfl ?_
     try simp only[s4]
     refine tu 51 rfl ?_
     try simp only[s4]
     refine tu 52 rfl ?_
     try simp only[s4]
     refine tu 53 rfl ?_
     try simp only[s4]
     refine tu 54 rfl ?_
     try simp only[s4]
     refine tu 55 rfl ?_
     try simp only[s4]
     refine tu 56 rfl ?_
     try simp only[s4]
     refine tu 57 rfl ?_
     try simp only[s4]
     refine tu 58 rfl ?_
     try simp only[s4]
     refine tu 59 rfl ?_
     try simp only[s4]
     refine tu 60 rfl ?_
     try simp only[s4]
     refine tu 61 rfl ?_
     try simp only[s4]
     refine tu 62 rfl ?_
     try simp only[s4]
     refine tl 63 ?v81 rfl ?q81 ?r81
     case q81=>intro W hSw;go_simp;try rfl
     try simp only[s4]
     refine tl 64 ?v82 rfl ?q82 ?r82
     case q82=>intro W hSw;go_simp;try rfl
     try simp only[s4]
     refine wpAnyH_done (by kernel_rfl) ?_ _;have F7:=q0_ (F6.out.trans hY_ q4_);clear hY_
     obtain⟨w7,hw7⟩:∃ x,x=wc.drew:=⟨_,rfl⟩
     rw[← hw7] at F7;have Hw7:=q0_ hw7;clear hw7
     go_upto_region 26 with fail
     rw[← Hw7.out];have F27:Hid (Fr (fun _=>False) w2 w7):=F5.out.trans F7.out q4_;have Hin7:=q0_ (Hin.out.fr0 F27.out);have HX7:=q0_ (HX5.out.fr F7.out (fun h=>h));have HFW:Hid (Fr (fun _=>False) w w7):=Hfw2.out.trans F27.out q4_;have HPut:=q0_ (zgc Hin7.out (HTB.out.below (HFW.out.below q4_)))
     have hcb:zfj ⟨1,1,now,nm,ts,fl,ByteArray.empty,[],[],0,0,[]⟩=true:=by rw[zg8];exact HVa.out.1
     have hlen:(zfQ ⟨1,1,now,nm,ts,fl,ByteArray.empty,[],[],0,0,[]⟩).length≤40000:=by rw[zfP];exact HVa.out.2
     have HG:=q0_ (zi6.of Hin7.out.rng hcb hlen)
     have hpv:zkT ⟨1,1,now,nm,ts,fl,ByteArray.empty,[],[],0,0,[]⟩=(zaT (zfQ ⟨1,1,now,nm,ts,fl,ByteArray.empty,[],[],0,0,[]⟩),0):=by unfold zkT;rw[if_pos hcb,if_neg (by omega)]
     rw[hpv] at HPut
     obtain⟨L,hL⟩:∃ L,zfQ ⟨1,1,now,nm,ts,fl,ByteArray.empty,[],[],0,0,[]⟩=L:=⟨_,rfl⟩
     rw[hL] at HPut HG hlen
     have HLn:Hid (L.length≤1099511627776):=by show _≤_;omega
     dsimp only at HPut;rw[HLe.out.1.1,HLe.out.1.2,HLe.out.2.1.1,HLe.out.2.1.2,HLe.out.2.2] at HPut;clear hcb hlen hpv hL;have x0:w7.cell? ⟨cb,0,none⟩=some (.int .u64 1):=HX7.out.cell 0;have x1:w7.cell? ⟨cb,1,none⟩=some (.int .u64 1):=HX7.out.cell 1;have x2:w7.cell? ⟨cb,2,none⟩=some (.int .i64 now):=HX7.out.cell 2;have x3:w7.cell? ⟨cb,3,none⟩=some (.string nm):=HX7.out.cell 3;have x4:w7.cell? ⟨cb,4,none⟩=some (.slice a.pA n a.pc):=HX7.out.cell 4;have x5:w7.cell? ⟨cb,5,none⟩=some (.slice a.fA n a.fc):=HX7.out.cell 5;have x6:w7.cell? ⟨cb,6,none⟩=some (.string ByteArray.empty):=HX7.out.cell 6;have x7:w7.cell? ⟨cb,7,none⟩=some (.slice a.tA 0 a.tc):=HX7.out.cell 7;have x8:w7.cell? ⟨cb,8,none⟩=some (.slice a.sA 0 a.sc):=HX7.out.cell 8;have x9:w7.cell? ⟨cb,9,none⟩=some (.int .i64 0):=HX7.out.cell 9;have x10:w7.cell? ⟨cb,10,none⟩=some (.int .i64 0):=HX7.out.cell 10;have x11:w7.cell? ⟨cb,11,none⟩=some (.slice a.eA 0 a.ec):=HX7.out.cell 11;go_wp2_with fail;refine (show Calls _ _ _ _ _ from HPut.out).mono ?_;rintro r w8 ⟨rfl,b8⟩;have F8:Hid (Fr (fun _=>False) w w8):=HFW.out.trans (Fr.b0 b8) q4_;have HX8:=q0_ (HX7.out.below b8);have Hin8:=q0_ (Hin7.out.fr0 (Fr.b0 b8));have HGet:=q0_ (ziW L HLn.out w8 (HMX.out.fr F8.out (fun h=>h)) (HTB.out.below (F8.out.below q4_)));clear b8 x0 x1 x2 x3 x4 x5 x6 x7 x8 x9 x10 x11;go_wp2_with fail;refine HGet.out.mono ?_;rintro r w9 ⟨hr,b9⟩;have F9:Hid (Fr (fun _=>False) w w9):=F8.out.trans (Fr.b0 b9) q4_;have HX9:=q0_ (HX8.out.below b9);have Hin9:=q0_ (Hin8.out.fr0 (Fr.b0 b9))
     rcases hr with ⟨d2,a2,rfl,hg2,hq2⟩ | ⟨e,_,_,hno⟩
     rotate_left
     ·exact absurd HG.out (hno _)
     have hpp:zcv.p ⟨1,1,now,nm,ts,fl,ByteArray.empty,[],[],0,0,[]⟩=d2.p:=zle HG.out hq2;have Hpp:=q0_ hpp;have HG2:=q0_ hg2;clear hg2 hq2 hpp b9;unfold zcB
     go_upto_region 28 with fail
     obtain⟨W10,hW10⟩:∃ W,W=w9.alloc (.cells #[.int .u64 d2.gen,.int .u64 d2.id,.int .i64 d2.now,.string d2.nm,.slice a2.pA a2.pn a2.pc,.slice a2.fA a2.fn a2.fc,.string d2.nm2,.slice a2.tA a2.tn a2.tc,.slice a2.sA a2.sn a2.sc,.int .i64 d2.bound,.int .i64 d2.done,.slice a2.eA a2.en a2.ec] 29):=⟨_,rfl⟩
     rw[← hW10]
     obtain⟨db,hdb⟩:∃ x,x=w9.heap.size:=⟨_,rfl⟩
     rw[← hdb]
     have Y10:Blk W10 db 29 #[.int .u64 d2.gen,.int .u64 d2.id,.int .i64 d2.now,.string d2.nm,.slice a2.pA a2.pn a2.pc,.slice a2.fA a2.fn a2.fc,.string d2.nm2,.slice a2.tA a2.tn a2.tc,.slice a2.sA a2.sn a2.sc,.int .i64 d2.bound,.int .i64 d2.done,.slice a2.eA a2.en a2.ec]:=by rw[hW10,hdb];exact Blk.new _ _ _
     have f910:Fr (fun _=>False) w9 W10:=by rw[hW10];exact Fr.none_alloc _ _
     have F10:Hid (Fr (fun _=>False) w W10):=F9.out.trans f910 q4_;have HX10:=q0_ (HX9.out.fr f910 (fun h=>h));have Hin10:=q0_ (Hin9.out.fr0 f910);have HD10:=q0_ (HG2.out.cin.fr0 f910);have HY10:=q0_ Y10;clear hW10 hdb Y10 f910;go_wp2_with fail;refine (zoL W10).mono ?_;rintro r w11 ⟨rfl,b11⟩
     go_upto_region 29 with fail
     obtain⟨W12,hW12⟩:∃ W,W=w11.alloc (.cells #[.int .u64 0,.int .u64 0,.int .i64 0,.string {data:=#[]},.slice none 0 0,.slice none 0 0,.string {data:=#[]},.slice none 0 0,.slice none 0 0,.int .i64 0,.int .i64 0,.slice none 0 0] 29):=⟨_,rfl⟩
     first
      | rw[← hW12]
      | (change Code.wp _ _ _ _ (w11.alloc (.cells #[.int .u64 0,.int .u64 0,.int .i64 0,.string {data:=#[]},.slice none 0 0,.slice none 0 0,.string {data:=#[]},.slice none 0 0,.slice none 0 0,.int .i64 0,.int .i64 0,.slice none 0 0] 29));rw[← hW12])
     have f1012:Fr (fun _=>False) W10 W12:=by rw[hW12];exact (Fr.b0 b11).alloc _
     have F12:Hid (Fr (fun _=>False) w W12):=F10.out.trans f1012 q4_;have HX12:=q0_ (HX10.out.fr f1012 (fun h=>h));have HY12:=q0_ (HY10.out.fr f1012 (fun h=>h));have Hin12:=q0_ (Hin10.out.fr0 f1012);have HD12:=q0_ (HD10.out.fr0 f1012);clear hW12 f1012 b11;go_wp2_with fail;refine (HAl.out _ F12.out).mono ?_;rintro r w13 ⟨rfl,b13⟩;have F13:Hid (Fr (fun _=>False) w w13):=F12.out.trans (Fr.b0 b13) q4_;have HX13:=q0_ (HX12.out.below b13);have HY13:=q0_ (HY12.out.below b13);have HSa:=q0_ (zj8 (Hin12.out.fr0 (Fr.b0 b13)) (HD12.out.fr0 (Fr.b0 b13)) ⟨zl_ (Hin12.out.fr0 (Fr.b0 b13)) ⟨by show ts.length≤5;rw[HNt.out];exact hn5,by show fl.length≤5;have k:fl.length=a.fn:=Hin12.out.lf;have h:=HLe.out.1.2;omega,Nat.zero_le _,Nat.zero_le _,rfl⟩,zlU (Hin12.out.fr0 (Fr.b0 b13)) (HD12.out.fr0 (Fr.b0 b13)) Hpp.out ⟨by show ts.length≤5;rw[HNt.out];exact hn5,by show fl.length≤5;have k:fl.length=a.fn:=Hin12.out.lf;have h:=HLe.out.1.2;omega,Nat.zero_le _,Nat.zero_le _,rfl⟩⟩);dsimp only at HSa;rw[HLe.out.1.1,HLe.out.1.2,HLe.out.2.1.1,HLe.out.2.1.2,HLe.out.2.2] at HSa;clear b13;obtain⟨x0,x1,x2,x3,x4,x5,x6,x7,x8,x9,x10,x11⟩:=ziX (show Blk w13 cb 29 #[.int .u64 1,.int .u64 1,.int .i64 now,.string nm,.slice a.pA n a.pc,.slice a.fA n a.fc,.string ByteArray.empty,.slice a.tA 0 a.tc,.slice a.sA 0 a.sc,.int .i64 0,.int .i64 0,.slice a.eA 0 a.ec] from HX13.out);obtain⟨y0,y1,y2,y3,y4,y5,y6,y7,y8,y9,y10,y11⟩:=ziX (show Blk w13 db 29 #[.int .u64 d2.gen,.int .u64 d2.id,.int .i64 d2.now,.string d2.nm,.slice a2.pA a2.pn a2.pc,.slice a2.fA a2.fn a2.fc,.string d2.nm2,.slice a2.tA a2.tn a2.tc,.slice a2.sA a2.sn a2.sc,.int .i64 d2.bound,.int .i64 d2.done,.slice a2.eA a2.en a2.ec] from HY13.out);go_wp2_with fail;refine (show Calls _ _ _ _ _ from HSa.out).mono ?_;rintro r w14 ⟨⟨sb,rfl,hsb⟩,b14⟩;obtain rfl:sb=true:=hsb.2 Hpp.out;have F14:Hid (Fr (fun _=>False) w w14):=F13.out.trans (Fr.b0 b14) q4_;clear b14 hsb x0 y0 x1 y1 x2 y2 x3 y3 x4 y4 x5 y5 x6 y6 x7 y7 x8 y8 x9 y9 x10 y10 x11 y11;go_wp2;go_ret;exact⟨rfl,F14.out.below q4_⟩
   | some S=>
    as_aux_lemma=>
     obtain⟨n,hn⟩:∃ x,Qn.X.tiers.length=x:=⟨_,rfl⟩
     obtain⟨ts,hts⟩:∃ x,Qn.X.tiers=x:=⟨_,rfl⟩
     obtain⟨nm,hnm⟩:∃ x,Qn.X.name=x:=⟨_,rfl⟩
     obtain⟨now,hnow⟩:∃ x,Qn.X.now=x:=⟨_,rfl⟩
     obtain⟨fls,hfls⟩:∃ x,Qn.X.floors=x:=⟨_,rfl⟩
     obtain⟨mf,hmf⟩:∃ x,fls.length=x:=⟨_,rfl⟩
     obtain⟨fl,hfl⟩:∃ x,za0 now ts fls=x:=⟨_,rfl⟩
     obtain⟨n2,hn2⟩:∃ x,S.tiers.length=x:=⟨_,rfl⟩
     obtain⟨m2,hm2⟩:∃ x,S.srcs.length=x:=⟨_,rfl⟩
     obtain⟨ts2,hts2⟩:∃ x,S.tiers=x:=⟨_,rfl⟩
     obtain⟨ss2,hss2⟩:∃ x,S.srcs=x:=⟨_,rfl⟩
     obtain⟨nm2,hnm2⟩:∃ x,S.name=x:=⟨_,rfl⟩
     obtain⟨bd,hbd⟩:∃ x,S.bound=x:=⟨_,rfl⟩
     obtain⟨dn,hdn⟩:∃ x,S.done=x:=⟨_,rfl⟩
     have hQ:ofQ Qn=⟨1,1,now,nm,ts,fl,nm2,ts2,ss2,bd,dn,[]⟩:=by unfold ofQ;rw[hch];simp only[hts,hnm,hnow,hfls,hfl,hts2,hss2,hnm2,hbd,hdn]
     have HVa:=q0_ (zlO Gn.out (by omega));rw[hQ] at hp HVa;have Hp:=q0_ hp
     have hd:d=⟨1,1,now,nm,ts,fl,nm2,ts2,ss2,bd,dn,[]⟩:=by
      obtain⟨g1,g2,g3,g4,g5,g6,g7,g8,g9,g10,g11,g12⟩:=d;unfold zcv.p at hp;simp only[zd6.mk.injEq] at hp;obtain⟨rfl,rfl,rfl,rfl,rfl,rfl,rfl,rfl,rfl,rfl,rfl,h12⟩:=hp;rw[List.map_eq_nil_iff.1 h12]
     subst hd
     have hlp:a.pn=n:=by rw[← hin.lp, ← hn,hts]
     have hlf:a.fn=n:=by rw[← hin.lf, ← hn,hts, ← hfl];unfold za0;simp
     have hlt:a.tn=n2:=by rw[← hin.lt, ← hn2,hts2]
     have hls:a.sn=m2:=by rw[← hin.ls, ← hm2,hss2]
     have hle:a.en=0:=by rw[← hin.le];rfl
     have Hin:=q0_ hin;have HLe:=q0_ (show (a.pn=n∧a.fn=n)∧(a.tn=n2∧a.sn=m2)∧a.en=0 from⟨⟨hlp,hlf⟩,⟨hlt,hls⟩,hle⟩)
     have hn5:n≤5:=by rw[← hn];exact Gn.out.pol.five
     have hm5:mf≤5:=by rw[← hmf, ← hfls];exact Gn.out.flen
     have hn25:n2≤5:=by rw[← hn2];exact (Gn.out.ch S hch).pol.five
     have hm25:m2≤5:=by
      obtain⟨oo,ok⟩:=(Gn.out.ch S hch).ok;have h5:=(Gn.out.ch S hch).pol.five;rw[← hm2,ok.src];unfold srcs;rw[List.length_map];rw[ok.tiers] at h5;exact h5
     have Hnow:Hid (i64 now):=by have:=Gn.out.good.now;rw[hnow] at this;exact⟨by omega,by omega⟩
     have Hwf:Hid (∀ t∈ts,t.wf):=by have:=Gn.out.pol.wf;rw[hts] at this;exact this
     have HTi:=q0_ (fun (W':World) (f:Fr (fun _=>False) w2 W')=>zgp Gn.out (Hs2.out.fr0 f));have HSh:=q0_ (fun (W':World) (f:Fr (fun _=>False) w2 W')=>zfr Gn.out (Hs2.out.fr0 f));rw[hnow,hnm,hts,hfls] at HTi;have HNt:=q0_ (show ts.length=n by rw[← hts];exact hn);have HNf:=q0_ hmf;have Hfl:=q0_ hfl;have HN2:=q0_ (show ts2.length=n2 by rw[← hts2];exact hn2);have HM2:=q0_ (show ss2.length=m2 by rw[← hss2];exact hm2);have HSv:=q0_ (show S.name=nm2∧S.tiers=ts2∧S.srcs=ss2∧S.bound=bd∧S.done=dn from⟨hnm2,hts2,hss2,hbd,hdn⟩);have Hch:=q0_ hch;clear hp hQ hin hlp hlf hlt hls hle hn hts hnm hnow hfls hmf hfl hch hn2 hm2 hts2 hss2 hnm2 hbd hdn
     go_upto_region 21 with fail
     obtain⟨W3,hW3⟩:∃ W3,W3=w2.alloc (.cells #[.int .u64 1,.int .u64 1,.int .i64 now,.string nm,.slice a.pA a.pn a.pc,.slice a.fA a.fn a.fc,.string nm2,.slice a.tA a.tn a.tc,.slice a.sA a.sn a.sc,.int .i64 bd,.int .i64 dn,.slice a.eA a.en a.ec] 29):=⟨_,rfl⟩
     rw[← hW3]
     obtain⟨cb,hcb⟩:∃ x,x=w2.heap.size:=⟨_,rfl⟩
     rw[← hcb]
     have X3:Blk W3 cb 29 #[.int .u64 1,.int .u64 1,.int .i64 now,.string nm,.slice a.pA a.pn a.pc,.slice a.fA a.fn a.fc,.string nm2,.slice a.tA a.tn a.tc,.slice a.sA a.sn a.sc,.int .i64 bd,.int .i64 dn,.slice a.eA a.en a.ec]:=by rw[hW3,hcb];exact Blk.new _ _ _
     rw[HLe.out.1.1,HLe.out.1.2,HLe.out.2.1.1,HLe.out.2.1.2,HLe.out.2.2] at X3
     have F23:Hid (Fr (fun _=>False) w2 W3):=by show Fr _ _ _;rw[hW3];exact Fr.none_alloc _ _
     have HX3:Hid (Blk W3 cb 29 #[.int .u64 1,.int .u64 1,.int .i64 now,.string nm,.slice a.pA n a.pc,.slice a.fA n a.fc,.string nm2,.slice a.tA n2 a.tc,.slice a.sA m2 a.sc,.int .i64 bd,.int .i64 dn,.slice a.eA 0 a.ec]):=X3;clear hW3 hcb X3;go_wp2_with fail;refine (HTi.out _ F23.out).mono ?_;rintro r w4 ⟨⟨t,tA,tc,tB,td,rfl,hR⟩,b4⟩;have F4:Hid (Fr (fun _=>False) w2 w4):=F23.out.trans (Fr.b0 b4) q4_;have HR4:=q0_ hR;have HX4:=q0_ (HX3.out.below b4);clear hR b4 F23 HX3 HTi;go_wp2_with fail;refine (HSh.out _ F4.out).mono ?_;rintro r w5 ⟨hv,b5⟩;have F5:Hid (Fr (fun _=>False) w2 w5):=F4.out.trans (Fr.b0 b5) q4_;have HR5:=q0_ (HR4.out.fr0 (Fr.b0 b5));have HX5:=q0_ (HX4.out.below b5);obtain⟨s,base,rfl,hS⟩:=hv.2 S Hch.out;have HS5:=q0_ hS;clear hS;clear hv b5 HSh F4 HR4 HX4
     have HC:Hid (∀ W,Fr (fun _=>False) w5 W→(W.cell? ⟨cb,0,none⟩=some (.int .u64 1)∧W.cell? ⟨cb,1,none⟩=some (.int .u64 1)∧W.cell? ⟨cb,2,none⟩=some (.int .i64 now)∧W.cell? ⟨cb,3,none⟩=some (.string nm)∧W.cell? ⟨cb,4,none⟩=some (.slice a.pA n a.pc)∧W.cell? ⟨cb,5,none⟩=some (.slice a.fA n a.fc)∧W.cell? ⟨cb,11,none⟩=some (.slice a.eA 0 a.ec))∧(W.cell? ⟨t,0,none⟩=some (.int .i64 now)∧W.cell? ⟨t,1,none⟩=some (.string nm)∧W.cell? ⟨t,2,none⟩=some (.slice tA n tc)∧W.cell? ⟨t,3,none⟩=some (.slice tB mf td))):=fun W f=>by
      have b:=HX5.out.fr f (fun h=>h);have h:=HR5.out.fr0 f;have h2:=h.c2;have h3:=h.c3;rw[HNt.out] at h2;rw[HNf.out] at h3;exact⟨⟨b.cell 0,b.cell 1,b.cell 2,b.cell 3,b.cell 4,b.cell 5,b.cell 11⟩,h.c0,h.c1,h2,h3⟩
     have HRd:Hid (∀ W,Fr (fun _=>False) w5 W→Rd W 4 a.pA n (zag ts)∧Rd W 1 a.fA n (zaU fl)∧Rd W 4 tA n (zag ts)∧Rd W 1 tB mf (zaU fls)):=fun W f=>by
      have h:=HR5.out.fr0 f;have h1:=h.rt;have h2:=h.rf;rw[HNt.out] at h1;rw[HNf.out] at h2;have k:=Hin.out.fr0 (F5.out.trans f q4_);have k1:Rd W 4 a.pA a.pn (zag ts):=k.rp;have k2:Rd W 1 a.fA a.fn (zaU fl):=k.rf;rw[HLe.out.1.1] at k1;rw[HLe.out.1.2] at k2;exact⟨k1,k2,h1,h2⟩
     have HSm:Hid (∀ W,Fr (fun _=>False) w5 W→Calls prog 31 #[.agg #[.string nm,.slice a.pA n a.pc],.agg #[.string nm,.slice tA n tc]] W fun r w'=>r=.returned (.bool true)∧Below W.heap.size W w'):=fun W f=>by
      have:=zcn nm nm ts ts a.pA n a.pc tA n tc W (HRd.out W f).1 (HRd.out W f).2.2.1 (by omega) (by omega);unfold zcZ at this;simpa using this
     have HAl2:Hid (∀ W,Fr (fun _=>False) w5 W→Calls prog 33 #[.agg #[.int .i64 now,.string nm,.slice tA n tc,.slice tB mf td]] W fun r w'=>(∃ R cs,r=.returned (.slice R n cs)∧w'.ownsRow W.heap.size 3 1 (.slice R n cs) n (zaU fl))∧Below W.heap.size W w'):=fun W f=>by
      have:=zix now Hnow.out nm ts tA n tc fls tB mf td W (HRd.out W f).2.2.1 (HRd.out W f).2.2.2 Hwf.out (by omega);rw[Hfl.out] at this;exact this
     have HSi:Hid (∀ W R cs,Fr (fun _=>False) w5 W→Rd W 1 R n (zaU fl)→Calls prog 32 #[.slice a.fA n a.fc,.slice R n cs] W fun r w'=>r=.returned (.bool true)∧Below W.heap.size W w'):=fun W R cs f hr=>by
      have:=zb2 fl fl a.fA n a.fc R n cs W (by rw[za1];exact (HRd.out W f).2.1) (by rw[za1];exact hr) (by omega) (by omega);simpa using this
     go_wp2_with fail;refine wp_region_held_drew (S:=fun W=>Fr (fun _=>False) w5 W) (by kernel_rfl) ((Fr.refl _ w5).drew) (fun hY_=>?_);refine tl 0 ?v83 rfl ?q83 ?r83
     case q83=>intro W hSw;go_simp;try rfl
     try simp only[s4]
     refine tl 1 ?v84 rfl ?q84 ?r84
     case q84=>intro W hSw;(try obtain⟨⟨c0,c1,c2,c3,c4,c5,c11⟩,t0,t1,t2,t3⟩:=HC.out W hSw);go_simp;try rfl
     try simp only[s4]
     refine tl 2 ?v85 rfl ?q85 ?r85
     case q85=>intro W hSw;go_simp;try rfl
     try simp only[s4]
     refine tl 3 ?v86 rfl ?q86 ?r86
     case q86=>intro W hSw;go_simp;try rfl
     try simp only[s4]
     refine tl 4 ?v87 rfl ?q87 ?r87
     case q87=>intro W hSw;(try obtain⟨⟨c0,c1,c2,c3,c4,c5,c11⟩,t0,t1,t2,t3⟩:=HC.out W hSw);go_simp;try rfl
     try simp only[s4]
     refine tl 5 ?v88 rfl ?q88 ?r88
     case q88=>intro W hSw;go_simp;try rfl
     try simp only[s4]
     refine tl 6 ?v89 rfl ?q89 ?r89
     case q89=>intro W hSw;go_simp;try rfl
     try simp only[s4]
     refine tl 7 ?v90 rfl ?q90 ?r90
     case q90=>intro W hSw;go_simp;try rfl
     try simp only[s4]
     refine tl 8 ?v91 rfl ?q91 ?r91
     case q91=>intro W hSw;(try obtain⟨⟨c0,c1,c2,c3,c4,c5,c11⟩,t0,t1,t2,t3⟩:=HC.out W hSw);go_simp;try rfl
     try simp only[s4]
     refine tl 9 ?v92 rfl ?q92 ?r92
     case q92=>intro W hSw;(try obtain⟨⟨c0,c1,c2,c3,c4,c5,c11⟩,t0,t1,t2,t3⟩:=HC.out W hSw);go_simp;try rfl
     try simp only[s4]
     refine tl 10 ?v93 rfl ?q93 ?r93
     case q93=>intro W hSw;go_simp;try rfl
     try simp only[s4]
     refine tl 11 ?v94 rfl ?q94 ?r94
     case q94=>intro W hSw;go_simp;try rfl
     try simp only[s4]
     refine tl 12 ?v95 rfl ?q95 ?r95
     case q95=>intro W hSw;go_simp;try rfl
     try simp only[s4]
     refine tl 13 ?v96 rfl ?q96 ?r96
     case q96=>intro W hSw;(try obtain⟨⟨c0,c1,c2,c3,c4,c5,c11⟩,t0,t1,t2,t3⟩:=HC.out W hSw);go_simp;try rfl
     try simp only[s4]
     refine tl 14 ?v97 rfl ?q97 ?r97
     case q97=>intro W hSw;(try obtain⟨⟨c0,c1,c2,c3,c4,c5,c11⟩,t0,t1,t2,t3⟩:=HC.out W hSw);go_simp;try rfl
     try simp only[s4]
     refine tl 15 ?v98 rfl ?q98 ?r98
     case q98=>intro W hSw;go_simp;try rfl
     try simp only[s4]
     refine tl 16 ?v99 rfl ?q99 ?r99
     case q99=>intro W hSw;go_simp;try rfl
     try simp only[s4]
     refine tl 17 ?v100 rfl ?q100 ?r100
     case q100=>intro W hSw;go_simp;try rfl
     try simp only[s4]
     refine tl 18 ?v101 rfl ?q101 ?r101
     case q101=>intro W hSw;(try obtain⟨⟨c0,c1,c2,c3,c4,c5,c11⟩,t0,t1,t2,t3⟩:=HC.out W hSw);go_simp;try rfl
     try simp only[s4]
     refine tl 19 ?v102 rfl ?q102 ?r102
     case q102=>intro W hSw;go_simp;try rfl
     try simp only[s4]
     refine tl 20 ?v103 rfl ?q103 ?r103
     case q103=>intro W hSw;go_simp;try rfl
     try simp only[s4]
     refine tl 21 ?v104 rfl ?q104 ?r104
     case q104=>intro W hSw;go_simp;try rfl
     try simp only[s4]
     refine tl 22 ?v105 rfl ?q105 ?r105
     case q105=>intro W hSw;go_simp;try rfl
     try simp only[s4]
     refine tl 23 ?v106 rfl ?q106 ?r106
     case q106=>intro W hSw;(try obtain⟨⟨c0,c1,c2,c3,c4,c5,c11⟩,t0,t1,t2,t3⟩:=HC.out W hSw);go_simp;try rfl
     try simp only[s4]
     refine tl 24 ?v107 rfl ?q107 ?r107
     case q107=>intro W hSw;(try obtain⟨⟨c0,c1,c2,c3,c4,c5,c11⟩,t0,t1,t2,t3⟩:=HC.out W hSw);go_simp;try rfl
     try simp only[s4]
     refine tl 25 ?v108 rfl ?q108 ?r108
     case q108=>intro W hSw;go_simp;try rfl
     try simp only[s4]
     refine tl 26 ?v109 rfl ?q109 ?r109
     case q109=>intro W hSw;go_simp;try rfl
     try simp only[s4]
     refine tl 27 ?v110 rfl ?q110 ?r110
     case q110=>intro W hSw;go_simp;try rfl
     try simp only[s4]
     refine tl 28 ?v111 rfl ?q111 ?r111
     case q111=>intro W hSw;(try obtain⟨⟨c0,c1,c2,c3,c4,c5,c11⟩,t0,t1,t2,t3⟩:=HC.out W hSw);go_simp;try rfl
     try simp only[s4]
     refine tl 29 ?v112 rfl ?q112 ?r112
     case q112=>intro W hSw;go_simp;try rfl
     try simp only[s4]
     refine tl 30 ?v113 rfl ?q113 ?r113
     case q113=>intro W hSw;go_simp;try rfl
     try simp only[s4]
     refine tl 31 ?v114 rfl ?q114 ?r114
     case q114=>intro W hSw;go_simp;try rfl
     try simp only[s4]
     refine tl 32 ?v115 rfl ?q115 ?r115
     case q115=>intro W hSw;go_simp;try rfl
     try simp only[s4]
     refine tl 33 ?v116 rfl ?q116 ?r116
     case q116=>intro W hSw;(try obtain⟨⟨c0,c1,c2,c3,c4,c5,c11⟩,t0,t1,t2,t3⟩:=HC.out W hSw);go_simp;try rfl
     try simp only[s4]
     refine rl 34 rfl (fun K hK=>?_);go_simp
     go_wp2_with (go_at_call 31;refine (HSm.out _ hY_).mono ?_;rintro r wa ⟨rfl,ba⟩)
     refine hK.out _ _ (hY_.trans (Fr.b0 ba) q4_) (fun hY_=>?_);clear hK K
     try simp only[s4]
     refine tl 35 ?v117 rfl ?q117 ?r117
     case q117=>intro W hSw;go_simp;try rfl
     try simp only[s4]
     refine tl 36 ?v118 rfl ?q118 ?r118
     case q118=>intro W hSw;go_simp;try rfl
     try simp only[s4]
     refine tl 37 ?v119 rfl ?q119 ?r119
     case q119=>intro W hSw;go_simp;try rfl
     try simp only[s4]
     refine tl 38 ?v120 rfl ?q120 ?r120
     case q120=>intro W hSw;go_simp;try rfl
     try simp only[s4]
     refine tl 39 ?v121 rfl ?q121 ?r121
     case q121=>intro W hSw;(try obtain⟨⟨c0,c1,c2,c3,c4,c5,c11⟩,t0,t1,t2,t3⟩:=HC.out W hSw);go_simp;try rfl
     try simp only[s4]
     refine tl 40 ?v122 rfl ?q122 ?r122
     case q122=>intro W hSw;(try obtain⟨⟨c0,c1,c2,c3,c4,c5,c11⟩,t0,t1,t2,t3⟩:=HC.out W hSw);go_simp;try rfl
     try simp only[s4]
     refine tl 41 ?v123 rfl ?q123 ?r123
     case q123=>intro W hSw;(try obtain⟨⟨c0,c1,c2,c3,c4,c5,c11⟩,t0,t1,t2,t3⟩:=HC.out W hSw);go_simp;try rfl
     try simp only[s4]
     refine tl 42 ?v124 rfl ?q124 ?r124
     case q124=>intro W hSw;go_simp;try rfl
     try simp only[s4]
     refine tl 43 ?v125 rfl ?q125 ?r125
     case q125=>intro W hSw;go_simp;try rfl
     try simp only[s4]
     refine tl 44 ?v126 rfl ?q126 ?r126
     case q126=>intro W hSw;go_simp;try rfl
     try simp only[s4]
     refine tl 45 ?v127 rfl ?q127 ?r127
     case q127=>intro W hSw;(try obtain⟨⟨c0,c1,c2,c3,c4,c5,c11⟩,t0,t1,t2,t3⟩:=HC.out W hSw);go_simp;try rfl
     try simp only[s4]
     refine tl 46 ?v128 rfl ?q128 ?r128
     case q128=>intro W hSw;go_simp;try rfl
     try simp only[s4]
     refine tl 47 ?v129 rfl ?q129 ?r129
     case q129=>intro W hSw;go_simp;try rfl
     try simp only[s4]
     refine tl 48 ?v130 rfl ?q130 ?r130
     case q130=>intro W hSw;go_simp;try rfl
     try simp only[s4]
     refine tl 49 ?v131 rfl ?q131 ?r131
     case q131=>intro W hSw;(try obtain⟨⟨c0,c1,c2,c3,c4,c5,c11⟩,t0,t1,t2,t3⟩:=HC.out W hSw);go_simp;try rfl
     try simp only[s4]
     refine rl 50 rfl (fun K hK=>?_);go_simp
     go_wp2_with (go_at_call 33;refine (HAl2.out _ hY_).mono ?_;rintro r wb ⟨⟨R2,cs2,rfl,ho2⟩,bb⟩)
     have Ho2:=q0_ ho2;clear ho2;refine hK.out _ _ (hY_.trans (Fr.b0 bb) q4_) (fun hY_=>?_);clear hK K
     try simp only[s4]
     refine rl 51 rfl (fun K hK=>?_);go_simp
     go_wp2_with (go_at_call 32;refine (HSi.out _ R2 cs2 hY_ (Rd.of_own Ho2.out)).mono ?_;rintro r wc ⟨rfl,bc⟩)
     refine hK.out _ _ (hY_.trans (Fr.b0 bc) q4_) (fun hY_=>?_);clear hK K
     try simp only[s4]
     refine tl 52 ?v132 rfl ?q132 ?r132
     case q132=>intro W hSw;go_simp;try rfl
     try simp only[s4]
     refine tl 53 ?v133 rfl ?q133 ?r133
     case q133=>intro W hSw;go_simp;try rfl
     try simp only[s4]
     refine wpAnyH_done (by kernel_rfl) ?_ _;have F6:=q0_ hY_;clear hY_ ba bb bc;obtain⟨sA,sc,sB,sd,T_,ct_,tb_,hI⟩:=HS5.out;have HI:=q0_ hI;clear hI
     have HC6:Hid (∀ W,Fr (fun _=>False) wc W→(W.cell? ⟨cb,6,none⟩=some (.string nm2)∧W.cell? ⟨cb,7,none⟩=some (.slice a.tA n2 a.tc)∧W.cell? ⟨cb,8,none⟩=some (.slice a.sA m2 a.sc)∧W.cell? ⟨cb,9,none⟩=some (.int .i64 bd)∧W.cell? ⟨cb,10,none⟩=some (.int .i64 dn))∧(W.cell? ⟨s,0,none⟩=some (.string nm2)∧W.cell? ⟨s,1,none⟩=some (.slice sA n2 sc)∧W.cell? ⟨s,2,none⟩=some (.slice sB m2 sd))):=fun W f=>by
      have b:=HX5.out.fr (F6.out.trans f q4_) (fun h=>h);have e:=HI.out.blk.fr (F6.out.trans f q4_) (fun h=>h);have e0:=e.cell 0;have e1:=e.cell 1;have e2:=e.cell 2;obtain⟨v1,v2,v3,v4,v5⟩:=HSv.out;simp only[q1_,q2_,q3_,v1,v2,v3,HN2.out,HM2.out] at e0 e1 e2;exact⟨⟨b.cell 6,b.cell 7,b.cell 8,b.cell 9,b.cell 10⟩,e0,e1,e2⟩
     have HSm2:Hid (∀ W,Fr (fun _=>False) wc W→Calls prog 31 #[.agg #[.string nm2,.slice a.tA n2 a.tc],.agg #[.string nm2,.slice sA n2 sc]] W fun r w'=>r=.returned (.bool true)∧Below W.heap.size W w'):=fun W f=>by
      obtain⟨v1,v2,v3,v4,v5⟩:=HSv.out;have k:=(Hin.out.fr0 (F5.out.trans (F6.out.trans f q4_) q4_)).rt;have k1:Rd W 4 a.tA a.tn (zag ts2):=k;rw[HLe.out.2.1.1] at k1;have k2:=Rd.of_own (zab HI.out.tiers (F6.out.trans f q4_));rw[v2,HN2.out] at k2;have:=zcn nm2 nm2 ts2 ts2 a.tA n2 a.tc sA n2 sc W k1 k2 (by omega) (by omega);unfold zcZ at this;simpa using this
     have HSi2:Hid (∀ W,Fr (fun _=>False) wc W→Calls prog 32 #[.slice a.sA m2 a.sc,.slice sB m2 sd] W fun r w'=>r=.returned (.bool true)∧Below W.heap.size W w'):=fun W f=>by
      obtain⟨v1,v2,v3,v4,v5⟩:=HSv.out;have k:=(Hin.out.fr0 (F5.out.trans (F6.out.trans f q4_) q4_)).rs;have k1:Rd W 1 a.sA a.sn (zaU ss2):=k;rw[HLe.out.2.1.2] at k1;have k2:=Rd.of_own (zab HI.out.srcs (F6.out.trans f q4_));rw[v3,HM2.out] at k2;have:=zb2 ss2 ss2 a.sA m2 a.sc sB m2 sd W (by rw[za1];exact k1) (by rw[za1];exact k2) (by omega) (by omega);simpa using this
     have HBd:Hid (∀ W,Fr (fun _=>False) wc W→Calls prog 34 #[.pointer (some ⟨s,0,none⟩)] W fun r w'=>r=.returned (.int .i64 bd)∧W=w'):=fun W f=>by
      have:=zed s base S W (HS5.out.fr0 (F6.out.trans f q4_));rw[HSv.out.2.2.2.1] at this;exact this
     have HDn:Hid (∀ W,Fr (fun _=>False) wc W→Calls prog 35 #[.pointer (some ⟨s,0,none⟩)] W fun r w'=>r=.returned (.int .i64 dn)∧W=w'):=fun W f=>by
      have:=zjr s base S W (HS5.out.fr0 (F6.out.trans f q4_));rw[HSv.out.2.2.2.2] at this;exact this
     go_wp2_with fail;refine wp_region_held_drew (S:=fun W=>Fr (fun _=>False) wc W) (by kernel_rfl) ((Fr.refl _ wc).drew) (fun hY_=>?_);refine tl 0 ?v134 rfl ?q134 ?r134
     case q134=>intro W hSw;go_simp;try rfl
     try simp only[s4]
     refine tl 1 ?v135 rfl ?q135 ?r135
     case q135=>intro W hSw;(try obtain⟨⟨c6,c7,c8,c9,c10⟩,s0,s1,s2⟩:=HC6.out W hSw);go_simp;try rfl
     try simp only[s4]
     refine tl 2 ?v136 rfl ?q136 ?r136
     case q136=>intro W hSw;go_simp;try rfl
     try simp only[s4]
     refine tu 3 rfl ?_
     try simp only[s4]
     refine tu 4 rfl ?_
     try simp only[s4]
     refine tu 5 rfl ?_
     try simp only[s4]
     refine tu 6 rfl ?_
     try simp only[s4]
     refine tu 7 rfl ?_
     try simp only[s4]
     refine tu 8 rfl ?_
     try simp only[s4]
     refine tu 9 rfl ?_
     try simp only[s4]
     refine tu 10 rfl ?_
     try simp only[s4]
     refine tu 11 rfl ?_
     try simp only[s4]
     refine tu 12 rfl ?_
     try simp only[s4]
     refine tu 13 rfl ?_
     try simp only[s4]
     refine tu 14 rfl ?_
     try simp only[s4]
     refine tu 15 rfl ?_
     try simp only[s4]
     refine tu 16 rfl ?_
     try simp only[s4]
     refine tu 17 rfl ?_
     try simp only[s4]
     refine tu 18 rfl ?_
     try simp only[s4]
     refine tu 19 rfl ?_
     try simp only[s4]
     refine tu 20 rfl ?_
     try simp only[s4]
     refine tu 21 rfl ?_
     try simp only[s4]
     refine tu 22 rfl ?_
     try simp only[s4]
     refine tu 23 rfl ?_
     try simp only[s4]
     refine tl 24 ?v137 rfl ?q137 ?r137
     case q137=>intro W hSw;go_simp;try rfl
     try simp only[s4]
     refine tl 25 ?v138 rfl ?q138 ?r138
     case q138=>intro W hSw;go_simp;try rfl
     try simp only[s4]
     refine tl 26 ?v139 rfl ?q139 ?r139
     case q139=>intro W hSw;go_simp;try rfl
     try simp only[s4]
     refine tl 27 ?v140 rfl ?q140 ?r140
     case q140=>intro W hSw;(try obtain⟨⟨c6,c7,c8,c9,c10⟩,s0,s1,s2⟩:=HC6.out W hSw);go_simp;try rfl
     try simp only[s4]
     refine tl 28 ?v141 rfl ?q141 ?r141
     case q141=>intro W hSw;go_simp;try rfl
     try simp only[s4]
     refine tl 29 ?v142 rfl ?q142 ?r142
     case q142=>intro W hSw;go_simp;try rfl
     try simp only[s4]
     refine tl 30 ?v143 rfl ?q143 ?r143
     case q143=>intro W hSw;(try obtain⟨⟨c6,c7,c8,c9,c10⟩,s0,s1,s2⟩:=HC6.out W hSw);go_simp;try rfl
     try simp only[s4]
     refine tl 31 ?v144 rfl ?q144 ?r144
     case q144=>intro W hSw;go_simp;try rfl
     try simp only[s4]
     refine tl 32 ?v145 rfl ?q145 ?r145
     case q145=>intro W hSw;go_simp;try rfl
     try simp only[s4]
     refine tl 33 ?v146 rfl ?q146 ?r146
     case q146=>intro W hSw;go_simp;try rfl
     try simp only[s4]
     refine tl 34 ?v147 rfl ?q147 ?r147
     case q147=>intro W hSw;go_simp;try rfl
     try simp only[s4]
     refine tl 35 ?v148 rfl ?q148 ?r148
     case q148=>intro W hSw;(try obtain⟨⟨c6,c7,c8,c9,c10⟩,s0,s1,s2⟩:=HC6.out W hSw);go_simp;try rfl
     try simp only[s4]
     refine rl 36 rfl (fun K hK=>?_);go_simp
     go_wp2_with (go_at_call 31;refine (HSm2.out _ hY_).mono ?_;rintro r wd ⟨rfl,bd_⟩)
     refine hK.out _ _ (hY_.trans (Fr.b0 bd_) q4_) (fun hY_=>?_);clear hK K
     try simp only[s4]
     refine tl 37 ?v149 rfl ?q149 ?r149
     case q149=>intro W hSw;go_simp;try rfl
     try simp only[s4]
     refine tl 38 ?v150 rfl ?q150 ?r150
     case q150=>intro W hSw;go_simp;try rfl
     try simp only[s4]
     refine tl 39 ?v151 rfl ?q151 ?r151
     case q151=>intro W hSw;go_simp;try rfl
     try simp only[s4]
     refine tl 40 ?v152 rfl ?q152 ?r152
     case q152=>intro W hSw;(try obtain⟨⟨c6,c7,c8,c9,c10⟩,s0,s1,s2⟩:=HC6.out W hSw);go_simp;try rfl
     try simp only[s4]
     refine tl 41 ?v153 rfl ?q153 ?r153
     case q153=>intro W hSw;go_simp;try rfl
     try simp only[s4]
     refine tl 42 ?v154 rfl ?q154 ?r154
     case q154=>intro W hSw;go_simp;try rfl
     try simp only[s4]
     refine tl 43 ?v155 rfl ?q155 ?r155
     case q155=>intro W hSw;go_simp;try rfl
     try simp only[s4]
     refine tl 44 ?v156 rfl ?q156 ?r156
     case q156=>intro W hSw;go_simp;try rfl
     try simp only[s4]
     refine tl 45 ?v157 rfl ?q157 ?r157
     case q157=>intro W hSw;(try obtain⟨⟨c6,c7,c8,c9,c10⟩,s0,s1,s2⟩:=HC6.out W hSw);go_simp;try rfl
     try simp only[s4]
     refine rl 46 rfl (fun K hK=>?_);go_simp
     go_wp2_with (go_at_call 32;refine (HSi2.out _ hY_).mono ?_;rintro r we ⟨rfl,be⟩)
     refine hK.out _ _ (hY_.trans (Fr.b0 be) q4_) (fun hY_=>?_);clear hK K
     try simp only[s4]
     refine tl 47 ?v158 rfl ?q158 ?r158
     case q158=>intro W hSw;go_simp;try rfl
     try simp only[s4]
     refine tl 48 ?v159 rfl ?q159 ?r159
     case q159=>intro W hSw;go_simp;try rfl
     try simp only[s4]
     refine tl 49 ?v160 rfl ?q160 ?r160
     case q160=>intro W hSw;go_simp;try rfl
     try simp only[s4]
     refine tl 50 ?v161 rfl ?q161 ?r161
     case q161=>intro W hSw;go_simp;try rfl
     try simp only[s4]
     refine tl 51 ?v162 rfl ?q162 ?r162
     case q162=>intro W hSw;(try obtain⟨⟨c6,c7,c8,c9,c10⟩,s0,s1,s2⟩:=HC6.out W hSw);go_simp;try rfl
     try simp only[s4]
     refine tl 52 ?v163 rfl ?q163 ?r163
     case q163=>intro W hSw;go_simp;try rfl
     try simp only[s4]
     refine rl 53 rfl (fun K hK=>?_);go_simp
     go_wp2_with (go_at_call 34;refine (HBd.out _ hY_).mono ?_;rintro r wf ⟨rfl,rfl⟩)
     refine hK.out _ _ (hY_) (fun hY_=>?_);clear hK K
     try simp only[s4]
     refine tl 54 ?v164 rfl ?q164 ?r164
     case q164=>intro W hSw;(try obtain⟨⟨c6,c7,c8,c9,c10⟩,s0,s1,s2⟩:=HC6.out W hSw);go_simp;try rfl
     try simp only[s4]
     refine tl 55 ?v165 rfl ?q165 ?r165
     case q165=>intro W hSw;go_simp;try rfl
     try simp only[s4]
     refine tl 56 ?v166 rfl ?q166 ?r166
     case q166=>intro W hSw;go_simp;try rfl
     try simp only[s4]
     refine tl 57 ?v167 rfl ?q167 ?r167
     case q167=>intro W hSw;go_simp;try rfl
     try simp only[s4]
     refine tl 58 ?v168 rfl ?q168 ?r168
     case q168=>intro W hSw;(try obtain⟨⟨c6,c7,c8,c9,c10⟩,s0,s1,s2⟩:=HC6.out W hSw);go_simp;try rfl
     try simp only[s4]
     refine tl 59 ?v169 rfl ?q169 ?r169
     case q169=>intro W hSw;go_simp;try rfl
     try simp only[s4]
     refine rl 60 rfl (fun K hK=>?_);go_simp
     go_wp2_with (go_at_call 35;refine (HDn.out _ hY_).mono ?_;rintro r wf ⟨rfl,rfl⟩)
     refine hK.out _ _ (hY_) (fun hY_=>?_);clear hK K
     try simp only[s4]
     refine tl 61 ?v170 rfl ?q170 ?r170
     case q170=>intro W hSw;(try obtain⟨⟨c6,c7,c8,c9,c10⟩,s0,s1,s2⟩:=HC6.out W hSw);go_simp;try rfl
     try simp only[s4]
     refine tl 62 ?v171 rfl ?q171 ?r171
     case q171=>intro W hSw;go_simp;try rfl
     try simp only[s4]
     refine tl 63 ?v172 rfl ?q172 ?r172
     case q172=>intro W hSw;go_simp;try rfl
     try simp only[s4]
     refine tl 64 ?v173 rfl ?q173 ?r173
     case q173=>intro W hSw;go_simp;try rfl
     try simp only[s4]
     refine wpAnyH_done (by kernel_rfl) ?_ _;have F7:=q0_ (F6.out.trans hY_ q4_);clear hY_ bd_ be
     obtain⟨w7,hw7⟩:∃ x,x=we:=⟨_,rfl⟩
     rw[← hw7] at F7;have Hw7:=q0_ hw7;clear hw7
     go_upto_region 26 with fail
     rw[← Hw7.out];have F27:Hid (Fr (fun _=>False) w2 w7):=F5.out.trans F7.out q4_;have Hin7:=q0_ (Hin.out.fr0 F27.out);have HX7:=q0_ (HX5.out.fr F7.out (fun h=>h));have HFW:Hid (Fr (fun _=>False) w w7):=Hfw2.out.trans F27.out q4_;have HPut:=q0_ (zgc Hin7.out (HTB.out.below (HFW.out.below q4_)))
     have hcb:zfj ⟨1,1,now,nm,ts,fl,nm2,ts2,ss2,bd,dn,[]⟩=true:=by rw[zg8];exact HVa.out.1
     have hlen:(zfQ ⟨1,1,now,nm,ts,fl,nm2,ts2,ss2,bd,dn,[]⟩).length≤40000:=by rw[zfP];exact HVa.out.2
     have HG:=q0_ (zi6.of Hin7.out.rng hcb hlen)
     have hpv:zkT ⟨1,1,now,nm,ts,fl,nm2,ts2,ss2,bd,dn,[]⟩=(zaT (zfQ ⟨1,1,now,nm,ts,fl,nm2,ts2,ss2,bd,dn,[]⟩),0):=by unfold zkT;rw[if_pos hcb,if_neg (by omega)]
     rw[hpv] at HPut
     obtain⟨L,hL⟩:∃ L,zfQ ⟨1,1,now,nm,ts,fl,nm2,ts2,ss2,bd,dn,[]⟩=L:=⟨_,rfl⟩
     rw[hL] at HPut HG hlen
     have HLn:Hid (L.length≤1099511627776):=by show _≤_;omega
     dsimp only at HPut;rw[HLe.out.1.1,HLe.out.1.2,HLe.out.2.1.1,HLe.out.2.1.2,HLe.out.2.2] at HPut;clear hcb hlen hpv hL;have x0:w7.cell? ⟨cb,0,none⟩=some (.int .u64 1):=HX7.out.cell 0;have x1:w7.cell? ⟨cb,1,none⟩=some (.int .u64 1):=HX7.out.cell 1;have x2:w7.cell? ⟨cb,2,none⟩=some (.int .i64 now):=HX7.out.cell 2;have x3:w7.cell? ⟨cb,3,none⟩=some (.string nm):=HX7.out.cell 3;have x4:w7.cell? ⟨cb,4,none⟩=some (.slice a.pA n a.pc):=HX7.out.cell 4;have x5:w7.cell? ⟨cb,5,none⟩=some (.slice a.fA n a.fc):=HX7.out.cell 5;have x6:w7.cell? ⟨cb,6,none⟩=some (.string nm2):=HX7.out.cell 6;have x7:w7.cell? ⟨cb,7,none⟩=some (.slice a.tA n2 a.tc):=HX7.out.cell 7;have x8:w7.cell? ⟨cb,8,none⟩=some (.slice a.sA m2 a.sc):=HX7.out.cell 8;have x9:w7.cell? ⟨cb,9,none⟩=some (.int .i64 bd):=HX7.out.cell 9;have x10:w7.cell? ⟨cb,10,none⟩=some (.int .i64 dn):=HX7.out.cell 10;have x11:w7.cell? ⟨cb,11,none⟩=some (.slice a.eA 0 a.ec):=HX7.out.cell 11;go_wp2_with fail;refine (show Calls _ _ _ _ _ from HPut.out).mono ?_;rintro r w8 ⟨rfl,b8⟩;have F8:Hid (Fr (fun _=>False) w w8):=HFW.out.trans (Fr.b0 b8) q4_;have HX8:=q0_ (HX7.out.below b8);have Hin8:=q0_ (Hin7.out.fr0 (Fr.b0 b8));have HGet:=q0_ (ziW L HLn.out w8 (HMX.out.fr F8.out (fun h=>h)) (HTB.out.below (F8.out.below q4_)));clear b8 x0 x1 x2 x3 x4 x5 x6 x7 x8 x9 x10 x11;go_wp2_with fail;refine HGet.out.mono ?_;rintro r w9 ⟨hr,b9⟩;have F9:Hid (Fr (fun _=>False) w w9):=F8.out.trans (Fr.b0 b9) q4_;have HX9:=q0_ (HX8.out.below b9);have Hin9:=q0_ (Hin8.out.fr0 (Fr.b0 b9))
     rcases hr with ⟨d2,a2,rfl,hg2,hq2⟩ | ⟨e,_,_,hno⟩
     rotate_left
     ·exact absurd HG.out (hno _)
     have hpp:zcv.p ⟨1,1,now,nm,ts,fl,nm2,ts2,ss2,bd,dn,[]⟩=d2.p:=zle HG.out hq2;have Hpp:=q0_ hpp;have HG2:=q0_ hg2;clear hg2 hq2 hpp b9;unfold zcB
     go_upto_region 28 with fail
     obtain⟨W10,hW10⟩:∃ W,W=w9.alloc (.cells #[.int .u64 d2.gen,.int .u64 d2.id,.int .i64 d2.now,.string d2.nm,.slice a2.pA a2.pn a2.pc,.slice a2.fA a2.fn a2.fc,.string d2.nm2,.slice a2.tA a2.tn a2.tc,.slice a2.sA a2.sn a2.sc,.int .i64 d2.bound,.int .i64 d2.done,.slice a2.eA a2.en a2.ec] 29):=⟨_,rfl⟩
     rw[← hW10]
     obtain⟨db,hdb⟩:∃ x,x=w9.heap.size:=⟨_,rfl⟩
     rw[← hdb]
     have Y10:Blk W10 db 29 #[.int .u64 d2.gen,.int .u64 d2.id,.int .i64 d2.now,.string d2.nm,.slice a2.pA a2.pn a2.pc,.slice a2.fA a2.fn a2.fc,.string d2.nm2,.slice a2.tA a2.tn a2.tc,.slice a2.sA a2.sn a2.sc,.int .i64 d2.bound,.int .i64 d2.done,.slice a2.eA a2.en a2.ec]:=by rw[hW10,hdb];exact Blk.new _ _ _
     have f910:Fr (fun _=>False) w9 W10:=by rw[hW10];exact Fr.none_alloc _ _
     have F10:Hid (Fr (fun _=>False) w W10):=F9.out.trans f910 q4_;have HX10:=q0_ (HX9.out.fr f910 (fun h=>h));have Hin10:=q0_ (Hin9.out.fr0 f910);have HD10:=q0_ (HG2.out.cin.fr0 f910);have HY10:=q0_ Y10;clear hW10 hdb Y10 f910;go_wp2_with fail;refine (zoL W10).mono ?_;rintro r w11 ⟨rfl,b11⟩
     go_upto_region 29 with fail
     obtain⟨W12,hW12⟩:∃ W,W=w11.alloc (.cells #[.int .u64 0,.int .u64 0,.int .i64 0,.string {data:=#[]},.slice none 0 0,.slice none 0 0,.string {data:=#[]},.slice none 0 0,.slice none 0 0,.int .i64 0,.int .i64 0,.slice none 0 0] 29):=⟨_,rfl⟩
     first
      | rw[← hW12]
      | (change Code.wp _ _ _ _ (w11.alloc (.cells #[.int .u64 0,.int .u64 0,.int .i64 0,.string {data:=#[]},.slice none 0 0,.slice none 0 0,.string {data:=#[]},.slice none 0 0,.slice none 0 0,.int .i64 0,.int .i64 0,.slice none 0 0] 29));rw[← hW12])
     have f1012:Fr (fun _=>False) W10 W12:=by rw[hW12];exact (Fr.b0 b11).alloc _
     have F12:Hid (Fr (fun _=>False) w W12):=F10.out.trans f1012 q4_;have HX12:=q0_ (HX10.out.fr f1012 (fun h=>h));have HY12:=q0_ (HY10.out.fr f1012 (fun h=>h));have Hin12:=q0_ (Hin10.out.fr0 f1012);have HD12:=q0_ (HD10.out.fr0 f1012);clear hW12 f1012 b11;go_wp2_with fail;refine (HAl.out _ F12.out).mono ?_;rintro r w13 ⟨rfl,b13⟩;have F13:Hid (Fr (fun _=>False) w w13):=F12.out.trans (Fr.b0 b13) q4_;have HX13:=q0_ (HX12.out.below b13);have HY13:=q0_ (HY12.out.below b13);have HSa:=q0_ (zj8 (Hin12.out.fr0 (Fr.b0 b13)) (HD12.out.fr0 (Fr.b0 b13)) ⟨zl_ (Hin12.out.fr0 (Fr.b0 b13)) ⟨by show ts.length≤5;rw[HNt.out];exact hn5,by show fl.length≤5;have k:fl.length=a.fn:=Hin12.out.lf;have h:=HLe.out.1.2;omega,by show ts2.length≤5;rw[HN2.out];exact hn25,by show ss2.length≤5;rw[HM2.out];exact hm25,rfl⟩,zlU (Hin12.out.fr0 (Fr.b0 b13)) (HD12.out.fr0 (Fr.b0 b13)) Hpp.out ⟨by show ts.length≤5;rw[HNt.out];exact hn5,by show fl.length≤5;have k:fl.length=a.fn:=Hin12.out.lf;have h:=HLe.out.1.2;omega,by show ts2.length≤5;rw[HN2.out];exact hn25,by show ss2.length≤5;rw[HM2.out];exact hm25,rfl⟩⟩);dsimp only at HSa;rw[HLe.out.1.1,HLe.out.1.2,HLe.out.2.1.1,HLe.out.2.1.2,HLe.out.2.2] at HSa;clear b13;obtain⟨x0,x1,x2,x3,x4,x5,x6,x7,x8,x9,x10,x11⟩:=ziX (show Blk w13 cb 29 #[.int .u64 1,.int .u64 1,.int .i64 now,.string nm,.slice a.pA n a.pc,.slice a.fA n a.fc,.string nm2,.slice a.tA n2 a.tc,.slice a.sA m2 a.sc,.int .i64 bd,.int .i64 dn,.slice a.eA 0 a.ec] from HX13.out);obtain⟨y0,y1,y2,y3,y4,y5,y6,y7,y8,y9,y10,y11⟩:=ziX (show Blk w13 db 29 #[.int .u64 d2.gen,.int .u64 d2.id,.int .i64 d2.now,.string d2.nm,.slice a2.pA a2.pn a2.pc,.slice a2.fA a2.fn a2.fc,.string d2.nm2,.slice a2.tA a2.tn a2.tc,.slice a2.sA a2.sn a2.sc,.int .i64 d2.bound,.int .i64 d2.done,.slice a2.eA a2.en a2.ec] from HY13.out);go_wp2_with fail;refine (show Calls _ _ _ _ _ from HSa.out).mono ?_;rintro r w14 ⟨⟨sb,rfl,hsb⟩,b14⟩;obtain rfl:sb=true:=hsb.2 Hpp.out;have F14:Hid (Fr (fun _=>False) w w14):=F13.out.trans (Fr.b0 b14) q4_;clear b14 hsb x0 y0 x1 y1 x2 y2 x3 y3 x4 y4 x5 y5 x6 y6 x7 y7 x8 y8 x9 y9 x10 y10 x11 y11;go_wp2;go_ret;exact⟨rfl,F14.out.below q4_⟩
end Go.Proofs.YteajonicnkpbbaaGreatDoor
