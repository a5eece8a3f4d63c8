/- Walks of package reach: Start, Cover, All. -/
import Derived.Test.YteajonicnkpbbaaGreatDoorBases
import Derived.Test.YteajonicnkpbbaaGreatDoorSegC
namespace Go.Proofs.YteajonicnkpbbaaGreatDoor
set_option linter.all false
set_option maxHeartbeats 4000000
set_option maxRecDepth 100000
open Go.RowKit Tryz
def zkm(now:Int)(l:List zaa)(fl:List Int)(i t:Int):Int×Bool:=
 if 0≤i∧i<(l.length:Int)∧0≤t then
  match l[i.toNat]? with
  | some x=>(zav t x.every,decide (zii now l fl i≤zav t x.every))
  | none=>(0,false)
 else (0,false)
def zb6(now:Int)(l:List zaa)(fl:List Int):List Int:=(List.range l.length).map fun k=>zaF now l fl k
theorem zlF{now:Int}{l:List zaa}{fl:List Int}{k:Nat}(h:k<l.length):(zb6 now l fl)[k]? =some (zaF now l fl k):=by
 unfold zb6;rw[List.getElem?_map,List.getElem?_range h]
 rfl
theorem zod(now:Int)(hnow:i64 now)(nm:ByteArray)(l:List zaa)(A:Option Addr)(n c:Nat)(fl:List Int)(B:Option Addr)(m d:Nat)(w:World)(hr:Rd w 4 A n (zaf l))(hf:Rd w 1 B m (za6 fl))(hwf:∀ t∈l,t.wf)(hn:n≤1099511627776):
  Calls prog 33 #[zdi now nm A n c B m d] w fun r w'=>(∃ R cs,r=.returned (.slice R n cs)∧w'.ownsRow w.heap.size 3 1 (.slice R n cs) n (za6 (zb6 now l fl)))∧Below w.heap.size w w':=by
 have HV:Hid (∀ (k:Nat),k<n→∀ W,Fr (fun _=>False) w W→Calls prog 110 #[.agg #[.int .i64 now,.string nm,.slice A n c,.slice B m d],.int .i64 k] W fun r w''=>r=.returned (.int .i64 (zaF now l fl k))∧Below W.heap.size W w''):=fun k hk W h=>ziP now hnow nm l A n c fl B m d k W (hr.fr0 h) (hf.fr0 h) hwf hk hn;unfold zdi;have HI:Hid (∀ (i:Int) W,Fr (fun _=>False) w W→Calls prog 110 #[.agg #[.int .i64 now,.string nm,.slice A n c,.slice B m d],.int .i64 i] W fun r w''=>r=.returned (.int .i64 (zii now l fl i))∧Below W.heap.size W w''):=fun i W h=>znf now hnow nm l A n c fl B m d i W (hr.fr0 h) (hf.fr0 h) hwf hn;have HIs:Hid (∀ (i:Int) W,Calls prog 165 #[.agg #[.int .i64 now,.string nm,.slice A n c,.slice B m d],.int .i64 i] W fun r w''=>r=.returned (.bool (decide (0≤i)&&decide (i<n)))∧Below W.heap.size W w''):=fun i W=>zmZ now nm A n c B m d i W;have Hr:=q0_ hr;have Hlen:=q0_ hr.tiers_len;have Hwf:=q0_ hwf
 obtain⟨W1,hW1⟩:∃ W1,W1=w.alloc (.cells #[.int .i64 now,.string nm,.slice A n c,.slice B m d] 84):=⟨_,rfl⟩
 have HW1:=q0_ hW1;have B1:Hid (Blk W1 w.heap.size 84 #[.int .i64 now,.string nm,.slice A n c,.slice B m d]):=hW1▸Blk.new _ _ _
 have F1:Hid (Fr (fun _=>False) w W1):=by show Fr _ _ _;rw[hW1];exact Fr.none_alloc _ _
 have O1:Hid (Own w W1 (fun _=>False)):=by show Own _ _ _;rw[hW1];exact (Own.start w).skip (Fr.none_alloc _ _)
 clear hW1 hr hf hwf HI HIs;obtain⟨i0,hi,hz0,hz1,hz2⟩:=info_parts zcL;go_enter func33,ntmps33;go_wp2_with fail;rw[← HW1.out]
 go_loopw [3,9] (fun o i wr=>∃ (k:Nat) (R:Option Addr) (cs:Nat),k≤n∧i=.int .i64 k∧o=.slice R k cs∧wr.ownsRow w.heap.size 3 1 (.slice R k cs) k (za6 ((zb6 now l fl).take k))∧Blk wr w.heap.size 84 #[.int .i64 now,.string nm,.slice A n c,.slice B m d]∧Own w wr (zag (.slice R k cs))) (fun _ i _=>n-(intOf i).toNat)
 case atStart=>exact⟨0,none,0,Nat.zero_le _,rfl,rfl,World.ownsRow_nil _ _ _ _,B1.out,O1.out.also (fun k hk=>by cases hk)⟩
 case round=>
  obtain⟨k,R,cs,hk,rfl,rfl,hrow,hb2,ho⟩:=hrel;have B2:=q0_ hb2;have Hrow:=q0_ hrow;have Ho:=q0_ ho;clear hb2 hrow ho;have a0:=B2.out.cell 0;have a1:=B2.out.cell 1;have a2:=B2.out.cell 2;have a3:=B2.out.cell 3;simp only[q1_,q2_,q3_] at a0 a1 a2 a3
  by_cases hlt:k<n
  ·have HVk:=q0_ (HV.out k hlt wr (Fr.b0 Ho.out.bel))
   have Hget:=q0_ (zlF (now:=now) (fl:=fl) (show k<l.length by rw[Hlen.out];exact hlt))
   obtain⟨fv,hfv⟩:∃ fv,zaF now l fl k=fv:=⟨_,rfl⟩
   rw[hfv] at HVk Hget;have hw0:=Ho.out.bel.size;clear hfv;go_wp2_with fail;refine HVk.out.mono ?_;rintro r w3 ⟨rfl,b3⟩;have Hrow3:=q0_ (za_ Hrow.out (Fr.b0 b3));have B3:=q0_ (B2.out.below b3);have O3:=q0_ (Ho.out.skip (Fr.b0 b3));have hw3:w.heap.size≤w3.heap.size:=Nat.le_trans hw0 b3.size;clear b3 a0 a1 a2 a3
   go_wp2_with (at_builtin;refine zaq rfl _ _ 26 rfl 3 i0 _ 1 8 underlying26 hi hz0 hz1 hz2 rfl (by decide) (.slice R k cs) k _ rfl w.heap.size (by simp;omega) (za_ Hrow3.out (Fr.none_alloc _ _)) (some ⟨w3.heap.size,0,none⟩) 1 1 [.int .i64 fv] rfl (Rd.newS (by simp) _ _ _ _ rfl) (by simp[Value.oneCell']) ?q1 ?q2 ?_)
   case q1=>unfold maxLen;omega
   case q2=>omega
   intro R6 c6 w6 ho6 hm6 _;have Ho6:=q0_ ho6;have B6:=q0_ ((B3.out.alloc _).fr hm6.fr (zac Hrow3.out B3.out (by decide)));have O6:=q0_ ((O3.out.skip (Fr.none_alloc _ _)).mv hm6);clear ho6 hm6
   go_wp2
   go_roundw
   case rel=>
    refine⟨k+1,R6,c6,by omega,by go_num,rfl,?_,B6.out,O6.out⟩;have h:=Ho6.out;rw[zan Hget.out];unfold za6 at h ⊢;rw[List.map_append];exact h
   case measure=>simp[intOf];omega
  ·obtain rfl:k=n:=by omega
   have hl:(zb6 now l fl).take k=zb6 now l fl:=zbh (by unfold zb6;rw[List.length_map,List.length_range,Hlen.out];exact Nat.le_refl _);rw[hl] at Hrow;clear hl;go_wp2;go_ret;exact⟨⟨R,cs,rfl,Hrow.out⟩,Ho.out.bel⟩
def zdR(now:Int)(l:List zaa)(fl:List Int)(s:zaN):Int:=
 if zau s.name=true∧0≤s.time then
  if now<s.time then 25 else if 0<l.length∧zii now l fl 0≤s.time then 0 else 24
 else 1
structure za5 where
 id:Int
 tier:Int
 shard:Int
 place:Int
 of_:Int
 ba:Option Addr
 bn:Nat
 bc:Nat
 bl:List Int
def za5.cells(x:za5):List Value:=[.int .u64 x.id,.int .i64 x.tier,.int .i64 x.shard,.int .i64 x.place,.int .i64 x.of_,.slice x.ba x.bn x.bc]
def za5.val(x:za5):Value:=.agg #[.int .u64 x.id,.int .i64 x.tier,.int .i64 x.shard,.int .i64 x.place,.int .i64 x.of_,.slice x.ba x.bn x.bc]
def zbN(l:List za5):List Value:=l.flatMap za5.cells
theorem zpE(x:za5):x.cells.length=6:=rfl
structure za5.ok(w:World)(x:za5):Prop where
 id:0≤x.id∧x.id<18446744073709551616
 tier:zbT x.tier
 shard:zbT x.shard
 place:zbT x.place
 of_:zbT x.of_
 b:Rd w 1 x.ba x.bn (za6 x.bl)
 blen:x.bl.length=x.bn
 ble:x.bn≤x.bc
 bmax:x.bc≤maxLen
 bwf:∀ y∈x.bl,zbT y
theorem za5.ok.fr0{w w':World}{x:za5}(h:x.ok w)(f:Fr (fun _=>False) w w'):x.ok w':=⟨h.id,h.tier,h.shard,h.place,h.of_,h.b.fr0 f,h.blen,h.ble,h.bmax,h.bwf⟩
theorem Rd.ent{w:World}{n k:Nat}{A:Option Addr}{l:List za5}(h:Rd w 6 A n (zbN l))(hk:k<n):
  ∃ ad x,A=some ad∧l[k]? =some x∧w.cell? (ad.add (k*6))=some (.int .u64 x.id)∧w.cell? ⟨(ad.add (k*6)).block,(ad.add (k*6)).off+1,none⟩=some (.int .i64 x.tier)∧w.cell? ⟨(ad.add (k*6)).block,(ad.add (k*6)).off+2,none⟩=some (.int .i64 x.shard)∧w.cell? ⟨(ad.add (k*6)).block,(ad.add (k*6)).off+3,none⟩=some (.int .i64 x.place)∧w.cell? ⟨(ad.add (k*6)).block,(ad.add (k*6)).off+4,none⟩=some (.int .i64 x.of_)∧w.cell? ⟨(ad.add (k*6)).block,(ad.add (k*6)).off+5,none⟩=some (.slice x.ba x.bn x.bc):=by
 obtain⟨ad,s,e,hr,hc⟩:=Rd.elem zpE h hk (by decide);refine⟨ad,s,e,hr,?_,?_,?_,?_,?_,?_⟩
 ·have:=hc 0 _ rfl;rwa[zb9] at this
 ·have:=hc 1 _ rfl;rwa[zbW _ _ (by decide)] at this
 ·have:=hc 2 _ rfl;rwa[zbW _ _ (by decide)] at this
 ·have:=hc 3 _ rfl;rwa[zbW _ _ (by decide)] at this
 ·have:=hc 4 _ rfl;rwa[zbW _ _ (by decide)] at this
 ·have:=hc 5 _ rfl;rwa[zbW _ _ (by decide)] at this
structure zbf where
 gen:Int
 id:Int
 now:Int
 nm:ByteArray
 pl:List zaa
 fl:List Int
 nm2:ByteArray
 pl2:List zaa
 src:List Int
 bound:Int
 done:Int
 es:List za5
structure zfI where
 pA:Option Addr
 pn:Nat
 pc:Nat
 fA:Option Addr
 fn:Nat
 fc:Nat
 tA:Option Addr
 tn:Nat
 tc:Nat
 sA:Option Addr
 sn:Nat
 sc:Nat
 eA:Option Addr
 en:Nat
 ec:Nat
def zbU(c:zbf)(a:zfI):Array Value:=#[.int .u64 c.gen,.int .u64 c.id,.int .i64 c.now,.string c.nm,.slice a.pA a.pn a.pc,.slice a.fA a.fn a.fc,.string c.nm2,.slice a.tA a.tn a.tc,.slice a.sA a.sn a.sc,.int .i64 c.bound,.int .i64 c.done,.slice a.eA a.en a.ec]
structure zcn(w:World)(c:zbf)(a:zfI):Prop where
 gen:0≤c.gen∧c.gen<18446744073709551616
 id:0≤c.id∧c.id<18446744073709551616
 now:zbT c.now
 bound:zbT c.bound
 done:zbT c.done
 nm:c.nm.size≤maxLen
 nm2:c.nm2.size≤maxLen
 rp:Rd w 4 a.pA a.pn (zaf c.pl)
 rf:Rd w 1 a.fA a.fn (za6 c.fl)
 rt:Rd w 4 a.tA a.tn (zaf c.pl2)
 rs:Rd w 1 a.sA a.sn (za6 c.src)
 re:Rd w 6 a.eA a.en (zbN c.es)
 lp:c.pl.length=a.pn
 lf:c.fl.length=a.fn
 lt:c.pl2.length=a.tn
 ls:c.src.length=a.sn
 le:c.es.length=a.en
 cp:a.pn≤a.pc∧a.pc≤maxLen
 cf:a.fn≤a.fc∧a.fc≤maxLen
 ct:a.tn≤a.tc∧a.tc≤maxLen
 cs:a.sn≤a.sc∧a.sc≤maxLen
 ce:a.en≤a.ec∧a.ec≤maxLen
 wp:∀ t∈c.pl,t.wf
 wt:∀ t∈c.pl2,t.wf
 wf:∀ x∈c.fl,zbT x
 ws:∀ x∈c.src,zbT x
 we:∀ x∈c.es,x.ok w
theorem zcn.fr0{w w':World}{c:zbf}{a:zfI}(h:zcn w c a)(f:Fr (fun _=>False) w w'):zcn w' c a:=
 ⟨h.gen,h.id,h.now,h.bound,h.done,h.nm,h.nm2,h.rp.fr0 f,h.rf.fr0 f,h.rt.fr0 f,h.rs.fr0 f,h.re.fr0 f,h.lp,h.lf,h.lt,h.ls,h.le,h.cp,h.cf,h.ct,h.cs,h.ce,h.wp,h.wt,h.wf,h.ws,fun x hx=>(h.we x hx).fr0 f⟩
def inB(n most:Int):Bool:=decide (0≤n)&&decide (n≤most)
def zbV(c:zbf):Bool:= !decide (c.nm2.size=0)||decide (0<c.pl2.length)
def zby(c:zbf):Bool:=(!decide (c.gen=0)&&(inB c.now 1099511627776&&(zal c.nm c.pl&&decide (c.fl.length=c.pl.length))))&&c.fl.all (fun f=>inB f 4611686018427387904)
def zax(c:zbf):Bool:=
 if zbV c=true then c.src.all (fun s=>inB s ((c.pl.length:Int)-1))&&(zal c.nm2 c.pl2&&(decide (c.src.length=c.pl2.length)&&(inB c.bound 4096&&inB c.done 100)))
 else decide (c.bound=0)&&(decide (c.done=0)&&decide (c.src.length=0))
def zaQ(cid:Int)(x:za5):Bool:=
 x.bl.all (fun b=>inB b 4095)&&((inB x.tier 9&&(inB x.shard 7&&(decide (1≤x.id)&&decide (x.id≤cid))))&&(decide (x.place=0)&&(decide (x.of_=x.bl.length)&&(decide (1≤x.of_)&&decide (x.of_≤4096)))))
def zaM(l:List za5):List (Int×Int):=l.map fun x=>(x.tier,x.shard)
def zai(l:List za5):List Int:=l.flatMap za5.bl
def zbd(c:zbf):Bool:=zby c&&(zax c&&(decide (c.es.length≤90)&&(c.es.all (zaQ c.id)&&(decide (zaM c.es).Nodup&&decide (zai c.es).Nodup))))
theorem zat{c:zbf}(h:zbd c=true):zby c=true∧zax c=true∧c.es.length≤90∧c.es.all (zaQ c.id)=true∧(zaM c.es).Nodup∧(zai c.es).Nodup:=by
 unfold zbd at h;simpa only[Bool.and_eq_true,decide_eq_true_eq] using h
theorem zcB{c:zbf}(h:zby c=true):c.gen≠0∧inB c.now 1099511627776=true∧c.fl.length=c.pl.length:=by
 unfold zby at h;simp only[Bool.and_eq_true,decide_eq_true_eq,Bool.not_eq_true',decide_eq_false_iff_not] at h;exact⟨h.1.1,h.1.2.1,h.1.2.2.2⟩
theorem zaz{c:zbf}(h:zbd c=true→False):zbd c=false:=by
 cases e:zbd c
 ·rfl
 ·exact (h e).elim
theorem zaG{n m:Int}(h:inB n m=true):0≤n∧n≤m:=by
 unfold inB at h;simpa only[Bool.and_eq_true,decide_eq_true_eq] using h
theorem zi3{n m:Int}(h1:0≤n)(h2:n≤m):inB n m=true:=by
 unfold inB;rw[qa_ h1,qa_ h2]
 rfl
theorem zoR{b:ByteArray}(h:b.size=0):b=ByteArray.empty:=by
 cases b with | mk d=>
 have:d.size=0:=h;have e:d=#[]:=Array.eq_empty_of_size_eq_zero this;rw[e]
 rfl
theorem zqz{b:ByteArray}(h:¬ b.size=0):¬ b.toList=[]:=fun e=>h (by
 rw[Lib.toList_data] at e
 show b.data.size=0
 rw[← Array.length_toList,e]
 rfl)
structure zqB(c:zbf):Prop where
 gen:¬ c.gen=0
 n0:0≤c.now
 n1:c.now≤1099511627776
 ck:zal c.nm c.pl=true
 fl:c.fl.length=c.pl.length
 es:c.es.length≤90
structure znQ(cid:Int)(x:za5):Prop where
 tier:inB x.tier 9=true
 shard:inB x.shard 7=true
 id:1≤x.id∧x.id≤cid
 place:x.place=0
 of_:x.of_=x.bl.length
 lo:1≤x.of_
 hi:x.of_≤4096
theorem zp9{cid:Int}{x:za5}(h:znQ cid x)(hb:x.bl.all (fun b=>inB b 4095)=true):zaQ cid x=true:=by
 unfold zaQ;rw[hb,h.tier,h.shard,qa_ h.id.1,qa_ h.id.2,qa_ h.place,qa_ h.of_,qa_ h.lo,qa_ h.hi]
 rfl
theorem zbB{cid:Int}{x:za5}(h:zaQ cid x=true):znQ cid x:=by
 unfold zaQ at h;simp only[Bool.and_eq_true,decide_eq_true_eq] at h;exact⟨h.2.1.1,h.2.1.2.1,h.2.1.2.2,h.2.2.1,h.2.2.2.1,h.2.2.2.2.1,h.2.2.2.2.2⟩
theorem zo3{cid:Int}{x:za5}(h:zaQ cid x=true):x.bl.all (fun b=>inB b 4095)=true:=by
 unfold zaQ at h;rw[Bool.and_eq_true] at h;exact h.1
theorem zkx{c:zbf}(h:zby c=true):zal c.nm c.pl=true:=by
 unfold zby at h;simp only[Bool.and_eq_true,decide_eq_true_eq] at h;exact h.1.2.2.1
theorem zkw{c:zbf}(h:zby c=true):c.fl.all (fun f=>inB f 4611686018427387904)=true:=by
 unfold zby at h;rw[Bool.and_eq_true] at h;exact h.2
structure zqE(c:zbf):Prop where
 ck:zal c.nm2 c.pl2=true
 len:c.src.length=c.pl2.length
 bound:inB c.bound 4096=true
 done:inB c.done 100=true
structure Chg(c:zbf):Prop extends zqE c where
 src:c.src.all (fun s=>inB s ((c.pl.length:Int)-1))=true
theorem zbv{c:zbf}(h:zax c=true)(hp:zbV c=true):Chg c:=by
 unfold zax at h;rw[if_pos hp] at h;simp only[Bool.and_eq_true,decide_eq_true_eq] at h;exact⟨⟨h.2.1,h.2.2.1,h.2.2.2.1,h.2.2.2.2⟩,h.1⟩
theorem znA{c:zbf}(hp:zbV c=true)(h:zqE c)(hs:c.src.all (fun s=>inB s ((c.pl.length:Int)-1))=true):zax c=true:=by
 unfold zax;rw[if_pos hp,hs,h.ck,qa_ h.len,h.bound,h.done]
 rfl
theorem zqa{c:zbf}(h1:zqB c)(h2:c.fl.all (fun f=>inB f 4611686018427387904)=true)(h3:zax c=true)(h4:c.es.all (zaQ c.id)=true)(h5:(zaM c.es).Nodup)(h6:(zai c.es).Nodup):zbd c=true:=by
 unfold zbd zby;rw[q9_ h1.gen,zi3 h1.n0 h1.n1,h1.ck,qa_ h1.fl,h2,h3,qa_ h1.es,h4,qa_ h5,qa_ h6]
 rfl
theorem zjB{yb:List Int}{m j:Nat}{v bv:Int}{P:Prop}(h:∀ m'<m,∀ b,yb[m']? =some b→(P∨m'<j)→b≠v)(hb:yb[m]? =some bv)(hn:(P∨m<j)→¬ bv=v):∀ m'<m+1,∀ b,yb[m']? =some b→(P∨m'<j)→b≠v:=by
 intro m' hm b hbb ho
 by_cases e:m'=m
 ·subst e
  rw[hb] at hbb
  injection hbb with hbb
  subst hbb;exact hn ho
 ·exact h m' (by omega) b hbb ho
def zjl(c:zbf)(k j:Nat)(v:Int)(q:Nat):Prop:=∀ p<q,∀ y,c.es[p]? =some y→∀ (m:Nat) b,y.bl[m]? =some b→(p≠k∨m<j)→b≠v
theorem zjl.step{c:zbf}{k j q:Nat}{v:Int}{y:za5}(h:zjl c k j v q)(hy:c.es[q]? =some y)(hn:∀ (m:Nat) b,y.bl[m]? =some b→(q≠k∨m<j)→b≠v):zjl c k j v (q+1):=by
 intro p hp z hz m b hb ho
 by_cases e:p=q
 ·subst e
  rw[hy] at hz
  injection hz with hz
  subst hz;exact hn m b hb ho
 ·exact h p (by omega) z hz m b hb ho
theorem zi9{es:List za5}(h:(zai es).Nodup){q k m j:Nat}{x y:za5}{a b:Int}(hy:es[q]? =some y)(hx:es[k]? =some x)(hb:y.bl[m]? =some b)(ha:x.bl[j]? =some a)(e:b=a)(ho:q≠k∨m<j)(hq:q≤k):False:=by
 subst e;unfold zai List.Nodup at h;obtain⟨h1,h2⟩:=List.pairwise_flatMap.1 h
 by_cases hqk:q=k
 ·subst hqk
  rw[hx] at hy
  injection hy with hy
  subst hy
  rcases ho with ho | ho
  ·exact ho rfl
  ·obtain⟨l1,e1⟩:=List.getElem?_eq_some_iff.1 hb
   obtain⟨l2,e2⟩:=List.getElem?_eq_some_iff.1 ha;have:=List.pairwise_iff_getElem.1 (h1 x (List.mem_of_getElem? hx)) m j l1 l2 ho;rw[e1,e2] at this;exact this rfl
 ·obtain⟨l1,e1⟩:=List.getElem?_eq_some_iff.1 hy
  obtain⟨l2,e2⟩:=List.getElem?_eq_some_iff.1 hx;have:=List.pairwise_iff_getElem.1 h2 q k l1 l2 (by omega);rw[e1,e2] at this;exact this b (List.mem_of_getElem? hb) b (List.mem_of_getElem? ha) rfl
theorem znn{es:List za5}(h:(zaM es).Nodup){q k:Nat}{x y:za5}(hy:es[q]? =some y)(hx:es[k]? =some x)(e:y.tier=x.tier∧y.shard=x.shard)(hq:q<k):False:=by
 unfold zaM List.Nodup at h;obtain⟨l1,e1⟩:=List.getElem?_eq_some_iff.1 hy;obtain⟨l2,e2⟩:=List.getElem?_eq_some_iff.1 hx;have:=List.pairwise_iff_getElem.1 h q k (by rw[List.length_map];exact l1) (by rw[List.length_map];exact l2) hq;rw[List.getElem_map,List.getElem_map,e1,e2,e.1,e.2] at this;exact this rfl
theorem zgY{es:List za5}{q:Nat}{t s:Int}{y:za5}(h:∀ p<q,∀ y,es[p]? =some y→¬ (y.tier=t∧y.shard=s))(hy:es[q]? =some y)(hn:¬ (y.tier=t∧y.shard=s)):∀ p<q+1,∀ y,es[p]? =some y→¬ (y.tier=t∧y.shard=s):=by
 intro p hp z hz
 by_cases e:p=q
 ·subst e
  rw[hy] at hz
  injection hz with hz
  subst hz;exact hn
 ·exact h p (by omega) z hz
theorem zjI{es:List za5}{k:Nat}{x:za5}(h:(zaM (es.take k)).Nodup)(hx:es[k]? =some x)(hn:∀ p<k,∀ y,es[p]? =some y→¬ (y.tier=x.tier∧y.shard=x.shard)):(zaM (es.take (k+1))).Nodup:=by
 unfold zaM at h ⊢;rw[zan hx,List.map_append,List.nodup_append];refine⟨h,by simp,fun a ha b hb e=>?_⟩;rw[List.map_singleton,List.mem_singleton] at hb;subst hb;subst e;obtain⟨y,hy,he⟩:=List.mem_map.1 ha;obtain⟨p,hp,hpy⟩:=List.mem_take_iff_getElem.1 hy;refine hn p (by omega) y (by rw[q6_ (by omega),hpy]) ?_;simpa using he
theorem zli{c:zbf}{k j:Nat}{x:za5}{v:Int}(h:(zai (c.es.take k)++x.bl.take j).Nodup)(hx:c.es[k]? =some x)(hv:x.bl[j]? =some v)(hs:zjl c k j v (k+1)):(zai (c.es.take k)++x.bl.take (j+1)).Nodup:=by
 rw[zan hv, ← List.append_assoc,List.nodup_append];refine⟨h,by simp,fun a ha b hb e=>?_⟩;rw[List.mem_singleton] at hb;subst hb;subst e
 rcases List.mem_append.1 ha with ha | ha
 ·unfold zai at ha
  obtain⟨y,hy,hb⟩:=List.mem_flatMap.1 ha;obtain⟨p,hp,hpy⟩:=List.mem_take_iff_getElem.1 hy;obtain⟨m,hm⟩:=List.getElem?_of_mem hb;exact hs p (by omega) y (by rw[q6_ (by omega),hpy]) m a hm (.inl (by omega)) rfl
 ·obtain⟨m,hm,hme⟩:=List.mem_take_iff_getElem.1 ha
  exact hs k (by omega) x hx m a (by rw[q6_ (by omega),hme]) (.inr (by omega)) rfl
def zhE(n:Nat)(X R:Act→World→Prop):Exit→Act→World→Prop
 | .exit k,a,w=>k=n∧X a w
 | .ret,a,w=>R a w
 | _,_,_=>False
theorem zfJ{P:Program}{c:Code}{Q:Exit→Act→World→Prop}{n:Nat}{a:Act}{w:World}(h:Code.wp P c (zhE n (Q (.exit n)) (Q .ret)) a w):Code.wp P c Q a w:=
 Code.wp_mono (fun e a w h=>by
  cases e with
  | exit k=>obtain⟨rfl,h⟩:=h;exact h
  | ret=>exact h
  | normal=>exact h.elim
  | goto l=>exact h.elim
  | panic c=>exact h.elim
  | outgrown=>exact h.elim) h
def cAt:List Nat→Code→Code
 | [],c=>c
 | 0::l,.seq a _=>cAt l a
 | 1::l,.seq _ b=>cAt l b
 | 0::l,.cond _ a _=>cAt l a
 | 1::l,.cond _ _ b=>cAt l b
 | _::l,.block _ c=>cAt l c
 | _::l,.loop c=>cAt l c
 | _::_,c=>c
noncomputable def dvE:Code:=cAt [1,1,1,1,1,0,1,0] (Tryz.f11.body.getD .skip)
noncomputable def dvJ:Code:=cAt [1,1,1,1,1,0,1,0,0,1,0,0,1,1,0,1,0] (Tryz.f11.body.getD .skip)
noncomputable def dvQ:Code:=cAt [1,1,1,1,1,0,1,0,0,1,0,0,1,1,0,1,0,0,1,0,0,1,1,0] (Tryz.f11.body.getD .skip)
noncomputable def dvM:Code:=cAt [1,1,1,1,1,0,1,0,0,1,0,0,1,1,0,1,0,0,1,0,0,1,1,0,0,1,0,0,1,0] (Tryz.f11.body.getD .skip)
noncomputable def dvT:Code:=cAt [1,1,1,1,1,0,1,0,0,1,0,0,1,1,1,1,0] (Tryz.f11.body.getD .skip)
end Go.Proofs.YteajonicnkpbbaaGreatDoor
