/- Walk of sedimentref6.Same: policies are the same. -/
import Derived.Test.YteajonicnkpbbaaGreatDoorCatP
import Derived.Test.YteajonicnkpbbaaGreatDoorLentT
namespace Go.Proofs.YteajonicnkpbbaaGreatDoor
set_option linter.all false
set_option maxHeartbeats 8000000
set_option maxRecDepth 100000
open Go.RowKit Tryz
theorem znm(d:Nat)(x y:zaa)(w:World):(Op.equalIn (d+2) 99 x.val y.val).run prog w=.ok (zdQ x y) w:=by
 have hu:prog.underlying 99=some (.struct (prog.fieldsOf 99)):=by kernel_rfl
 have hp:prog.stoodInHeld 99=false:=by kernel_rfl
 have hf:(prog.fieldsOf 99).toList=[⟨"Name",9,0,false, "", "",0⟩,⟨"Every",3,1,false, "", "",16⟩,⟨"Keep",3,2,false, "", "",24⟩,⟨"Shards",3,3,false, "", "",32⟩]:=by kernel_rfl
 unfold zaa.val zdQ;rw[run_equalIn_struct (P:=prog) w (d+1) _ _ _ hu hp,hf];simp[Op.eqFields,part,zhD d,zj2 d]
 by_cases h1:x.name.toList=y.name.toList<;>by_cases h2:x.every=y.every<;>by_cases h3:x.keep=y.keep<;>by_cases h4:x.shards=y.shards<;>simp[h1,h2,h3,h4]
theorem zfS(x y:zaa)(w:World):(binOp .neq 99 x.val y.val).run prog w=.ok (.bool (!zdQ x y)) w:=by
 have h:=znm 9998 x y w;unfold zaa.val at h ⊢;rw[run_neq_struct,h]
 rfl
theorem zju{x y:zaa}(h:x=y)(w:World):(binOp .neq 99 x.val y.val).run prog w=.ok (.bool false) w:=by rw[zfS,((zcu x y).2 h)];rfl
theorem zix{x y:zaa}(h:x≠y)(w:World):(binOp .neq 99 x.val y.val).run prog w=.ok (.bool true) w:=by
 rw[zfS]
 cases hb:zdQ x y
 ·rfl
 ·exact absurd ((zcu x y).1 hb) h
theorem zff(na nb:ByteArray)(la lb:List zaa)(A:Option Addr)(n c:Nat)(B:Option Addr)(m d:Nat)(w:World)(ha:Rd w 4 A n (zaf la))(hb:Rd w 4 B m (zaf lb))(hn:n≤1099511627776)(hm:m≤1099511627776):
  Calls prog 31 #[zdw na A n c,zdw nb B m d] w fun r w'=>r=.returned (.bool (decide (na=nb)&&decide (la=lb)))∧Below w.heap.size w w':=by
 have Ha:=q0_ ha;have Hb:=q0_ hb;have hla:=q0_ ha.tiers_len;have hlb:=q0_ hb.tiers_len;clear ha hb;have B0:=q0_ ((Blk.new w 25 #[.string na,.slice A n c]).alloc (.cells #[.string nb,.slice B m d] 25));have B1:=q0_ (Blk.new' (w:=w.alloc (.cells #[.string na,.slice A n c] 25)) (k:=w.heap.size+1) (by simp) 25 #[.string nb,.slice B m d]);have O:=q0_ (((Own.start w).skip (Fr.none_alloc w (.cells #[.string na,.slice A n c] 25))).skip (Fr.none_alloc _ (.cells #[.string nb,.slice B m d] 25)));unfold zdw
 by_cases hnn:na=nb
 ·subst hnn
  by_cases hnm:n=m
  ·subst hnm
   have s2:(na.toList==na.toList)=true:=by simp
   have s3:(na.toList != na.toList)=false:=by simp
   go_enter func31,ntmps31;go_wp2_with fail
   go_loopw [5] (fun i wr=>∃ k:Nat,k≤n∧i=.int .i64 k∧Hid (la.take k=lb.take k)∧Blk wr w.heap.size 25 #[.string na,.slice A n c]∧Blk wr (w.heap.size+1) 25 #[.string na,.slice B n d]∧Own w wr (fun _=>False)) (fun i _=>n-(intOf i).toNat)
   case atStart=>exact⟨0,Nat.zero_le _,rfl,rfl,B0.out,B1.out,O.out⟩
   case round=>
    obtain⟨k,hk,rfl,htk,hb0,hb1,ho⟩:=hrel;have Ho:=q0_ ho;have Hb0:=q0_ hb0;have Hb1:=q0_ hb1;have p1:=hb0.cell 1;have q1:=hb1.cell 1;simp only[q1_,q2_,q3_] at p1 q1;clear hb0 hb1
    by_cases hlt:k<n
    ·obtain⟨ad,x,rfl,hx,a0,a1,a2,a3⟩:=(Ha.out.fr0 (Fr.b0 ho.bel)).tier hlt
     obtain⟨bd,y,rfl,hy,b0,b1,b2,b3⟩:=(Hb.out.fr0 (Fr.b0 ho.bel)).tier hlt;have Hx:=q0_ hx;have Hy:=q0_ hy
     have kn:0≤(k:Int)∧(k:Int)<(n:Int):=by omega
     by_cases heq:x=y
     ·have htk2:Hid (la.take (k+1)=lb.take (k+1)):=by show _=_;rw[zan Hx.out,zan Hy.out,htk.out,heq]
      have q:=zju heq;unfold zaa.val at q;clear hx hy ho heq
      go_wp2
      go_quiet (fail)
      go_wp2
      go_roundw
      case rel=>exact⟨k+1,by omega,by go_num,htk2.out,Hb0.out.drewN _,Hb1.out.drewN _,Ho.out.skip (Fr.none_drewN _ _)⟩
      case measure=>simp[intOf];omega
     ·have hne:Hid (decide (la=lb)=false):=by
       refine q9_ fun h=>?_;have h1:=Hx.out;have h2:=Hy.out;rw[h] at h1;rw[h1] at h2;exact heq (Option.some.inj h2)
      have q:=zix heq;unfold zaa.val at q;clear hx hy ho heq
      go_wp2
      go_quiet (fail)
      go_wp2
      go_ret;exact⟨by rw[hne.out,Bool.and_false];rfl,(Ho.out.skip (Fr.none_drewN _ _)).bel⟩
    ·obtain rfl:k=n:=by omega
     have hE:Hid (decide (la=lb)=true):=by
      refine qa_ ?_;have h:=htk.out;rwa[zbh (by rw[hla.out];exact Nat.le_refl _),zbh (by rw[hlb.out];exact Nat.le_refl _)] at h
     clear ho;go_wp2;go_ret;exact⟨by simp[hE.out],Ho.out.bel⟩
  ·have hne:Hid (decide (la=lb)=false):=by
    refine q9_ fun h=>hnm ?_;have h1:=hla.out;rw[h] at h1;have h2:=hlb.out;omega
   have s2:(na.toList==na.toList)=true:=by simp
   have s3:(na.toList != na.toList)=false:=by simp
   have g1:((n:Int) != (m:Int))=true:=by simp;omega
   have g2:(n != m)=true:=by simpa using hnm
   go_enter func31,ntmps31;go_wp2;go_ret;exact⟨by rw[hne.out,Bool.and_false];rfl,O.out.bel⟩
 ·have hnl:na.toList≠nb.toList:=fun h=>hnn (toList_inj h)
  have s2:(na.toList==nb.toList)=false:=by simpa using hnl
  have s3:(na.toList != nb.toList)=true:=by simpa using hnl
  have s4:decide (na.toList=nb.toList)=false:=q9_ hnl;go_enter func31,ntmps31;go_wp2;go_ret;exact⟨by rw[q9_ hnn];rfl,O.out.bel⟩
def ziq(c d:zbf)(r:Ending):Prop:=∃ b,r=.returned (.bool b)∧(b=true↔c.p=d.p)
theorem ziq.no{c d:zbf}(h:¬ c.p=d.p):ziq c d (.returned (.bool false)):=⟨false,rfl,⟨fun e=>(by cases e),fun e=>absurd e h⟩⟩
theorem ziq.yes{c d:zbf}(h:c.p=d.p):ziq c d (.returned (.bool true)):=⟨true,rfl,⟨fun _=>h,fun _=>rfl⟩⟩
structure zqJ(c:zbf)(a:zfI):Prop where
 p:a.pn≤1099511627776
 t:a.tn≤1099511627776
 f:a.fn≤1099511627776
 s:a.sn≤1099511627776
 e:∀ x∈c.es,x.bn≤1099511627776
structure zkf(c d:zbf):Prop where
 gen:c.gen=d.gen
 id:c.id=d.id
 now:c.now=d.now
 bound:c.bound=d.bound
 done:c.done=d.done
 p:c.nm=d.nm∧c.pl=d.pl
 t:c.nm2=d.nm2∧c.pl2=d.pl2
 f:c.fl=d.fl
 s:c.src=d.src
theorem zkf.p_{c d:zbf}(h:zkf c d)(e:c.es.map za5.p=d.es.map za5.p):c.p=d.p:=by
 unfold zbf.p;rw[h.gen,h.id,h.now,h.bound,h.done,h.p.1,h.p.2,h.t.1,h.t.2,h.f,h.s,e]
def za5.hval(x:za5):Value:=.agg #[.int .u64 x.id,.int .i64 x.tier,.int .i64 x.shard,.int .i64 x.place,.int .i64 x.of_]
def hdQ(x y:za5):Bool:=(x.id==y.id)&&((x.tier==y.tier)&&((x.shard==y.shard)&&((x.place==y.place)&&(x.of_==y.of_))))
theorem zlK(d:Nat)(x y:za5)(w:World):(Op.equalIn (d+2) 54 x.hval y.hval).run prog w=.ok (hdQ x y) w:=by
 have hu:prog.underlying 54=some (.struct (prog.fieldsOf 54)):=by kernel_rfl
 have hp:prog.stoodInHeld 54=false:=by kernel_rfl
 have hf:(prog.fieldsOf 54).toList=[⟨"Id",22,0,false, "", "",0⟩,⟨"Tier",3,1,false, "", "",8⟩,⟨"Shard",3,2,false, "", "",16⟩,⟨"Place",3,3,false, "", "",24⟩,⟨"Of",3,4,false, "", "",32⟩]:=by kernel_rfl
 unfold za5.hval hdQ;rw[run_equalIn_struct (P:=prog) w (d+1) _ _ _ hu hp,hf];simp[Op.eqFields,part,zj2 d,zpD d]
 by_cases h1:x.id=y.id<;>by_cases h2:x.tier=y.tier<;>by_cases h3:x.shard=y.shard<;>by_cases h4:x.place=y.place<;>by_cases h5:x.of_=y.of_<;>simp[h1,h2,h3,h4,h5]
theorem ziK(x y:za5)(w:World):(binOp .neq 54 (.agg #[.int .u64 x.id,.int .i64 x.tier,.int .i64 x.shard,.int .i64 x.place,.int .i64 x.of_]) (.agg #[.int .u64 y.id,.int .i64 y.tier,.int .i64 y.shard,.int .i64 y.place,.int .i64 y.of_])).run prog w=.ok (.bool (!hdQ x y)) w:=by
 have h:=zlK 9998 x y w;unfold za5.hval at h;rw[run_neq_struct,h]
 rfl
theorem zp3{x y:za5}(h:x.p=y.p):hdQ x y=true:=by
 have h1:x.id=y.id:=congrArg zkh.id h;have h2:x.tier=y.tier:=congrArg zkh.tier h;have h3:x.shard=y.shard:=congrArg zkh.shard h;have h4:x.place=y.place:=congrArg zkh.place h;have h5:x.of_=y.of_:=congrArg zkh.of_ h;unfold hdQ;simp[h1,h2,h3,h4,h5]
theorem zp4{x y:za5}(h:hdQ x y=true)(hb:x.bl=y.bl):x.p=y.p:=by
 unfold hdQ at h;simp only[Bool.and_eq_true,beq_iff_eq] at h;obtain⟨h1,h2,h3,h4,h5⟩:=h;unfold za5.p;rw[h1,h2,h3,h4,h5,hb]
section
variable {w:World} {c d:zbf} {a b:zfI}
theorem znt(h:zcn w c a)(k:zcn w d b)(hS:zqJ c a∧zqJ d b):Calls prog 17 #[.agg #[.int .u64 c.gen,.int .u64 c.id,.int .i64 c.now,.string c.nm,.slice a.pA a.pn a.pc,.slice a.fA a.fn a.fc,.string c.nm2,.slice a.tA a.tn a.tc,.slice a.sA a.sn a.sc,.int .i64 c.bound,.int .i64 c.done,.slice a.eA a.en a.ec],.agg #[.int .u64 d.gen,.int .u64 d.id,.int .i64 d.now,.string d.nm,.slice b.pA b.pn b.pc,.slice b.fA b.fn b.fc,.string d.nm2,.slice b.tA b.tn b.tc,.slice b.sA b.sn b.sc,.int .i64 d.bound,.int .i64 d.done,.slice b.eA b.en b.ec]] w fun r w'=>ziq c d r∧Below w.heap.size w w':=by
 obtain⟨pA,pn,pc,fA,fn,fc,tA,tn,tc,sA,sn,sc,eA,en,ec⟩:=a;obtain⟨pA2,pn2,pc2,fA2,fn2,fc2,tA2,tn2,tc2,sA2,sn2,sc2,eA2,en2,ec2⟩:=b;dsimp only
 obtain⟨W0,hW0⟩:∃ W0,W0=w.alloc (.cells #[.int .u64 c.gen,.int .u64 c.id,.int .i64 c.now,.string c.nm,.slice pA pn pc,.slice fA fn fc,.string c.nm2,.slice tA tn tc,.slice sA sn sc,.int .i64 c.bound,.int .i64 c.done,.slice eA en ec] 29):=⟨_,rfl⟩
 obtain⟨W1,hW1⟩:∃ W1,W1=W0.alloc (.cells #[.int .u64 d.gen,.int .u64 d.id,.int .i64 d.now,.string d.nm,.slice pA2 pn2 pc2,.slice fA2 fn2 fc2,.string d.nm2,.slice tA2 tn2 tc2,.slice sA2 sn2 sc2,.int .i64 d.bound,.int .i64 d.done,.slice eA2 en2 ec2] 29):=⟨_,rfl⟩
 have HW0:=q0_ hW0;have HW1:=q0_ hW1
 have F1:Hid (Fr (fun _=>False) w W1):=by show Fr _ _ _;rw[hW1,hW0];exact (Fr.none_alloc _ _).alloc _
 have X0:Hid (Blk W1 w.heap.size 29 #[.int .u64 c.gen,.int .u64 c.id,.int .i64 c.now,.string c.nm,.slice pA pn pc,.slice fA fn fc,.string c.nm2,.slice tA tn tc,.slice sA sn sc,.int .i64 c.bound,.int .i64 c.done,.slice eA en ec]):=by show Blk _ _ _ _;rw[hW1,hW0];exact (Blk.new _ _ _).alloc _
 have X1:Hid (Blk W1 (w.heap.size+1) 29 #[.int .u64 d.gen,.int .u64 d.id,.int .i64 d.now,.string d.nm,.slice pA2 pn2 pc2,.slice fA2 fn2 fc2,.string d.nm2,.slice tA2 tn2 tc2,.slice sA2 sn2 sc2,.int .i64 d.bound,.int .i64 d.done,.slice eA2 en2 ec2]):=by show Blk _ _ _ _;rw[hW1];exact Blk.new' (by rw[hW0];show _=(w.heap.push _).size;rw[Array.size_push]) _ _
 have hb1:=hS.1;have hb2:=hS.2;have HS1:=q0_ (fun (W:World) (f:Fr (fun _=>False) W1 W)=>zff c.nm d.nm c.pl d.pl pA pn pc pA2 pn2 pc2 W (Rd.fr0 (Rd.fr0 h.rp F1.out) f) (Rd.fr0 (Rd.fr0 k.rp F1.out) f) hb1.p hb2.p);have HS2:=q0_ (fun (W:World) (f:Fr (fun _=>False) W1 W)=>zff c.nm2 d.nm2 c.pl2 d.pl2 tA tn tc tA2 tn2 tc2 W (Rd.fr0 (Rd.fr0 h.rt F1.out) f) (Rd.fr0 (Rd.fr0 k.rt F1.out) f) hb1.t hb2.t);have HI1:=q0_ (fun (W:World) (f:Fr (fun _=>False) W1 W)=>zcG c.fl d.fl fA fn fc fA2 fn2 fc2 W (by rw[zbr];exact Rd.fr0 (Rd.fr0 h.rf F1.out) f) (by rw[zbr];exact Rd.fr0 (Rd.fr0 k.rf F1.out) f) hb1.f hb2.f);have HI2:=q0_ (fun (W:World) (f:Fr (fun _=>False) W1 W)=>zcG c.src d.src sA sn sc sA2 sn2 sc2 W (by rw[zbr];exact Rd.fr0 (Rd.fr0 h.rs F1.out) f) (by rw[zbr];exact Rd.fr0 (Rd.fr0 k.rs F1.out) f) hb1.s hb2.s);have HRe:Hid (∀ W,Fr (fun _=>False) W1 W→Rd W 6 eA en (zbN c.es)):=fun W f=>Rd.fr0 (Rd.fr0 h.re F1.out) f;have HRe2:Hid (∀ W,Fr (fun _=>False) W1 W→Rd W 6 eA2 en2 (zbN d.es)):=fun W f=>Rd.fr0 (Rd.fr0 k.re F1.out) f
 have Hok:Hid (∀ x∈c.es,(∀ W,Fr (fun _=>False) W1 W→Rd W 1 x.ba x.bn (zaU x.bl))∧x.bn≤1099511627776):=fun x hx=>⟨fun W f=>by rw[zbr];exact Rd.fr0 (Rd.fr0 (h.we x hx).b F1.out) f,hb1.e x hx⟩
 have Hok2:Hid (∀ x∈d.es,(∀ W,Fr (fun _=>False) W1 W→Rd W 1 x.ba x.bn (zaU x.bl))∧x.bn≤1099511627776):=fun x hx=>⟨fun W f=>by rw[zbr];exact Rd.fr0 (Rd.fr0 (k.we x hx).b F1.out) f,hb2.e x hx⟩
 have Hle:Hid (c.es.length=en):=h.le;have Hle2:Hid (d.es.length=en2):=k.le
 have hme:en≤9223372036854775807:=by have h1:en≤ec∧ec≤maxLen:=h.ce;unfold maxLen at h1;omega
 have hme2:en2≤9223372036854775807:=by have h1:en2≤ec2∧ec2≤maxLen:=k.ce;unfold maxLen at h1;omega
 unfold zdw at HS1 HS2;clear h k hS hb1 hb2 hW0 hW1;go_enter func17,ntmps17
 go_upto_region 1 with fail
 rw[← HW0.out, ← HW1.out]
 go_cut [79] (fun s79 wx=>∃ (b:Bool) (W2:World),W2=wx∧s79=.bool b∧(b=true→¬ c.p=d.p)∧(b=false→zkf c d∧en=en2)∧Fr (fun _=>False) W1 wx)
 case first=>
  have x0:W1.cell? ⟨w.heap.size,0,none⟩=some (.int .u64 c.gen):=(X0.out.fr (Fr.refl (fun _=>False) W1) (fun h=>h)).cell 0;have y0:W1.cell? ⟨w.heap.size+1,0,none⟩=some (.int .u64 d.gen):=(X1.out.fr (Fr.refl (fun _=>False) W1) (fun h=>h)).cell 0;have x1:W1.cell? ⟨w.heap.size,1,none⟩=some (.int .u64 c.id):=(X0.out.fr (Fr.refl (fun _=>False) W1) (fun h=>h)).cell 1;have y1:W1.cell? ⟨w.heap.size+1,1,none⟩=some (.int .u64 d.id):=(X1.out.fr (Fr.refl (fun _=>False) W1) (fun h=>h)).cell 1;have x2:W1.cell? ⟨w.heap.size,2,none⟩=some (.int .i64 c.now):=(X0.out.fr (Fr.refl (fun _=>False) W1) (fun h=>h)).cell 2;have y2:W1.cell? ⟨w.heap.size+1,2,none⟩=some (.int .i64 d.now):=(X1.out.fr (Fr.refl (fun _=>False) W1) (fun h=>h)).cell 2;have x9:W1.cell? ⟨w.heap.size,9,none⟩=some (.int .i64 c.bound):=(X0.out.fr (Fr.refl (fun _=>False) W1) (fun h=>h)).cell 9;have y9:W1.cell? ⟨w.heap.size+1,9,none⟩=some (.int .i64 d.bound):=(X1.out.fr (Fr.refl (fun _=>False) W1) (fun h=>h)).cell 9;have x10:W1.cell? ⟨w.heap.size,10,none⟩=some (.int .i64 c.done):=(X0.out.fr (Fr.refl (fun _=>False) W1) (fun h=>h)).cell 10;have y10:W1.cell? ⟨w.heap.size+1,10,none⟩=some (.int .i64 d.done):=(X1.out.fr (Fr.refl (fun _=>False) W1) (fun h=>h)).cell 10;have x3:W1.cell? ⟨w.heap.size,3,none⟩=some (.string c.nm):=(X0.out.fr (Fr.refl (fun _=>False) W1) (fun h=>h)).cell 3;have y3:W1.cell? ⟨w.heap.size+1,3,none⟩=some (.string d.nm):=(X1.out.fr (Fr.refl (fun _=>False) W1) (fun h=>h)).cell 3;have x4:W1.cell? ⟨w.heap.size,4,none⟩=some (.slice pA pn pc):=(X0.out.fr (Fr.refl (fun _=>False) W1) (fun h=>h)).cell 4;have y4:W1.cell? ⟨w.heap.size+1,4,none⟩=some (.slice pA2 pn2 pc2):=(X1.out.fr (Fr.refl (fun _=>False) W1) (fun h=>h)).cell 4
  by_cases p0:c.gen=d.gen
  rotate_left
  ·have g0:(c.gen != d.gen)=true:=by simpa using p0
   have hne:Hid (¬ c.p=d.p):=fun e=>p0 (congrArg zdL.gen e);clear p0;go_wp2
   try go_meet
   exact⟨true,_,rfl,rfl,fun _=>hne.out,fun h=>(by cases h),Fr.refl _ _⟩
  have g0:(c.gen != d.gen)=false:=by simpa using p0
  have P0:=q0_ p0;clear p0
  by_cases p1:c.id=d.id
  rotate_left
  ·have g1:(c.id != d.id)=true:=by simpa using p1
   have hne:Hid (¬ c.p=d.p):=fun e=>p1 (congrArg zdL.id e);clear p1;go_wp2
   try go_meet
   exact⟨true,_,rfl,rfl,fun _=>hne.out,fun h=>(by cases h),Fr.refl _ _⟩
  have g1:(c.id != d.id)=false:=by simpa using p1
  have P1:=q0_ p1;clear p1
  by_cases p2:c.now=d.now
  rotate_left
  ·have g2:(c.now != d.now)=true:=by simpa using p2
   have hne:Hid (¬ c.p=d.p):=fun e=>p2 (congrArg zdL.now e);clear p2;go_wp2
   try go_meet
   exact⟨true,_,rfl,rfl,fun _=>hne.out,fun h=>(by cases h),Fr.refl _ _⟩
  have g2:(c.now != d.now)=false:=by simpa using p2
  have P2:=q0_ p2;clear p2
  by_cases p3:c.bound=d.bound
  rotate_left
  ·have g3:(c.bound != d.bound)=true:=by simpa using p3
   have hne:Hid (¬ c.p=d.p):=fun e=>p3 (congrArg zdL.bound e);clear p3;go_wp2
   try go_meet
   exact⟨true,_,rfl,rfl,fun _=>hne.out,fun h=>(by cases h),Fr.refl _ _⟩
  have g3:(c.bound != d.bound)=false:=by simpa using p3
  have P3:=q0_ p3;clear p3
  by_cases p4:c.done=d.done
  rotate_left
  ·have g4:(c.done != d.done)=true:=by simpa using p4
   have hne:Hid (¬ c.p=d.p):=fun e=>p4 (congrArg zdL.done e);clear p4;go_wp2
   try go_meet
   exact⟨true,_,rfl,rfl,fun _=>hne.out,fun h=>(by cases h),Fr.refl _ _⟩
  have g4:(c.done != d.done)=false:=by simpa using p4
  have P4:=q0_ p4;clear p4;go_wp2_with fail
  obtain⟨v5,hv5⟩:∃ v,(decide (c.nm=d.nm)&&decide (c.pl=d.pl))=v:=⟨_,rfl⟩
  have HV5:=q0_ hv5;clear hv5;refine (HS1.out _ (Fr.refl (fun _=>False) W1)).mono ?_;rw[HV5.out];rintro r u5 ⟨rfl,bb⟩;have G5:Hid (Fr (fun _=>False) W1 u5):=Fr.trans (Fr.refl (fun _=>False) W1) (Fr.b0 bb) q4_;clear bb;clear x0 y0 x1 y1 x2 y2 x9 y9 x10 y10 x3 y3 x4 y4;have x6:u5.cell? ⟨w.heap.size,6,none⟩=some (.string c.nm2):=(X0.out.fr G5.out (fun h=>h)).cell 6;have y6:u5.cell? ⟨w.heap.size+1,6,none⟩=some (.string d.nm2):=(X1.out.fr G5.out (fun h=>h)).cell 6;have x7:u5.cell? ⟨w.heap.size,7,none⟩=some (.slice tA tn tc):=(X0.out.fr G5.out (fun h=>h)).cell 7;have y7:u5.cell? ⟨w.heap.size+1,7,none⟩=some (.slice tA2 tn2 tc2):=(X1.out.fr G5.out (fun h=>h)).cell 7
  cases v5
  ·have hne:Hid (¬ c.p=d.p):=fun e=>by
    have:=HV5.out;have e0:c.nm=d.nm:=congrArg zdL.nm e;have e1:c.pl=d.pl:=congrArg zdL.pl e;simp[e0,e1] at this
   go_wp2
   try go_meet
   exact⟨true,_,rfl,rfl,fun _=>hne.out,fun h=>(by cases h),G5.out⟩
  go_wp2_with fail
  obtain⟨v6,hv6⟩:∃ v,(decide (c.nm2=d.nm2)&&decide (c.pl2=d.pl2))=v:=⟨_,rfl⟩
  have HV6:=q0_ hv6;clear hv6;refine (HS2.out _ G5.out).mono ?_;rw[HV6.out];rintro r u6 ⟨rfl,bb⟩;have G6:Hid (Fr (fun _=>False) W1 u6):=Fr.trans G5.out (Fr.b0 bb) q4_;clear bb;clear x6 y6 x7 y7;have x5:u6.cell? ⟨w.heap.size,5,none⟩=some (.slice fA fn fc):=(X0.out.fr G6.out (fun h=>h)).cell 5;have y5:u6.cell? ⟨w.heap.size+1,5,none⟩=some (.slice fA2 fn2 fc2):=(X1.out.fr G6.out (fun h=>h)).cell 5
  cases v6
  ·have hne:Hid (¬ c.p=d.p):=fun e=>by
    have:=HV6.out;have e0:c.nm2=d.nm2:=congrArg zdL.nm2 e;have e1:c.pl2=d.pl2:=congrArg zdL.pl2 e;simp[e0,e1] at this
   go_wp2
   try go_meet
   exact⟨true,_,rfl,rfl,fun _=>hne.out,fun h=>(by cases h),G6.out⟩
  go_wp2_with fail
  obtain⟨v7,hv7⟩:∃ v,decide (c.fl=d.fl)=v:=⟨_,rfl⟩
  have HV7:=q0_ hv7;clear hv7;refine (HI1.out _ G6.out).mono ?_;rw[HV7.out];rintro r u7 ⟨rfl,bb⟩;have G7:Hid (Fr (fun _=>False) W1 u7):=Fr.trans G6.out (Fr.b0 bb) q4_;clear bb;clear x5 y5;have x8:u7.cell? ⟨w.heap.size,8,none⟩=some (.slice sA sn sc):=(X0.out.fr G7.out (fun h=>h)).cell 8;have y8:u7.cell? ⟨w.heap.size+1,8,none⟩=some (.slice sA2 sn2 sc2):=(X1.out.fr G7.out (fun h=>h)).cell 8
  cases v7
  ·have hne:Hid (¬ c.p=d.p):=fun e=>by
    have:=HV7.out;have e0:c.fl=d.fl:=congrArg zdL.fl e;simp[e0] at this
   go_wp2
   try go_meet
   exact⟨true,_,rfl,rfl,fun _=>hne.out,fun h=>(by cases h),G7.out⟩
  go_wp2_with fail
  obtain⟨v8,hv8⟩:∃ v,decide (c.src=d.src)=v:=⟨_,rfl⟩
  have HV8:=q0_ hv8;clear hv8;refine (HI2.out _ G7.out).mono ?_;rw[HV8.out];rintro r u8 ⟨rfl,bb⟩;have G8:Hid (Fr (fun _=>False) W1 u8):=Fr.trans G7.out (Fr.b0 bb) q4_;clear bb;clear x8 y8;have x11:u8.cell? ⟨w.heap.size,11,none⟩=some (.slice eA en ec):=(X0.out.fr G8.out (fun h=>h)).cell 11;have y11:u8.cell? ⟨w.heap.size+1,11,none⟩=some (.slice eA2 en2 ec2):=(X1.out.fr G8.out (fun h=>h)).cell 11
  cases v8
  ·have hne:Hid (¬ c.p=d.p):=fun e=>by
    have:=HV8.out;have e0:c.src=d.src:=congrArg zdL.src e;simp[e0] at this
   go_wp2
   try go_meet
   exact⟨true,_,rfl,rfl,fun _=>hne.out,fun h=>(by cases h),G8.out⟩
  by_cases p9:en=en2
  rotate_left
  ·have g9:((en:Int) != (en2:Int))=true:=by simp;omega
   have g9b:¬ (en:Int)=(en2:Int):=by omega
   have hne:Hid (¬ c.p=d.p):=fun e=>p9 (by
    have h1:(c.es.map za5.p).length=(d.es.map za5.p).length:=congrArg (fun q=>(zdL.es q).length) e;rw[List.length_map,List.length_map,Hle.out,Hle2.out] at h1
    exact h1)
   clear p9;go_wp2
   try go_meet
   exact⟨true,_,rfl,rfl,fun _=>hne.out,fun h=>(by cases h),G8.out⟩
  subst p9
  have g9:((en:Int) != (en:Int))=false:=by simp
  go_wp2
  try go_meet
  exact⟨false,_,rfl,rfl,fun h=>(by cases h),fun _=>⟨⟨P0.out,P1.out,P2.out,P3.out,P4.out,by simpa using HV5.out,by simpa using HV6.out,by simpa using HV7.out,by simpa using HV8.out⟩,by first | rfl | trivial⟩,G8.out⟩
 case rest=>
 obtain⟨b0,W2,rfl,rfl,h1,h2,hf⟩:=hcut;have F2:=q0_ hf
 cases b0
 rotate_left
 ·have hne:=q0_ (h1 rfl)
  clear h1 h2 hf;go_wp2;go_ret;exact⟨ziq.no hne.out,(F1.out.trans F2.out q4_).below q4_⟩
 obtain⟨htop,hen⟩:=h2 rfl;have HTop:=q0_ htop;clear h1 h2 hf htop;subst hen;clear hme2 HS1 HS2 HI1 HI2;go_wp2_with fail
 go_loopw [5] (fun i wr=>∃ k:Nat,k≤en∧i=.int .i64 k∧Hid (Fr (fun _=>False) W1 wr)∧Hid ((c.es.take k).map za5.p=(d.es.take k).map za5.p)) (fun i _=>en-(intOf i).toNat)
 case atStart=>exact⟨0,Nat.zero_le _,rfl,F2.out,rfl⟩
 case round=>
  obtain⟨k,hk,rfl,hf,hall⟩:=hrel;have Hf:=q0_ hf.out;have Hall:=q0_ hall.out;clear hf hall
  by_cases hlt:k<en
  ·obtain⟨ad,⟨id,tier,shard,place,of_,ba,bn,bc,bl⟩,rfl,hu,d0,d1,d2,d3,d4,d5⟩:=(HRe.out _ Hf.out).ent hlt
   obtain⟨ad2,⟨id2,tier2,shard2,place2,of2,ba2,bn2,bc2,bl2⟩,rfl,hu2,f0,f1,f2,f3,f4,f5⟩:=(HRe2.out _ Hf.out).ent hlt;dsimp only at d0 d1 d2 d3 d4 d5 f0 f1 f2 f3 f4 f5
   have HC:Hid (∀ W,Fr (fun _=>False) wr W→W.cell? ⟨w.heap.size,11,none⟩=some (.slice (some ad) en ec)∧W.cell? ⟨w.heap.size+1,11,none⟩=some (.slice (some ad2) en ec2)∧W.cell? (ad.add (k*6))=some (.int .u64 id)∧W.cell? ⟨(ad.add (k*6)).block,(ad.add (k*6)).off+1,none⟩=some (.int .i64 tier)∧W.cell? ⟨(ad.add (k*6)).block,(ad.add (k*6)).off+2,none⟩=some (.int .i64 shard)∧W.cell? ⟨(ad.add (k*6)).block,(ad.add (k*6)).off+3,none⟩=some (.int .i64 place)∧W.cell? ⟨(ad.add (k*6)).block,(ad.add (k*6)).off+4,none⟩=some (.int .i64 of_)∧W.cell? ⟨(ad.add (k*6)).block,(ad.add (k*6)).off+5,none⟩=some (.slice ba bn bc)∧W.cell? (ad2.add (k*6))=some (.int .u64 id2)∧W.cell? ⟨(ad2.add (k*6)).block,(ad2.add (k*6)).off+1,none⟩=some (.int .i64 tier2)∧W.cell? ⟨(ad2.add (k*6)).block,(ad2.add (k*6)).off+2,none⟩=some (.int .i64 shard2)∧W.cell? ⟨(ad2.add (k*6)).block,(ad2.add (k*6)).off+3,none⟩=some (.int .i64 place2)∧W.cell? ⟨(ad2.add (k*6)).block,(ad2.add (k*6)).off+4,none⟩=some (.int .i64 of2)∧W.cell? ⟨(ad2.add (k*6)).block,(ad2.add (k*6)).off+5,none⟩=some (.slice ba2 bn2 bc2)):=fun W f=>⟨(X0.out.fr (Hf.out.trans f q4_) (fun h=>h)).cell 11,(X1.out.fr (Hf.out.trans f q4_) (fun h=>h)).cell 11,f.cell d0 (fun h=>h),f.cell d1 (fun h=>h),f.cell d2 (fun h=>h),f.cell d3 (fun h=>h),f.cell d4 (fun h=>h),f.cell d5 (fun h=>h),f.cell f0 (fun h=>h),f.cell f1 (fun h=>h),f.cell f2 (fun h=>h),f.cell f3 (fun h=>h),f.cell f4 (fun h=>h),f.cell f5 (fun h=>h)⟩
   have Hu:=q0_ hu;have Hu2:=q0_ hu2;have HSI:=q0_ (fun (W:World) (f:Fr (fun _=>False) W1 W)=>zcG bl bl2 ba bn bc ba2 bn2 bc2 W ((Hok.out _ (zab hu)).1 W f) ((Hok2.out _ (zab hu2)).1 W f) (Hok.out _ (zab hu)).2 (Hok2.out _ (zab hu2)).2)
   have hno:Hid (¬ za5.p ⟨id,tier,shard,place,of_,ba,bn,bc,bl⟩=za5.p ⟨id2,tier2,shard2,place2,of2,ba2,bn2,bc2,bl2⟩→¬ c.p=d.p):=fun hx e=>hx (by
    have h1:c.es.map za5.p=d.es.map za5.p:=congrArg zdL.es e;have h2:=congrArg (fun l=>l[k]?) h1;simp only[List.getElem?_map,Hu.out,Hu2.out,Option.map_some,Option.some.injEq] at h2
    exact h2)
   obtain⟨hd,hhd⟩:∃ b,hdQ ⟨id,tier,shard,place,of_,ba,bn,bc,bl⟩ ⟨id2,tier2,shard2,place2,of2,ba2,bn2,bc2,bl2⟩=b:=⟨_,rfl⟩
   have hq:=ziK ⟨id,tier,shard,place,of_,ba,bn,bc,bl⟩ ⟨id2,tier2,shard2,place2,of2,ba2,bn2,bc2,bl2⟩;rw[hhd] at hq;dsimp only at hq;have Hhd:=q0_ hhd;have x11:=(HC.out wr (Fr.refl _ _)).1
   have hkI:0≤(k:Int)∧(k:Int)<(en:Int):=by omega
   clear hu hu2 hhd d0 d1 d2 d3 d4 d5 f0 f1 f2 f3 f4 f5
   cases hd
   ·have hne:Hid (¬ c.p=d.p):=hno.out (fun e=>by
     have h:=zp3 e;rw[Hhd.out] at h
     cases h)
    simp only[Bool.not_false] at hq;clear hno;go_wp2_with fail;refine wp_region_held_drew (S:=fun W=>Fr (fun _=>False) wr W) (by kernel_rfl) ((Fr.refl _ wr).drew) (fun hY_=>?_)
    refine wpAnyH_take (i:=0) (oi:={dst:=some 87,op:=Op.fieldAddr 29 (Operand.tmp 2) 9,type:=0,pos:= "law.go:38",after:=#[],guard:=none}) (v:= ?vq1) rfl (by kernel_rfl) (by kernel_rfl) (by kernel_rfl) (fun _ _ _ h=>h) (Or.inl ⟨by rfl, ?hq1⟩) (by assumption) ?rq1
    case hq1=>intro W hSw;(try obtain⟨c0,c1,c2,c3,c4,c5,c6,c7,c8,c9,c10,c11,c12,c13⟩:=HC.out W hSw);go_simp;(try with_reducible rfl)
    try simp only[Act.put,q7_,List.set_cons_zero,List.set_cons_succ]
    refine wpAnyH_take (i:=1) (oi:={dst:=some 88,op:=Op.load 27 (Operand.tmp 87),type:=27,pos:= "law.go:38",after:=#[{on:=0,ground:=Ground.data}],guard:=none}) (v:= ?vq2) rfl (by kernel_rfl) (by kernel_rfl) (by kernel_rfl) (fun _ _ _ h=>h) (Or.inl ⟨by rfl, ?hq2⟩) (by assumption) ?rq2
    case hq2=>intro W hSw;(try obtain⟨c0,c1,c2,c3,c4,c5,c6,c7,c8,c9,c10,c11,c12,c13⟩:=HC.out W hSw);go_simp;(try with_reducible rfl)
    try simp only[Act.put,q7_,List.set_cons_zero,List.set_cons_succ]
    refine wpAnyH_take (i:=2) (oi:={dst:=some 89,op:=Op.move (Operand.tmp 5),type:=3,pos:= "law.go:38",after:=#[],guard:=none}) (v:= ?vq3) rfl (by kernel_rfl) (by kernel_rfl) (by kernel_rfl) (fun _ _ _ h=>h) (Or.inl ⟨by rfl, ?hq3⟩) (by assumption) ?rq3
    case hq3=>intro W hSw;(try obtain⟨c0,c1,c2,c3,c4,c5,c6,c7,c8,c9,c10,c11,c12,c13⟩:=HC.out W hSw);go_simp;(try with_reducible rfl)
    try simp only[Act.put,q7_,List.set_cons_zero,List.set_cons_succ]
    refine wpAnyH_take (i:=3) (oi:={dst:=some 90,op:=Op.indexAddr 27 (Operand.tmp 88) (Operand.tmp 89),type:=0,pos:= "law.go:38",after:=#[{on:=1,ground:=Ground.data},{on:=2,ground:=Ground.data}],guard:=none}) (v:= ?vq4) rfl (by kernel_rfl) (by kernel_rfl) (by kernel_rfl) (fun _ _ _ h=>h) (Or.inl ⟨by rfl, ?hq4⟩) (by assumption) ?rq4
    case hq4=>intro W hSw;(try obtain⟨c0,c1,c2,c3,c4,c5,c6,c7,c8,c9,c10,c11,c12,c13⟩:=HC.out W hSw);go_simp;(try with_reducible rfl)
    try simp only[Act.put,q7_,List.set_cons_zero,List.set_cons_succ]
    refine wpAnyH_take (i:=4) (oi:={dst:=some 91,op:=Op.fieldAddr 56 (Operand.tmp 90) 0,type:=0,pos:= "law.go:38",after:=#[{on:=3,ground:=Ground.data}],guard:=none}) (v:= ?vq5) rfl (by kernel_rfl) (by kernel_rfl) (by kernel_rfl) (fun _ _ _ h=>h) (Or.inl ⟨by rfl, ?hq5⟩) (by assumption) ?rq5
    case hq5=>intro W hSw;(try obtain⟨c0,c1,c2,c3,c4,c5,c6,c7,c8,c9,c10,c11,c12,c13⟩:=HC.out W hSw);go_simp;(try with_reducible rfl)
    try simp only[Act.put,q7_,List.set_cons_zero,List.set_cons_succ]
    refine wpAnyH_take (i:=5) (oi:={dst:=some 92,op:=Op.load 54 (Operand.tmp 91),type:=54,pos:= "law.go:38",after:=#[{on:=4,ground:=Ground.data}],guard:=none}) (v:= ?vq6) rfl (by kernel_rfl) (by kernel_rfl) (by kernel_rfl) (fun _ _ _ h=>h) (Or.inl ⟨by rfl, ?hq6⟩) (by assumption) ?rq6
    case hq6=>intro W hSw;(try obtain⟨c0,c1,c2,c3,c4,c5,c6,c7,c8,c9,c10,c11,c12,c13⟩:=HC.out W hSw);go_simp;(try with_reducible rfl)
    try simp only[Act.put,q7_,List.set_cons_zero,List.set_cons_succ]
    refine wpAnyH_take (i:=6) (oi:={dst:=some 93,op:=Op.fieldAddr 29 (Operand.tmp 3) 9,type:=0,pos:= "law.go:38",after:=#[],guard:=none}) (v:= ?vq7) rfl (by kernel_rfl) (by kernel_rfl) (by kernel_rfl) (fun _ _ _ h=>h) (Or.inl ⟨by rfl, ?hq7⟩) (by assumption) ?rq7
    case hq7=>intro W hSw;(try obtain⟨c0,c1,c2,c3,c4,c5,c6,c7,c8,c9,c10,c11,c12,c13⟩:=HC.out W hSw);go_simp;(try with_reducible rfl)
    try simp only[Act.put,q7_,List.set_cons_zero,List.set_cons_succ]
    refine wpAnyH_take (i:=7) (oi:={dst:=some 94,op:=Op.load 27 (Operand.tmp 93),type:=27,pos:= "law.go:38",after:=#[{on:=6,ground:=Ground.data}],guard:=none}) (v:= ?vq8) rfl (by kernel_rfl) (by kernel_rfl) (by kernel_rfl) (fun _ _ _ h=>h) (Or.inl ⟨by rfl, ?hq8⟩) (by assumption) ?rq8
    case hq8=>intro W hSw;(try obtain⟨c0,c1,c2,c3,c4,c5,c6,c7,c8,c9,c10,c11,c12,c13⟩:=HC.out W hSw);go_simp;(try with_reducible rfl)
    try simp only[Act.put,q7_,List.set_cons_zero,List.set_cons_succ]
    refine wpAnyH_take (i:=8) (oi:={dst:=some 95,op:=Op.move (Operand.tmp 5),type:=3,pos:= "law.go:38",after:=#[],guard:=none}) (v:= ?vq9) rfl (by kernel_rfl) (by kernel_rfl) (by kernel_rfl) (fun _ _ _ h=>h) (Or.inl ⟨by rfl, ?hq9⟩) (by assumption) ?rq9
    case hq9=>intro W hSw;(try obtain⟨c0,c1,c2,c3,c4,c5,c6,c7,c8,c9,c10,c11,c12,c13⟩:=HC.out W hSw);go_simp;(try with_reducible rfl)
    try simp only[Act.put,q7_,List.set_cons_zero,List.set_cons_succ]
    refine wpAnyH_take (i:=9) (oi:={dst:=some 96,op:=Op.indexAddr 27 (Operand.tmp 94) (Operand.tmp 95),type:=0,pos:= "law.go:38",after:=#[{on:=7,ground:=Ground.data},{on:=8,ground:=Ground.data}],guard:=none}) (v:= ?vq10) rfl (by kernel_rfl) (by kernel_rfl) (by kernel_rfl) (fun _ _ _ h=>h) (Or.inl ⟨by rfl, ?hq10⟩) (by assumption) ?rq10
    case hq10=>intro W hSw;(try obtain⟨c0,c1,c2,c3,c4,c5,c6,c7,c8,c9,c10,c11,c12,c13⟩:=HC.out W hSw);go_simp;(try with_reducible rfl)
    try simp only[Act.put,q7_,List.set_cons_zero,List.set_cons_succ]
    refine wpAnyH_take (i:=10) (oi:={dst:=some 97,op:=Op.fieldAddr 56 (Operand.tmp 96) 0,type:=0,pos:= "law.go:38",after:=#[{on:=9,ground:=Ground.data}],guard:=none}) (v:= ?vq11) rfl (by kernel_rfl) (by kernel_rfl) (by kernel_rfl) (fun _ _ _ h=>h) (Or.inl ⟨by rfl, ?hq11⟩) (by assumption) ?rq11
    case hq11=>intro W hSw;(try obtain⟨c0,c1,c2,c3,c4,c5,c6,c7,c8,c9,c10,c11,c12,c13⟩:=HC.out W hSw);go_simp;(try with_reducible rfl)
    try simp only[Act.put,q7_,List.set_cons_zero,List.set_cons_succ]
    refine wpAnyH_take (i:=11) (oi:={dst:=some 98,op:=Op.load 54 (Operand.tmp 97),type:=54,pos:= "law.go:38",after:=#[{on:=10,ground:=Ground.data}],guard:=none}) (v:= ?vq12) rfl (by kernel_rfl) (by kernel_rfl) (by kernel_rfl) (fun _ _ _ h=>h) (Or.inl ⟨by rfl, ?hq12⟩) (by assumption) ?rq12
    case hq12=>intro W hSw;(try obtain⟨c0,c1,c2,c3,c4,c5,c6,c7,c8,c9,c10,c11,c12,c13⟩:=HC.out W hSw);go_simp;(try with_reducible rfl)
    try simp only[Act.put,q7_,List.set_cons_zero,List.set_cons_succ]
    refine wpAnyH_take (i:=12) (oi:={dst:=some 99,op:=Op.binOp BinOp.neq 54 (Operand.tmp 92) (Operand.tmp 98) 54,type:=4,pos:= "law.go:38",after:=#[{on:=5,ground:=Ground.data},{on:=11,ground:=Ground.data}],guard:=none}) (v:= ?vq13) rfl (by kernel_rfl) (by kernel_rfl) (by kernel_rfl) (fun _ _ _ h=>h) (Or.inl ⟨by rfl, ?hq13⟩) (by assumption) ?rq13
    case hq13=>intro W hSw;(try obtain⟨c0,c1,c2,c3,c4,c5,c6,c7,c8,c9,c10,c11,c12,c13⟩:=HC.out W hSw);go_simp;(try with_reducible rfl)
    try simp only[Act.put,q7_,List.set_cons_zero,List.set_cons_succ]
    refine wpAnyH_take (i:=13) (oi:={dst:=some 100,op:=Op.move (Operand.tmp 99),type:=4,pos:= "law.go:38",after:=#[{on:=12,ground:=Ground.data}],guard:=none}) (v:= ?vq14) rfl (by kernel_rfl) (by kernel_rfl) (by kernel_rfl) (fun _ _ _ h=>h) (Or.inl ⟨by rfl, ?hq14⟩) (by assumption) ?rq14
    case hq14=>intro W hSw;(try obtain⟨c0,c1,c2,c3,c4,c5,c6,c7,c8,c9,c10,c11,c12,c13⟩:=HC.out W hSw);go_simp;(try with_reducible rfl)
    try simp only[Act.put,q7_,List.set_cons_zero,List.set_cons_succ]
    refine wpAnyH_take (i:=14) (oi:={dst:=some 101,op:=Op.fieldAddr 29 (Operand.tmp 2) 9,type:=0,pos:= "law.go:38",after:=#[{on:=13,ground:=Ground.guard}],guard:=some (13,false)}) (v:=undef) rfl (by kernel_rfl) (by kernel_rfl) (by kernel_rfl) (fun _ _ _ h=>h) (Or.inr ⟨by rfl,rfl⟩) (by assumption) ?_
    try simp only[Act.put,q7_,List.set_cons_zero,List.set_cons_succ]
    refine wpAnyH_take (i:=15) (oi:={dst:=some 102,op:=Op.load 27 (Operand.tmp 101),type:=27,pos:= "law.go:38",after:=#[{on:=14,ground:=Ground.data},{on:=13,ground:=Ground.guard}],guard:=some (13,false)}) (v:=undef) rfl (by kernel_rfl) (by kernel_rfl) (by kernel_rfl) (fun _ _ _ h=>h) (Or.inr ⟨by rfl,rfl⟩) (by assumption) ?_
    try simp only[Act.put,q7_,List.set_cons_zero,List.set_cons_succ]
    refine wpAnyH_take (i:=16) (oi:={dst:=some 103,op:=Op.move (Operand.tmp 5),type:=3,pos:= "law.go:38",after:=#[{on:=13,ground:=Ground.guard}],guard:=some (13,false)}) (v:=undef) rfl (by kernel_rfl) (by kernel_rfl) (by kernel_rfl) (fun _ _ _ h=>h) (Or.inr ⟨by rfl,rfl⟩) (by assumption) ?_
    try simp only[Act.put,q7_,List.set_cons_zero,List.set_cons_succ]
    refine wpAnyH_take (i:=17) (oi:={dst:=some 104,op:=Op.indexAddr 27 (Operand.tmp 102) (Operand.tmp 103),type:=0,pos:= "law.go:38",after:=#[{on:=15,ground:=Ground.data},{on:=16,ground:=Ground.data},{on:=13,ground:=Ground.guard}],guard:=some (13,false)}) (v:=undef) rfl (by kernel_rfl) (by kernel_rfl) (by kernel_rfl) (fun _ _ _ h=>h) (Or.inr ⟨by rfl,rfl⟩) (by assumption) ?_
    try simp only[Act.put,q7_,List.set_cons_zero,List.set_cons_succ]
    refine wpAnyH_take (i:=18) (oi:={dst:=some 105,op:=Op.fieldAddr 56 (Operand.tmp 104) 1,type:=0,pos:= "law.go:38",after:=#[{on:=17,ground:=Ground.data},{on:=13,ground:=Ground.guard}],guard:=some (13,false)}) (v:=undef) rfl (by kernel_rfl) (by kernel_rfl) (by kernel_rfl) (fun _ _ _ h=>h) (Or.inr ⟨by rfl,rfl⟩) (by assumption) ?_
    try simp only[Act.put,q7_,List.set_cons_zero,List.set_cons_succ]
    refine wpAnyH_take (i:=19) (oi:={dst:=some 106,op:=Op.load 26 (Operand.tmp 105),type:=26,pos:= "law.go:38",after:=#[{on:=18,ground:=Ground.data},{on:=13,ground:=Ground.guard}],guard:=some (13,false)}) (v:=undef) rfl (by kernel_rfl) (by kernel_rfl) (by kernel_rfl) (fun _ _ _ h=>h) (Or.inr ⟨by rfl,rfl⟩) (by assumption) ?_
    try simp only[Act.put,q7_,List.set_cons_zero,List.set_cons_succ]
    refine wpAnyH_take (i:=20) (oi:={dst:=some 107,op:=Op.fieldAddr 29 (Operand.tmp 3) 9,type:=0,pos:= "law.go:38",after:=#[{on:=13,ground:=Ground.guard}],guard:=some (13,false)}) (v:=undef) rfl (by kernel_rfl) (by kernel_rfl) (by kernel_rfl) (fun _ _ _ h=>h) (Or.inr ⟨by rfl,rfl⟩) (by assumption) ?_
    try simp only[Act.put,q7_,List.set_cons_zero,List.set_cons_succ]
    refine wpAnyH_take (i:=21) (oi:={dst:=some 108,op:=Op.load 27 (Operand.tmp 107),type:=27,pos:= "law.go:38",after:=#[{on:=20,ground:=Ground.data},{on:=13,ground:=Ground.guard}],guard:=some (13,false)}) (v:=undef) rfl (by kernel_rfl) (by kernel_rfl) (by kernel_rfl) (fun _ _ _ h=>h) (Or.inr ⟨by rfl,rfl⟩) (by assumption) ?_
    try simp only[Act.put,q7_,List.set_cons_zero,List.set_cons_succ]
    refine wpAnyH_take (i:=22) (oi:={dst:=some 109,op:=Op.move (Operand.tmp 5),type:=3,pos:= "law.go:38",after:=#[{on:=13,ground:=Ground.guard}],guard:=some (13,false)}) (v:=undef) rfl (by kernel_rfl) (by kernel_rfl) (by kernel_rfl) (fun _ _ _ h=>h) (Or.inr ⟨by rfl,rfl⟩) (by assumption) ?_
    try simp only[Act.put,q7_,List.set_cons_zero,List.set_cons_succ]
    refine wpAnyH_take (i:=23) (oi:={dst:=some 110,op:=Op.indexAddr 27 (Operand.tmp 108) (Operand.tmp 109),type:=0,pos:= "law.go:38",after:=#[{on:=21,ground:=Ground.data},{on:=22,ground:=Ground.data},{on:=13,ground:=Ground.guard}],guard:=some (13,false)}) (v:=undef) rfl (by kernel_rfl) (by kernel_rfl) (by kernel_rfl) (fun _ _ _ h=>h) (Or.inr ⟨by rfl,rfl⟩) (by assumption) ?_
    try simp only[Act.put,q7_,List.set_cons_zero,List.set_cons_succ]
    refine wpAnyH_take (i:=24) (oi:={dst:=some 111,op:=Op.fieldAddr 56 (Operand.tmp 110) 1,type:=0,pos:= "law.go:38",after:=#[{on:=23,ground:=Ground.data},{on:=13,ground:=Ground.guard}],guard:=some (13,false)}) (v:=undef) rfl (by kernel_rfl) (by kernel_rfl) (by kernel_rfl) (fun _ _ _ h=>h) (Or.inr ⟨by rfl,rfl⟩) (by assumption) ?_
    try simp only[Act.put,q7_,List.set_cons_zero,List.set_cons_succ]
    refine wpAnyH_take (i:=25) (oi:={dst:=some 112,op:=Op.load 26 (Operand.tmp 111),type:=26,pos:= "law.go:38",after:=#[{on:=24,ground:=Ground.data},{on:=13,ground:=Ground.guard}],guard:=some (13,false)}) (v:=undef) rfl (by kernel_rfl) (by kernel_rfl) (by kernel_rfl) (fun _ _ _ h=>h) (Or.inr ⟨by rfl,rfl⟩) (by assumption) ?_
    try simp only[Act.put,q7_,List.set_cons_zero,List.set_cons_succ]
    refine wpAnyH_take (i:=26) (oi:={dst:=some 113,op:=Op.call {callee:=Callee.value (Operand.func 32),args:=#[Operand.tmp 106,Operand.tmp 112],argTypes:=#[26,26]},type:=4,pos:= "law.go:38",after:=#[{on:=19,ground:=Ground.data},{on:=25,ground:=Ground.data},{on:=13,ground:=Ground.chain},{on:=13,ground:=Ground.guard}],guard:=some (13,false)}) (v:=undef) rfl (by kernel_rfl) (by kernel_rfl) (by kernel_rfl) (fun _ _ _ h=>h) (Or.inr ⟨by rfl,rfl⟩) (by assumption) ?_
    try simp only[Act.put,q7_,List.set_cons_zero,List.set_cons_succ]
    refine wpAnyH_take (i:=27) (oi:={dst:=some 114,op:=Op.unOp UnOp.not 4 (Operand.tmp 113),type:=4,pos:= "law.go:38",after:=#[{on:=26,ground:=Ground.data},{on:=13,ground:=Ground.guard}],guard:=some (13,false)}) (v:=undef) rfl (by kernel_rfl) (by kernel_rfl) (by kernel_rfl) (fun _ _ _ h=>h) (Or.inr ⟨by rfl,rfl⟩) (by assumption) ?_
    try simp only[Act.put,q7_,List.set_cons_zero,List.set_cons_succ]
    refine wpAnyH_take (i:=28) (oi:={dst:=some 115,op:=Op.pick (Operand.tmp 100) (Operand.const (Value.bool true)) (Operand.tmp 114),type:=4,pos:= "law.go:38",after:=#[{on:=13,ground:=Ground.data},{on:=27,ground:=Ground.data}],guard:=none}) (v:= ?vq15) rfl (by kernel_rfl) (by kernel_rfl) (by kernel_rfl) (fun _ _ _ h=>h) (Or.inl ⟨by rfl, ?hq15⟩) (by assumption) ?rq15
    case hq15=>intro W hSw;(try obtain⟨c0,c1,c2,c3,c4,c5,c6,c7,c8,c9,c10,c11,c12,c13⟩:=HC.out W hSw);go_simp;(try with_reducible rfl)
    try simp only[Act.put,q7_,List.set_cons_zero,List.set_cons_succ]
    refine wpAnyH_done (by kernel_rfl) ?_ _;clear hq;go_wp2;go_ret;exact⟨ziq.no hne.out,(F1.out.trans (Hf.out.trans hY_ q4_) q4_).below q4_⟩
   ·simp only[Bool.not_true] at hq
    obtain⟨sb,hsb⟩:∃ b,decide (bl=bl2)=b:=⟨_,rfl⟩
    have Hsb:=q0_ hsb;rw[hsb] at HSI;clear hsb;go_wp2_with fail;refine wp_region_held_drew (S:=fun W=>Fr (fun _=>False) wr W) (by kernel_rfl) ((Fr.refl _ wr).drew) (fun hY_=>?_)
    refine wpAnyH_take (i:=0) (oi:={dst:=some 87,op:=Op.fieldAddr 29 (Operand.tmp 2) 9,type:=0,pos:= "law.go:38",after:=#[],guard:=none}) (v:= ?vq16) rfl (by kernel_rfl) (by kernel_rfl) (by kernel_rfl) (fun _ _ _ h=>h) (Or.inl ⟨by rfl, ?hq16⟩) (by assumption) ?rq16
    case hq16=>intro W hSw;(try obtain⟨c0,c1,c2,c3,c4,c5,c6,c7,c8,c9,c10,c11,c12,c13⟩:=HC.out W hSw);go_simp;(try with_reducible rfl)
    try simp only[Act.put,q7_,List.set_cons_zero,List.set_cons_succ]
    refine wpAnyH_take (i:=1) (oi:={dst:=some 88,op:=Op.load 27 (Operand.tmp 87),type:=27,pos:= "law.go:38",after:=#[{on:=0,ground:=Ground.data}],guard:=none}) (v:= ?vq17) rfl (by kernel_rfl) (by kernel_rfl) (by kernel_rfl) (fun _ _ _ h=>h) (Or.inl ⟨by rfl, ?hq17⟩) (by assumption) ?rq17
    case hq17=>intro W hSw;(try obtain⟨c0,c1,c2,c3,c4,c5,c6,c7,c8,c9,c10,c11,c12,c13⟩:=HC.out W hSw);go_simp;(try with_reducible rfl)
    try simp only[Act.put,q7_,List.set_cons_zero,List.set_cons_succ]
    refine wpAnyH_take (i:=2) (oi:={dst:=some 89,op:=Op.move (Operand.tmp 5),type:=3,pos:= "law.go:38",after:=#[],guard:=none}) (v:= ?vq18) rfl (by kernel_rfl) (by kernel_rfl) (by kernel_rfl) (fun _ _ _ h=>h) (Or.inl ⟨by rfl, ?hq18⟩) (by assumption) ?rq18
    case hq18=>intro W hSw;(try obtain⟨c0,c1,c2,c3,c4,c5,c6,c7,c8,c9,c10,c11,c12,c13⟩:=HC.out W hSw);go_simp;(try with_reducible rfl)
    try simp only[Act.put,q7_,List.set_cons_zero,List.set_cons_succ]
    refine wpAnyH_take (i:=3) (oi:={dst:=some 90,op:=Op.indexAddr 27 (Operand.tmp 88) (Operand.tmp 89),type:=0,pos:= "law.go:38",after:=#[{on:=1,ground:=Ground.data},{on:=2,ground:=Ground.data}],guard:=none}) (v:= ?vq19) rfl (by kernel_rfl) (by kernel_rfl) (by kernel_rfl) (fun _ _ _ h=>h) (Or.inl ⟨by rfl, ?hq19⟩) (by assumption) ?rq19
    case hq19=>intro W hSw;(try obtain⟨c0,c1,c2,c3,c4,c5,c6,c7,c8,c9,c10,c11,c12,c13⟩:=HC.out W hSw);go_simp;(try with_reducible rfl)
    try simp only[Act.put,q7_,List.set_cons_zero,List.set_cons_succ]
    refine wpAnyH_take (i:=4) (oi:={dst:=some 91,op:=Op.fieldAddr 56 (Operand.tmp 90) 0,type:=0,pos:= "law.go:38",after:=#[{on:=3,ground:=Ground.data}],guard:=none}) (v:= ?vq20) rfl (by kernel_rfl) (by kernel_rfl) (by kernel_rfl) (fun _ _ _ h=>h) (Or.inl ⟨by rfl, ?hq20⟩) (by assumption) ?rq20
    case hq20=>intro W hSw;(try obtain⟨c0,c1,c2,c3,c4,c5,c6,c7,c8,c9,c10,c11,c12,c13⟩:=HC.out W hSw);go_simp;(try with_reducible rfl)
    try simp only[Act.put,q7_,List.set_cons_zero,List.set_cons_succ]
    refine wpAnyH_take (i:=5) (oi:={dst:=some 92,op:=Op.load 54 (Operand.tmp 91),type:=54,pos:= "law.go:38",after:=#[{on:=4,ground:=Ground.data}],guard:=none}) (v:= ?vq21) rfl (by kernel_rfl) (by kernel_rfl) (by kernel_rfl) (fun _ _ _ h=>h) (Or.inl ⟨by rfl, ?hq21⟩) (by assumption) ?rq21
    case hq21=>intro W hSw;(try obtain⟨c0,c1,c2,c3,c4,c5,c6,c7,c8,c9,c10,c11,c12,c13⟩:=HC.out W hSw);go_simp;(try with_reducible rfl)
    try simp only[Act.put,q7_,List.set_cons_zero,List.set_cons_succ]
    refine wpAnyH_take (i:=6) (oi:={dst:=some 93,op:=Op.fieldAddr 29 (Operand.tmp 3) 9,type:=0,pos:= "law.go:38",after:=#[],guard:=none}) (v:= ?vq22) rfl (by kernel_rfl) (by kernel_rfl) (by kernel_rfl) (fun _ _ _ h=>h) (Or.inl ⟨by rfl, ?hq22⟩) (by assumption) ?rq22
    case hq22=>intro W hSw;(try obtain⟨c0,c1,c2,c3,c4,c5,c6,c7,c8,c9,c10,c11,c12,c13⟩:=HC.out W hSw);go_simp;(try with_reducible rfl)
    try simp only[Act.put,q7_,List.set_cons_zero,List.set_cons_succ]
    refine wpAnyH_take (i:=7) (oi:={dst:=some 94,op:=Op.load 27 (Operand.tmp 93),type:=27,pos:= "law.go:38",after:=#[{on:=6,ground:=Ground.data}],guard:=none}) (v:= ?vq23) rfl (by kernel_rfl) (by kernel_rfl) (by kernel_rfl) (fun _ _ _ h=>h) (Or.inl ⟨by rfl, ?hq23⟩) (by assumption) ?rq23
    case hq23=>intro W hSw;(try obtain⟨c0,c1,c2,c3,c4,c5,c6,c7,c8,c9,c10,c11,c12,c13⟩:=HC.out W hSw);go_simp;(try with_reducible rfl)
    try simp only[Act.put,q7_,List.set_cons_zero,List.set_cons_succ]
    refine wpAnyH_take (i:=8) (oi:={dst:=some 95,op:=Op.move (Operand.tmp 5),type:=3,pos:= "law.go:38",after:=#[],guard:=none}) (v:= ?vq24) rfl (by kernel_rfl) (by kernel_rfl) (by kernel_rfl) (fun _ _ _ h=>h) (Or.inl ⟨by rfl, ?hq24⟩) (by assumption) ?rq24
    case hq24=>intro W hSw;(try obtain⟨c0,c1,c2,c3,c4,c5,c6,c7,c8,c9,c10,c11,c12,c13⟩:=HC.out W hSw);go_simp;(try with_reducible rfl)
    try simp only[Act.put,q7_,List.set_cons_zero,List.set_cons_succ]
    refine wpAnyH_take (i:=9) (oi:={dst:=some 96,op:=Op.indexAddr 27 (Operand.tmp 94) (Operand.tmp 95),type:=0,pos:= "law.go:38",after:=#[{on:=7,ground:=Ground.data},{on:=8,ground:=Ground.data}],guard:=none}) (v:= ?vq25) rfl (by kernel_rfl) (by kernel_rfl) (by kernel_rfl) (fun _ _ _ h=>h) (Or.inl ⟨by rfl, ?hq25⟩) (by assumption) ?rq25
    case hq25=>intro W hSw;(try obtain⟨c0,c1,c2,c3,c4,c5,c6,c7,c8,c9,c10,c11,c12,c13⟩:=HC.out W hSw);go_simp;(try with_reducible rfl)
    try simp only[Act.put,q7_,List.set_cons_zero,List.set_cons_succ]
    refine wpAnyH_take (i:=10) (oi:={dst:=some 97,op:=Op.fieldAddr 56 (Operand.tmp 96) 0,type:=0,pos:= "law.go:38",after:=#[{on:=9,ground:=Ground.data}],guard:=none}) (v:= ?vq26) rfl (by kernel_rfl) (by kernel_rfl) (by kernel_rfl) (fun _ _ _ h=>h) (Or.inl ⟨by rfl, ?hq26⟩) (by assumption) ?rq26
    case hq26=>intro W hSw;(try obtain⟨c0,c1,c2,c3,c4,c5,c6,c7,c8,c9,c10,c11,c12,c13⟩:=HC.out W hSw);go_simp;(try with_reducible rfl)
    try simp only[Act.put,q7_,List.set_cons_zero,List.set_cons_succ]
    refine wpAnyH_take (i:=11) (oi:={dst:=some 98,op:=Op.load 54 (Operand.tmp 97),type:=54,pos:= "law.go:38",after:=#[{on:=10,ground:=Ground.data}],guard:=none}) (v:= ?vq27) rfl (by kernel_rfl) (by kernel_rfl) (by kernel_rfl) (fun _ _ _ h=>h) (Or.inl ⟨by rfl, ?hq27⟩) (by assumption) ?rq27
    case hq27=>intro W hSw;(try obtain⟨c0,c1,c2,c3,c4,c5,c6,c7,c8,c9,c10,c11,c12,c13⟩:=HC.out W hSw);go_simp;(try with_reducible rfl)
    try simp only[Act.put,q7_,List.set_cons_zero,List.set_cons_succ]
    refine wpAnyH_take (i:=12) (oi:={dst:=some 99,op:=Op.binOp BinOp.neq 54 (Operand.tmp 92) (Operand.tmp 98) 54,type:=4,pos:= "law.go:38",after:=#[{on:=5,ground:=Ground.data},{on:=11,ground:=Ground.data}],guard:=none}) (v:= ?vq28) rfl (by kernel_rfl) (by kernel_rfl) (by kernel_rfl) (fun _ _ _ h=>h) (Or.inl ⟨by rfl, ?hq28⟩) (by assumption) ?rq28
    case hq28=>intro W hSw;(try obtain⟨c0,c1,c2,c3,c4,c5,c6,c7,c8,c9,c10,c11,c12,c13⟩:=HC.out W hSw);go_simp;(try with_reducible rfl)
    try simp only[Act.put,q7_,List.set_cons_zero,List.set_cons_succ]
    refine wpAnyH_take (i:=13) (oi:={dst:=some 100,op:=Op.move (Operand.tmp 99),type:=4,pos:= "law.go:38",after:=#[{on:=12,ground:=Ground.data}],guard:=none}) (v:= ?vq29) rfl (by kernel_rfl) (by kernel_rfl) (by kernel_rfl) (fun _ _ _ h=>h) (Or.inl ⟨by rfl, ?hq29⟩) (by assumption) ?rq29
    case hq29=>intro W hSw;(try obtain⟨c0,c1,c2,c3,c4,c5,c6,c7,c8,c9,c10,c11,c12,c13⟩:=HC.out W hSw);go_simp;(try with_reducible rfl)
    try simp only[Act.put,q7_,List.set_cons_zero,List.set_cons_succ]
    refine wpAnyH_take (i:=14) (oi:={dst:=some 101,op:=Op.fieldAddr 29 (Operand.tmp 2) 9,type:=0,pos:= "law.go:38",after:=#[{on:=13,ground:=Ground.guard}],guard:=some (13,false)}) (v:= ?vq30) rfl (by kernel_rfl) (by kernel_rfl) (by kernel_rfl) (fun _ _ _ h=>h) (Or.inl ⟨by rfl, ?hq30⟩) (by assumption) ?rq30
    case hq30=>intro W hSw;(try obtain⟨c0,c1,c2,c3,c4,c5,c6,c7,c8,c9,c10,c11,c12,c13⟩:=HC.out W hSw);go_simp;(try with_reducible rfl)
    try simp only[Act.put,q7_,List.set_cons_zero,List.set_cons_succ]
    refine wpAnyH_take (i:=15) (oi:={dst:=some 102,op:=Op.load 27 (Operand.tmp 101),type:=27,pos:= "law.go:38",after:=#[{on:=14,ground:=Ground.data},{on:=13,ground:=Ground.guard}],guard:=some (13,false)}) (v:= ?vq31) rfl (by kernel_rfl) (by kernel_rfl) (by kernel_rfl) (fun _ _ _ h=>h) (Or.inl ⟨by rfl, ?hq31⟩) (by assumption) ?rq31
    case hq31=>intro W hSw;(try obtain⟨c0,c1,c2,c3,c4,c5,c6,c7,c8,c9,c10,c11,c12,c13⟩:=HC.out W hSw);go_simp;(try with_reducible rfl)
    try simp only[Act.put,q7_,List.set_cons_zero,List.set_cons_succ]
    refine wpAnyH_take (i:=16) (oi:={dst:=some 103,op:=Op.move (Operand.tmp 5),type:=3,pos:= "law.go:38",after:=#[{on:=13,ground:=Ground.guard}],guard:=some (13,false)}) (v:= ?vq32) rfl (by kernel_rfl) (by kernel_rfl) (by kernel_rfl) (fun _ _ _ h=>h) (Or.inl ⟨by rfl, ?hq32⟩) (by assumption) ?rq32
    case hq32=>intro W hSw;(try obtain⟨c0,c1,c2,c3,c4,c5,c6,c7,c8,c9,c10,c11,c12,c13⟩:=HC.out W hSw);go_simp;(try with_reducible rfl)
    try simp only[Act.put,q7_,List.set_cons_zero,List.set_cons_succ]
    refine wpAnyH_take (i:=17) (oi:={dst:=some 104,op:=Op.indexAddr 27 (Operand.tmp 102) (Operand.tmp 103),type:=0,pos:= "law.go:38",after:=#[{on:=15,ground:=Ground.data},{on:=16,ground:=Ground.data},{on:=13,ground:=Ground.guard}],guard:=some (13,false)}) (v:= ?vq33) rfl (by kernel_rfl) (by kernel_rfl) (by kernel_rfl) (fun _ _ _ h=>h) (Or.inl ⟨by rfl, ?hq33⟩) (by assumption) ?rq33
    case hq33=>intro W hSw;(try obtain⟨c0,c1,c2,c3,c4,c5,c6,c7,c8,c9,c10,c11,c12,c13⟩:=HC.out W hSw);go_simp;(try with_reducible rfl)
    try simp only[Act.put,q7_,List.set_cons_zero,List.set_cons_succ]
    refine wpAnyH_take (i:=18) (oi:={dst:=some 105,op:=Op.fieldAddr 56 (Operand.tmp 104) 1,type:=0,pos:= "law.go:38",after:=#[{on:=17,ground:=Ground.data},{on:=13,ground:=Ground.guard}],guard:=some (13,false)}) (v:= ?vq34) rfl (by kernel_rfl) (by kernel_rfl) (by kernel_rfl) (fun _ _ _ h=>h) (Or.inl ⟨by rfl, ?hq34⟩) (by assumption) ?rq34
    case hq34=>intro W hSw;(try obtain⟨c0,c1,c2,c3,c4,c5,c6,c7,c8,c9,c10,c11,c12,c13⟩:=HC.out W hSw);go_simp;(try with_reducible rfl)
    try simp only[Act.put,q7_,List.set_cons_zero,List.set_cons_succ]
    refine wpAnyH_take (i:=19) (oi:={dst:=some 106,op:=Op.load 26 (Operand.tmp 105),type:=26,pos:= "law.go:38",after:=#[{on:=18,ground:=Ground.data},{on:=13,ground:=Ground.guard}],guard:=some (13,false)}) (v:= ?vq35) rfl (by kernel_rfl) (by kernel_rfl) (by kernel_rfl) (fun _ _ _ h=>h) (Or.inl ⟨by rfl, ?hq35⟩) (by assumption) ?rq35
    case hq35=>intro W hSw;(try obtain⟨c0,c1,c2,c3,c4,c5,c6,c7,c8,c9,c10,c11,c12,c13⟩:=HC.out W hSw);go_simp;(try with_reducible rfl)
    try simp only[Act.put,q7_,List.set_cons_zero,List.set_cons_succ]
    refine wpAnyH_take (i:=20) (oi:={dst:=some 107,op:=Op.fieldAddr 29 (Operand.tmp 3) 9,type:=0,pos:= "law.go:38",after:=#[{on:=13,ground:=Ground.guard}],guard:=some (13,false)}) (v:= ?vq36) rfl (by kernel_rfl) (by kernel_rfl) (by kernel_rfl) (fun _ _ _ h=>h) (Or.inl ⟨by rfl, ?hq36⟩) (by assumption) ?rq36
    case hq36=>intro W hSw;(try obtain⟨c0,c1,c2,c3,c4,c5,c6,c7,c8,c9,c10,c11,c12,c13⟩:=HC.out W hSw);go_simp;(try with_reducible rfl)
    try simp only[Act.put,q7_,List.set_cons_zero,List.set_cons_succ]
    refine wpAnyH_take (i:=21) (oi:={dst:=some 108,op:=Op.load 27 (Operand.tmp 107),type:=27,pos:= "law.go:38",after:=#[{on:=20,ground:=Ground.data},{on:=13,ground:=Ground.guard}],guard:=some (13,false)}) (v:= ?vq37) rfl (by kernel_rfl) (by kernel_rfl) (by kernel_rfl) (fun _ _ _ h=>h) (Or.inl ⟨by rfl, ?hq37⟩) (by assumption) ?rq37
    case hq37=>intro W hSw;(try obtain⟨c0,c1,c2,c3,c4,c5,c6,c7,c8,c9,c10,c11,c12,c13⟩:=HC.out W hSw);go_simp;(try with_reducible rfl)
    try simp only[Act.put,q7_,List.set_cons_zero,List.set_cons_succ]
    refine wpAnyH_take (i:=22) (oi:={dst:=some 109,op:=Op.move (Operand.tmp 5),type:=3,pos:= "law.go:38",after:=#[{on:=13,ground:=Ground.guard}],guard:=some (13,false)}) (v:= ?vq38) rfl (by kernel_rfl) (by kernel_rfl) (by kernel_rfl) (fun _ _ _ h=>h) (Or.inl ⟨by rfl, ?hq38⟩) (by assumption) ?rq38
    case hq38=>intro W hSw;(try obtain⟨c0,c1,c2,c3,c4,c5,c6,c7,c8,c9,c10,c11,c12,c13⟩:=HC.out W hSw);go_simp;(try with_reducible rfl)
    try simp only[Act.put,q7_,List.set_cons_zero,List.set_cons_succ]
    refine wpAnyH_take (i:=23) (oi:={dst:=some 110,op:=Op.indexAddr 27 (Operand.tmp 108) (Operand.tmp 109),type:=0,pos:= "law.go:38",after:=#[{on:=21,ground:=Ground.data},{on:=22,ground:=Ground.data},{on:=13,ground:=Ground.guard}],guard:=some (13,false)}) (v:= ?vq39) rfl (by kernel_rfl) (by kernel_rfl) (by kernel_rfl) (fun _ _ _ h=>h) (Or.inl ⟨by rfl, ?hq39⟩) (by assumption) ?rq39
    case hq39=>intro W hSw;(try obtain⟨c0,c1,c2,c3,c4,c5,c6,c7,c8,c9,c10,c11,c12,c13⟩:=HC.out W hSw);go_simp;(try with_reducible rfl)
    try simp only[Act.put,q7_,List.set_cons_zero,List.set_cons_succ]
    refine wpAnyH_take (i:=24) (oi:={dst:=some 111,op:=Op.fieldAddr 56 (Operand.tmp 110) 1,type:=0,pos:= "law.go:38",after:=#[{on:=23,ground:=Ground.data},{on:=13,ground:=Ground.guard}],guard:=some (13,false)}) (v:= ?vq40) rfl (by kernel_rfl) (by kernel_rfl) (by kernel_rfl) (fun _ _ _ h=>h) (Or.inl ⟨by rfl, ?hq40⟩) (by assumption) ?rq40
    case hq40=>intro W hSw;(try obtain⟨c0,c1,c2,c3,c4,c5,c6,c7,c8,c9,c10,c11,c12,c13⟩:=HC.out W hSw);go_simp;(try with_reducible rfl)
    try simp only[Act.put,q7_,List.set_cons_zero,List.set_cons_succ]
    refine wpAnyH_take (i:=25) (oi:={dst:=some 112,op:=Op.load 26 (Operand.tmp 111),type:=26,pos:= "law.go:38",after:=#[{on:=24,ground:=Ground.data},{on:=13,ground:=Ground.guard}],guard:=some (13,false)}) (v:= ?vq41) rfl (by kernel_rfl) (by kernel_rfl) (by kernel_rfl) (fun _ _ _ h=>h) (Or.inl ⟨by rfl, ?hq41⟩) (by assumption) ?rq41
    case hq41=>intro W hSw;(try obtain⟨c0,c1,c2,c3,c4,c5,c6,c7,c8,c9,c10,c11,c12,c13⟩:=HC.out W hSw);go_simp;(try with_reducible rfl)
    try simp only[Act.put,q7_,List.set_cons_zero,List.set_cons_succ]
    refine wpAnyH_ready (rs:=[26]) (by kernel_rfl) (by simp) ?_
    refine AllReadyH.cons (o:={dst:=some 113,op:=Op.call {callee:=Callee.value (Operand.func 32),args:=#[Operand.tmp 106,Operand.tmp 112],argTypes:=#[26,26]},type:=4,pos:= "law.go:38",after:=#[{on:=19,ground:=Ground.data},{on:=25,ground:=Ground.data},{on:=13,ground:=Ground.chain},{on:=13,ground:=Ground.guard}],guard:=some (13,false)}) rfl (fun K hK=>?_) AllReadyH.nil
    go_simp
    go_wp2_with (go_at_call 32;refine (HSI.out _ (Hf.out.trans hY_ q4_)).mono ?_;rintro r wa ⟨rfl,ba_⟩)
    refine hK.out _ _ (hY_.trans (Fr.b0 ba_) q4_) (fun hY_=>?_);clear hK K
    try simp only[Act.put,q7_,List.set_cons_zero,List.set_cons_succ]
    refine wpAnyH_take (i:=27) (oi:={dst:=some 114,op:=Op.unOp UnOp.not 4 (Operand.tmp 113),type:=4,pos:= "law.go:38",after:=#[{on:=26,ground:=Ground.data},{on:=13,ground:=Ground.guard}],guard:=some (13,false)}) (v:= ?vq42) rfl (by kernel_rfl) (by kernel_rfl) (by kernel_rfl) (fun _ _ _ h=>h) (Or.inl ⟨by rfl, ?hq42⟩) (by assumption) ?rq42
    case hq42=>intro W hSw;(try obtain⟨c0,c1,c2,c3,c4,c5,c6,c7,c8,c9,c10,c11,c12,c13⟩:=HC.out W hSw);go_simp;(try with_reducible rfl)
    try simp only[Act.put,q7_,List.set_cons_zero,List.set_cons_succ]
    refine wpAnyH_take (i:=28) (oi:={dst:=some 115,op:=Op.pick (Operand.tmp 100) (Operand.const (Value.bool true)) (Operand.tmp 114),type:=4,pos:= "law.go:38",after:=#[{on:=13,ground:=Ground.data},{on:=27,ground:=Ground.data}],guard:=none}) (v:= ?vq43) rfl (by kernel_rfl) (by kernel_rfl) (by kernel_rfl) (fun _ _ _ h=>h) (Or.inl ⟨by rfl, ?hq43⟩) (by assumption) ?rq43
    case hq43=>intro W hSw;(try obtain⟨c0,c1,c2,c3,c4,c5,c6,c7,c8,c9,c10,c11,c12,c13⟩:=HC.out W hSw);go_simp;(try with_reducible rfl)
    try simp only[Act.put,q7_,List.set_cons_zero,List.set_cons_succ]
    refine wpAnyH_done (by kernel_rfl) ?_ _;have Hh:=q0_ hY_;clear hq hY_ ba_
    cases sb
    ·have hne:Hid (¬ c.p=d.p):=hno.out (fun e=>by
      have h1:bl=bl2:=congrArg zkh.bl e;have h:=Hsb.out;rw[h1] at h
      simp at h)
     go_wp2;go_ret;exact⟨ziq.no hne.out,(F1.out.trans (Hf.out.trans Hh.out q4_) q4_).below q4_⟩
    ·go_wp2
     go_roundw
     case rel=>exact⟨k+1,by omega,by go_num,Hf.out.trans Hh.out q4_,by
      show (c.es.take (k+1)).map za5.p=(d.es.take (k+1)).map za5.p
      rw[zan Hu.out,zan Hu2.out,List.map_append,List.map_append,Hall.out,List.map_singleton,List.map_singleton,zp4 Hhd.out (of_decide_eq_true Hsb.out)]⟩
     case measure=>simp[intOf];omega
  ·obtain rfl:en=k:=by omega
   have hy:Hid (c.p=d.p):=HTop.out.p_ (by
    have:=Hall.out
    rwa[List.take_of_length_le (by rw[Hle.out];exact Nat.le_refl _),List.take_of_length_le (by rw[Hle2.out];exact Nat.le_refl _)] at this)
   have x11:wr.cell? ⟨w.heap.size,11,none⟩=some (.slice eA en ec):=(X0.out.fr Hf.out (fun h=>h)).cell 11;go_wp2;go_ret;exact⟨ziq.yes hy.out,(F1.out.trans Hf.out q4_).below q4_⟩
end
end Go.Proofs.YteajonicnkpbbaaGreatDoor
