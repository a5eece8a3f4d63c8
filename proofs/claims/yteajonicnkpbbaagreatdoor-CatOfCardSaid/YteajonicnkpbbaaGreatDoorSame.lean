/- Walks of agg: Valid, one, both (of none), Of (of one value), Put, Get. -/
import Derived.Test.YteajonicnkpbbaaGreatDoorPkBack
import Derived.Test.YteajonicnkpbbaaGreatDoorPolB
namespace Go.Proofs.YteajonicnkpbbaaGreatDoor
set_option linter.all false
set_option maxHeartbeats 2000000
set_option maxRecDepth 100000
open Go.RowKit Tryz
structure zaS where
 count:Int
 hi:Int
 lo:Int
 min:Int
 max:Int
def zaS.cells(a:zaS):List Value:=[.int .i64 a.count,.int .i64 a.hi,.int .u64 a.lo,.int .i64 a.min,.int .i64 a.max]
def zaS.val(a:zaS):Value:=.agg #[.int .i64 a.count,.int .i64 a.hi,.int .u64 a.lo,.int .i64 a.min,.int .i64 a.max]
def zbx(x:Int):Prop:= -9223372036854775808≤x∧x≤9223372036854775807
def zaS.wf(a:zaS):Prop:=zbx a.count∧zbx a.hi∧(0≤a.lo∧a.lo≤18446744073709551615)∧zbx a.min∧zbx a.max
def zaR(a:zaS):Bool:=decide (1≤a.count)&&decide (a.count≤4611686018427387904)&&decide (a.min≤a.max)
def ziZ:zaS:=⟨0,0,0,0,0⟩
theorem zfW(a:zaS)(w:World):Calls prog 217 #[a.val] w fun r w'=>r=.returned (.bool (zaR a))∧Below w.heap.size w w':=by
 obtain⟨c,h,l,m,x⟩:=a;unfold zaS.val zaR;have hb:Hid (Below w.heap.size w (w.alloc (.cells #[.int .i64 c,.int .i64 h,.int .u64 l,.int .i64 m,.int .i64 x] 196))):=((Own.start w).skip (Fr.none_alloc w _)).bel
 by_cases h1:1≤c
 ·by_cases h2:c≤4611686018427387904
  ·go_enter func217,ntmps217
   go_wp2_with fail
   all_goals (try go_quiet (fail))
   all_goals go_wp2_with fail
   all_goals (go_ret<;>exact⟨by simp[*],by first | exact hb.out | exact ((Own.start w).skip ((Fr.none_alloc w _).drewN _)).bel⟩)
  ·have h2':decide (c≤4611686018427387904)=false:=q9_ h2
   go_enter func217,ntmps217;go_wp2_with fail
   all_goals (try go_quiet (fail))
   all_goals go_wp2_with fail
   all_goals (go_ret<;>exact⟨by simp[*],by first | exact hb.out | exact ((Own.start w).skip ((Fr.none_alloc w _).drewN _)).bel⟩)
 ·have h1':decide (1≤c)=false:=q9_ h1
  go_enter func217,ntmps217;go_wp2_with fail
  all_goals (try go_quiet (fail))
  all_goals go_wp2_with fail
  all_goals (go_ret<;>exact⟨by simp[*],by first | exact hb.out | exact ((Own.start w).skip ((Fr.none_alloc w _).drewN _)).bel⟩)
def zbj(v:Int):zaS:=⟨1,v / 9223372036854775808,v%18446744073709551616,v,v⟩
theorem zqK(v:Int)(hv:zbx v)(w:World):Calls prog 185 #[.int .i64 v] w fun r w'=>r=.returned (zbj v).val∧Below w.heap.size w w':=by
 obtain⟨h0,h1⟩:=hv
 have hu:IntKind.u64.wrap v=v%18446744073709551616:=by simp[IntKind.wrap,IntKind.signed,IntKind.bits]
 unfold zaS.val zbj;go_enter func185,ntmps185;go_wp2;refine bodyPost_ret (v:=.agg #[.int .i64 1,.int .i64 (v / 9223372036854775808),.int .u64 (v%18446744073709551616),.int .i64 v,.int .i64 v]) ?_ rfl ⟨rfl,((Own.start w).skip (Fr.none_alloc w _)).bel⟩;simp[results,results185,go_sem]
theorem zkf(a b:zaS)(ha:a.count=0)(w:World):Calls prog 184 #[a.val,b.val] w fun r w'=>r=.returned b.val∧Below w.heap.size w w':=by
 obtain⟨c,h,l,m,x⟩:=a;obtain⟨c',h',l',m',x'⟩:=b;simp only at ha;subst ha;unfold zaS.val;go_enter func184,ntmps184;go_wp2;refine bodyPost_ret (v:=.agg #[.int .i64 c',.int .i64 h',.int .u64 l',.int .i64 m',.int .i64 x']) ?_ rfl ⟨rfl,((((Own.start w).skip (Fr.none_alloc w _)).skip (Fr.none_alloc _ _)).skip (Fr.none_alloc _ _)).bel⟩;simp[results,results184,go_sem]
theorem zjM(v:Int)(hv:zbx v)(A:Option Addr)(c:Nat)(w:World)(hr:Rd w 1 A 1 [.int .i64 v]):
  Calls prog 148 #[.slice A 1 c] w fun r w'=>r=.returned (zbj v).val∧Below w.heap.size w w':=by
 have H1:Hid (∀ w',Calls prog 185 #[.int .i64 v] w' fun r w''=>r=.returned (zbj v).val∧Below w'.heap.size w' w''):=fun w'=>zqK v hv w';have H2:Hid (∀ w',Calls prog 184 #[ziZ.val,(zbj v).val] w' fun r w''=>r=.returned (zbj v).val∧Below w'.heap.size w' w''):=fun w'=>zkf ziZ (zbj v) rfl w';obtain⟨ad,rfl,hc⟩:=hr.2 (by decide);have c0:=hc 0 _ rfl
 have c0':w.cell? ad=some (.int .i64 v):=by have:=c0;simp only[Addr.add,if_true] at this;exact this
 have c2:=fun o1 o2=>(Fr.none_alloc (w.alloc o1) o2).cell ((Fr.none_alloc w o1).cell c0' (fun h=>h)) (fun h=>h);clear hr hc c0 hv c0';unfold zaS.val zbj ziZ at H2;unfold zaS.val zbj at H1;unfold zaS.val zbj
 obtain⟨h,hh⟩:∃ h,v / 9223372036854775808=h:=⟨_,rfl⟩
 obtain⟨l,hl⟩:∃ l,v%18446744073709551616=l:=⟨_,rfl⟩
 rw[hh,hl] at H1 H2;rw[hh,hl];clear hh hl;simp only at H1 H2;go_enter func148,ntmps148;go_wp2_with fail;refine wp_loop_rounds 2 ?_;rw[rounds_succ];go_wp2_with fail
 obtain⟨W1,hW1⟩:∃ W1,W1=(w.alloc (.cells #[.int .i64 0,.int .i64 0,.int .u64 0,.int .i64 0,.int .i64 0] 196)).alloc (.cells #[.int .i64 0,.int .i64 0,.int .u64 0,.int .i64 0,.int .i64 0] 196):=⟨_,rfl⟩
 rw[← hW1];have b0:Blk W1 w.heap.size 196 #[.int .i64 0,.int .i64 0,.int .u64 0,.int .i64 0,.int .i64 0]:=hW1▸(Blk.new _ _ _).alloc _;have b1:Blk W1 (w.heap.size+1) 196 #[.int .i64 0,.int .i64 0,.int .u64 0,.int .i64 0,.int .i64 0]:=hW1▸Blk.new' (by simp) _ _;have o1:Own w W1 (fun _=>False):=hW1▸((Own.start w).skip (Fr.none_alloc _ _)).skip (Fr.none_alloc _ _);have B0:=q0_ b0;have B1:=q0_ b1;have O1:=q0_ o1;clear b0 b1 o1 hW1 c2
 have HS:Hid (∀ w',Fr (fun _=>False) W1 w'→(w'.cell? ⟨w.heap.size+1,0,none⟩=some (.int .i64 0)∧w'.cell? ⟨w.heap.size+1,1,none⟩=some (.int .i64 0)∧w'.cell? ⟨w.heap.size+1,2,none⟩=some (.int .u64 0)∧w'.cell? ⟨w.heap.size+1,3,none⟩=some (.int .i64 0)∧w'.cell? ⟨w.heap.size+1,4,none⟩=some (.int .i64 0))∧(w'.frozen? ⟨w.heap.size+1,0,none⟩=false∧w'.frozen? ⟨w.heap.size+1,1,none⟩=false∧w'.frozen? ⟨w.heap.size+1,2,none⟩=false∧w'.frozen? ⟨w.heap.size+1,3,none⟩=false∧w'.frozen? ⟨w.heap.size+1,4,none⟩=false)):=
  fun w' h=>by
   have b:=B1.out.fr h (fun h=>h);exact⟨⟨b.cell 0,b.cell 1,b.cell 2,b.cell 3,b.cell 4⟩,b.frozen 0,b.frozen 1,b.frozen 2,b.frozen 3,b.frozen 4⟩
 obtain⟨⟨a0,a1,a2,a3,a4⟩,_⟩:=HS.out W1.drew ((Fr.refl _ _).drew);have F0:Fr (fun _=>False) W1 W1.drew:=(Fr.refl _ _).drew
 go_region_with (first | (go_at_call 185;refine (H1.out _).mono ?_;rintro r w5 ⟨rfl,b5⟩;have f5:=F0.trans (Fr.b0 b5) q4_;clear b5;clear a0 a1 a2 a3 a4;obtain⟨⟨a0,a1,a2,a3,a4⟩,_⟩:=HS.out w5 f5) | (go_at_call 184;refine (H2.out _).mono ?_;rintro r w6 ⟨rfl,b6⟩;have f6:=f5.trans (Fr.b0 b6) q4_;clear b6;clear a0 a1 a2 a3 a4;obtain⟨⟨a0,a1,a2,a3,a4⟩,g0,g1,g2,g3,g4⟩:=HS.out w6 f6))
 all_goals
  obtain⟨W2,hW2⟩:∃ W2,W2=((((w6.setCell ⟨w.heap.size+1,0,none⟩ (.int .i64 1)).setCell ⟨w.heap.size+1,1,none⟩ (.int .i64 h)).setCell ⟨w.heap.size+1,2,none⟩ (.int .u64 l)).setCell ⟨w.heap.size+1,3,none⟩ (.int .i64 v)).setCell ⟨w.heap.size+1,4,none⟩ (.int .i64 v):=⟨_,rfl⟩
  rw[← hW2];have B2:Blk W2 (w.heap.size+1) 196 #[.int .i64 1,.int .i64 h,.int .u64 l,.int .i64 v,.int .i64 v]:=hW2▸(B1.out.fr f6 (fun h=>h)).set5;have F2:Fr (fun k=>k=w.heap.size+1) W1 W2:=hW2▸Fr.set5 (F:=fun k=>k=w.heap.size+1) (g:=w.heap.size+1) (f6.mono q4_) (.inl rfl) _ _ _ _ _;have R2:=B0.out.fr F2 (by omega);have O2:=q0_ ((O1.out.also (G:=fun k=>k=w.heap.size+1) (fun k hk=>by omega)).fr F2);clear a0 a1 a2 a3 a4 g0 g1 g2 g3 g4 hW2 F0 f5 f6 F2;have a0:=B2.cell 0;have a1:=B2.cell 1;have a2:=B2.cell 2;have a3:=B2.cell 3;have a4:=B2.cell 4;have b0:=R2.cell 0;have b1:=R2.cell 1;have b2:=R2.cell 2;have b3:=R2.cell 3;have b4:=R2.cell 4;have g0:=R2.frozen 0;have g1:=R2.frozen 1;have g2:=R2.frozen 2;have g3:=R2.frozen 3;have g4:=R2.frozen 4;simp only[q1_,q2_,q3_] at a0 a1 a2 a3 a4 b0 b1 b2 b3 b4;clear B2 R2;go_wp2_with fail
  try rw[rounds_succ]
  go_wp2_with fail;have o3:=(O2.out.also (G:=fun k=>k=w.heap.size) (fun k hk=>by omega)).fr (Fr.set5 (F:=fun k=>k=w.heap.size) (g:=w.heap.size) (Fr.refl _ W2) (.inl rfl) (.int .i64 1) (.int .i64 h) (.int .u64 l) (.int .i64 v) (.int .i64 v));refine bodyPost_ret (v:=.agg #[.int .i64 1,.int .i64 h,.int .u64 l,.int .i64 v,.int .i64 v]) ?_ rfl ⟨rfl,o3.bel⟩;simp[results,results148,go_sem, *]
structure zaf where
 name:ByteArray
 start:Int
 agg:zaS
def zaf.cells(r:zaf):List Value:=[.string r.name,.int .i64 r.start,.int .i64 r.agg.count,.int .i64 r.agg.hi,.int .u64 r.agg.lo,.int .i64 r.agg.min,.int .i64 r.agg.max]
def zaf.val(r:zaf):Value:=.agg #[.string r.name,.int .i64 r.start,.int .i64 r.agg.count,.int .i64 r.agg.hi,.int .u64 r.agg.lo,.int .i64 r.agg.min,.int .i64 r.agg.max]
def zaf.wf(r:zaf):Prop:=zbx r.start∧r.agg.wf∧r.name.size≤maxLen
theorem zi9{s:ByteArray}(h:zaE s=true):s.size≤15:=by
 rcases Nat.lt_or_ge 15 s.size with h1 | h1
 ·rw[zgf h1] at h;cases h
 ·exact h1
def zaA(l:List zaf):List Value:=l.flatMap zaf.cells
theorem zb7(r:zaf):r.cells.length=7:=rfl
theorem Rd.rec_{w:World}{n k:Nat}{A:Option Addr}{l:List zaf}(h:Rd w 7 A n (zaA l))(hk:k<n):
  ∃ ad r,A=some ad∧l[k]? =some r∧w.cell? (ad.add (k*7))=some (.string r.name)∧w.cell? ⟨(ad.add (k*7)).block,(ad.add (k*7)).off+1,none⟩=some (.int .i64 r.start)∧w.cell? ⟨(ad.add (k*7)).block,(ad.add (k*7)).off+2,none⟩=some (.int .i64 r.agg.count)∧w.cell? ⟨(ad.add (k*7)).block,(ad.add (k*7)).off+3,none⟩=some (.int .i64 r.agg.hi)∧w.cell? ⟨(ad.add (k*7)).block,(ad.add (k*7)).off+4,none⟩=some (.int .u64 r.agg.lo)∧w.cell? ⟨(ad.add (k*7)).block,(ad.add (k*7)).off+5,none⟩=some (.int .i64 r.agg.min)∧w.cell? ⟨(ad.add (k*7)).block,(ad.add (k*7)).off+6,none⟩=some (.int .i64 r.agg.max):=by
 obtain⟨ad,r,e,hr,hc⟩:=Rd.elem zb7 h hk (by decide);refine⟨ad,r,e,hr,?_,?_,?_,?_,?_,?_,?_⟩
 ·have:=hc 0 _ rfl;rwa[za9] at this
 ·have:=hc 1 _ rfl;rwa[zaV _ _ (by decide)] at this
 ·have:=hc 2 _ rfl;rwa[zaV _ _ (by decide)] at this
 ·have:=hc 3 _ rfl;rwa[zaV _ _ (by decide)] at this
 ·have:=hc 4 _ rfl;rwa[zaV _ _ (by decide)] at this
 ·have:=hc 5 _ rfl;rwa[zaV _ _ (by decide)] at this
 ·have:=hc 6 _ rfl;rwa[zaV _ _ (by decide)] at this
theorem Rd.recs_len{w:World}{n:Nat}{A:Option Addr}{l:List zaf}(h:Rd w 7 A n (zaA l)):l.length=n:=Rd.elems_len zb7 (by decide) h
structure zaz where
 name:ByteArray
 time:Int
 value:Int
def zaz.cells(s:zaz):List Value:=[.string s.name,.int .i64 s.time,.int .i64 s.value]
def zaz.val(s:zaz):Value:=.agg #[.string s.name,.int .i64 s.time,.int .i64 s.value]
def zaz.wf(s:zaz):Prop:=zbx s.time∧zbx s.value∧s.name.size≤maxLen
def zdE(l:List zaz):List Value:=l.flatMap zaz.cells
theorem zlJ(s:zaz):s.cells.length=3:=rfl
theorem Rd.samp_{w:World}{n k:Nat}{A:Option Addr}{l:List zaz}(h:Rd w 3 A n (zdE l))(hk:k<n):
  ∃ ad s,A=some ad∧l[k]? =some s∧w.cell? (ad.add (k*3))=some (.string s.name)∧w.cell? ⟨(ad.add (k*3)).block,(ad.add (k*3)).off+1,none⟩=some (.int .i64 s.time)∧w.cell? ⟨(ad.add (k*3)).block,(ad.add (k*3)).off+2,none⟩=some (.int .i64 s.value):=by
 obtain⟨ad,s,e,hr,hc⟩:=Rd.elem zlJ h hk (by decide);refine⟨ad,s,e,hr,?_,?_,?_⟩
 ·have:=hc 0 _ rfl;rwa[za9] at this
 ·have:=hc 1 _ rfl;rwa[zaV _ _ (by decide)] at this
 ·have:=hc 2 _ rfl;rwa[zaV _ _ (by decide)] at this
theorem Rd.samps_len{w:World}{n:Nat}{A:Option Addr}{l:List zaz}(h:Rd w 3 A n (zdE l)):l.length=n:=Rd.elems_len zlJ (by decide) h
theorem zfn(e:Int)(b:List UInt8)(n:Nat):(zba e b n).2.1.length≤b.length:=by
 unfold zba
 split
 ·split
  ·exact Nat.le_refl _
  ·show (b.drop n).length≤_;rw[List.length_drop];omega
 ·exact Nat.le_refl _
theorem zp1:(prog.info? 198).map (fun i=>(i.zero,i.size,i.bytes))=some (some (.agg #[.string ByteArray.empty,.int .i64 0,.int .i64 0,.int .i64 0,.int .u64 0,.int .i64 0,.int .i64 0]),7,64):=by kernel_rfl
theorem zh8(d:Nat)(a b:ByteArray)(w:World):(Op.equalIn (d+1) 9 (.string a) (.string b)).run prog w=.ok (a.toList==b.toList) w:=run_equalIn_string w d _ a b (by kernel_rfl)
theorem ziT(d:Nat)(a b:Int)(w:World):(Op.equalIn (d+1) 3 (.int .i64 a) (.int .i64 b)).run prog w=.ok (a==b) w:=run_equalIn_int w d _ .i64 .i64 a b (by kernel_rfl)
theorem zoH(d:Nat)(a b:Int)(w:World):(Op.equalIn (d+1) 22 (.int .u64 a) (.int .u64 b)).run prog w=.ok (a==b) w:=run_equalIn_int w d _ .u64 .u64 a b (by kernel_rfl)
theorem toList_inj{a b:ByteArray}(h:a.toList=b.toList):a=b:=by
 rw[Lib.toList_data,Lib.toList_data] at h
 cases a;cases b
 simp only at h
 congr
 exact Array.toList_inj.1 h
def zn1(x y:zaz):Bool:=(x.name.toList==y.name.toList)&&((x.time==y.time)&&(x.value==y.value))
theorem zhA(x y:zaz):zn1 x y=true↔x=y:=by
 obtain⟨a,b,c⟩:=x;obtain⟨a',b',c'⟩:=y;unfold zn1;simp only[Bool.and_eq_true,beq_iff_eq,zaz.mk.injEq];exact⟨fun h=>⟨toList_inj h.1,h.2⟩,fun h=>⟨by rw[h.1],h.2⟩⟩
instance zrJ:DecidableEq zaz:=fun x y=>if h:zn1 x y=true then isTrue ((zhA x y).1 h) else isFalse fun e=>h ((zhA x y).2 e)
def znh(x y:zaS):Bool:=(x.count==y.count)&&((x.hi==y.hi)&&((x.lo==y.lo)&&((x.min==y.min)&&(x.max==y.max))))
def zmC(x y:zaf):Bool:=(x.name.toList==y.name.toList)&&((x.start==y.start)&&znh x.agg y.agg)
theorem zo6(x y:zaS):znh x y=true↔x=y:=by
 obtain⟨a,b,c,d,e⟩:=x;obtain⟨a',b',c',d',e'⟩:=y;unfold znh;simp only[Bool.and_eq_true,beq_iff_eq,zaS.mk.injEq]
theorem zeZ(x y:zaf):zmC x y=true↔x=y:=by
 obtain⟨a,b,c⟩:=x;obtain⟨a',b',c'⟩:=y;unfold zmC;simp only[Bool.and_eq_true,beq_iff_eq,zaf.mk.injEq,zo6];exact⟨fun h=>⟨toList_inj h.1,h.2⟩,fun h=>⟨by rw[h.1],h.2⟩⟩
instance zrP:DecidableEq zaf:=fun x y=>if h:zmC x y=true then isTrue ((zeZ x y).1 h) else isFalse fun e=>h ((zeZ x y).2 e)
theorem zn2(d:Nat)(x y:zaS)(w:World):(Op.equalIn (d+2) 196 x.val y.val).run prog w=.ok (znh x y) w:=by
 have hu:prog.underlying 196=some (.struct (prog.fieldsOf 196)):=by kernel_rfl
 have hp:prog.stoodInHeld 196=false:=by kernel_rfl
 have hf:(prog.fieldsOf 196).toList=[⟨"Count",3,0,false, "", "",0⟩,⟨"Hi",3,1,false, "", "",8⟩,⟨"Lo",22,2,false, "", "",16⟩,⟨"Min",3,3,false, "", "",24⟩,⟨"Max",3,4,false, "", "",32⟩]:=by kernel_rfl
 unfold zaS.val znh;rw[run_equalIn_struct (P:=prog) w (d+1) _ _ _ hu hp,hf];simp[Op.eqFields,part,ziT d,zoH d]
 by_cases h1:x.count=y.count<;>by_cases h2:x.hi=y.hi<;>by_cases h3:x.lo=y.lo<;>by_cases h4:x.min=y.min<;>by_cases h5:x.max=y.max<;>simp[h1,h2,h3,h4,h5]
theorem zfx(a:Int)(w:World):Calls prog 250 #[.int .i64 a] w fun r w'=>r=.returned (.bool false)∧w=w':=by
 go_enter func250,ntmps250;go_wp2;go_ret;exact⟨by simp,rfl⟩
theorem zcD(a:ByteArray)(w:World):Calls prog 249 #[.string a] w fun r w'=>r=.returned (.bool false)∧w=w':=by
 go_enter func249,ntmps249;go_wp2;go_ret;exact⟨by simp,rfl⟩
def zq6(a b:Int):Int:=if a<b then -1 else if b<a then 1 else 0
theorem zn_(a b:Int)(w:World):Calls prog 230 #[.int .i64 a,.int .i64 b] w fun r w'=>r=.returned (.int .i64 (zq6 a b))∧w=w':=by
 unfold zq6
 by_cases h1:a<b
 ·rw[if_pos h1]
  go_enter func230,ntmps230;go_wp2_with fail;refine (zfx a w).mono ?_;rintro r w' ⟨rfl,rfl⟩;go_wp2_with fail;refine (zfx b w).mono ?_;rintro r w' ⟨rfl,rfl⟩;go_wp2;go_ret;exact⟨rfl,rfl⟩
 ·rw[if_neg h1]
  by_cases h2:b<a
  ·rw[if_pos h2]
   go_enter func230,ntmps230;go_wp2_with fail;refine (zfx a w).mono ?_;rintro r w' ⟨rfl,rfl⟩;go_wp2_with fail;refine (zfx b w).mono ?_;rintro r w' ⟨rfl,rfl⟩;go_wp2;go_ret;exact⟨rfl,rfl⟩
  ·rw[if_neg h2]
   go_enter func230,ntmps230;go_wp2_with fail;refine (zfx a w).mono ?_;rintro r w' ⟨rfl,rfl⟩;go_wp2_with fail;refine (zfx b w).mono ?_;rintro r w' ⟨rfl,rfl⟩;go_wp2;go_ret;exact⟨rfl,rfl⟩
def zq4(a b:ByteArray):Int:=if Op.bytesLess a.toList b.toList=true then -1 else if (a.toList==b.toList)=true then 0 else 1
theorem zm9(a b:ByteArray)(w:World):Calls prog 229 #[.string a,.string b] w fun r w'=>r=.returned (.int .i64 (zq4 a b))∧w=w':=by
 unfold zq4
 by_cases h1:Op.bytesLess a.toList b.toList=true
 ·rw[if_pos h1]
  go_enter func229,ntmps229;go_wp2_with fail;refine (zcD a w).mono ?_;rintro r w' ⟨rfl,rfl⟩;go_wp2_with fail;refine (zcD b w).mono ?_;rintro r w' ⟨rfl,rfl⟩;go_wp2;go_ret;exact⟨rfl,rfl⟩
 ·rw[if_neg h1]
  have h1f:Op.bytesLess a.toList b.toList=false:=by simpa using h1
  clear h1
  cases h2:(a.toList==b.toList)
  ·rw[if_neg (by simp)]
   go_enter func229,ntmps229;go_wp2_with fail;refine (zcD a w).mono ?_;rintro r w' ⟨rfl,rfl⟩;go_wp2_with fail;refine (zcD b w).mono ?_;rintro r w' ⟨rfl,rfl⟩;go_wp2;go_ret;exact⟨rfl,rfl⟩
  ·rw[if_pos rfl]
   go_enter func229,ntmps229;go_wp2_with fail;refine (zcD a w).mono ?_;rintro r w' ⟨rfl,rfl⟩;go_wp2_with fail;refine (zcD b w).mono ?_;rintro r w' ⟨rfl,rfl⟩;go_wp2;go_ret;exact⟨rfl,rfl⟩
def orI(a b:Int):Int:=if a=0 then b else a
theorem zrm(a b:Int)(A:Option Addr)(c:Nat)(w:World)(hr:Rd w 1 A 2 [.int .i64 a,.int .i64 b]):Calls prog 228 #[.slice A 2 c] w fun r w'=>r=.returned (.int .i64 (orI a b))∧w=w':=by
 obtain⟨ad,rfl,hc⟩:=hr.2 (by omega);have c0:=hc 0 _ rfl;have c1:=hc 1 _ rfl;rw[za9] at c0;rw[zaV _ _ (by decide)] at c1;have H0:=q0_ c0;have H1:=q0_ c1;clear hr hc c0 c1;unfold orI
 by_cases ha:a=0
 ·rw[if_pos ha]
  subst ha
  by_cases hb:b=0
  ·subst hb
   go_enter func228,ntmps228;go_wp2_with fail
   go_loop [8] (fun i=>∃ k:Nat,k≤2∧i=.int .i64 k) (fun i=>2-(intOf i).toNat)
   case atStart=>exact⟨0,by omega,rfl⟩
   case round=>
    obtain⟨k,hk,rfl⟩:=hrel;have c0:=H0.out;have c1:=H1.out
    rcases (show k=0∨k=1∨k=2 by omega) with rfl | rfl | rfl
    ·go_wp2
     go_round
     case rel=>exact⟨1,by omega,by first | rfl | go_num⟩
     case measure=>simp[intOf]
    ·go_wp2
     go_round
     case rel=>exact⟨2,by omega,by first | rfl | go_num⟩
     case measure=>simp[intOf]
    ·go_wp2
     go_ret;exact⟨rfl,rfl⟩
  ·have hb0:(b != 0)=true:=by simpa using hb
   clear hb;go_enter func228,ntmps228;go_wp2_with fail
   go_loop [8] (fun i=>∃ k:Nat,k≤1∧i=.int .i64 k) (fun i=>2-(intOf i).toNat)
   case atStart=>exact⟨0,by omega,rfl⟩
   case round=>
    obtain⟨k,hk,rfl⟩:=hrel;have c0:=H0.out;have c1:=H1.out
    rcases (show k=0∨k=1 by omega) with rfl | rfl
    ·go_wp2
     go_round
     case rel=>exact⟨1,by omega,by first | rfl | go_num⟩
     case measure=>simp[intOf]
    ·go_wp2
     go_ret;exact⟨rfl,rfl⟩
 ·rw[if_neg ha]
  have ha0:(a != 0)=true:=by simpa using ha
  clear ha;go_enter func228,ntmps228;go_wp2_with fail
  go_loop [8] (fun i=>i=.int .i64 0) (fun i=>2-(intOf i).toNat)
  case atStart=>exact rfl
  case round=>
   obtain rfl:=hrel;have c0:=H0.out
   go_wp2
   go_ret;exact⟨rfl,rfl⟩
def ze0(a b:zaf):Int:=orI (zq4 a.name b.name) (zq6 a.start b.start)
end Go.Proofs.YteajonicnkpbbaaGreatDoor
