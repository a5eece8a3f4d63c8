/- The plain law of a table: records in order, one a place. -/
import Derived.Test.YtjhhodndlkpmhaaGreatDoorSame
import Derived.Laws.Externs
import Derived.Maps.RangeWalk
import Derived.Maps.Views
import Derived.Maps.Ext
import Derived.DeepKeys5
namespace Go.Proofs.YtjhhodndlkpmhaaGreatDoor
set_option linter.all false
set_option maxHeartbeats 4000000
set_option maxRecDepth 100000
open Go.RowKit Tryz
theorem zsn:∀ x y:List UInt8,Op.bytesLess x y=decide (x<y)
 | [],[]=>by simp[Op.bytesLess]
 | _::_,[]=>by simp[Op.bytesLess]
 | [],_::_=>by simp[Op.bytesLess]
 | a::x,b::y=>by
  rw[Op.bytesLess,zsn x y];simp only[List.cons_lt_cons_iff]
  by_cases h1:a<b<;>by_cases h2:a=b<;>by_cases h3:x<y<;>simp[h1,h2,h3]
def klt(a b:zae):Prop:=a.name.toList<b.name.toList∨(a.name=b.name∧a.start<b.start)
def zbQ(a b:zae):Prop:=a.name=b.name∧a.start=b.start
instance (a b:zae):Decidable (klt a b):=by unfold klt;infer_instance
instance (a b:zae):Decidable (zbQ a b):=by unfold zbQ;infer_instance
theorem zrP(a b:ByteArray):zrQ a b=if a.toList<b.toList then -1 else if a=b then 0 else 1:=by
 unfold zrQ;rw[zsn]
 by_cases h:a.toList<b.toList
 ·simp[h]
 ·by_cases h2:a=b
  ·subst h2;simp
  ·have:a.toList≠b.toList:=fun e=>h2 (toList_inj e)
   simp[h,h2,this]
theorem zrR(a b:Int):zrS a b=if a<b then -1 else if a=b then 0 else 1:=by
 unfold zrS
 by_cases h:a<b
 ·simp[h]
 ·by_cases h2:b<a
  ·have:a≠b:=by omega
   simp[h,h2,this]
  ·have:a=b:=by omega
   simp[h,h2,this]
theorem zmu(a b:zae):zeH a b<0↔klt a b:=by
 unfold zeH orI klt;rw[zrP,zrR]
 by_cases h:a.name.toList<b.name.toList
 ·simp[h]
 ·by_cases h2:a.name=b.name
  ·by_cases h3:a.start<b.start
   ·simp[h,h2,h3]
   ·by_cases h4:a.start=b.start<;>simp[h,h2,h3,h4]
  ·simp[h,h2]
theorem zc8(a:zae):¬ klt a a:=by
 rintro (h | ⟨_,h⟩)
 ·exact absurd h (List.lt_irrefl _)
 ·omega
theorem zc7{a b c:zae}(h:klt a b)(k:klt b c):klt a c:=by
 rcases h with h | ⟨h1,h2⟩<;>rcases k with k | ⟨k1,k2⟩
 ·exact .inl (List.lt_trans h k)
 ·exact .inl (k1▸h)
 ·exact .inl (h1▸k)
 ·exact .inr ⟨h1.trans k1,by omega⟩
theorem zgL(a b:zae):klt a b∨zbQ a b∨klt b a:=by
 by_cases h:a.name.toList<b.name.toList
 ·exact .inl (.inl h)
 ·by_cases h2:b.name.toList<a.name.toList
  ·exact .inr (.inr (.inl h2))
  ·have hn:a.name=b.name:=toList_inj (List.le_antisymm (List.not_lt.1 h2) (List.not_lt.1 h))
   rcases Int.lt_trichotomy a.start b.start with h3 | h3 | h3
   ·exact .inl (.inr ⟨hn,h3⟩)
   ·exact .inr (.inl ⟨hn,h3⟩)
   ·exact .inr (.inr (.inr ⟨hn.symm,h3⟩))
theorem zkN{a b c:zae}(h:zbQ a b):klt a c↔klt b c:=by
 unfold klt;rw[h.1,h.2]
theorem zqk{a b c:zae}(h:zbQ a b):klt c a↔klt c b:=by
 unfold klt;rw[h.1,h.2]
theorem zeL{a b:zae}(h:klt a b):¬ zbQ a b:=fun k=>zc8 b ((zkN k).1 h)
def zav(l:List zae):Prop:=l.Pairwise klt
theorem zav.nil:zav []:=List.Pairwise.nil
theorem zav.filter{l:List zae}(h:zav l)(p:zae→Bool):zav (l.filter p):=List.Pairwise.filter p h
theorem zav.inj{l:List zae}(h:zav l){a b:zae}(ha:a∈l)(hb:b∈l)(hk:zbQ a b):a=b:=by
 induction l with
 | nil=>cases ha
 | cons x t ih=>
  obtain⟨h1,h2⟩:=List.pairwise_cons.1 h
  rcases List.mem_cons.1 ha with rfl | ha'<;>rcases List.mem_cons.1 hb with rfl | hb'
  ·rfl
  ·exact absurd hk (zeL (h1 b hb'))
  ·exact absurd ⟨hk.1.symm,hk.2.symm⟩ (zeL (h1 a ha'))
  ·exact ih h2 ha' hb'
theorem zav.ext:∀ {l m:List zae},zav l→zav m→(∀ r,r∈l↔r∈m)→l=m
 | [],[],_,_,_=>rfl
 | [],b::_,_,_,h=>by have:=(h b).2 (by simp);cases this
 | a::_,[],_,_,h=>by have:=(h a).1 (by simp);cases this
 | a::l,b::m,hl,hm,h=>by
  obtain⟨h1,h2⟩:=List.pairwise_cons.1 hl;obtain⟨k1,k2⟩:=List.pairwise_cons.1 hm
  have e:a=b:=by
   rcases List.mem_cons.1 ((h a).1 (by simp)) with e | ha
   ·exact e
   ·rcases List.mem_cons.1 ((h b).2 (by simp)) with e | hb
    ·exact e.symm
    ·exact absurd (zc7 (h1 b hb) (k1 a ha)) (zc8 a)
  subst e;rw[zav.ext h2 k2 (fun r=>?_)]
  constructor
  ·intro hr
   rcases List.mem_cons.1 ((h r).1 (List.mem_cons_of_mem _ hr)) with e | hr'
   ·subst e;exact absurd (h1 r hr) (zc8 r)
   ·exact hr'
  ·intro hr
   rcases List.mem_cons.1 ((h r).2 (List.mem_cons_of_mem _ hr)) with e | hr'
   ·subst e;exact absurd (k1 r hr) (zc8 r)
   ·exact hr'
def zbq(l:List zae)(r:zae):Option zaL:=(l.find? fun x=>decide (zbQ x r)).map (·.agg)
def zcx(mg:Option zaL→zaL→zaL):List zae→zae→List zae
 | [],r=>[⟨r.name,r.start,mg none r.agg⟩]
 | x::l,r=>if klt x r then x::zcx mg l r else if zbQ x r then⟨r.name,r.start,mg (some x.agg) r.agg⟩::l else⟨r.name,r.start,mg none r.agg⟩::x::l
theorem zc_{l:List zae}{r:zae}(h:∀ x∈l,¬ zbQ x r):zbq l r=none:=by
 unfold zbq;rw[List.find?_eq_none.2 (fun x hx=>by simpa using h x hx)]
 rfl
theorem zb9{l:List zae}(hs:zav l){x r:zae}(hx:x∈l)(hk:zbQ x r):zbq l r=some x.agg:=by
 unfold zbq
 cases hf:l.find? fun x=>decide (zbQ x r) with
 | none=>
  have:=List.find?_eq_none.1 hf x hx;simp[hk] at this
 | some y=>
  have h1:=List.mem_of_find?_eq_some hf
  have h2:zbQ y r:=by simpa using List.find?_some hf
  rw[hs.inj h1 hx ⟨h2.1.trans hk.1.symm,h2.2.trans hk.2.symm⟩]
  rfl
def zfr(mg:Option zaL→zaL→zaL)(l:List zae)(r:zae):zae:=⟨r.name,r.start,mg (zbq l r) r.agg⟩
theorem zdo(mg:Option zaL→zaL→zaL)(l:List zae)(r:zae):zbQ (zfr mg l r) r:=⟨rfl,rfl⟩
theorem zaH(mg:Option zaL→zaL→zaL):∀ {l:List zae} {r:zae},zav l→∀ y,y∈zcx mg l r↔y=zfr mg l r∨(y∈l∧¬ zbQ y r)
 | [],r,_,y=>by simp[zcx,zfr,zbq]
 | x::l,r,hs,y=>by
  obtain⟨h1,h2⟩:=List.pairwise_cons.1 hs;unfold zcx
  by_cases c1:klt x r
  ·have e:zbq (x::l) r=zbq l r:=by
    unfold zbq;rw[List.find?_cons_of_neg (by simpa using zeL c1)]
   rw[if_pos c1];have ih:=zaH mg (r:=r) h2 y
   have en:zfr mg (x::l) r=zfr mg l r:=by unfold zfr;rw[e]
   rw[en,List.mem_cons,ih,List.mem_cons];have hne:=zeL c1
   constructor
   ·rintro (rfl | h | ⟨h,k⟩)
    ·exact .inr ⟨.inl rfl,hne⟩
    ·exact .inl h
    ·exact .inr ⟨.inr h,k⟩
   ·rintro (h | ⟨rfl | h,k⟩)
    ·exact .inr (.inl h)
    ·exact .inl rfl
    ·exact .inr (.inr ⟨h,k⟩)
  ·rw[if_neg c1]
   by_cases c2:zbQ x r
   ·rw[if_pos c2]
    have e:zbq (x::l) r=some x.agg:=zb9 hs (by simp) c2
    have en:zfr mg (x::l) r=⟨r.name,r.start,mg (some x.agg) r.agg⟩:=by unfold zfr;rw[e]
    rw[en,List.mem_cons]
    constructor
    ·rintro (h | h)
     ·exact .inl h
     ·exact .inr ⟨List.mem_cons_of_mem _ h,fun k=>zeL (h1 y h) ⟨c2.1.trans k.1.symm,c2.2.trans k.2.symm⟩⟩
    ·rintro (h | ⟨h,k⟩)
     ·exact .inl h
     ·rcases List.mem_cons.1 h with rfl | h
      ·exact absurd c2 k
      ·exact .inr h
   ·rw[if_neg c2]
    have hr:klt r x:=by
     rcases zgL x r with h | h | h
     ·exact absurd h c1
     ·exact absurd h c2
     ·exact h
    have hall:∀ z∈x::l,¬ zbQ z r:=by
     intro z hz
     rcases List.mem_cons.1 hz with rfl | hz
     ·exact c2
     ·exact fun k=>zeL (zc7 hr (h1 z hz)) ⟨k.1.symm,k.2.symm⟩
    have en:zfr mg (x::l) r=⟨r.name,r.start,mg none r.agg⟩:=by unfold zfr;rw[zc_ hall]
    rw[en,List.mem_cons]
    constructor
    ·rintro (h | h)
     ·exact .inl h
     ·exact .inr ⟨h,hall y h⟩
    ·rintro (h | ⟨h,_⟩)
     ·exact .inl h
     ·exact .inr h
theorem zaA(mg:Option zaL→zaL→zaL):∀ {l:List zae} {r:zae},zav l→zav (zcx mg l r)
 | [],r,_=>by simp[zcx,zav]
 | x::l,r,hs=>by
  obtain⟨h1,h2⟩:=List.pairwise_cons.1 hs;unfold zcx
  by_cases c1:klt x r
  ·rw[if_pos c1]
   refine List.pairwise_cons.2 ⟨fun y hy=>?_,zaA mg h2⟩
   rcases (zaH mg h2 y).1 hy with rfl | ⟨hy,_⟩
   ·exact (zqk (zdo mg l r)).2 c1
   ·exact h1 y hy
  ·rw[if_neg c1]
   by_cases c2:zbQ x r
   ·rw[if_pos c2]
    exact List.pairwise_cons.2 ⟨fun y hy=>(zkN (a:=⟨r.name,r.start,mg (some x.agg) r.agg⟩) (b:=x) ⟨c2.1.symm,c2.2.symm⟩).2 (h1 y hy),h2⟩
   ·rw[if_neg c2]
    have hr:klt r x:=by
     rcases zgL x r with h | h | h
     ·exact absurd h c1
     ·exact absurd h c2
     ·exact h
    refine List.pairwise_cons.2 ⟨fun y hy=>?_,hs⟩
    rcases List.mem_cons.1 hy with rfl | hy
    ·exact hr
    ·exact zc7 hr (h1 y hy)
theorem zj4(x y c:Int)(hx:0≤x)(hy:0≤y)(hc0:0≤c)(hc:c≤1)(w:World):
  (callFunc 169 #[.int .u64 x,.int .u64 y,.int .u64 c]).run prog w=.ok (.value (.tuple #[.int .u64 ((x+y+c)%18446744073709551616),.int .u64 ((x+y+c) / 18446744073709551616)])) w:=by
 rw[run_callFunc_extern func169 (by kernel_rfl) (by kernel_rfl) (by kernel_rfl) (e:=add64Entry) (by kernel_rfl),run_add64 x y c hx hy hc0 hc]
 rfl
def zbe(a b:zaL):zaL:=
 if a.count=0 then b else
 ⟨if a.count<4611686018427387904-b.count then a.count+b.count else 4611686018427387904,wrap64 (a.hi+b.hi+(a.lo+b.lo) / 18446744073709551616),(a.lo+b.lo)%18446744073709551616,
  min a.min b.min,max a.max b.max⟩
theorem zqK(a b:zaL)(ha:a.wf)(hb:b.wf)(hbc:0≤b.count∧b.count≤4611686018427387904)(hac:0≤a.count∧a.count≤4611686018427387904)(w:World):Calls prog 138 #[a.val,b.val] w fun r w'=>r=.returned (zbe a b).val∧Below w.heap.size w w':=by
 by_cases h0:a.count=0
 ·unfold zbe
  rw[if_pos h0];exact zjQ a b h0 w
 unfold zbe;rw[if_neg h0];obtain⟨c,h,l,m,x⟩:=a;obtain⟨c',h',l',m',x'⟩:=b;obtain⟨_,⟨hh0,hh1⟩,⟨hl0,hl1⟩,_,_⟩:=ha;obtain⟨_,⟨kh0,kh1⟩,⟨kl0,kl1⟩,_,_⟩:=hb;simp only at*
 have HA1:Hid (∀ w,(callFunc 169 #[.int .u64 l,.int .u64 l',.int .u64 0]).run prog w=.ok (.value (.tuple #[.int .u64 ((l+l')%18446744073709551616),.int .u64 ((l+l') / 18446744073709551616)])) w):=fun w=>by
  rw[zj4 l l' 0 hl0 kl0 (by omega) (by omega),Int.add_zero]
 have hc0:0≤(l+l') / 18446744073709551616:=by omega
 have hc1:(l+l') / 18446744073709551616≤1:=by omega
 obtain⟨cy,hcy⟩:∃ cy,(l+l') / 18446744073709551616=cy:=⟨_,rfl⟩
 obtain⟨lo,hlo⟩:∃ lo,(l+l')%18446744073709551616=lo:=⟨_,rfl⟩
 rw[hcy] at HA1 hc0 hc1 ⊢;rw[hlo] at HA1 ⊢
 have HA2:Hid (∀ w,(callFunc 169 #[.int .u64 (h%18446744073709551616),.int .u64 (h'%18446744073709551616),.int .u64 cy]).run prog w=.ok (.value (.tuple #[.int .u64 ((h%18446744073709551616+h'%18446744073709551616+cy)%18446744073709551616),.int .u64 ((h%18446744073709551616+h'%18446744073709551616+cy) / 18446744073709551616)])) w):=fun w=>
  zj4 _ _ _ (by omega) (by omega) hc0 hc1 w
 have hu:IntKind.u64.wrap h=h%18446744073709551616:=by simp[IntKind.wrap,IntKind.signed,IntKind.bits]
 have hu':IntKind.u64.wrap h'=h'%18446744073709551616:=by simp[IntKind.wrap,IntKind.signed,IntKind.bits]
 have hw:wrap64 ((h%18446744073709551616+h'%18446744073709551616+cy)%18446744073709551616)=wrap64 (h+h'+cy):=by
  unfold wrap64;omega
 obtain⟨hi,hhi⟩:∃ hi,(h%18446744073709551616+h'%18446744073709551616+cy)%18446744073709551616=hi:=⟨_,rfl⟩
 obtain⟨hj,hhj⟩:∃ hj,(h%18446744073709551616+h'%18446744073709551616+cy) / 18446744073709551616=hj:=⟨_,rfl⟩
 rw[hhi] at HA2 hw;rw[hhj] at HA2;rw[← hw]
 have hs:IntKind.i64.wrap (4611686018427387904-c')=4611686018427387904-c':=by simp[IntKind.wrap,IntKind.signed,IntKind.bits];omega
 have hd0:decide (c=0)=false:=q9_ h0;clear hw hhi hhj hcy hlo hc0 hc1 hh0 hh1 kh0 kh1 hl0 hl1 kl0 kl1;unfold zaL.val
 obtain⟨mn,hmn⟩:∃ mn,min m m'=mn:=⟨_,rfl⟩
 obtain⟨mx,hmx⟩:∃ mx,max x x'=mx:=⟨_,rfl⟩
 rw[hmn,hmx]
 by_cases hcm:c<4611686018427387904-c'
 ·have hsum:IntKind.i64.wrap (c+c')=c+c':=by simp[IntKind.wrap,IntKind.signed,IntKind.bits];omega
  have hcd:decide (c<4611686018427387904-c')=true:=qa_ hcm;rw[if_pos hcm];go_enter func138,ntmps138
  go_wp2_with (simp only[HA1.out,HA2.out])
  refine bodyPost_ret (v:=.agg #[.int .i64 (c+c'),.int .i64 (wrap64 hi),.int .u64 lo,.int .i64 mn,.int .i64 mx]) ?_ rfl ⟨rfl,((((Own.start w).skip (Fr.none_alloc w _)).skip (Fr.none_alloc _ _)).skip (Fr.none_alloc _ _)).bel⟩;simp[results,results138,go_sem,hmn,hmx]
 ·have hcd:decide (c<4611686018427387904-c')=false:=q9_ hcm
  rw[if_neg hcm];go_enter func138,ntmps138
  go_wp2_with (simp only[HA1.out,HA2.out])
  refine bodyPost_ret (v:=.agg #[.int .i64 4611686018427387904,.int .i64 (wrap64 hi),.int .u64 lo,.int .i64 mn,.int .i64 mx]) ?_ rfl ⟨rfl,((((Own.start w).skip (Fr.none_alloc w _)).skip (Fr.none_alloc _ _)).skip (Fr.none_alloc _ _)).bel⟩;simp[results,results138,go_sem,hmn,hmx]
def zb5(l:List zaL):zaL:=l.foldl (fun s x=>if zaC x then zbe s x else s) zfF
def zpu(l:List zaL):List Value:=l.flatMap zaL.cells
def zaL.fine(a:zaL):Prop:=a.wf∧0≤a.count∧a.count≤4611686018427387904
theorem zpl(a:zaL):a.cells.length=5:=rfl
theorem zhZ{a:zaL}(h:a.wf)(ho:zaC a=true):a.fine:=by
 unfold zaC at ho;simp only[Bool.and_eq_true,decide_eq_true_eq] at ho;exact⟨h,by omega,ho.1.2⟩
theorem zjZ:zfF.fine:=by
 unfold zfF zaL.fine zaL.wf zbh;simp
theorem znc{a b:zaL}(ha:a.fine)(hb:b.fine):(zbe a b).fine:=by
 obtain⟨⟨a1,a2,a3,a4,a5⟩,a6,a7⟩:=ha;obtain⟨⟨b1,b2,b3,b4,b5⟩,b6,b7⟩:=hb;unfold zbe
 by_cases h0:a.count=0
 ·rw[if_pos h0];exact⟨⟨b1,b2,b3,b4,b5⟩,b6,b7⟩
 ·rw[if_neg h0]
  unfold zaL.fine zaL.wf zbh at*;dsimp only
  have hw: -9223372036854775808≤wrap64 (a.hi+b.hi+(a.lo+b.lo) / 18446744073709551616)∧wrap64 (a.hi+b.hi+(a.lo+b.lo) / 18446744073709551616)≤9223372036854775807:=by unfold wrap64;omega
  generalize wrap64 (a.hi+b.hi+(a.lo+b.lo) / 18446744073709551616)=z at hw ⊢
  split<;>omega
theorem zhN:∀ (l:List zaL) (s:zaL),s.fine→(∀ a∈l,a.wf)→(l.foldl (fun s x=>if zaC x then zbe s x else s) s).fine
 | [],s,hs,_=>hs
 | x::l,s,hs,h=>by
  rw[List.foldl_cons];refine zhN l _ ?_ (fun a ha=>h a (List.mem_cons_of_mem _ ha))
  split
  ·exact znc hs (zhZ (h x (by simp)) ‹_›)
  ·exact hs
theorem zgH{l:List zaL}(h:∀ a∈l,a.wf):(zb5 l).fine:=zhN l zfF zjZ h
theorem zgG(l:List zaL)(x:zaL):zb5 (l++[x])=if zaC x then zbe (zb5 l) x else zb5 l:=by
 unfold zb5;rw[List.foldl_append];rfl
theorem zox(l:List zaL)(A:Option Addr)(n c:Nat)(w:World)(hr:Rd w 5 A n (zpu l))(hwf:∀ a∈l,a.wf)(hn:n≤9223372036854775807):
  Calls prog 137 #[.slice A n c] w fun r w'=>r=.returned (zb5 l).val∧Below w.heap.size w w':=by
 have Hr:=q0_ hr;have Hwf:=q0_ hwf;have Hlen:=q0_ (Rd.elems_len zpl (by decide) hr);clear hr hwf;have B2:=q0_ ((Blk.new w 125 #[.int .i64 0,.int .i64 0,.int .u64 0,.int .i64 0,.int .i64 0]).alloc (.cells #[.int .i64 0,.int .i64 0,.int .u64 0,.int .i64 0,.int .i64 0] 125));have B3:=q0_ (Blk.new' (w:=w.alloc (.cells #[.int .i64 0,.int .i64 0,.int .u64 0,.int .i64 0,.int .i64 0] 125)) (k:=w.heap.size+1) (by simp) 125 #[.int .i64 0,.int .i64 0,.int .u64 0,.int .i64 0,.int .i64 0]);have O:=q0_ (((Own.start w).skip (Fr.none_alloc w (.cells #[.int .i64 0,.int .i64 0,.int .u64 0,.int .i64 0,.int .i64 0] 125))).skip (Fr.none_alloc _ (.cells #[.int .i64 0,.int .i64 0,.int .u64 0,.int .i64 0,.int .i64 0] 125)));go_enter func137,ntmps137;go_wp2_with fail
 go_loopw [8] (fun i wr=>∃ k:Nat,k≤n∧i=.int .i64 k∧Blk wr w.heap.size 125 #[.int .i64 0,.int .i64 0,.int .u64 0,.int .i64 0,.int .i64 0]∧Blk wr (w.heap.size+1) 125 (zb5 (l.take k)).cells.toArray∧Own w wr (fun j=>j=w.heap.size+1)) (fun i _=>n-(intOf i).toNat)
 case atStart=>exact⟨0,Nat.zero_le _,rfl,B2.out,B3.out,O.out.also (fun k hk=>by omega)⟩
 case round=>
  obtain⟨k,hk,rfl,hb2,hb3,ho⟩:=hrel;have hb3':Blk wr (w.heap.size+1) 125 #[.int .i64 (zb5 (l.take k)).count,.int .i64 (zb5 (l.take k)).hi,.int .u64 (zb5 (l.take k)).lo,.int .i64 (zb5 (l.take k)).min,.int .i64 (zb5 (l.take k)).max]:=hb3;clear hb3
  obtain⟨s,hs⟩:∃ s,zb5 (l.take k)=s:=⟨_,rfl⟩
  have hsf:s.fine:=hs▸zgH (fun a ha=>Hwf.out a (List.mem_of_mem_take ha));rw[hs] at hb3'
  by_cases hlt:k<n
  ·obtain⟨ad,x,rfl,hx,hc⟩:=Rd.elem zpl (Hr.out.fr0 (Fr.b0 ho.bel)) hlt (by decide)
   have d0:=hc 0 _ rfl;have d1:=hc 1 _ rfl;have d2:=hc 2 _ rfl;have d3:=hc 3 _ rfl;have d4:=hc 4 _ rfl;rw[zaZ] at d0;rw[zaV _ _ (by decide)] at d1 d2 d3 d4;have hxw:=Hwf.out x (zab hx);have HV:Hid (∀ w',Calls prog 154 #[x.val] w' fun r w''=>r=.returned (.bool (zaC x))∧Below w'.heap.size w' w''):=fun w'=>zci x w';have HBo:Hid (zaC x=true→∀ w',Calls prog 138 #[s.val,x.val] w' fun r w''=>r=.returned (zbe s x).val∧Below w'.heap.size w' w''):=fun hk w'=>zqK s x hsf.1 hxw (zhZ hxw hk).2 hsf.2 w';unfold zaL.val at HV HBo;have Hx:=q0_ hx;have Hs:=q0_ hs;have Hb2:=q0_ hb2;have Hb3:=q0_ hb3';have Ho:=q0_ ho;clear hx hs hb2 hb3' ho hc hxw hsf;go_wp2_with fail
   obtain⟨W1,hW1⟩:∃ W1,W1=wr.alloc (.cells #[.int .i64 x.count,.int .i64 x.hi,.int .u64 x.lo,.int .i64 x.min,.int .i64 x.max] 125):=⟨_,rfl⟩
   rw[← hW1];have bx:Hid (Blk W1 wr.heap.size 125 #[.int .i64 x.count,.int .i64 x.hi,.int .u64 x.lo,.int .i64 x.min,.int .i64 x.max]):=hW1▸Blk.new _ _ _;have b2:Hid (Blk W1 w.heap.size 125 #[.int .i64 0,.int .i64 0,.int .u64 0,.int .i64 0,.int .i64 0]):=hW1▸Hb2.out.alloc _;have b3:Hid (Blk W1 (w.heap.size+1) 125 #[.int .i64 s.count,.int .i64 s.hi,.int .u64 s.lo,.int .i64 s.min,.int .i64 s.max]):=hW1▸Hb3.out.alloc _;have o1:Hid (Own w W1 (fun j=>j=w.heap.size+1)):=hW1▸Ho.out.skip (Fr.none_alloc _ _);clear hW1 Hb2 Hb3 Ho d0 d1 d2 d3 d4;refine (HV.out W1).mono ?_;rintro r w5 ⟨rfl,b5⟩;have bx5:=bx.out.below b5;have b25:=q0_ (b2.out.below b5);have b35:=q0_ (b3.out.below b5);have o5:=q0_ (o1.out.skip (Fr.b0 b5))
   cases hok:zaC x
   ·clear HBo bx5 b5 bx b2 b3 o1
    go_wp2
    go_roundw
    case rel=>
     refine⟨k+1,by omega,by go_num,b25.out,?_,o5.out⟩;rw[zan Hx.out,zgG,hok,Hs.out];exact b35.out
    case measure=>simp[intOf];omega
   ·have HB2:=q0_ (HBo.out hok)
    have c0:=bx5.cell 0;have c1:=bx5.cell 1;have c2:=bx5.cell 2;have c3:=bx5.cell 3;have c4:=bx5.cell 4;have a0:=b35.out.cell 0;have a1:=b35.out.cell 1;have a2:=b35.out.cell 2;have a3:=b35.out.cell 3;have a4:=b35.out.cell 4;simp only[q1_,q2_,q3_] at c0 c1 c2 c3 c4 a0 a1 a2 a3 a4;clear HBo bx5 b5 bx b2 b3 o1;go_wp2_with fail;refine (HB2.out w5).mono ?_;rintro r w6 ⟨rfl,b6⟩;have b26:=q0_ (b25.out.below b6);have b36:=q0_ (b35.out.below b6);have o6:=q0_ (o5.out.skip (Fr.b0 b6));have g0:=b36.out.frozen 0;have g1:=b36.out.frozen 1;have g2:=b36.out.frozen 2;have g3:=b36.out.frozen 3;have g4:=b36.out.frozen 4;have a0:=b36.out.cell 0;have a1:=b36.out.cell 1;have a2:=b36.out.cell 2;have a3:=b36.out.cell 3;have a4:=b36.out.cell 4
    obtain⟨y,hy⟩:∃ y,zbe s x=y:=⟨_,rfl⟩
    rw[hy];simp only[q1_,q2_,q3_] at a0 a1 a2 a3 a4;clear c0 c1 c2 c3 c4 b6 HB2;go_wp2
    go_roundw
    case rel=>
     have fF:=Fr.set5 (F:=fun j=>j=w.heap.size+1) (g:=w.heap.size+1) (Fr.refl _ w6) (.inl rfl) (.int .i64 y.count) (.int .i64 y.hi) (.int .u64 y.lo) (.int .i64 y.min) (.int .i64 y.max);refine⟨k+1,by omega,by go_num,b26.out.fr fF (by omega),?_,o6.out.fr fF⟩;rw[zan Hx.out,zgG,hok,if_pos rfl,Hs.out,hy];exact b36.out.set5
    case measure=>simp[intOf];omega
  ·obtain rfl:k=n:=by omega
   have hl:l.take k=l:=za3 (by rw[Hlen.out];exact Nat.le_refl _);rw[hl] at hs;have a0:=hb3'.cell 0;have a1:=hb3'.cell 1;have a2:=hb3'.cell 2;have a3:=hb3'.cell 3;have a4:=hb3'.cell 4;have g0:=hb2.frozen 0;have g1:=hb2.frozen 1;have g2:=hb2.frozen 2;have g3:=hb2.frozen 3;have g4:=hb2.frozen 4;have e0:=hb2.cell 0;have e1:=hb2.cell 1;have e2:=hb2.cell 2;have e3:=hb2.cell 3;have e4:=hb2.cell 4;simp only[q1_,q2_,q3_] at a0 a1 a2 a3 a4 e0 e1 e2 e3 e4;have Ho:=q0_ ho;have Hs:=q0_ hs;clear hb2 hb3' ho hs hl;go_wp2_with fail;have o3:=(Ho.out.also (G:=fun j=>j=w.heap.size) (fun j hj=>by omega)).fr (Fr.set5 (F:=fun j=>j=w.heap.size) (g:=w.heap.size) (Fr.refl _ wr) (.inl rfl) (.int .i64 s.count) (.int .i64 s.hi) (.int .u64 s.lo) (.int .i64 s.min) (.int .i64 s.max));rw[Hs.out];unfold zaL.val;refine bodyPost_ret (v:=.agg #[.int .i64 s.count,.int .i64 s.hi,.int .u64 s.lo,.int .i64 s.min,.int .i64 s.max]) ?_ rfl ⟨rfl,o3.bel⟩;simp[results,results137,go_sem, *]
open Go.Maps (Keyed)
def zcC(n:ByteArray)(s:Int):Value:=.agg #[.string n,.int .i64 s]
def zoV(a:zaL):DataW Unit:=.agg [.lit (.int .i64 a.count),.lit (.int .i64 a.hi),.lit (.int .u64 a.lo),.lit (.int .i64 a.min),.lit (.int .i64 a.max)]
def zjX:Value→Option (DataW Unit×List MemPlace)
 | .agg ⟨[.int .i64 c,.int .i64 h,.int .u64 l,.int .i64 m,.int .i64 x]⟩=>some (zoV ⟨c,h,l,m,x⟩,[])
 | _=>none
theorem zlW(a:zaL):zjX a.val=some (zoV a,[]):=rfl
theorem zlX{v:Value}{y:DataW Unit×List MemPlace}(h:zjX v=some y):∃ a:zaL,v=a.val∧y=(zoV a,[]):=by
 unfold zjX at h
 split at h
 ·rename_i c h' l m x
  exact⟨⟨c,h',l,m,x⟩,rfl,(Option.some.inj h).symm⟩
 ·cases h
theorem ziD{a b:zaL}(h:zoV a=zoV b):a=b:=by
 obtain⟨_,_,_,_,_⟩:=a;obtain⟨_,_,_,_,_⟩:=b;simp[zoV] at h;obtain⟨rfl,rfl,rfl,rfl,rfl⟩:=h
 rfl
theorem zlA:laidOutB prog=true:=by kernel_rfl
theorem zbC:Keyed prog 180:=Keyed.of_law (deep_law_gate zlA (of_decide_eq_true (by kernel_rfl)) (of_decide_eq_true (by kernel_rfl)) (by kernel_rfl) (by kernel_rfl))
theorem zoC{n:ByteArray}{s:Int}(hn:n.size≤maxLen)(hs:zbh s):keyOf prog 180 (zcC n s)=some (.string (keyBytes [.string n.data.toList,.int .i64 s])):=by
 have hk:prog.keyType 180=true:=by kernel_rfl
 have hc:prog.cellsOf 180=2:=by kernel_rfl
 have hcs:prog.cellsOf 9=1:=by kernel_rfl
 have hci:prog.cellsOf 3=1:=by kernel_rfl
 have h0:0<prog.types.size:=of_decide_eq_true (by kernel_rfl)
 obtain⟨m,hm⟩:∃ m,prog.types.size=m+1:=⟨prog.types.size-1,by omega⟩
 have hw:(Lit.int .i64 s).wf=true:=by
  obtain⟨h1,h2⟩:=hs;simp[Lit.wf,IntKind.min,IntKind.max,IntKind.bits,IntKind.signed];omega
 have hf:(zcC n s).formed prog 180=true:=by simp[zcC,Value.formed,underlying180,hc]
 unfold keyOf;rw[underlying180];simp only;rw[if_pos (by rw[hk,hf];rfl),hm];simp[zcC,Value.cells,Program.keyLits,underlying180,underlying9,underlying3,hc,hcs,hci,hn,hw]
def kl(r:zae):Lit:=.string (keyBytes [.string r.name.data.toList,.int .i64 r.start])
theorem zgM{r:zae}(h:r.wf):keyOf prog 180 (zcC r.name r.start)=some (kl r):=zoC h.2.2 h.1
theorem zgN{a b:zae}(h:zbQ a b):kl a=kl b:=by unfold kl;rw[h.1,h.2]
theorem zjs{a b:zae}(ha:a.wf)(hb:b.wf)(h:kl a=kl b):zbQ a b:=by
 have h2:=zgM hb;rw[← h] at h2;have h1:=zbC.inj (zgM ha) h2;clear h2;simp[zcC] at h1;exact h1
theorem zf1(a:zae):WideAt.IsKeyLit (kl a):=trivial
theorem ziq(mg:Option zaL→zaL→zaL):∀ {l:List zae} {r:zae},zav l→(zcx mg l r).length=if (zbq l r).isSome then l.length else l.length+1
 | [],r,_=>by simp[zcx,zbq]
 | x::l,r,hs=>by
  obtain⟨h1,h2⟩:=List.pairwise_cons.1 hs;unfold zcx
  by_cases c1:klt x r
  ·have e:zbq (x::l) r=zbq l r:=by
    unfold zbq;rw[List.find?_cons_of_neg (by simpa using zeL c1)]
   rw[if_pos c1,e,List.length_cons,ziq mg h2,List.length_cons]
   split<;>rfl
  ·rw[if_neg c1]
   by_cases c2:zbQ x r
   ·rw[if_pos c2,zb9 hs (by simp) c2]
    simp
   ·rw[if_neg c2]
    have hr:klt r x:=by
     rcases zgL x r with h | h | h
     ·exact absurd h c1
     ·exact absurd h c2
     ·exact h
    rw[zc_]
    ·simp
    ·intro z hz
     rcases List.mem_cons.1 hz with rfl | hz
     ·exact c2
     ·exact fun k=>zeL (zc7 hr (h1 z hz)) ⟨k.1.symm,k.2.symm⟩
theorem zhm:∀ {l:List zae} {r:zae},zav l→r∈l→(l.filter fun x=> !decide (zbQ x r)).length+1=l.length
 | [],_,_,h=>by cases h
 | x::l,r,hs,h=>by
  obtain⟨h1,h2⟩:=List.pairwise_cons.1 hs
  by_cases hx:zbQ x r
  ·have e:x=r:=hs.inj (by simp) h hx
   subst e;rw[List.filter_cons_of_neg (by simp[hx]),List.filter_eq_self.2 (fun y hy=>by simpa using fun k=>zeL (h1 y hy) ⟨k.1.symm,k.2.symm⟩)]
   rfl
  ·rw[List.filter_cons_of_pos (by simp[hx]),List.length_cons,List.length_cons]
   rcases List.mem_cons.1 h with rfl | h
   ·exact absurd ⟨rfl,rfl⟩ hx
   ·rw[zhm h2 h]
structure ziH(l:List zae)(D:DataW Unit):Prop where
 tidy:Maps.Tidy D
 sorted:zav l
 wf:∀ r∈l,r.wf
 at_:∀ r∈l,∀ z,D.atKey (kl r) z=zoV r.agg
 has:∀ k,Maps.has D k=true→∃ r∈l,k=kl r
 size:Maps.size D=l.length
theorem ziH.nil:ziH [] (.map []):=⟨Maps.tidy_empty,zav.nil,fun _ h=>(by cases h),fun _ h=>(by cases h),fun k h=>(by simp[Maps.has_eq] at h),rfl⟩
theorem ziH.hasNo{l:List zae}{D:DataW Unit}(h:ziH l D){r:zae}(hr:r.wf)(hn:∀ x∈l,¬ zbQ x r):Maps.has D (kl r)=false:=by
 cases hb:Maps.has D (kl r)
 ·rfl
 ·obtain⟨x,hx,e⟩:=h.has _ hb
  exact absurd (zjs (h.wf x hx) hr e.symm) (hn x hx)
theorem ziH.hasYes{l:List zae}{D:DataW Unit}(h:ziH l D){x:zae}(hx:x∈l):Maps.has D (kl x)=true:=Maps.has_true_of_atKey (h.at_ x hx)
theorem ziH.find{l:List zae}{D:DataW Unit}(h:ziH l D){r:zae}(hr:r.wf)(z:DataW Unit):D.atKey (kl r) z=match zbq l r with | some a=>zoV a | none=>z:=by
 by_cases hx:∃ x∈l,zbQ x r
 ·obtain⟨x,hx,hk⟩:=hx
  rw[zb9 h.sorted hx hk, ← zgN hk,h.at_ x hx]
 ·have hn:∀ x∈l,¬ zbQ x r:=fun x hx' hk=>hx ⟨x,hx',hk⟩
  rw[zc_ hn,Maps.atKey_of_not_has (h.hasNo hr hn)]
theorem zjB{l:List zae}(hs:zav l){r:zae}:(zbq l r).isSome=true↔∃ x∈l,zbQ x r:=by
 constructor
 ·intro h
  refine Classical.byContradiction fun hn=>?_;rw[zc_ (fun x hx hk=>hn ⟨x,hx,hk⟩)] at h
  cases h
 ·rintro⟨x,hx,hk⟩
  rw[zb9 hs hx hk];rfl
theorem ziH.put{l:List zae}{D:DataW Unit}(h:ziH l D){r:zae}(hr:r.wf)(mg:Option zaL→zaL→zaL)(hw:(zfr mg l r).wf):ziH (zcx mg l r) (D.put (kl r) (zoV (zfr mg l r).agg)):=by
 have hk:=zdo mg l r;refine⟨h.tidy.put (zf1 r) _,zaA mg h.sorted,fun x hx=>?_,fun x hx z=>?_,fun k hk'=>?_,?_⟩
 ·rcases (zaH mg h.sorted x).1 hx with rfl | ⟨hx,_⟩
  ·exact hw
  ·exact h.wf x hx
 ·rcases (zaH mg h.sorted x).1 hx with rfl | ⟨hx,hne⟩
  ·rw[zgN hk,Maps.atKey_put_same h.tidy.isMap (zf1 r)]
  ·rw[Maps.atKey_put_other (fun e=>hne (zjs (h.wf x hx) hr e)),h.at_ x hx]
 ·by_cases e:k=kl r
  ·exact⟨_,(zaH mg h.sorted _).2 (.inl rfl),e.trans (zgN hk).symm⟩
  ·rw[Maps.has_put_other e] at hk'
   obtain⟨x,hx,rfl⟩:=h.has k hk';exact⟨x,(zaH mg h.sorted x).2 (.inr ⟨hx,fun hs=>e (zgN hs)⟩),rfl⟩
 ·rw[Maps.size_put h.tidy,ziq mg h.sorted,h.size]
  by_cases hx:∃ x∈l,zbQ x r
  ·rw[if_pos ((zjB h.sorted).2 hx)]
   obtain⟨x,hx,hs⟩:=hx;rw[if_pos (by rw[← zgN hs];exact h.hasYes hx)]
  ·have hn:∀ x∈l,¬ zbQ x r:=fun x hx' hk=>hx ⟨x,hx',hk⟩
   rw[zc_ hn,if_neg (by rw[h.hasNo hr hn];simp)]
   rfl
theorem ziH.strike{l:List zae}{D:DataW Unit}(h:ziH l D){r:zae}(hr:r∈l):ziH (l.filter fun x=> !decide (zbQ x r)) (D.del (kl r)):=by
 have hwr:=h.wf r hr;refine⟨h.tidy.del _,h.sorted.filter _,fun x hx=>h.wf x (List.mem_filter.1 hx).1,fun x hx z=>?_,fun k hk=>?_,?_⟩
 ·obtain⟨hx,hne⟩:=List.mem_filter.1 hx
  have hne:¬ zbQ x r:=by simpa using hne
  rw[Maps.atKey_del_other (fun e=>hne (zjs (h.wf x hx) hwr e)),h.at_ x hx]
 ·by_cases e:k=kl r
  ·subst e;rw[Maps.has_del_same] at hk;cases hk
  ·rw[Maps.has_del_other e] at hk
   obtain⟨x,hx,rfl⟩:=h.has k hk;exact⟨x,List.mem_filter.2 ⟨hx,by simpa using fun hs=>e (zgN hs)⟩,rfl⟩
 ·have h1:=Maps.size_del (k:=kl r) h.tidy
  rw[if_pos (h.hasYes hr),h.size] at h1;have h2:=zhm h.sorted hr;omega
def zbr(w:World)(b:Nat)(l:List zae):Prop:=∃ D,w.ownsMap prog 180 zjX b l.length D∧ziH l D
theorem zkF{w:World}{b n:Nat}{D:DataW Unit}(h:w.ownsMap prog 180 zjX b n D):w.ownsMap prog 180 zjX b (Maps.size D) D:=by
 obtain⟨es,clock,hb,hf,_,rfl⟩:=h;exact⟨es,clock,hb,hf,by rw[Maps.size_eq,length_sorted];simp,rfl⟩
theorem zbr.of{w:World}{b n:Nat}{l:List zae}{D:DataW Unit}(h:w.ownsMap prog 180 zjX b n D)(ht:ziH l D):zbr w b l:=⟨D,by have:=zkF h;rwa[ht.size] at this,ht⟩
theorem zbr.fr{w w':World}{F:Nat→Prop}{b:Nat}{l:List zae}(h:zbr w b l)(hf:Fr F w w')(hn:¬ F b):zbr w' b l:=by
 obtain⟨D,ho,ht⟩:=h;have hlt:=ho.lt;obtain⟨es,clock,hb,hfit,hs,hD⟩:=ho;exact⟨D,⟨es,clock,(hf.block b hlt hn).trans hb,hfit,hs,hD⟩,ht⟩
theorem zbr.lt{w:World}{b:Nat}{l:List zae}(h:zbr w b l):b<w.heap.size:=by obtain⟨D,ho,_⟩:=h;exact ho.lt
theorem zbr.sorted{w:World}{b:Nat}{l:List zae}(h:zbr w b l):zav l:=by obtain⟨D,_,ht⟩:=h;exact ht.sorted
theorem zbr.wf{w:World}{b:Nat}{l:List zae}(h:zbr w b l):∀ r∈l,r.wf:=by obtain⟨D,_,ht⟩:=h;exact ht.wf
theorem zjK(a b:zae)(w:World):Calls prog 115 #[a.val,b.val] w fun r w'=>r=.returned (.int .i64 (zeH a b))∧∃ q os,w'=Sort.grow (w.drewN q) os:=by
 have HS:=q0_ (fun w'=>zm6 a.name b.name w');have HI:=q0_ (fun w'=>zm7 a.start b.start w');have HO:Hid (∀ A c w',Rd w' 1 A 2 [.int .i64 (zrQ a.name b.name),.int .i64 (zrS a.start b.start)]→Calls prog 150 #[.slice A 2 c] w' fun r w''=>r=.returned (.int .i64 (zeH a b))∧w'=w''):=fun A c w' h=>zsg _ _ A c w' h
 obtain⟨x,hx⟩:∃ x,zrQ a.name b.name=x:=⟨_,rfl⟩
 obtain⟨y,hy⟩:∃ y,zrS a.start b.start=y:=⟨_,rfl⟩
 obtain⟨z,hz⟩:∃ z,zeH a b=z:=⟨_,rfl⟩
 rw[hx] at HS HO;rw[hy] at HI HO;rw[hz] at HO ⊢;clear hx hy hz;obtain⟨an,ast,ac,ah,al,am,ax⟩:=a;obtain⟨bn,bst,bc,bh,bl,bm,bx⟩:=b;unfold zae.val;simp only at HS HI
 obtain⟨W2,hW2⟩:∃ W2,W2=(w.alloc (.cells #[.string an,.int .i64 ast,.int .i64 ac,.int .i64 ah,.int .u64 al,.int .i64 am,.int .i64 ax] 127)).alloc (.cells #[.string bn,.int .i64 bst,.int .i64 bc,.int .i64 bh,.int .u64 bl,.int .i64 bm,.int .i64 bx] 127):=⟨_,rfl⟩
 have A2:Blk W2 w.heap.size 127 #[.string an,.int .i64 ast,.int .i64 ac,.int .i64 ah,.int .u64 al,.int .i64 am,.int .i64 ax]:=by rw[hW2];exact (Blk.new _ _ _).alloc _
 have B2:Blk W2 (w.heap.size+1) 127 #[.string bn,.int .i64 bst,.int .i64 bc,.int .i64 bh,.int .u64 bl,.int .i64 bm,.int .i64 bx]:=by rw[hW2];exact Blk.new' (by simp) _ _
 have O2:Hid (∃ os,W2=Sort.grow w os):=by
  show ∃ os,W2=_
  rw[hW2,Sort.alloc_eq_grow,Sort.alloc_eq_grow,Sort.grow_grow];exact⟨_,rfl⟩
 have a0:=A2.cell 0;have a1:=A2.cell 1;have b0:=B2.cell 0;have b1:=B2.cell 1;simp only[q1_,q2_,q3_] at a0 a1 b0 b1;clear A2 B2;go_enter func115,ntmps115;go_wp2_with fail;rw[← hW2];clear hW2
 go_still_tail 10,(by kernel_rfl)
 repeat still_step
 still_call (zc2 (HS.out _))
 repeat still_step
 still_call (zc2 (HI.out _))
 repeat still_step
 try refine wpStill_nil ?_
 change wpList _ _ _ _ _ W2.drew;clear a0 a1 b0 b1;go_wp2_with fail;refine (HO.out _ _ _ (Rd.new W2.drew [.int .i64 x,.int .i64 y] _ 2 rfl)).mono ?_;rintro r w3 ⟨rfl,rfl⟩;go_wp2;go_ret;obtain⟨os,hos⟩:=O2.out;rw[hos];refine⟨rfl,?_⟩;rw[Sort.alloc_eq_grow];exact⟨1,_,(Sort.grow_grow (w.drewN 1) os _).trans rfl⟩
instance:Inhabited zae:=⟨⟨ByteArray.empty,0,zfF⟩⟩
theorem zqh(a b:zae):ltOf zeH a b=decide (klt a b):=by unfold ltOf;simp only[zmu]
theorem zr8:Sort.SWO (ltOf zeH) where
 irrefl x:=by rw[zqh];simpa using zc8 x
 trans x y z h1 h2:=by rw[zqh] at*;simp only[decide_eq_true_eq] at*;exact zc7 h1 h2
 ntrans x y z h1 h2:=by
  rw[zqh] at*;simp only[decide_eq_false_iff_not] at*;intro h
  rcases zgL x y with h3 | h3 | h3
  ·exact h1 h3
  ·exact h2 ((zkN h3).1 h)
  ·exact h2 (zc7 h3 h)
theorem zhP(l:List zae):(Sort.flatK zae.cells 7 l.toArray).toList=za1 l:=by
 apply List.ext_getElem?
 intro t;have hl:(za1 l).length=l.length*7:=zcY zcU l
 by_cases ht:t<l.length*7
 ·have hk:t / 7<l.length:=by omega
  have hs:(Sort.flatK zae.cells 7 l.toArray).size=l.length*7:=by simp
  have h1:(za1 l)[t]? =(zae.cells l[t / 7])[t%7]? :=by
   have:=ziL zcU (q6_ hk) (t%7) (by omega);rwa[show t / 7*7+t%7=t by omega] at this
  have h2:=Sort.get_flatK zae.cells 7 l.toArray t (by simpa using ht);rw[h1,Array.getElem?_toList];rw[getElem!_pos _ t (by omega)] at h2;rw[Array.getElem?_eq_getElem (by omega),h2]
  have h3:(l.toArray[t / 7]!)=l[t / 7]:=by rw[getElem!_pos _ _ (by simpa using hk)];simp
  rw[h3,getElem!_pos _ _ (by rw[zcU];omega),q6_ (by rw[zcU];omega)]
 ·rw[List.getElem?_eq_none (by simp;omega),List.getElem?_eq_none (by omega)]
theorem zpQ(l:List zae)(A:Option Addr)(n c base:Nat)(w:World)(ho:w.ownsRow base 127 7 (.slice A n c) n (za1 l))(hn:n≤1099511627776):
  Calls prog 114 #[.slice A n c,.func (.func 115) #[] #[]] w fun r w'=>r=.returned (.tuple #[])∧
   ∃ l',l'.Perm l∧l'.Pairwise (fun a b=>¬ klt b a)∧w'.ownsRow base 127 7 (.slice A n c) n (za1 l')∧Fr (zaE (.slice A n c)) w w':=by
 have hlen:l.length=n:=by
  have:=ho.1;rw[show (za1 l).length=l.length*7 from zcY zcU l] at this;omega
 rcases Nat.eq_zero_or_pos n with h0 | h0
 ·subst h0
  obtain rfl:l=[]:=List.eq_nil_of_length_eq_zero hlen;refine (show Calls prog 114 _ _ _ from AnyF.slices_SortFunc_none Tryz.srtR A c (.func (.func 115) #[] #[]) w).mono ?_;rintro r w' ⟨e,rfl⟩;exact⟨e,[],List.Perm.refl _,List.Pairwise.nil,ho,Fr.refl _ _⟩
 ·obtain⟨g,cap,cur,hv,hbg,hblk,hcap,hmax,hsz,htk⟩:∃ g cap cur,(Value.slice A n c)=.slice (some ⟨g,0,none⟩) n cap∧base≤g∧w.heap[g]? =some (.cells cur 127 (0,0))∧n≤cap∧cap≤maxLen∧cur.size=cap*7∧cur.toList.take (n*7)=za1 l:=by
   rcases ho.2 with ⟨_,h⟩ | h
   ·omega
   ·exact h
  injection hv with e1 _ e3
  subst e1 e3;have hg:g<w.heap.size:=(Array.getElem?_eq_some_iff.1 hblk).1
  have hH:Sort.HoldsK zae.cells 7 w g 0 l.toArray:=by
   intro j hj;rw[Sort.size_flatK] at hj
   have hj':j<n*7:=by simpa[hlen] using hj
   refine⟨?_,ho.frozenAt (0+j)⟩;rw[ho.cellAt (0+j) (by omega),Nat.zero_add, ← zhP,Array.getElem?_toList,Array.getElem?_eq_getElem (by simpa using hj),getElem!_pos _ j (by simpa using hj)]
   rfl
  have eg:∀ args w,(callFunc 115 args).run prog w=.ok (.enter 115 args) w:=enters_of func115 (by kernel_rfl) rfl;have hcmp:CmpLays prog 115 #[] zae.cells 7 zeH g 0 l.toArray.size w:=fun m os dk _ x y=>zjK x y _;have hcon:=AnyQ.slices_SortFunc Tryz.srtR 7 isAgg127 sizeOf127 zae.cells zcU (fun x v hv=>by simp only[zae.cells,List.mem_cons,List.not_mem_nil,or_false] at hv;rcases hv with rfl | rfl | rfl | rfl | rfl | rfl | rfl<;>rfl) zeH zr8 115 #[] g 0 c l.toArray w eg hcmp hH hg (by simp;omega);rw[show l.toArray.size=n by simpa using hlen] at hcon;refine (show Calls prog 114 _ _ _ from hcon).mono ?_;rintro r w' ⟨e,d',m,os,⟨hp1,_,hp2⟩,hs,rfl⟩
  have hd:d'.size=n:=by simpa[hlen] using hp1
  have hpm:d'.toList.Perm l:=by
   have h1:d'.extract 0 n=d':=by rw[← hd];exact Array.extract_size
   have h2:l.toArray.extract 0 n=l.toArray:=by rw[← hlen, ← List.size_toArray];exact Array.extract_size
   rw[h1,h2] at hp2;simpa using hp2
  refine⟨e,d'.toList,hpm,?_,?_,?_⟩
  ·rw[List.pairwise_iff_getElem]
   intro i j hi hj hij;have h:=hs i j (Nat.zero_le _) hij (by simpa[hd] using hj);rw[zqh,getElem!_pos _ _ (by simpa using hj),getElem!_pos _ _ (by simpa using hi)] at h;simpa using h
  ·refine⟨by rw[show (za1 d'.toList).length=d'.toList.length*7 from zcY zcU _];simp[hd],.inr ⟨g,c,Sort.putCells id 0 (Sort.flatK zae.cells 7 d') cur,rfl,hbg,?_,hcap,hmax,by simp[Sort.putCells,hsz],?_⟩⟩
   ·simp only[sortWorldK,Sort.grow,Sort.putRowK,Sort.putRow,Sort.mapBlock,Sort.heap_ahead]
    rw[Array.getElem?_append_left (by simpa using hg),Array.getElem?_modify,if_pos rfl,hblk]
    rfl
   ·rw[← zhP,Array.toArray_toList]
    apply List.ext_getElem?
    intro t
    by_cases ht:t<n*7
    ·have htc:t<cur.size:=by rw[hsz];exact Nat.lt_of_lt_of_le ht (Nat.mul_le_mul_right 7 hcap)
     rw[List.getElem?_take_of_lt ht,Array.getElem?_toList,Array.getElem?_toList];simp only[Sort.putCells,Array.getElem?_mapIdx,Array.getElem?_eq_getElem htc,Option.map_some,Nat.zero_le,true_and,Nat.zero_add,Nat.sub_zero,Sort.size_flatK,hd,ht,if_true,id];rw[getElem!_pos _ t (by rw[Sort.size_flatK,hd];exact ht),Array.getElem?_eq_getElem (by rw[Sort.size_flatK,hd];exact ht)]
    ·rw[List.getElem?_eq_none (by simp;omega),List.getElem?_eq_none (by simp[hd];omega)]
  ·refine⟨rfl,rfl,rfl,by simp[sortWorldK,Sort.grow,Sort.putRowK,Sort.putRow,Sort.mapBlock],fun k hk hne=>?_⟩
   have hkg:g≠k:=fun h=>hne (by subst h;rfl);simp only[sortWorldK,Sort.grow,Sort.putRowK,Sort.putRow,Sort.mapBlock,Sort.heap_ahead];rw[Array.getElem?_append_left (by simpa using hk),Array.getElem?_modify,if_neg hkg]
end Go.Proofs.YtjhhodndlkpmhaaGreatDoor
