/- The plain law of a table: records in order, one a place. -/
import Derived.Test.YteajonicnkpbbaaGreatDoorSame
import Derived.Laws.Externs
import Derived.Maps.RangeWalk
import Derived.Maps.Views
import Derived.Maps.Ext
import Derived.DeepKeys5
namespace Go.Proofs.YteajonicnkpbbaaGreatDoor
set_option linter.all false
open Go.RowKit Tryz
def klt(a b:zah):Prop:=a.name.toList<b.name.toList∨(a.name=b.name∧a.start<b.start)
def zco(a b:zah):Prop:=a.name=b.name∧a.start=b.start
instance (a b:zah):Decidable (klt a b):=by unfold klt;infer_instance
instance (a b:zah):Decidable (zco a b):=by unfold zco;infer_instance
theorem zdH(a:zah):¬ klt a a:=by
 rintro (h | ⟨_,h⟩)
 ·exact absurd h (List.lt_irrefl _)
 ·omega
theorem zev{a b c:zah}(h:klt a b)(k:klt b c):klt a c:=by
 rcases h with h | ⟨h1,h2⟩<;>rcases k with k | ⟨k1,k2⟩
 ·exact .inl (List.lt_trans h k)
 ·exact .inl (k1▸h)
 ·exact .inl (h1▸k)
 ·exact .inr ⟨h1.trans k1,by omega⟩
theorem zjV(a b:zah):klt a b∨zco a b∨klt b a:=by
 by_cases h:a.name.toList<b.name.toList
 ·exact .inl (.inl h)
 ·by_cases h2:b.name.toList<a.name.toList
  ·exact .inr (.inr (.inl h2))
  ·have hn:a.name=b.name:=toList_inj (List.le_antisymm (List.not_lt.1 h2) (List.not_lt.1 h))
   rcases Int.lt_trichotomy a.start b.start with h3 | h3 | h3
   ·exact .inl (.inr ⟨hn,h3⟩)
   ·exact .inr (.inl ⟨hn,h3⟩)
   ·exact .inr (.inr (.inr ⟨hn.symm,h3⟩))
theorem zmW{a b c:zah}(h:zco a b):klt a c↔klt b c:=by
 unfold klt;rw[h.1,h.2]
theorem zov{a b c:zah}(h:zco a b):klt c a↔klt c b:=by
 unfold klt;rw[h.1,h.2]
theorem zfj{a b:zah}(h:klt a b):¬ zco a b:=fun k=>zdH b ((zmW k).1 h)
def zay(l:List zah):Prop:=l.Pairwise klt
theorem zay.nil:zay []:=List.Pairwise.nil
theorem zay.tail{a:zah}{l:List zah}(h:zay (a::l)):zay l:=(List.pairwise_cons.1 h).2
theorem zay.filter{l:List zah}(h:zay l)(p:zah→Bool):zay (l.filter p):=List.Pairwise.filter p h
theorem zay.inj{l:List zah}(h:zay l){a b:zah}(ha:a∈l)(hb:b∈l)(hk:zco a b):a=b:=by
 induction l with
 | nil=>cases ha
 | cons x t ih=>
  obtain⟨h1,h2⟩:=List.pairwise_cons.1 h
  rcases List.mem_cons.1 ha with rfl | ha'<;>rcases List.mem_cons.1 hb with rfl | hb'
  ·rfl
  ·exact absurd hk (zfj (h1 b hb'))
  ·exact absurd ⟨hk.1.symm,hk.2.symm⟩ (zfj (h1 a ha'))
  ·exact ih h2 ha' hb'
theorem zay.ext:∀ {l m:List zah},zay l→zay m→(∀ r,r∈l↔r∈m)→l=m
 | [],[],_,_,_=>rfl
 | [],b::_,_,_,h=>by have:=(h b).2 (by simp);cases this
 | a::_,[],_,_,h=>by have:=(h a).1 (by simp);cases this
 | a::l,b::m,hl,hm,h=>by
  obtain⟨h1,h2⟩:=List.pairwise_cons.1 hl;obtain⟨k1,k2⟩:=List.pairwise_cons.1 hm
  have e:a=b:=by
   rcases List.mem_cons.1 ((h a).1 (by simp)) with e | ha
   ·exact e
   ·rcases List.mem_cons.1 ((h b).2 (by simp)) with e | hb
    ·exact e.symm
    ·exact absurd (zev (h1 b hb) (k1 a ha)) (zdH a)
  subst e;rw[zay.ext h2 k2 (fun r=>?_)]
  constructor
  ·intro hr
   rcases List.mem_cons.1 ((h r).1 (List.mem_cons_of_mem _ hr)) with e | hr'
   ·subst e;exact absurd (h1 r hr) (zdH r)
   ·exact hr'
  ·intro hr
   rcases List.mem_cons.1 ((h r).2 (List.mem_cons_of_mem _ hr)) with e | hr'
   ·subst e;exact absurd (k1 r hr) (zdH r)
   ·exact hr'
def zcd(l:List zah)(r:zah):Option zbP:=(l.find? fun x=>decide (zco x r)).map (·.agg)
def zcU(mg:Option zbP→zbP→zbP):List zah→zah→List zah
 | [],r=>[⟨r.name,r.start,mg none r.agg⟩]
 | x::l,r=>if klt x r then x::zcU mg l r else if zco x r then⟨r.name,r.start,mg (some x.agg) r.agg⟩::l else⟨r.name,r.start,mg none r.agg⟩::x::l
theorem zcx{l:List zah}{r:zah}(h:∀ x∈l,¬ zco x r):zcd l r=none:=by
 unfold zcd;rw[List.find?_eq_none.2 (fun x hx=>by simpa using h x hx)]
 rfl
theorem zcw{l:List zah}(hs:zay l){x r:zah}(hx:x∈l)(hk:zco x r):zcd l r=some x.agg:=by
 unfold zcd
 cases hf:l.find? fun x=>decide (zco x r) with
 | none=>
  have:=List.find?_eq_none.1 hf x hx;simp[hk] at this
 | some y=>
  have h1:=List.mem_of_find?_eq_some hf
  have h2:zco y r:=by simpa using List.find?_some hf
  rw[hs.inj h1 hx ⟨h2.1.trans hk.1.symm,h2.2.trans hk.2.symm⟩]
  rfl
def zeZ(mg:Option zbP→zbP→zbP)(l:List zah)(r:zah):zah:=⟨r.name,r.start,mg (zcd l r) r.agg⟩
theorem zdc(mg:Option zbP→zbP→zbP)(l:List zah)(r:zah):zco (zeZ mg l r) r:=⟨rfl,rfl⟩
theorem zaK(mg:Option zbP→zbP→zbP):∀ {l:List zah} {r:zah},zay l→∀ y,y∈zcU mg l r↔y=zeZ mg l r∨(y∈l∧¬ zco y r)
 | [],r,_,y=>by simp[zcU,zeZ,zcd]
 | x::l,r,hs,y=>by
  obtain⟨h1,h2⟩:=List.pairwise_cons.1 hs;unfold zcU
  by_cases c1:klt x r
  ·have e:zcd (x::l) r=zcd l r:=by
    unfold zcd;rw[List.find?_cons_of_neg (by simpa using zfj c1)]
   rw[if_pos c1];have ih:=zaK mg (r:=r) h2 y
   have en:zeZ mg (x::l) r=zeZ mg l r:=by unfold zeZ;rw[e]
   rw[en,List.mem_cons,ih,List.mem_cons];have hne:=zfj c1
   constructor
   ·rintro (rfl | h | ⟨h,k⟩)
    ·exact .inr ⟨.inl rfl,hne⟩
    ·exact .inl h
    ·exact .inr ⟨.inr h,k⟩
   ·rintro (h | ⟨rfl | h,k⟩)
    ·exact .inr (.inl h)
    ·exact .inl rfl
    ·exact .inr (.inr ⟨h,k⟩)
  ·rw[if_neg c1]
   by_cases c2:zco x r
   ·rw[if_pos c2]
    have e:zcd (x::l) r=some x.agg:=zcw hs (by simp) c2
    have en:zeZ mg (x::l) r=⟨r.name,r.start,mg (some x.agg) r.agg⟩:=by unfold zeZ;rw[e]
    rw[en,List.mem_cons]
    constructor
    ·rintro (h | h)
     ·exact .inl h
     ·exact .inr ⟨List.mem_cons_of_mem _ h,fun k=>zfj (h1 y h) ⟨c2.1.trans k.1.symm,c2.2.trans k.2.symm⟩⟩
    ·rintro (h | ⟨h,k⟩)
     ·exact .inl h
     ·rcases List.mem_cons.1 h with rfl | h
      ·exact absurd c2 k
      ·exact .inr h
   ·rw[if_neg c2]
    have hr:klt r x:=by
     rcases zjV x r with h | h | h
     ·exact absurd h c1
     ·exact absurd h c2
     ·exact h
    have hall:∀ z∈x::l,¬ zco z r:=by
     intro z hz
     rcases List.mem_cons.1 hz with rfl | hz
     ·exact c2
     ·exact fun k=>zfj (zev hr (h1 z hz)) ⟨k.1.symm,k.2.symm⟩
    have en:zeZ mg (x::l) r=⟨r.name,r.start,mg none r.agg⟩:=by unfold zeZ;rw[zcx hall]
    rw[en,List.mem_cons]
    constructor
    ·rintro (h | h)
     ·exact .inl h
     ·exact .inr ⟨h,hall y h⟩
    ·rintro (h | ⟨h,_⟩)
     ·exact .inl h
     ·exact .inr h
theorem zaE(mg:Option zbP→zbP→zbP):∀ {l:List zah} {r:zah},zay l→zay (zcU mg l r)
 | [],r,_=>by simp[zcU,zay]
 | x::l,r,hs=>by
  obtain⟨h1,h2⟩:=List.pairwise_cons.1 hs;unfold zcU
  by_cases c1:klt x r
  ·rw[if_pos c1]
   refine List.pairwise_cons.2 ⟨fun y hy=>?_,zaE mg h2⟩
   rcases (zaK mg h2 y).1 hy with rfl | ⟨hy,_⟩
   ·exact (zov (zdc mg l r)).2 c1
   ·exact h1 y hy
  ·rw[if_neg c1]
   by_cases c2:zco x r
   ·rw[if_pos c2]
    exact List.pairwise_cons.2 ⟨fun y hy=>(zmW (a:=⟨r.name,r.start,mg (some x.agg) r.agg⟩) (b:=x) ⟨c2.1.symm,c2.2.symm⟩).2 (h1 y hy),h2⟩
   ·rw[if_neg c2]
    have hr:klt r x:=by
     rcases zjV x r with h | h | h
     ·exact absurd h c1
     ·exact absurd h c2
     ·exact h
    refine List.pairwise_cons.2 ⟨fun y hy=>?_,hs⟩
    rcases List.mem_cons.1 hy with rfl | hy
    ·exact hr
    ·exact zev hr (h1 y hy)
def zbO(a b:zbP):zbP:=
 if a.count=0 then b else
 ⟨if a.count<4611686018427387904-b.count then a.count+b.count else 4611686018427387904,wrap64 (a.hi+b.hi+(a.lo+b.lo) / 18446744073709551616),(a.lo+b.lo)%18446744073709551616,
  min a.min b.min,max a.max b.max⟩
def zmT(l:List zbP):zbP:=l.foldl (fun s x=>if zbc x then zbO s x else s) zpO
open Go.Maps (Keyed)
def zhd(n:ByteArray)(s:Int):Value:=.agg #[.string n,.int .i64 s]
def zqt(a:zbP):DataW Unit:=.agg [.lit (.int .i64 a.count),.lit (.int .i64 a.hi),.lit (.int .u64 a.lo),.lit (.int .i64 a.min),.lit (.int .i64 a.max)]
def zqi:Value→Option (DataW Unit×List MemPlace)
 | .agg ⟨[.int .i64 c,.int .i64 h,.int .u64 l,.int .i64 m,.int .i64 x]⟩=>some (zqt ⟨c,h,l,m,x⟩,[])
 | _=>none
theorem zkF:laidOutB prog=true:=by kernel_rfl
theorem zlq:Keyed prog 247:=Keyed.of_law (deep_law_gate zkF (of_decide_eq_true (by kernel_rfl)) (of_decide_eq_true (by kernel_rfl)) (by kernel_rfl) (by kernel_rfl))
theorem zmY{n:ByteArray}{s:Int}(hn:n.size≤maxLen)(hs:zbT s):keyOf prog 247 (zhd n s)=some (.string (keyBytes [.string n.data.toList,.int .i64 s])):=by
 have hk:prog.keyType 247=true:=by kernel_rfl
 have hc:prog.cellsOf 247=2:=by kernel_rfl
 have hcs:prog.cellsOf 9=1:=by kernel_rfl
 have hci:prog.cellsOf 3=1:=by kernel_rfl
 have h0:0<prog.types.size:=of_decide_eq_true (by kernel_rfl)
 obtain⟨m,hm⟩:∃ m,prog.types.size=m+1:=⟨prog.types.size-1,by omega⟩
 have hw:(Lit.int .i64 s).wf=true:=by
  obtain⟨h1,h2⟩:=hs;simp[Lit.wf,IntKind.min,IntKind.max,IntKind.bits,IntKind.signed];omega
 have hf:(zhd n s).formed prog 247=true:=by simp[zhd,Value.formed,underlying247,hc]
 unfold keyOf;rw[underlying247];simp only;rw[if_pos (by rw[hk,hf];rfl),hm];simp[zhd,Value.cells,Program.keyLits,underlying247,underlying9,underlying3,hc,hcs,hci,hn,hw]
def kl(r:zah):Lit:=.string (keyBytes [.string r.name.data.toList,.int .i64 r.start])
theorem zmX{r:zah}(h:r.wf):keyOf prog 247 (zhd r.name r.start)=some (kl r):=zmY h.2.2 h.1
theorem zkG{a b:zah}(h:zco a b):kl a=kl b:=by unfold kl;rw[h.1,h.2]
theorem zo1{a b:zah}(ha:a.wf)(hb:b.wf)(h:kl a=kl b):zco a b:=by
 have h2:=zmX hb;rw[← h] at h2;have h1:=zlq.inj (zmX ha) h2;clear h2;simp[zhd] at h1;exact h1
theorem zkH(a:zah):WideAt.IsKeyLit (kl a):=trivial
theorem zic(mg:Option zbP→zbP→zbP):∀ {l:List zah} {r:zah},zay l→(zcU mg l r).length=if (zcd l r).isSome then l.length else l.length+1
 | [],r,_=>by simp[zcU,zcd]
 | x::l,r,hs=>by
  obtain⟨h1,h2⟩:=List.pairwise_cons.1 hs;unfold zcU
  by_cases c1:klt x r
  ·have e:zcd (x::l) r=zcd l r:=by
    unfold zcd;rw[List.find?_cons_of_neg (by simpa using zfj c1)]
   rw[if_pos c1,e,List.length_cons,zic mg h2,List.length_cons]
   split<;>rfl
  ·rw[if_neg c1]
   by_cases c2:zco x r
   ·rw[if_pos c2,zcw hs (by simp) c2]
    simp
   ·rw[if_neg c2]
    have hr:klt r x:=by
     rcases zjV x r with h | h | h
     ·exact absurd h c1
     ·exact absurd h c2
     ·exact h
    rw[zcx]
    ·simp
    ·intro z hz
     rcases List.mem_cons.1 hz with rfl | hz
     ·exact c2
     ·exact fun k=>zfj (zev hr (h1 z hz)) ⟨k.1.symm,k.2.symm⟩
structure zl1(l:List zah)(D:DataW Unit):Prop where
 tidy:Maps.Tidy D
 sorted:zay l
 wf:∀ r∈l,r.wf
 at_:∀ r∈l,∀ z,D.atKey (kl r) z=zqt r.agg
 has:∀ k,Maps.has D k=true→∃ r∈l,k=kl r
 size:Maps.size D=l.length
theorem zl1.nil:zl1 [] (.map []):=⟨Maps.tidy_empty,zay.nil,fun _ h=>(by cases h),fun _ h=>(by cases h),fun k h=>(by simp[Maps.has_eq] at h),rfl⟩
theorem zl1.hasNo{l:List zah}{D:DataW Unit}(h:zl1 l D){r:zah}(hr:r.wf)(hn:∀ x∈l,¬ zco x r):Maps.has D (kl r)=false:=by
 cases hb:Maps.has D (kl r)
 ·rfl
 ·obtain⟨x,hx,e⟩:=h.has _ hb
  exact absurd (zo1 (h.wf x hx) hr e.symm) (hn x hx)
theorem zl1.hasYes{l:List zah}{D:DataW Unit}(h:zl1 l D){x:zah}(hx:x∈l):Maps.has D (kl x)=true:=Maps.has_true_of_atKey (h.at_ x hx)
theorem zi5{l:List zah}(hs:zay l){r:zah}:(zcd l r).isSome=true↔∃ x∈l,zco x r:=by
 constructor
 ·intro h
  refine Classical.byContradiction fun hn=>?_;rw[zcx (fun x hx hk=>hn ⟨x,hx,hk⟩)] at h
  cases h
 ·rintro⟨x,hx,hk⟩
  rw[zcw hs hx hk];rfl
theorem zl1.put{l:List zah}{D:DataW Unit}(h:zl1 l D){r:zah}(hr:r.wf)(mg:Option zbP→zbP→zbP)(hw:(zeZ mg l r).wf):zl1 (zcU mg l r) (D.put (kl r) (zqt (zeZ mg l r).agg)):=by
 have hk:=zdc mg l r;refine⟨h.tidy.put (zkH r) _,zaE mg h.sorted,fun x hx=>?_,fun x hx z=>?_,fun k hk'=>?_,?_⟩
 ·rcases (zaK mg h.sorted x).1 hx with rfl | ⟨hx,_⟩
  ·exact hw
  ·exact h.wf x hx
 ·rcases (zaK mg h.sorted x).1 hx with rfl | ⟨hx,hne⟩
  ·rw[zkG hk,Maps.atKey_put_same h.tidy.isMap (zkH r)]
  ·rw[Maps.atKey_put_other (fun e=>hne (zo1 (h.wf x hx) hr e)),h.at_ x hx]
 ·by_cases e:k=kl r
  ·exact⟨_,(zaK mg h.sorted _).2 (.inl rfl),e.trans (zkG hk).symm⟩
  ·rw[Maps.has_put_other e] at hk'
   obtain⟨x,hx,rfl⟩:=h.has k hk';exact⟨x,(zaK mg h.sorted x).2 (.inr ⟨hx,fun hs=>e (zkG hs)⟩),rfl⟩
 ·rw[Maps.size_put h.tidy,zic mg h.sorted,h.size]
  by_cases hx:∃ x∈l,zco x r
  ·rw[if_pos ((zi5 h.sorted).2 hx)]
   obtain⟨x,hx,hs⟩:=hx;rw[if_pos (by rw[← zkG hs];exact h.hasYes hx)]
  ·have hn:∀ x∈l,¬ zco x r:=fun x hx' hk=>hx ⟨x,hx',hk⟩
   rw[zcx hn,if_neg (by rw[h.hasNo hr hn];simp)]
   rfl
def zct(w:World)(b:Nat)(l:List zah):Prop:=∃ D,w.ownsMap prog 247 zqi b l.length D∧zl1 l D
theorem zjL{w:World}{b n:Nat}{D:DataW Unit}(h:w.ownsMap prog 247 zqi b n D):w.ownsMap prog 247 zqi b (Maps.size D) D:=by
 obtain⟨es,clock,hb,hf,_,rfl⟩:=h;exact⟨es,clock,hb,hf,by rw[Maps.size_eq,length_sorted];simp,rfl⟩
theorem zct.of{w:World}{b n:Nat}{l:List zah}{D:DataW Unit}(h:w.ownsMap prog 247 zqi b n D)(ht:zl1 l D):zct w b l:=⟨D,by have:=zjL h;rwa[ht.size] at this,ht⟩
theorem zct.fr{w w':World}{F:Nat→Prop}{b:Nat}{l:List zah}(h:zct w b l)(hf:Fr F w w')(hn:¬ F b):zct w' b l:=by
 obtain⟨D,ho,ht⟩:=h;have hlt:=ho.lt;obtain⟨es,clock,hb,hfit,hs,hD⟩:=ho;exact⟨D,⟨es,clock,(hf.block b hlt hn).trans hb,hfit,hs,hD⟩,ht⟩
theorem zct.lt{w:World}{b:Nat}{l:List zah}(h:zct w b l):b<w.heap.size:=by obtain⟨D,ho,_⟩:=h;exact ho.lt
theorem zct.sorted{w:World}{b:Nat}{l:List zah}(h:zct w b l):zay l:=by obtain⟨D,_,ht⟩:=h;exact ht.sorted
theorem zct.wf{w:World}{b:Nat}{l:List zah}(h:zct w b l):∀ r∈l,r.wf:=by obtain⟨D,_,ht⟩:=h;exact ht.wf
instance:Inhabited zah:=⟨⟨ByteArray.empty,0,zpO⟩⟩
end Go.Proofs.YteajonicnkpbbaaGreatDoor
