/- The plain law of sums: each tier has all samples. -/
import Derived.Test.YteajonicnkpbbaaGreatDoorTiersCopy
namespace Go.Proofs.YteajonicnkpbbaaGreatDoor
set_option linter.all false
open Go.RowKit
def okL(l:List zaf):Prop:=∀ r∈l,zaR r.agg=true
theorem zbq{a:zaS}(h:zaR a=true):1≤a.count∧a.count≤4611686018427387904∧a.min≤a.max:=by
 unfold zaR at h;simp only[Bool.and_eq_true,decide_eq_true_eq] at h;exact⟨h.1.1,h.1.2,h.2⟩
theorem zo5(v:Int):zaR (zbj v)=true:=by
 unfold zaR zbj;simp
theorem zoW(a:zaS):zbl ziZ a=a:=by unfold zbl ziZ;simp
theorem zrb:zaR ziZ=false:=by decide
theorem zcA{a:zaS}(h:zaR a=true):mgM none a=a:=by
 unfold mgM zcc;simp only[Option.getD_none,List.foldl_cons,List.foldl_nil,zrb,h,if_true,zoW,Bool.false_eq_true,if_false]
theorem zcz{a b:zaS}(ha:zaR a=true)(hb:zaR b=true):mgM (some a) b=zbl a b:=by
 unfold mgM zcc;simp only[Option.getD_some,List.foldl_cons,List.foldl_nil,ha,hb,if_true,zoW]
theorem ze9{t e:Int}(ht:0≤t)(he:1≤e):0≤zas t e∧zas t e≤t∧onB (zas t e) e=true:=by
 obtain⟨_,_,h3,_⟩:=zdO t e he;obtain⟨h3,h4⟩:=h3 ht
 have hf:zas t e=t-t.tmod e:=by
  unfold zas;rw[if_neg (by omega),if_neg (by omega)]
 refine⟨by omega,by omega,?_⟩;unfold onB
 have hz:(zas t e).tmod e=0:=by
  rw[hf,Int.tmod_eq_emod_of_nonneg (by omega),Int.tmod_eq_emod_of_nonneg ht];exact Int.emod_eq_zero_of_dvd (Int.dvd_self_sub_emod)
 simp[he,hz]
theorem zdb{a b:zaS}(ha:zaR a=true)(hb:zaR b=true):zaR (zbl a b)=true:=by
 obtain⟨h1,h2,h3⟩:=zbq ha;obtain⟨k1,k2,k3⟩:=zbq hb;unfold zbl;rw[if_neg (by omega)];unfold zaR;simp only[Bool.and_eq_true,decide_eq_true_eq]
 split<;>omega
theorem zne{a b:zaS}(ha:zaR a=true)(hb:zaR b=true):zbl a b=zbl b a:=by
 obtain⟨h1,h2,h3⟩:=zbq ha;obtain⟨k1,k2,k3⟩:=zbq hb;unfold zbl;rw[if_neg (show ¬ a.count=0 by omega),if_neg (show ¬ b.count=0 by omega),zaS.mk.injEq];refine⟨?_,?_,by omega,by omega,by omega⟩
 ·split<;>split<;>omega
 ·congr 1;omega
theorem zoV{a b c:zaS}(ha:zaR a=true)(hb:zaR b=true)(hc:zaR c=true):zbl (zbl c a) b=zbl (zbl c b) a:=by
 have ho1:=zdb hc ha;have ho2:=zdb hc hb;obtain⟨h1,h2,h3⟩:=zbq ha;obtain⟨k1,k2,k3⟩:=zbq hb;obtain⟨m1,m2,m3⟩:=zbq hc
 have e1:(zbl c a)=⟨if c.count<4611686018427387904-a.count then c.count+a.count else 4611686018427387904,wrap64 (c.hi+a.hi+(c.lo+a.lo) / 18446744073709551616),(c.lo+a.lo)%18446744073709551616,min c.min a.min,max c.max a.max⟩:=by
  unfold zbl;rw[if_neg (by omega)]
 have e2:(zbl c b)=⟨if c.count<4611686018427387904-b.count then c.count+b.count else 4611686018427387904,wrap64 (c.hi+b.hi+(c.lo+b.lo) / 18446744073709551616),(c.lo+b.lo)%18446744073709551616,min c.min b.min,max c.max b.max⟩:=by
  unfold zbl;rw[if_neg (by omega)]
 have p1:=(zbq ho1).1;have p2:=(zbq ho2).1;rw[e1] at p1 ⊢;rw[e2] at p2 ⊢;unfold zbl;simp only at p1 p2 ⊢;rw[if_neg (show ¬ (if c.count<4611686018427387904-a.count then c.count+a.count else 4611686018427387904)=0 by omega),if_neg (show ¬ (if c.count<4611686018427387904-b.count then c.count+b.count else 4611686018427387904)=0 by omega),zaS.mk.injEq];refine⟨?_,?_,by omega,by omega,by omega⟩
 ·repeat' split
  all_goals omega
 ·unfold wrap64
  omega
theorem zjN{o:Option zaS}{a:zaS}(ho:∀ x,o=some x→zaR x=true)(ha:zaR a=true):zaR (mgM o a)=true:=by
 cases o with
 | none=>rw[zcA ha];exact ha
 | some x=>rw[zcz (ho x rfl) ha];exact zdb (ho x rfl) ha
theorem zqO{o:Option zaS}{a b:zaS}(ho:∀ x,o=some x→zaR x=true)(ha:zaR a=true)(hb:zaR b=true):mgM (some (mgM o a)) b=mgM (some (mgM o b)) a:=by
 rw[zcz (zjN ho ha) hb,zcz (zjN ho hb) ha]
 cases o with
 | none=>rw[zcA ha,zcA hb,zne ha hb]
 | some x=>rw[zcz (ho x rfl) ha,zcz (ho x rfl) hb,zoV ha hb (ho x rfl)]
theorem zdR{a b:zaf}(h:zbZ a b):zbZ b a:=⟨h.1.symm,h.2.symm⟩
theorem zcC{a b c:zaf}(h:zbZ a b)(k:zbZ b c):zbZ a c:=⟨h.1.trans k.1,h.2.trans k.2⟩
theorem zjX{l:List zaf}{r r':zaf}(h:zbZ r r'):zbz l r=zbz l r':=by
 unfold zbz
 congr 2
 funext x
 refine decide_eq_decide.2 ⟨fun k=>zcC k h,fun k=>zcC k (zdR h)⟩
theorem zgb{l:List zaf}(ho:okL l)(r:zaf):∀ x,zbz l r=some x→zaR x=true:=by
 intro x hx;unfold zbz at hx;rw[Option.map_eq_some_iff] at hx;obtain⟨y,hy,rfl⟩:=hx;exact ho y (List.mem_of_find?_eq_some hy)
theorem zdV{l:List zaf}(hs:zav l)(r1 r2:zaf):zbz (zcE mgM l r1) r2=if zbZ r1 r2 then some (mgM (zbz l r1) r1.agg) else zbz l r2:=by
 have hI:=zaD mgM (r:=r1) hs
 split
 ·rename_i hk
  exact zci hI ((zaH mgM hs _).2 (.inl rfl)) hk
 ·rename_i hk
  by_cases h:∃ x∈l,zbZ x r2
  ·obtain⟨x,hx,hx2⟩:=h
   rw[zci hs hx hx2];exact zci hI ((zaH mgM hs _).2 (.inr ⟨hx,fun h1=>hk (zcC (zdR h1) hx2)⟩)) hx2
  ·have hn:∀ x∈l,¬ zbZ x r2:=fun x hx hx2=>h ⟨x,hx,hx2⟩
   rw[zb3 hn];refine zb3 fun y hy=>?_
   rcases (zaH mgM hs y).1 hy with rfl | ⟨hy,_⟩
   ·exact fun h1=>hk h1
   ·exact hn y hy
theorem zqL{l:List zaf}(hs:zav l)(ho:okL l){r:zaf}(hr:zaR r.agg=true):okL (zcE mgM l r):=by
 intro y hy
 rcases (zaH mgM hs y).1 hy with rfl | ⟨hy,_⟩
 ·exact zjN (zgb ho r) hr
 ·exact ho y hy
theorem zot{l:List zaf}(hs:zav l)(ho:okL l){r1 r2:zaf}(h1:zaR r1.agg=true)(h2:zaR r2.agg=true):zcE mgM (zcE mgM l r1) r2=zcE mgM (zcE mgM l r2) r1:=by
 have hI1:=zaD mgM (r:=r1) hs;have hI2:=zaD mgM (r:=r2) hs;refine zav.ext (zaD mgM hI1) (zaD mgM hI2) (fun y=>?_);rw[zaH mgM hI1,zaH mgM hs,zaH mgM hI2,zaH mgM hs]
 by_cases hk:zbZ r1 r2
 ·have e:ze5 mgM (zcE mgM l r1) r2=ze5 mgM (zcE mgM l r2) r1:=by
   unfold ze5;rw[zdV hs,zdV hs,if_pos hk,if_pos (zdR hk),zjX hk,hk.1,hk.2,zqO (zgb ho r2) h1 h2]
  rw[e]
  constructor
  ·rintro (h | ⟨h | ⟨h,hn1⟩,hn2⟩)
   ·exact .inl h
   ·exact absurd (h▸(zdA mgM l r1:zbZ _ _)) (fun h3=>hn2 (zcC h3 hk))
   ·exact .inr ⟨.inr ⟨h,hn2⟩,hn1⟩
  ·rintro (h | ⟨h | ⟨h,hn1⟩,hn2⟩)
   ·exact .inl h
   ·exact absurd (h▸(zdA mgM l r2:zbZ _ _)) (fun h3=>hn2 (zcC h3 (zdR hk)))
   ·exact .inr ⟨.inr ⟨h,hn2⟩,hn1⟩
 ·have hk':¬ zbZ r2 r1:=fun h=>hk (zdR h)
  have e1:ze5 mgM (zcE mgM l r1) r2=ze5 mgM l r2:=by
   unfold ze5;rw[zdV hs,if_neg hk]
  have e2:ze5 mgM (zcE mgM l r2) r1=ze5 mgM l r1:=by
   unfold ze5;rw[zdV hs,if_neg hk']
  rw[e1,e2]
  constructor
  ·rintro (h | ⟨h | ⟨h,hn1⟩,hn2⟩)
   ·refine .inr ⟨.inl h,?_⟩
    rw[h];exact fun h3=>hk' h3
   ·exact .inl h
   ·exact .inr ⟨.inr ⟨h,hn2⟩,hn1⟩
  ·rintro (h | ⟨h | ⟨h,hn1⟩,hn2⟩)
   ·refine .inr ⟨.inl h,?_⟩
    rw[h];exact fun h3=>hk h3
   ·exact .inl h
   ·exact .inr ⟨.inr ⟨h,hn2⟩,hn1⟩
def zby(l:List zaf):Prop:=zav l∧okL l
theorem zd4{every:Int}{l:List zaf}(h:zby l)(r:zaf):zby (zb5 every l r):=by
 unfold zb5
 split
 ·rename_i hr
  unfold zaJ at hr;simp only[Bool.and_eq_true] at hr;exact⟨zaD mgM h.1,zqL h.1 h.2 hr.2⟩
 ·exact h
theorem zo9{every:Int}{l:List zaf}(h:zby l)(r1 r2:zaf):zb5 every (zb5 every l r1) r2=zb5 every (zb5 every l r2) r1:=by
 unfold zb5
 cases h1:zaJ every r1<;>cases h2:zaJ every r2
 ·rfl
 ·rfl
 ·rfl
 ·have g1:zaR r1.agg=true:=by unfold zaJ at h1;simp only[Bool.and_eq_true] at h1;exact h1.2
  have g2:zaR r2.agg=true:=by unfold zaJ at h2;simp only[Bool.and_eq_true] at h2;exact h2.2
  exact zot h.1 h.2 g1 g2
theorem zmu{X:zac}{l:List zaf}(h:zby l)(s:zaz)(k:Nat):zby (zdJ X s k l):=by
 unfold zdJ
 split
 ·split
  ·exact zd4 h _
  ·exact h
 ·exact h
def ziM(X:zac)(tabs:List (List zaf)):Prop:=∀ k,zby (tabs.getD k [])
theorem zb8:zby []:=⟨zav.nil,fun r hr=>by cases hr⟩
theorem zhd(X:zac)(tabs:List (List zaf))(s:zaz)(k:Nat):(zi1 X tabs s).getD k []=if k<X.tiers.length then zdJ X s k (tabs.getD k []) else[]:=by
 unfold zi1;rw[List.getD_eq_getElem?_getD,List.getElem?_map]
 split
 ·rename_i h;rw[List.getElem?_range h];rfl
 ·rename_i h;rw[List.getElem?_eq_none (by simpa using h)];rfl
theorem zkl{X:zac}{tabs:List (List zaf)}(h:ziM X tabs)(s:zaz):ziM X (zi1 X tabs s):=by
 intro k;rw[zhd]
 split
 ·exact zmu (h k) s k
 ·exact zb8
theorem zhH{X:zac}:∀ {l:List zaz} {tabs:List (List zaf)},ziM X tabs→ziM X (zc2 X tabs l)
 | [],_,h=>h
 | s::l,_,h=>zhH (l:=l) (zkl h s)
theorem zh6{t e:Int}(he:1≤e)(h0: -4611686018427387904≤t)(he2:e≤1000000):zas t e=t-t%e:=by
 obtain⟨h1,h2,_,_⟩:=zdO t e he;have h:=Int.tmod_add_mul_tdiv t e
 have hm:t%e=t.tmod e%e:=by
  conv=>lhs;rw[← h]
  rw[Int.add_mul_emod_self_left]
 have hv:t.tmod e%e=if t.tmod e<0 then t.tmod e+e else t.tmod e:=by
  split
  ·rw[← Int.add_emod_right]
   exact Int.emod_eq_of_lt (by omega) (by omega)
  ·exact Int.emod_eq_of_lt (by omega) (by omega)
 unfold zas;rw[if_neg (by omega),hm,hv]
 split<;>split<;>omega
theorem zm1{a b e:Int}(he:1≤e)(h0: -4611686018427387904≤a)(he2:e≤1000000)(hab:a≤b):zas a e≤zas b e:=by
 rw[zh6 he h0 he2,zh6 he (by omega) he2];have h1:=Int.mul_ediv_add_emod a e;have h2:=Int.mul_ediv_add_emod b e;have h3:a / e≤b / e:=Int.ediv_le_ediv (by omega) hab;have h4:e*(a / e)≤e*(b / e):=Int.mul_le_mul_of_nonneg_left h3 (by omega);omega
theorem zkg{a b keep e:Int}(ha:0≤a)(hk:keep≤1000000)(he2:e≤1000000)(hab:a≤b):zcp a keep e≤zcp b keep e:=by
 unfold zcp
 by_cases hz:a<0∨keep<0∨e<1
 ·rw[if_pos hz,if_pos (by omega)]
  exact Int.le_refl _
 ·rw[if_neg hz,if_neg (by omega)]
  have:=zm1 (a:=a-keep) (b:=b-keep) (e:=e) (by omega) (by omega) he2 (by omega);omega
theorem zoA{a b:Int}{l:List za_}{fl:List Int}(hl:∀ t∈l,t.keep≤1000000∧t.every≤1000000)(ha:0≤a)(hab:a≤b)(k:Nat):zat a l fl k≤zat b l fl k:=by
 unfold zat
 split
 ·rename_i x y hx hy
  have hb:=zkg (keep:=x.keep) (e:=y.every) ha (hl x (zaa hx)).1 (hl y (zaa hy)).2 hab;simp only
  split<;>omega
 ·exact Int.le_refl _
theorem zh9(N:Int)(X:zac)(k:Nat)(hk:k<X.tiers.length):(zdq N X).getD k []=zao (zae (zat N X.tiers X.floors k)) (X.tabs.getD k []):=by
 unfold zdq;rw[List.getD_eq_getElem?_getD,List.getElem?_map,List.getElem?_range hk]
 rfl
theorem zpt{X:zac}{n:Int}(h:zdI X n=0):zaC X n={X with now:=X.now+n,tabs:=zdq (X.now+n) X}:=by unfold zaC;rw[if_pos h]
def zox(l:List za_)(tabs:List (List zaf)):Prop:=∀ k x,l[k]? =some x→∀ r∈tabs.getD k [],zaE r.name=true∧0≤r.start∧onB r.start x.every=true
structure zbm(nm:ByteArray)(l:List za_)(fl:List Int)(X:zac)(c:Nat):Prop where
 name:X.name=nm
 tiers:X.tiers=l
 floors:X.floors=fl
 now:0≤X.now∧X.now≤1099511627776
 tlen:X.tabs.length=l.length
 len:∀ m∈X.tabs,m.length≤c
 good:ziM X X.tabs
 grid:zox l X.tabs
theorem zlf{X Y:zac}{tabs:List (List zaf)}(h:ziM X tabs):ziM Y tabs:=h
theorem zkk{every:Int}{l:List zaf}(hs:zav l)(h:∀ r∈l,zaE r.name=true∧0≤r.start∧onB r.start every=true)(r:zaf):∀ y∈zb5 every l r,zaE y.name=true∧0≤y.start∧onB y.start every=true:=by
 intro y hy;unfold zb5 at hy
 split at hy
 ·rename_i hr
  unfold zaJ at hr;simp only[Bool.and_eq_true,decide_eq_true_eq] at hr
  rcases (zaH mgM hs y).1 hy with rfl | ⟨hy,_⟩
  ·exact⟨hr.1.1.1,hr.1.1.2,hr.1.2⟩
  ·exact h y hy
 ·exact h y hy
theorem zp_{X:zac}{tabs:List (List zaf)}(hg:ziM X tabs)(h:zox X.tiers tabs)(s:zaz):zox X.tiers (zi1 X tabs s):=by
 intro k x hx r hr;rw[zhd,if_pos (List.getElem?_eq_some_iff.1 hx).1] at hr;unfold zdJ at hr;rw[hx] at hr;simp only at hr
 split at hr
 ·exact zkk (hg k).1 (h k x hx) _ r hr
 ·exact h k x hx r hr
theorem zhG{X:zac}:∀ {l:List zaz} {tabs:List (List zaf)},ziM X tabs→zox X.tiers tabs→zox X.tiers (zc2 X tabs l)
 | [],_,_,h=>h
 | s::l,_,hg,h=>zhG (l:=l) (zkl hg s) (zp_ hg h s)
theorem zch{L:List (List zaf)}(k:Nat):L.getD k []∈L∨L.getD k []=[]:=by
 rw[List.getD_eq_getElem?_getD]
 cases h:L[k]? with
 | none=>exact .inr rfl
 | some m=>exact .inl (zaa h)
theorem znk{X:zac}{tabs:List (List zaf)}{c:Nat}(h:∀ m∈tabs,m.length≤c)(s:zaz):∀ m∈zi1 X tabs s,m.length≤c+1:=by
 intro m hm;unfold zi1 at hm;obtain⟨k,_,rfl⟩:=List.mem_map.1 hm;have h1:=zji X s k (tabs.getD k [])
 have h2:(tabs.getD k []).length≤c:=by
  rcases zch (L:=tabs) k with h3 | h3
  ·exact h _ h3
  ·rw[h3];exact Nat.zero_le _
 omega
theorem zgC{X:zac}:∀ {l:List zaz} {tabs:List (List zaf)} {c:Nat},(∀ m∈tabs,m.length≤c)→∀ m∈zc2 X tabs l,m.length≤c+l.length
 | [],_,_,h=>h
 | s::l,tabs,c,h=>fun m hm=>by
  have:=zgC (l:=l) (znk (X:=X) h s) m hm;rw[List.length_cons];omega
theorem zhF{X:zac}:∀ {l:List zaz} {tabs:List (List zaf)},tabs.length=X.tiers.length→(zc2 X tabs l).length=X.tiers.length
 | [],_,h=>h
 | s::l,tabs,h=>zhF (l:=l) (tabs:=zi1 X tabs s) (by unfold zi1;rw[List.length_map,List.length_range])
theorem zbm.new{nm:ByteArray}{l:List za_}{now:Int}{fl:List Int}(h:zhR nm l now fl=0):zbm nm l fl (zhm nm l now fl) 0:=by
 have hn:0≤now∧now≤1099511627776:=by
  unfold zhR at h
  split at h
  ·split at h
   ·omega
   ·omega
  ·omega
 have hg:∀ k,(zhm nm l now fl).tabs.getD k []=[]:=fun k=>by
  show (l.map fun _=>([]:List zaf)).getD k []=[]
  rw[List.getD_eq_getElem?_getD,List.getElem?_map]
  cases l[k]? <;>rfl
 refine⟨rfl,rfl,rfl,hn,by simp[zhm],fun m hm=>?_,fun k=>?_,fun k x _ r hr=>?_⟩
 ·have hm:m∈l.map fun _=>([]:List zaf):=hm
  obtain⟨_,_,rfl⟩:=List.mem_map.1 hm;exact Nat.le_refl _
 ·rw[hg];exact zb8
 ·rw[hg] at hr;cases hr
theorem zbm.put{nm:ByteArray}{l:List za_}{fl:List Int}{X:zac}{c:Nat}(h:zbm nm l fl X c)(s:List zaz):zbm nm l fl (zbn X s) (c+8):=by
 unfold zbn
 split
 ·rename_i hE
  have h8:s.length≤8:=by
   unfold zgD at hE
   split at hE
   ·omega
   ·split at hE<;>omega
  refine⟨h.name,h.tiers,h.floors,h.now,?_,fun m hm=>?_,?_,?_⟩
  ·rw[← h.tiers];exact zhF (by rw[h.tlen,h.tiers])
  ·have:=zgC (X:=X) (l:=s) h.len m hm
   omega
  ·exact zlf (zhH h.good)
  ·have:=zhG (X:=X) (l:=s) h.good (by rw[h.tiers];exact h.grid)
   rw[h.tiers] at this;exact this
 ·exact⟨h.name,h.tiers,h.floors,h.now,h.tlen,fun m hm=>Nat.le_trans (h.len m hm) (Nat.le_add_right _ _),h.good,h.grid⟩
theorem zmW{f:zaf→Bool}{l:List zaf}(h:zby l):zby (zao f l):=⟨h.1.filter _,fun r hr=>h.2 r (List.mem_filter.1 hr).1⟩
theorem zbm.tick{nm:ByteArray}{l:List za_}{fl:List Int}{X:zac}{c:Nat}(h:zbm nm l fl X c)(n:Int):zbm nm l fl (zaC X n) c:=by
 unfold zaC
 split
 ·rename_i hE
  have hn:0≤n∧n≤1099511627776-X.now:=by
   unfold zdI at hE
   split at hE
   ·omega
   ·split at hE<;>omega
  have h0:=h.now
  have hg:∀ k,(zdq (X.now+n) X).getD k []=if k<X.tiers.length then zao (zae (zat (X.now+n) X.tiers X.floors k)) (X.tabs.getD k []) else[]:=fun k=>by
   split
   ·rename_i hk;exact zh9 _ X k hk
   ·rename_i hk
    unfold zdq;rw[List.getD_eq_getElem?_getD,List.getElem?_eq_none (by simpa using hk)]
    rfl
  refine⟨h.name,h.tiers,h.floors,by simp only;omega,?_,fun m hm=>?_,fun k=>?_,fun k x hx r hr=>?_⟩
  ·show (zdq _ X).length=_
   unfold zdq;rw[List.length_map,List.length_range,h.tiers]
  ·have hm:m∈zdq (X.now+n) X:=hm
   unfold zdq at hm;obtain⟨k,_,rfl⟩:=List.mem_map.1 hm;have h1:(zao (zae (zat (X.now+n) X.tiers X.floors k)) (X.tabs.getD k [])).length≤(X.tabs.getD k []).length:=List.length_filter_le _ _
   have h2:(X.tabs.getD k []).length≤c:=by
    rcases zch (L:=X.tabs) k with h3 | h3
    ·exact h.len _ h3
    ·rw[h3];exact Nat.zero_le _
   omega
  ·rw[hg]
   split
   ·exact zmW (h.good k)
   ·exact zb8
  ·rw[hg] at hr
   split at hr
   ·exact h.grid k x hx r (List.mem_filter.1 hr).1
   ·cases hr
 ·exact h
end Go.Proofs.YteajonicnkpbbaaGreatDoor
