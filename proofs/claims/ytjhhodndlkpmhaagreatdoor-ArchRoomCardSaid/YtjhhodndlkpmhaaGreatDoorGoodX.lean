/- The plain law of sums: each tier has all samples. -/
import Derived.Test.YtjhhodndlkpmhaaGreatDoorTabNeed
namespace Go.Proofs.YtjhhodndlkpmhaaGreatDoor
set_option linter.all false
open Go.RowKit
def okL(l:List zae):Prop:=∀ r∈l,zaC r.agg=true
theorem zbm{a:zaL}(h:zaC a=true):1≤a.count∧a.count≤4611686018427387904∧a.min≤a.max:=by
 unfold zaC at h;simp only[Bool.and_eq_true,decide_eq_true_eq] at h;exact⟨h.1.1,h.1.2,h.2⟩
theorem zpm(v:Int):zaC (zbd v)=true:=by
 unfold zaC zbd;simp
theorem zpc(a:zaL):zbe zfF a=a:=by unfold zbe zfF;simp
theorem zr0:zaC zfF=false:=by decide
theorem zcO{a:zaL}(h:zaC a=true):mgM none a=a:=by
 unfold mgM zb5;simp only[Option.getD_none,List.foldl_cons,List.foldl_nil,zr0,h,if_true,zpc,Bool.false_eq_true,if_false]
theorem zct{a b:zaL}(ha:zaC a=true)(hb:zaC b=true):mgM (some a) b=zbe a b:=by
 unfold mgM zb5;simp only[Option.getD_some,List.foldl_cons,List.foldl_nil,ha,hb,if_true,zpc]
theorem zeT{t e:Int}(ht:0≤t)(he:1≤e):0≤zaq t e∧zaq t e≤t∧onB (zaq t e) e=true:=by
 obtain⟨_,_,h3,_⟩:=zdG t e he;obtain⟨h3,h4⟩:=h3 ht
 have hf:zaq t e=t-t.tmod e:=by
  unfold zaq;rw[if_neg (by omega),if_neg (by omega)]
 refine⟨by omega,by omega,?_⟩;unfold onB
 have hz:(zaq t e).tmod e=0:=by
  rw[hf,Int.tmod_eq_emod_of_nonneg (by omega),Int.tmod_eq_emod_of_nonneg ht];exact Int.emod_eq_zero_of_dvd (Int.dvd_self_sub_emod)
 simp[he,hz]
theorem zcS{a b:zaL}(ha:zaC a=true)(hb:zaC b=true):zaC (zbe a b)=true:=by
 obtain⟨h1,h2,h3⟩:=zbm ha;obtain⟨k1,k2,k3⟩:=zbm hb;unfold zbe;rw[if_neg (by omega)];unfold zaC;simp only[Bool.and_eq_true,decide_eq_true_eq]
 split<;>omega
theorem znd{a b:zaL}(ha:zaC a=true)(hb:zaC b=true):zbe a b=zbe b a:=by
 obtain⟨h1,h2,h3⟩:=zbm ha;obtain⟨k1,k2,k3⟩:=zbm hb;unfold zbe;rw[if_neg (show ¬ a.count=0 by omega),if_neg (show ¬ b.count=0 by omega),zaL.mk.injEq];refine⟨?_,?_,by omega,by omega,by omega⟩
 ·split<;>split<;>omega
 ·congr 1;omega
theorem zpb{a b c:zaL}(ha:zaC a=true)(hb:zaC b=true)(hc:zaC c=true):zbe (zbe c a) b=zbe (zbe c b) a:=by
 have ho1:=zcS hc ha;have ho2:=zcS hc hb;obtain⟨h1,h2,h3⟩:=zbm ha;obtain⟨k1,k2,k3⟩:=zbm hb;obtain⟨m1,m2,m3⟩:=zbm hc
 have e1:(zbe c a)=⟨if c.count<4611686018427387904-a.count then c.count+a.count else 4611686018427387904,wrap64 (c.hi+a.hi+(c.lo+a.lo) / 18446744073709551616),(c.lo+a.lo)%18446744073709551616,min c.min a.min,max c.max a.max⟩:=by
  unfold zbe;rw[if_neg (by omega)]
 have e2:(zbe c b)=⟨if c.count<4611686018427387904-b.count then c.count+b.count else 4611686018427387904,wrap64 (c.hi+b.hi+(c.lo+b.lo) / 18446744073709551616),(c.lo+b.lo)%18446744073709551616,min c.min b.min,max c.max b.max⟩:=by
  unfold zbe;rw[if_neg (by omega)]
 have p1:=(zbm ho1).1;have p2:=(zbm ho2).1;rw[e1] at p1 ⊢;rw[e2] at p2 ⊢;unfold zbe;simp only at p1 p2 ⊢;rw[if_neg (show ¬ (if c.count<4611686018427387904-a.count then c.count+a.count else 4611686018427387904)=0 by omega),if_neg (show ¬ (if c.count<4611686018427387904-b.count then c.count+b.count else 4611686018427387904)=0 by omega),zaL.mk.injEq];refine⟨?_,?_,by omega,by omega,by omega⟩
 ·repeat' split
  all_goals omega
 ·unfold wrap64
  omega
theorem zjo{o:Option zaL}{a:zaL}(ho:∀ x,o=some x→zaC x=true)(ha:zaC a=true):zaC (mgM o a)=true:=by
 cases o with
 | none=>rw[zcO ha];exact ha
 | some x=>rw[zct (ho x rfl) ha];exact zcS (ho x rfl) ha
theorem zrx{o:Option zaL}{a b:zaL}(ho:∀ x,o=some x→zaC x=true)(ha:zaC a=true)(hb:zaC b=true):mgM (some (mgM o a)) b=mgM (some (mgM o b)) a:=by
 rw[zct (zjo ho ha) hb,zct (zjo ho hb) ha]
 cases o with
 | none=>rw[zcO ha,zcO hb,znd ha hb]
 | some x=>rw[zct (ho x rfl) ha,zct (ho x rfl) hb,zpb ha hb (ho x rfl)]
theorem zdJ{a b:zae}(h:zbQ a b):zbQ b a:=⟨h.1.symm,h.2.symm⟩
theorem zcv{a b c:zae}(h:zbQ a b)(k:zbQ b c):zbQ a c:=⟨h.1.trans k.1,h.2.trans k.2⟩
theorem zjA{l:List zae}{r r':zae}(h:zbQ r r'):zbq l r=zbq l r':=by
 unfold zbq
 congr 2
 funext x
 refine decide_eq_decide.2 ⟨fun k=>zcv k h,fun k=>zcv k (zdJ h)⟩
theorem zf4{l:List zae}(ho:okL l)(r:zae):∀ x,zbq l r=some x→zaC x=true:=by
 intro x hx;unfold zbq at hx;rw[Option.map_eq_some_iff] at hx;obtain⟨y,hy,rfl⟩:=hx;exact ho y (List.mem_of_find?_eq_some hy)
theorem zdS{l:List zae}(hs:zav l)(r1 r2:zae):zbq (zcx mgM l r1) r2=if zbQ r1 r2 then some (mgM (zbq l r1) r1.agg) else zbq l r2:=by
 have hI:=zaA mgM (r:=r1) hs
 split
 ·rename_i hk
  exact zb9 hI ((zaH mgM hs _).2 (.inl rfl)) hk
 ·rename_i hk
  by_cases h:∃ x∈l,zbQ x r2
  ·obtain⟨x,hx,hx2⟩:=h
   rw[zb9 hs hx hx2];exact zb9 hI ((zaH mgM hs _).2 (.inr ⟨hx,fun h1=>hk (zcv (zdJ h1) hx2)⟩)) hx2
  ·have hn:∀ x∈l,¬ zbQ x r2:=fun x hx hx2=>h ⟨x,hx,hx2⟩
   rw[zc_ hn];refine zc_ fun y hy=>?_
   rcases (zaH mgM hs y).1 hy with rfl | ⟨hy,_⟩
   ·exact fun h1=>hk h1
   ·exact hn y hy
theorem zru{l:List zae}(hs:zav l)(ho:okL l){r:zae}(hr:zaC r.agg=true):okL (zcx mgM l r):=by
 intro y hy
 rcases (zaH mgM hs y).1 hy with rfl | ⟨hy,_⟩
 ·exact zjo (zf4 ho r) hr
 ·exact ho y hy
theorem zoE{l:List zae}(hs:zav l)(ho:okL l){r1 r2:zae}(h1:zaC r1.agg=true)(h2:zaC r2.agg=true):zcx mgM (zcx mgM l r1) r2=zcx mgM (zcx mgM l r2) r1:=by
 have hI1:=zaA mgM (r:=r1) hs;have hI2:=zaA mgM (r:=r2) hs;refine zav.ext (zaA mgM hI1) (zaA mgM hI2) (fun y=>?_);rw[zaH mgM hI1,zaH mgM hs,zaH mgM hI2,zaH mgM hs]
 by_cases hk:zbQ r1 r2
 ·have e:zfr mgM (zcx mgM l r1) r2=zfr mgM (zcx mgM l r2) r1:=by
   unfold zfr;rw[zdS hs,zdS hs,if_pos hk,if_pos (zdJ hk),zjA hk,hk.1,hk.2,zrx (zf4 ho r2) h1 h2]
  rw[e]
  constructor
  ·rintro (h | ⟨h | ⟨h,hn1⟩,hn2⟩)
   ·exact .inl h
   ·exact absurd (h▸(zdo mgM l r1:zbQ _ _)) (fun h3=>hn2 (zcv h3 hk))
   ·exact .inr ⟨.inr ⟨h,hn2⟩,hn1⟩
  ·rintro (h | ⟨h | ⟨h,hn1⟩,hn2⟩)
   ·exact .inl h
   ·exact absurd (h▸(zdo mgM l r2:zbQ _ _)) (fun h3=>hn2 (zcv h3 (zdJ hk)))
   ·exact .inr ⟨.inr ⟨h,hn2⟩,hn1⟩
 ·have hk':¬ zbQ r2 r1:=fun h=>hk (zdJ h)
  have e1:zfr mgM (zcx mgM l r1) r2=zfr mgM l r2:=by
   unfold zfr;rw[zdS hs,if_neg hk]
  have e2:zfr mgM (zcx mgM l r2) r1=zfr mgM l r1:=by
   unfold zfr;rw[zdS hs,if_neg hk']
  rw[e1,e2]
  constructor
  ·rintro (h | ⟨h | ⟨h,hn1⟩,hn2⟩)
   ·refine .inr ⟨.inl h,?_⟩
    rw[h];exact fun h3=>hk' h3
   ·exact .inl h
   ·exact .inr ⟨.inr ⟨h,hn2⟩,hn1⟩
  ·rintro (h | ⟨h | ⟨h,hn1⟩,hn2⟩)
   ·refine .inr ⟨.inl h,?_⟩
    rw[h];exact fun h3=>hk h3
   ·exact .inl h
   ·exact .inr ⟨.inr ⟨h,hn2⟩,hn1⟩
def za6(l:List zae):Prop:=zav l∧okL l
theorem zdf{every:Int}{l:List zae}(h:za6 l)(r:zae):za6 (zb0 every l r):=by
 unfold zb0
 split
 ·rename_i hr
  unfold zaG at hr;simp only[Bool.and_eq_true] at hr;exact⟨zaA mgM h.1,zru h.1 h.2 hr.2⟩
 ·exact h
theorem zps{every:Int}{l:List zae}(h:za6 l)(r1 r2:zae):zb0 every (zb0 every l r1) r2=zb0 every (zb0 every l r2) r1:=by
 unfold zb0
 cases h1:zaG every r1<;>cases h2:zaG every r2
 ·rfl
 ·rfl
 ·rfl
 ·have g1:zaC r1.agg=true:=by unfold zaG at h1;simp only[Bool.and_eq_true] at h1;exact h1.2
  have g2:zaC r2.agg=true:=by unfold zaG at h2;simp only[Bool.and_eq_true] at h2;exact h2.2
  exact zoE h.1 h.2 g1 g2
theorem zmi{X:zaa}{l:List zae}(h:za6 l)(s:zas)(k:Nat):za6 (zcd X s k l):=by
 unfold zcd
 split
 ·split
  ·exact zdf h _
  ·exact h
 ·exact h
def ziv(X:zaa)(tabs:List (List zae)):Prop:=∀ k,za6 (tabs.getD k [])
theorem zbF:za6 []:=⟨zav.nil,fun r hr=>by cases hr⟩
theorem zg4(X:zaa)(tabs:List (List zae))(s:zas)(k:Nat):(ze1 X tabs s).getD k []=if k<X.tiers.length then zcd X s k (tabs.getD k []) else[]:=by
 unfold ze1;rw[List.getD_eq_getElem?_getD,List.getElem?_map]
 split
 ·rename_i h;rw[List.getElem?_range h];rfl
 ·rename_i h;rw[List.getElem?_eq_none (by simpa using h)];rfl
theorem zj3{X:zaa}{tabs:List (List zae)}(h:ziv X tabs)(s:zas):ziv X (ze1 X tabs s):=by
 intro k;rw[zg4]
 split
 ·exact zmi (h k) s k
 ·exact zbF
theorem zhw{X:zaa}:∀ {l:List zas} {tabs:List (List zae)},ziv X tabs→ziv X (zcp X tabs l)
 | [],_,h=>h
 | s::l,_,h=>zhw (l:=l) (zj3 h s)
theorem zhO{t e:Int}(he:1≤e)(h0: -4611686018427387904≤t)(he2:e≤1000000):zaq t e=t-t%e:=by
 obtain⟨h1,h2,_,_⟩:=zdG t e he;have h:=Int.tmod_add_mul_tdiv t e
 have hm:t%e=t.tmod e%e:=by
  conv=>lhs;rw[← h]
  rw[Int.add_mul_emod_self_left]
 have hv:t.tmod e%e=if t.tmod e<0 then t.tmod e+e else t.tmod e:=by
  split
  ·rw[← Int.add_emod_right]
   exact Int.emod_eq_of_lt (by omega) (by omega)
  ·exact Int.emod_eq_of_lt (by omega) (by omega)
 unfold zaq;rw[if_neg (by omega),hm,hv]
 split<;>split<;>omega
theorem zmY{a b e:Int}(he:1≤e)(h0: -4611686018427387904≤a)(he2:e≤1000000)(hab:a≤b):zaq a e≤zaq b e:=by
 rw[zhO he h0 he2,zhO he (by omega) he2];have h1:=Int.mul_ediv_add_emod a e;have h2:=Int.mul_ediv_add_emod b e;have h3:a / e≤b / e:=Int.ediv_le_ediv (by omega) hab;have h4:e*(a / e)≤e*(b / e):=Int.mul_le_mul_of_nonneg_left h3 (by omega);omega
theorem zjR{a b keep e:Int}(ha:0≤a)(hk:keep≤1000000)(he2:e≤1000000)(hab:a≤b):zcu a keep e≤zcu b keep e:=by
 unfold zcu
 by_cases hz:a<0∨keep<0∨e<1
 ·rw[if_pos hz,if_pos (by omega)]
  exact Int.le_refl _
 ·rw[if_neg hz,if_neg (by omega)]
  have:=zmY (a:=a-keep) (b:=b-keep) (e:=e) (by omega) (by omega) he2 (by omega);omega
theorem zoO{a b:Int}{l:List za_}{fl:List Int}(hl:∀ t∈l,t.keep≤1000000∧t.every≤1000000)(ha:0≤a)(hab:a≤b)(k:Nat):zar a l fl k≤zar b l fl k:=by
 unfold zar
 split
 ·rename_i x y hx hy
  have hb:=zjR (keep:=x.keep) (e:=y.every) ha (hl x (zab hx)).1 (hl y (zab hy)).2 hab;simp only
  split<;>omega
 ·exact Int.le_refl _
theorem zhR(N:Int)(X:zaa)(k:Nat)(hk:k<X.tiers.length):(zda N X).getD k []=zaK (zag (zar N X.tiers X.floors k)) (X.tabs.getD k []):=by
 unfold zda;rw[List.getD_eq_getElem?_getD,List.getElem?_map,List.getElem?_range hk]
 rfl
theorem zpM{X:zaa}{n:Int}(h:zdj X n=0):zaz X n={X with now:=X.now+n,tabs:=zda (X.now+n) X}:=by unfold zaz;rw[if_pos h]
def zoL(l:List za_)(tabs:List (List zae)):Prop:=∀ k x,l[k]? =some x→∀ r∈tabs.getD k [],zaD r.name=true∧0≤r.start∧onB r.start x.every=true
structure zbf(nm:ByteArray)(l:List za_)(fl:List Int)(X:zaa)(c:Nat):Prop where
 name:X.name=nm
 tiers:X.tiers=l
 floors:X.floors=fl
 now:0≤X.now∧X.now≤1099511627776
 tlen:X.tabs.length=l.length
 len:∀ m∈X.tabs,m.length≤c
 good:ziv X X.tabs
 grid:zoL l X.tabs
theorem zkT{X Y:zaa}{tabs:List (List zae)}(h:ziv X tabs):ziv Y tabs:=h
theorem zj0{every:Int}{l:List zae}(hs:zav l)(h:∀ r∈l,zaD r.name=true∧0≤r.start∧onB r.start every=true)(r:zae):∀ y∈zb0 every l r,zaD y.name=true∧0≤y.start∧onB y.start every=true:=by
 intro y hy;unfold zb0 at hy
 split at hy
 ·rename_i hr
  unfold zaG at hr;simp only[Bool.and_eq_true,decide_eq_true_eq] at hr
  rcases (zaH mgM hs y).1 hy with rfl | ⟨hy,_⟩
  ·exact⟨hr.1.1.1,hr.1.1.2,hr.1.2⟩
  ·exact h y hy
 ·exact h y hy
theorem zpt{X:zaa}{tabs:List (List zae)}(hg:ziv X tabs)(h:zoL X.tiers tabs)(s:zas):zoL X.tiers (ze1 X tabs s):=by
 intro k x hx r hr;rw[zg4,if_pos (List.getElem?_eq_some_iff.1 hx).1] at hr;unfold zcd at hr;rw[hx] at hr;simp only at hr
 split at hr
 ·exact zj0 (hg k).1 (h k x hx) _ r hr
 ·exact h k x hx r hr
theorem zhv{X:zaa}:∀ {l:List zas} {tabs:List (List zae)},ziv X tabs→zoL X.tiers tabs→zoL X.tiers (zcp X tabs l)
 | [],_,_,h=>h
 | s::l,_,hg,h=>zhv (l:=l) (zj3 hg s) (zpt hg h s)
theorem zds{L:List (List zae)}(k:Nat):L.getD k []∈L∨L.getD k []=[]:=by
 rw[List.getD_eq_getElem?_getD]
 cases h:L[k]? with
 | none=>exact .inr rfl
 | some m=>exact .inl (zab h)
theorem znl{X:zaa}{tabs:List (List zae)}{c:Nat}(h:∀ m∈tabs,m.length≤c)(s:zas):∀ m∈ze1 X tabs s,m.length≤c+1:=by
 intro m hm;unfold ze1 at hm;obtain⟨k,_,rfl⟩:=List.mem_map.1 hm;have h1:=ziS X s k (tabs.getD k [])
 have h2:(tabs.getD k []).length≤c:=by
  rcases zds (L:=tabs) k with h3 | h3
  ·exact h _ h3
  ·rw[h3];exact Nat.zero_le _
 omega
theorem zgz{X:zaa}:∀ {l:List zas} {tabs:List (List zae)} {c:Nat},(∀ m∈tabs,m.length≤c)→∀ m∈zcp X tabs l,m.length≤c+l.length
 | [],_,_,h=>h
 | s::l,tabs,c,h=>fun m hm=>by
  have:=zgz (l:=l) (znl (X:=X) h s) m hm;rw[List.length_cons];omega
theorem zht{X:zaa}:∀ {l:List zas} {tabs:List (List zae)},tabs.length=X.tiers.length→(zcp X tabs l).length=X.tiers.length
 | [],_,h=>h
 | s::l,tabs,h=>zht (l:=l) (tabs:=ze1 X tabs s) (by unfold ze1;rw[List.length_map,List.length_range])
theorem zbf.new{nm:ByteArray}{l:List za_}{now:Int}{fl:List Int}(h:zfs nm l now fl=0):zbf nm l fl (zfZ nm l now fl) 0:=by
 have hn:0≤now∧now≤1099511627776:=by
  unfold zfs at h
  split at h
  ·split at h
   ·omega
   ·omega
  ·omega
 have hg:∀ k,(zfZ nm l now fl).tabs.getD k []=[]:=fun k=>by
  show (l.map fun _=>([]:List zae)).getD k []=[]
  rw[List.getD_eq_getElem?_getD,List.getElem?_map]
  cases l[k]? <;>rfl
 refine⟨rfl,rfl,rfl,hn,by simp[zfZ],fun m hm=>?_,fun k=>?_,fun k x _ r hr=>?_⟩
 ·have hm:m∈l.map fun _=>([]:List zae):=hm
  obtain⟨_,_,rfl⟩:=List.mem_map.1 hm;exact Nat.le_refl _
 ·rw[hg];exact zbF
 ·rw[hg] at hr;cases hr
theorem zbf.put{nm:ByteArray}{l:List za_}{fl:List Int}{X:zaa}{c:Nat}(h:zbf nm l fl X c)(s:List zas):zbf nm l fl (za4 X s) (c+8):=by
 unfold za4
 split
 ·rename_i hE
  have h8:s.length≤8:=by
   unfold zfR at hE
   split at hE
   ·omega
   ·split at hE<;>omega
  refine⟨h.name,h.tiers,h.floors,h.now,?_,fun m hm=>?_,?_,?_⟩
  ·rw[← h.tiers];exact zht (by rw[h.tlen,h.tiers])
  ·have:=zgz (X:=X) (l:=s) h.len m hm
   omega
  ·exact zkT (zhw h.good)
  ·have:=zhv (X:=X) (l:=s) h.good (by rw[h.tiers];exact h.grid)
   rw[h.tiers] at this;exact this
 ·exact⟨h.name,h.tiers,h.floors,h.now,h.tlen,fun m hm=>Nat.le_trans (h.len m hm) (Nat.le_add_right _ _),h.good,h.grid⟩
theorem zmQ{f:zae→Bool}{l:List zae}(h:za6 l):za6 (zaK f l):=⟨h.1.filter _,fun r hr=>h.2 r (List.mem_filter.1 hr).1⟩
theorem zbf.tick{nm:ByteArray}{l:List za_}{fl:List Int}{X:zaa}{c:Nat}(h:zbf nm l fl X c)(n:Int):zbf nm l fl (zaz X n) c:=by
 unfold zaz
 split
 ·rename_i hE
  have hn:0≤n∧n≤1099511627776-X.now:=by
   unfold zdj at hE
   split at hE
   ·omega
   ·split at hE<;>omega
  have h0:=h.now
  have hg:∀ k,(zda (X.now+n) X).getD k []=if k<X.tiers.length then zaK (zag (zar (X.now+n) X.tiers X.floors k)) (X.tabs.getD k []) else[]:=fun k=>by
   split
   ·rename_i hk;exact zhR _ X k hk
   ·rename_i hk
    unfold zda;rw[List.getD_eq_getElem?_getD,List.getElem?_eq_none (by simpa using hk)]
    rfl
  refine⟨h.name,h.tiers,h.floors,by simp only;omega,?_,fun m hm=>?_,fun k=>?_,fun k x hx r hr=>?_⟩
  ·show (zda _ X).length=_
   unfold zda;rw[List.length_map,List.length_range,h.tiers]
  ·have hm:m∈zda (X.now+n) X:=hm
   unfold zda at hm;obtain⟨k,_,rfl⟩:=List.mem_map.1 hm;have h1:(zaK (zag (zar (X.now+n) X.tiers X.floors k)) (X.tabs.getD k [])).length≤(X.tabs.getD k []).length:=List.length_filter_le _ _
   have h2:(X.tabs.getD k []).length≤c:=by
    rcases zds (L:=X.tabs) k with h3 | h3
    ·exact h.len _ h3
    ·rw[h3];exact Nat.zero_le _
   omega
  ·rw[hg]
   split
   ·exact zmQ (h.good k)
   ·exact zbF
  ·rw[hg] at hr
   split at hr
   ·exact h.grid k x hx r (List.mem_filter.1 hr).1
   ·cases hr
 ·exact h
theorem zmZ{so:zae→Bool}(hso:∀ x y,zbQ x y→so x=so y){l:List zae}{r:zae}(hr:so r=false):zbq (zaK so l) r=zbq l r:=by
 unfold zbq zaK;rw[List.find?_filter]
 congr 2
 funext x
 by_cases h:zbQ x r
 ·simp[h,hso x r h,hr]
 ·simp[h]
theorem zkP{so:zae→Bool}(hso:∀ x y,zbQ x y→so x=so y){l:List zae}(hs:zav l){r:zae}(hr:so r=false):zaK so (zcx mgM l r)=zcx mgM (zaK so l) r:=by
 have hk:zav (zaK so l):=hs.filter _;refine zav.ext ((zaA mgM hs).filter _) (zaA mgM hk) (fun y=>?_)
 have e:zfr mgM (zaK so l) r=zfr mgM l r:=by unfold zfr;rw[zmZ hso hr]
 have h1:y∈zaK so (zcx mgM l r)↔y∈zcx mgM l r∧(!so y)=true:=List.mem_filter;have h2:y∈zaK so l↔y∈l∧(!so y)=true:=List.mem_filter
 show y∈zaK so (zcx mgM l r)↔_
 rw[h1,zaH mgM hs,zaH mgM hk,e,h2]
 constructor
 ·rintro⟨h | ⟨h,k⟩,k2⟩
  ·exact .inl h
  ·exact .inr ⟨⟨h,k2⟩,k⟩
 ·rintro (h | ⟨⟨h,k2⟩,k⟩)
  ·refine⟨.inl h,?_⟩
   rw[h,hso _ r (zdo mgM l r),hr]
   rfl
  ·exact⟨.inr ⟨h,k⟩,k2⟩
theorem zkO{so:zae→Bool}(hso:∀ x y,zbQ x y→so x=so y){l:List zae}(hs:zav l){r:zae}(hr:so r=true):zaK so (zcx mgM l r)=zaK so l:=by
 refine zav.ext ((zaA mgM hs).filter _) (hs.filter _) (fun y=>?_)
 show y∈zaK so (zcx mgM l r)↔y∈zaK so l
 have h1:y∈zaK so (zcx mgM l r)↔y∈zcx mgM l r∧(!so y)=true:=List.mem_filter;have h2:y∈zaK so l↔y∈l∧(!so y)=true:=List.mem_filter;rw[h1,zaH mgM hs,h2]
 constructor
 ·rintro⟨h | ⟨h,k⟩,k2⟩
  ·rw[h,hso _ r (zdo mgM l r),hr] at k2
   cases k2
  ·exact⟨h,k2⟩
 ·rintro⟨h,k2⟩
  refine⟨.inr ⟨h,fun k=>?_⟩,k2⟩;rw[hso _ r k,hr] at k2
  cases k2
theorem zgP{every:Int}{so:zae→Bool}(hso:∀ x y,zbQ x y→so x=so y){l:List zae}(hs:zav l){r:zae}(hr:so r=false):zaK so (zb0 every l r)=zb0 every (zaK so l) r:=by
 unfold zb0
 split
 ·exact zkP hso hs hr
 ·rfl
theorem zgO{every:Int}{so:zae→Bool}(hso:∀ x y,zbQ x y→so x=so y){l:List zae}(hs:zav l){r:zae}(hr:so r=true):zaK so (zb0 every l r)=zaK so l:=by
 unfold zb0
 split
 ·exact zkO hso hs hr
 ·rfl
theorem zec(b:Int):∀ x y,zbQ x y→zag b x=zag b y:=fun x y h=>by unfold zag;rw[h.2]
theorem zcD{now:Int}{l:List za_}{fl:List Int}{k:Nat}(hk:k<l.length):zcg now l fl (k:Int)=zar now l fl k:=by
 unfold zcg;rw[if_pos (by omega),Int.toNat_natCast]
theorem zk6{a b c:zaL}(ha:zaC a=true)(hb:zaC b=true)(hc:zaC c=true):zbe c (zbe a b)=zbe (zbe c a) b:=by
 have ho1:=zcS hc ha;have ho2:=zcS ha hb;obtain⟨h1,h2,h3⟩:=zbm ha;obtain⟨k1,k2,k3⟩:=zbm hb;obtain⟨m1,m2,m3⟩:=zbm hc
 have e1:(zbe c a)=⟨if c.count<4611686018427387904-a.count then c.count+a.count else 4611686018427387904,wrap64 (c.hi+a.hi+(c.lo+a.lo) / 18446744073709551616),(c.lo+a.lo)%18446744073709551616,min c.min a.min,max c.max a.max⟩:=by
  unfold zbe;rw[if_neg (by omega)]
 have e2:(zbe a b)=⟨if a.count<4611686018427387904-b.count then a.count+b.count else 4611686018427387904,wrap64 (a.hi+b.hi+(a.lo+b.lo) / 18446744073709551616),(a.lo+b.lo)%18446744073709551616,min a.min b.min,max a.max b.max⟩:=by
  unfold zbe;rw[if_neg (by omega)]
 have p1:=(zbm ho1).1;rw[e1] at p1 ⊢;rw[e2];unfold zbe;simp only at p1 ⊢;rw[if_neg (show ¬ c.count=0 by omega),if_neg (show ¬ (if c.count<4611686018427387904-a.count then c.count+a.count else 4611686018427387904)=0 by omega),zaL.mk.injEq];refine⟨?_,?_,by omega,by omega,by omega⟩
 ·repeat' split
  all_goals omega
 ·unfold wrap64
  omega
theorem zow{o:Option zaL}{a b:zaL}(ho:∀ x,o=some x→zaC x=true)(ha:zaC a=true)(hb:zaC b=true):mgM o (zbe a b)=mgM (some (mgM o a)) b:=by
 rw[zct (zjo ho ha) hb]
 cases o with
 | none=>rw[zcO ha,zcO (zcS ha hb)]
 | some x=>rw[zct (ho x rfl) ha,zct (ho x rfl) (zcS ha hb),zk6 ha hb (ho x rfl)]
theorem zoD{l:List zae}(hs:zav l)(ho:okL l)(n:ByteArray)(st:Int){a b:zaL}(ha:zaC a=true)(hb:zaC b=true):zcx mgM (zcx mgM l ⟨n,st,a⟩) ⟨n,st,b⟩=zcx mgM l ⟨n,st,zbe a b⟩:=by
 have hI:=zaA mgM (r:=⟨n,st,a⟩) hs
 have hk:zbQ (⟨n,st,a⟩:zae) ⟨n,st,b⟩:=⟨rfl,rfl⟩
 have hk2:zbQ (⟨n,st,zbe a b⟩:zae) ⟨n,st,b⟩:=⟨rfl,rfl⟩
 have hk3:zbQ (⟨n,st,zbe a b⟩:zae) ⟨n,st,a⟩:=⟨rfl,rfl⟩
 refine zav.ext (zaA mgM hI) (zaA mgM hs) (fun y=>?_);rw[zaH mgM hI,zaH mgM hs,zaH mgM hs]
 have e:zfr mgM (zcx mgM l ⟨n,st,a⟩) ⟨n,st,b⟩=zfr mgM l ⟨n,st,zbe a b⟩:=by
  unfold zfr;rw[zdS hs,if_pos hk];simp only;rw[zjA hk3,zow (zf4 ho _) ha hb]
 rw[e]
 constructor
 ·rintro (h | ⟨h | ⟨h,hn1⟩,hn2⟩)
  ·exact .inl h
  ·exact absurd (h▸(zdo mgM l ⟨n,st,a⟩:zbQ _ _)) (fun h3=>hn2 (zcv h3 hk))
  ·exact .inr ⟨h,fun h3=>hn1 h3⟩
 ·rintro (h | ⟨h,hn⟩)
  ·exact .inl h
  ·exact .inr ⟨.inr ⟨h,fun h3=>hn h3⟩,fun h3=>hn h3⟩
theorem znj{e:Int}{l:List zae}(h:za6 l)(n:ByteArray)(st:Int){a b:zaL}(ha:zaC a=true)(hb:zaC b=true):zb0 e (zb0 e l ⟨n,st,a⟩) ⟨n,st,b⟩=zb0 e l ⟨n,st,zbe a b⟩:=by
 unfold zb0 zaG;simp only[ha,hb,zcS ha hb]
 split
 ·exact zoD h.1 h.2 n st ha hb
 ·rfl
theorem zh1{e:Int}:∀ {rs:List zae} {l:List zae},za6 l→za6 (zbN e l rs)
 | [],_,h=>h
 | r::rs,_,h=>zh1 (rs:=rs) (zdf h r)
def zbJ(e fr:Int)(acc:List zae)(r:zae):List zae:=if fr≤zaq r.start e then zb0 e acc ⟨r.name,zaq r.start e,r.agg⟩ else acc
def zbH(e fr:Int)(acc l:List zae):List zae:=l.foldl (zbJ e fr) acc
theorem zfV(e fr:Int):∀ (l acc:List zae),zbN e acc (zeF e fr l)=zbH e fr acc l
 | [],_=>rfl
 | x::l,acc=>by
  show _=zbH e fr (zbJ e fr acc x) l
  rw[← zfV e fr l];unfold zeF zbJ;rw[List.map_cons]
  by_cases h:fr≤zaq x.start e
  ·rw[List.filter_cons_of_pos (by simpa using h),if_pos h]
   rfl
  ·rw[List.filter_cons_of_neg (by simpa using h),if_neg h]
theorem zc3{e fr:Int}{acc:List zae}(h:za6 acc)(r:zae):za6 (zbJ e fr acc r):=by
 unfold zbJ
 split
 ·exact zdf h _
 ·exact h
theorem zgp{e fr:Int}:∀ {l acc:List zae},za6 acc→za6 (zbH e fr acc l)
 | [],_,h=>h
 | x::l,_,h=>zgp (l:=l) (zc3 h x)
theorem zff{e fr:Int}{acc:List zae}(h:za6 acc)(a b:zae):zbJ e fr (zbJ e fr acc a) b=zbJ e fr (zbJ e fr acc b) a:=by
 unfold zbJ
 by_cases h1:fr≤zaq a.start e<;>by_cases h2:fr≤zaq b.start e<;>simp only[h1,h2,if_true,if_false]
 exact zps h _ _
theorem zgo{e fr:Int}(r:zae):∀ {l acc:List zae},za6 acc→zbH e fr (zbJ e fr acc r) l=zbJ e fr (zbH e fr acc l) r
 | [],_,_=>rfl
 | y::l,acc,h=>by
  show zbH e fr (zbJ e fr (zbJ e fr acc r) y) l=zbJ e fr (zbH e fr (zbJ e fr acc y) l) r
  rw[zff h,zgo r (zc3 h y)]
theorem zi2{e fr:Int}{r:zae}(hr:zaC r.agg=true):∀ {l acc:List zae},za6 acc→okL l→zbH e fr acc (zcx mgM l r)=zbH e fr (zbJ e fr acc r) l
 | [],acc,_,_=>by
  unfold zcx;rw[zcO hr]
  rfl
 | x::l,acc,hg,ho=>by
  have hx:=ho x (by simp);have ho':okL l:=fun y hy=>ho y (List.mem_cons_of_mem _ hy);unfold zcx
  split
  ·show zbH e fr (zbJ e fr acc x) (zcx mgM l r)=zbH e fr (zbJ e fr (zbJ e fr acc r) x) l
   rw[zi2 hr (zc3 hg x) ho',zff hg]
  ·split
   ·rename_i hk
    show zbH e fr (zbJ e fr acc ⟨r.name,r.start,mgM (some x.agg) r.agg⟩) l=zbH e fr (zbJ e fr (zbJ e fr acc r) x) l
    congr 1
    rw[zff hg,zct hx hr];unfold zbJ;simp only;rw[hk.2]
    split
    ·rw[hk.1]
     exact (znj hg r.name (zaq r.start e) hx hr).symm
    ·rfl
   ·rw[zcO hr]
    rfl
theorem zoa{e1 e fr:Int}{l acc:List zae}(hg:za6 acc)(hl:za6 l){r:zae}(hr:zaG e1 r=true):zbH e fr acc (zb0 e1 l r)=zbJ e fr (zbH e fr acc l) r:=by
 have ha:zaC r.agg=true:=by unfold zaG at hr;simp only[Bool.and_eq_true] at hr;exact hr.2
 unfold zb0;rw[if_pos hr,zi2 ha hg hl.2,zgo r hg]
theorem zlB{r:zae}:∀ {l:List zae},(∀ x∈l,klt x r)→zaC r.agg=true→zcx mgM l r=l++[r]
 | [],_,h=>by unfold zcx;rw[zcO h];rfl
 | x::l,hl,h=>by
  unfold zcx;rw[if_pos (hl x (by simp)),zlB (fun y hy=>hl y (List.mem_cons_of_mem _ hy)) h]
  rfl
theorem zg1{e:Int}:∀ {l acc:List zae},zav (acc++l)→(∀ r∈l,zaG e r=true)→zbN e acc l=acc++l
 | [],acc,_,_=>by simp[zbN]
 | r::l,acc,hs,hr=>by
  have h1:=hr r (by simp)
  have ha:zaC r.agg=true:=by unfold zaG at h1;simp only[Bool.and_eq_true] at h1;exact h1.2
  have hk:∀ x∈acc,klt x r:=fun x hx=>(List.pairwise_append.1 hs).2.2 x hx r (by simp)
  show zbN e (zb0 e acc r) l=_
  unfold zb0;rw[if_pos h1,zlB hk ha,zg1 (by rw[List.append_assoc];exact hs) (fun y hy=>hr y (List.mem_cons_of_mem _ hy)),List.append_assoc]
  rfl
theorem znk{e:Int}{l:List zae}(hg:za6 l)(h:∀ r∈l,zaG e r=true)(r:zae):∀ y∈zb0 e l r,zaG e y=true:=by
 intro y hy;unfold zb0 at hy
 split at hy
 ·rename_i hr
  rcases (zaH mgM hg.1 y).1 hy with rfl | ⟨hy,_⟩
  ·unfold zaG at hr ⊢
   simp only[Bool.and_eq_true] at hr ⊢;exact⟨hr.1,zjo (zf4 hg.2 r) hr.2⟩
  ·exact h y hy
 ·exact h y hy
theorem zj1{e fr:Int}{l:List zae}(hg:za6 l)(h:∀ r∈l,fr≤r.start){r:zae}(hr:fr≤r.start):∀ y∈zb0 e l r,fr≤y.start:=by
 intro y hy;unfold zb0 at hy
 split at hy
 ·rcases (zaH mgM hg.1 y).1 hy with rfl | ⟨hy,_⟩
  ·exact hr
  ·exact h y hy
 ·exact h y hy
theorem zfL{e fr:Int}:∀ {l acc:List zae},za6 acc→(∀ r∈acc,zaG e r=true∧fr≤r.start)→∀ r∈zbH e fr acc l,zaG e r=true∧fr≤r.start
 | [],_,_,h=>h
 | x::l,acc,hg,h=>zfL (l:=l) (zc3 hg x) (fun r hr=>by
  unfold zbJ at hr
  split at hr
  ·rename_i hf
   exact⟨znk hg (fun y hy=>(h y hy).1) _ r hr,zj1 hg (fun y hy=>(h y hy).2) hf r hr⟩
  ·exact h r hr)
theorem zdl{e1 e fr:Int}{l:List zae}:za6 (zcH e1 e fr l)∧∀ r∈zcH e1 e fr l,zaG e r=true∧fr≤r.start:=by
 unfold zcH
 split
 ·rw[zfV]
  exact⟨zgp zbF,zfL zbF (fun r hr=>by cases hr)⟩
 ·exact⟨zbF,fun r hr=>by cases hr⟩
theorem zpq{e1 e fr:Int}{l:List zae}:zbN e [] (zcH e1 e fr l)=zcH e1 e fr l:=by
 obtain⟨h1,h2⟩:=zdl (e1:=e1) (e:=e) (fr:=fr) (l:=l);exact zg1 (acc:=[]) h1.1 (fun r hr=>(h2 r hr).1)
theorem zf2{t e:Int}(h0:0≤t)(he:1≤e):zaq t e=t-t%e:=by
 unfold zaq;obtain⟨_,_,h3,_⟩:=zdG t e he;rw[if_neg (by omega),if_neg (by have:=(h3 h0).1;omega),Int.tmod_eq_emod_of_nonneg h0]
theorem zkU{t a b:Int}(h0:0≤t)(ha:1≤a)(hb:1≤b)(hd:a∣b):zaq (zaq t a) b=zaq t b:=by
 obtain⟨f1,f2,_⟩:=zeT h0 ha;rw[zf2 f1 hb,zf2 h0 ha,zf2 h0 hb];obtain⟨c,rfl⟩:=hd;have h1:=Int.mul_ediv_add_emod t (a*c);have h2:=Int.mul_ediv_add_emod t a;have h3:t%a=t%(a*c)%a:=(Int.emod_emod_of_dvd t (Int.dvd_mul_right a c)).symm
 have hc:0<c:=by
  rcases Int.lt_or_le 0 c with h | h
  ·exact h
  ·have:=Int.mul_nonpos_of_nonneg_of_nonpos (show 0≤a by omega) h;omega
 have h4:=Int.emod_nonneg t (show a*c≠0 by omega);have h5:=Int.emod_lt_of_pos t (show 0<a*c by omega);have h6:=Int.emod_nonneg (t%(a*c)) (show a≠0 by omega)
 have h7:t%(a*c)%a≤t%(a*c):=by
  have:=Int.mul_ediv_add_emod (t%(a*c)) a;have h8:0≤t%(a*c) / a:=Int.ediv_nonneg h4 (by omega);have h9:=Int.mul_nonneg (show 0≤a by omega) h8;omega
 have e:(t-t%a)%(a*c)=t%(a*c)-t%a:=by
  have h8:t-t%a=(t%(a*c)-t%a)+(a*c)*(t / (a*c)):=by omega
  rw[h8,Int.add_mul_emod_self_left];exact Int.emod_eq_of_lt (by omega) (by omega)
 rw[e];omega
theorem zgq{n:ByteArray}{t e v:Int}(h0:0≤t)(he:1≤e):zaG e ⟨n,zaq t e,zbd v⟩=zaD n:=by
 obtain⟨f1,_,f3⟩:=zeT h0 he;unfold zaG;simp[f1,f3,zpm]
theorem zob{X Y:zaa}{i j:Nat}{x y:za_}(hx:X.tiers[i]? =some x)(hy:Y.tiers[j]? =some y)(hx1:1≤x.every)(hy1:1≤y.every)(hd:x.every∣y.every)(hf:zar X.now X.tiers X.floors i≤zar Y.now Y.tiers Y.floors j)
  {l:List zae} (hl:za6 l) (s:zas):zbH y.every (zar Y.now Y.tiers Y.floors j) [] (zcd X s i l)=zcd Y s j (zbH y.every (zar Y.now Y.tiers Y.floors j) [] l):=by
 have hi:=(List.getElem?_eq_some_iff.1 hx).1;have hj:=(List.getElem?_eq_some_iff.1 hy).1;unfold zcd zbW;simp only[Int.toNat_natCast,hx,hy,zcD hi,zcD hj]
 by_cases h0:0≤s.time
 ·rw[if_pos (⟨by omega,by omega,h0⟩:0≤(i:Int)∧(i:Int)<(X.tiers.length:Int)∧0≤s.time),if_pos (⟨by omega,by omega,h0⟩:0≤(j:Int)∧(j:Int)<(Y.tiers.length:Int)∧0≤s.time)]
  simp only[decide_eq_true_eq];have hff:=zkU h0 hx1 hy1 hd;obtain⟨f1,f2,f3⟩:=zeT h0 hx1;obtain⟨g1,g2,g3⟩:=zeT f1 hy1;rw[hff] at g1 g2 g3
  generalize zar X.now X.tiers X.floors i=f at hf ⊢
  generalize zar Y.now Y.tiers Y.floors j=g at hf ⊢
  by_cases h1:f≤zaq s.time x.every
  ·rw[if_pos h1]
   by_cases hv:zaD s.name=true
   ·rw[zoa zbF hl (by rw[zgq h0 hx1];exact hv)]
    unfold zbJ;simp only[hff]
   ·have e1:zb0 x.every l ⟨s.name,zaq s.time x.every,zbd s.value⟩=l:=by unfold zb0;rw[if_neg (by rw[zgq h0 hx1];exact hv)]
    have e2:∀ m,zb0 y.every m ⟨s.name,zaq s.time y.every,zbd s.value⟩=m:=fun m=>by unfold zb0;rw[if_neg (by rw[zgq h0 hy1];exact hv)]
    rw[e1,e2]
    split<;>rfl
  ·rw[if_neg h1,if_neg (by omega)]
 ·have c1:¬ (0≤(i:Int)∧(i:Int)<(X.tiers.length:Int)∧0≤s.time):=fun h=>h0 h.2.2
  have c2:¬ (0≤(j:Int)∧(j:Int)<(Y.tiers.length:Int)∧0≤s.time):=fun h=>h0 h.2.2;simp only[if_neg c1,if_neg c2];simp
theorem zgX{a b:Int}(h:zau a b=true):1≤a∧a∣b:=by
 unfold zau at h;simp only[Bool.and_eq_true,decide_eq_true_eq] at h;exact⟨h.1,Int.dvd_of_tmod_eq_zero h.2⟩
end Go.Proofs.YtjhhodndlkpmhaaGreatDoor
