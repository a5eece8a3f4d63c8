/- The plain law of sums: each tier has all samples. -/
import Derived.Test.YteajonicnkpbbaaGreatDoorTiersCopy
namespace Go.Proofs.YteajonicnkpbbaaGreatDoor
set_option linter.all false
open Go.RowKit
def zqL(l:List zah):Int:=(l.map fun r=>r.agg.count).sum
def loS(l:List zah):Int:=(l.map fun r=>r.agg.lo).sum
def okL(l:List zah):Prop:=∀ r∈l,zbc r.agg=true
theorem zbo{a:zbP}(h:zbc a=true):1≤a.count∧a.count≤4611686018427387904∧a.min≤a.max:=by
 unfold zbc at h;simp only[Bool.and_eq_true,decide_eq_true_eq] at h;exact⟨h.1.1,h.1.2,h.2⟩
theorem znJ(v:Int):zbc (zgD v)=true:=by
 unfold zbc zgD;simp
theorem znF(a:zbP):zbO zpO a=a:=by unfold zbO zpO;simp
theorem zpL:zbc zpO=false:=by decide
theorem zdd{a:zbP}(h:zbc a=true):mgM none a=a:=by
 unfold mgM zmT;simp only[Option.getD_none,List.foldl_cons,List.foldl_nil,zpL,h,if_true,znF,Bool.false_eq_true,if_false]
theorem zcs{a b:zbP}(ha:zbc a=true)(hb:zbc b=true):mgM (some a) b=zbO a b:=by
 unfold mgM zmT;simp only[Option.getD_some,List.foldl_cons,List.foldl_nil,ha,hb,if_true,znF]
theorem zeA{t e:Int}(ht:0≤t)(he:1≤e):0≤zav t e∧zav t e≤t∧onB (zav t e) e=true:=by
 obtain⟨_,_,h3,_⟩:=zd1 t e he;obtain⟨h3,h4⟩:=h3 ht
 have hf:zav t e=t-t.tmod e:=by
  unfold zav;rw[if_neg (by omega),if_neg (by omega)]
 refine⟨by omega,by omega,?_⟩;unfold onB
 have hz:(zav t e).tmod e=0:=by
  rw[hf,Int.tmod_eq_emod_of_nonneg (by omega),Int.tmod_eq_emod_of_nonneg ht];exact Int.emod_eq_zero_of_dvd (Int.dvd_self_sub_emod)
 simp[he,hz]
def zqF:List zaa:=[⟨"a".toUTF8,1,900,1⟩,⟨"b".toUTF8,4,900,3⟩,⟨"c".toUTF8,12,900,2⟩]
structure zo5(X:zae)(n S:Int):Prop where
 now:X.now=800
 tiers:X.tiers=zqF
 floors:X.floors=[]
 len:X.tabs.length=3
 ok:∀ m∈X.tabs,okL m
 cnt:∀ m∈X.tabs,zqL m=n
 lo:∀ m∈X.tabs,loS m%18446744073709551616=S%18446744073709551616
theorem zpW(X:zae)(s:zaN):zks X [s]=zdR X.now X.tiers X.floors s:=by
 unfold zks zgr;simp only[List.length_singleton];rw[if_neg (by omega),if_neg (by omega)]
 by_cases h:zdR X.now X.tiers X.floors s=0
 ·simp[List.find?,h]
 ·simp[List.find?,h]
theorem zo5.keep{X:zae}{n S:Int}(h:zo5 X n S)(s:zaN)(ht:zdR 800 zqF [] s≠0):zb2 X [s]=X:=by
 unfold zb2;rw[if_neg];rw[zpW,h.now,h.tiers,h.floors];exact ht
theorem zcO{a b:zbP}(ha:zbc a=true)(hb:zbc b=true):zbc (zbO a b)=true:=by
 obtain⟨h1,h2,h3⟩:=zbo ha;obtain⟨k1,k2,k3⟩:=zbo hb;unfold zbO;rw[if_neg (by omega)];unfold zbc;simp only[Bool.and_eq_true,decide_eq_true_eq]
 split<;>omega
theorem zlV{a b:zbP}(ha:zbc a=true)(hb:zbc b=true):zbO a b=zbO b a:=by
 obtain⟨h1,h2,h3⟩:=zbo ha;obtain⟨k1,k2,k3⟩:=zbo hb;unfold zbO;rw[if_neg (show ¬ a.count=0 by omega),if_neg (show ¬ b.count=0 by omega),zbP.mk.injEq];refine⟨?_,?_,by omega,by omega,by omega⟩
 ·split<;>split<;>omega
 ·congr 1;omega
theorem znE{a b c:zbP}(ha:zbc a=true)(hb:zbc b=true)(hc:zbc c=true):zbO (zbO c a) b=zbO (zbO c b) a:=by
 have ho1:=zcO hc ha;have ho2:=zcO hc hb;obtain⟨h1,h2,h3⟩:=zbo ha;obtain⟨k1,k2,k3⟩:=zbo hb;obtain⟨m1,m2,m3⟩:=zbo hc
 have e1:(zbO c a)=⟨if c.count<4611686018427387904-a.count then c.count+a.count else 4611686018427387904,wrap64 (c.hi+a.hi+(c.lo+a.lo) / 18446744073709551616),(c.lo+a.lo)%18446744073709551616,min c.min a.min,max c.max a.max⟩:=by
  unfold zbO;rw[if_neg (by omega)]
 have e2:(zbO c b)=⟨if c.count<4611686018427387904-b.count then c.count+b.count else 4611686018427387904,wrap64 (c.hi+b.hi+(c.lo+b.lo) / 18446744073709551616),(c.lo+b.lo)%18446744073709551616,min c.min b.min,max c.max b.max⟩:=by
  unfold zbO;rw[if_neg (by omega)]
 have p1:=(zbo ho1).1;have p2:=(zbo ho2).1;rw[e1] at p1 ⊢;rw[e2] at p2 ⊢;unfold zbO;simp only at p1 p2 ⊢;rw[if_neg (show ¬ (if c.count<4611686018427387904-a.count then c.count+a.count else 4611686018427387904)=0 by omega),if_neg (show ¬ (if c.count<4611686018427387904-b.count then c.count+b.count else 4611686018427387904)=0 by omega),zbP.mk.injEq];refine⟨?_,?_,by omega,by omega,by omega⟩
 ·repeat' split
  all_goals omega
 ·unfold wrap64
  omega
theorem ziY{o:Option zbP}{a:zbP}(ho:∀ x,o=some x→zbc x=true)(ha:zbc a=true):zbc (mgM o a)=true:=by
 cases o with
 | none=>rw[zdd ha];exact ha
 | some x=>rw[zcs (ho x rfl) ha];exact zcO (ho x rfl) ha
theorem zpr{o:Option zbP}{a b:zbP}(ho:∀ x,o=some x→zbc x=true)(ha:zbc a=true)(hb:zbc b=true):mgM (some (mgM o a)) b=mgM (some (mgM o b)) a:=by
 rw[zcs (ziY ho ha) hb,zcs (ziY ho hb) ha]
 cases o with
 | none=>rw[zdd ha,zdd hb,zlV ha hb]
 | some x=>rw[zcs (ho x rfl) ha,zcs (ho x rfl) hb,znE ha hb (ho x rfl)]
theorem zdt{a b:zah}(h:zco a b):zco b a:=⟨h.1.symm,h.2.symm⟩
theorem zcv{a b c:zah}(h:zco a b)(k:zco b c):zco a c:=⟨h.1.trans k.1,h.2.trans k.2⟩
theorem zi4{l:List zah}{r r':zah}(h:zco r r'):zcd l r=zcd l r':=by
 unfold zcd
 congr 2
 funext x
 refine decide_eq_decide.2 ⟨fun k=>zcv k h,fun k=>zcv k (zdt h)⟩
theorem zfE{l:List zah}(ho:okL l)(r:zah):∀ x,zcd l r=some x→zbc x=true:=by
 intro x hx;unfold zcd at hx;rw[Option.map_eq_some_iff] at hx;obtain⟨y,hy,rfl⟩:=hx;exact ho y (List.mem_of_find?_eq_some hy)
theorem zdy{l:List zah}(hs:zay l)(r1 r2:zah):zcd (zcU mgM l r1) r2=if zco r1 r2 then some (mgM (zcd l r1) r1.agg) else zcd l r2:=by
 have hI:=zaE mgM (r:=r1) hs
 split
 ·rename_i hk
  exact zcw hI ((zaK mgM hs _).2 (.inl rfl)) hk
 ·rename_i hk
  by_cases h:∃ x∈l,zco x r2
  ·obtain⟨x,hx,hx2⟩:=h
   rw[zcw hs hx hx2];exact zcw hI ((zaK mgM hs _).2 (.inr ⟨hx,fun h1=>hk (zcv (zdt h1) hx2)⟩)) hx2
  ·have hn:∀ x∈l,¬ zco x r2:=fun x hx hx2=>h ⟨x,hx,hx2⟩
   rw[zcx hn];refine zcx fun y hy=>?_
   rcases (zaK mgM hs y).1 hy with rfl | ⟨hy,_⟩
   ·exact fun h1=>hk h1
   ·exact hn y hy
theorem zpo{l:List zah}(hs:zay l)(ho:okL l){r:zah}(hr:zbc r.agg=true):okL (zcU mgM l r):=by
 intro y hy
 rcases (zaK mgM hs y).1 hy with rfl | ⟨hy,_⟩
 ·exact ziY (zfE ho r) hr
 ·exact ho y hy
theorem zm1{l:List zah}(hs:zay l)(ho:okL l){r1 r2:zah}(h1:zbc r1.agg=true)(h2:zbc r2.agg=true):zcU mgM (zcU mgM l r1) r2=zcU mgM (zcU mgM l r2) r1:=by
 have hI1:=zaE mgM (r:=r1) hs;have hI2:=zaE mgM (r:=r2) hs;refine zay.ext (zaE mgM hI1) (zaE mgM hI2) (fun y=>?_);rw[zaK mgM hI1,zaK mgM hs,zaK mgM hI2,zaK mgM hs]
 by_cases hk:zco r1 r2
 ·have e:zeZ mgM (zcU mgM l r1) r2=zeZ mgM (zcU mgM l r2) r1:=by
   unfold zeZ;rw[zdy hs,zdy hs,if_pos hk,if_pos (zdt hk),zi4 hk,hk.1,hk.2,zpr (zfE ho r2) h1 h2]
  rw[e]
  constructor
  ·rintro (h | ⟨h | ⟨h,hn1⟩,hn2⟩)
   ·exact .inl h
   ·exact absurd (h▸(zdc mgM l r1:zco _ _)) (fun h3=>hn2 (zcv h3 hk))
   ·exact .inr ⟨.inr ⟨h,hn2⟩,hn1⟩
  ·rintro (h | ⟨h | ⟨h,hn1⟩,hn2⟩)
   ·exact .inl h
   ·exact absurd (h▸(zdc mgM l r2:zco _ _)) (fun h3=>hn2 (zcv h3 (zdt hk)))
   ·exact .inr ⟨.inr ⟨h,hn2⟩,hn1⟩
 ·have hk':¬ zco r2 r1:=fun h=>hk (zdt h)
  have e1:zeZ mgM (zcU mgM l r1) r2=zeZ mgM l r2:=by
   unfold zeZ;rw[zdy hs,if_neg hk]
  have e2:zeZ mgM (zcU mgM l r2) r1=zeZ mgM l r1:=by
   unfold zeZ;rw[zdy hs,if_neg hk']
  rw[e1,e2]
  constructor
  ·rintro (h | ⟨h | ⟨h,hn1⟩,hn2⟩)
   ·refine .inr ⟨.inl h,?_⟩
    rw[h];exact fun h3=>hk' h3
   ·exact .inl h
   ·exact .inr ⟨.inr ⟨h,hn2⟩,hn1⟩
  ·rintro (h | ⟨h | ⟨h,hn1⟩,hn2⟩)
   ·refine .inr ⟨.inl h,?_⟩
    rw[h];exact fun h3=>hk h3
   ·exact .inl h
   ·exact .inr ⟨.inr ⟨h,hn2⟩,hn1⟩
def zbJ(l:List zah):Prop:=zay l∧okL l
theorem zeH{every:Int}{l:List zah}(h:zbJ l)(r:zah):zbJ (zdg every l r):=by
 unfold zdg
 split
 ·rename_i hr
  unfold zbR at hr;simp only[Bool.and_eq_true] at hr;exact⟨zaE mgM h.1,zpo h.1 h.2 hr.2⟩
 ·exact h
theorem znM{every:Int}{l:List zah}(h:zbJ l)(r1 r2:zah):zdg every (zdg every l r1) r2=zdg every (zdg every l r2) r1:=by
 unfold zdg
 cases h1:zbR every r1<;>cases h2:zbR every r2
 ·rfl
 ·rfl
 ·rfl
 ·have g1:zbc r1.agg=true:=by unfold zbR at h1;simp only[Bool.and_eq_true] at h1;exact h1.2
  have g2:zbc r2.agg=true:=by unfold zbR at h2;simp only[Bool.and_eq_true] at h2;exact h2.2
  exact zm1 h.1 h.2 g1 g2
theorem zld{X:zae}{l:List zah}(h:zbJ l)(s:zaN)(k:Nat):zbJ (zdN X s k l):=by
 unfold zdN
 split
 ·split
  ·exact zeH h _
  ·exact h
 ·exact h
def zig(X:zae)(tabs:List (List zah)):Prop:=∀ k,zbJ (tabs.getD k [])
theorem zb5:zbJ []:=⟨zay.nil,fun r hr=>by cases hr⟩
theorem zgF(X:zae)(tabs:List (List zah))(s:zaN)(k:Nat):(addT X tabs s).getD k []=if k<X.tiers.length then zdN X s k (tabs.getD k []) else[]:=by
 unfold addT;rw[List.getD_eq_getElem?_getD,List.getElem?_map]
 split
 ·rename_i h;rw[List.getElem?_range h];rfl
 ·rename_i h;rw[List.getElem?_eq_none (by simpa using h)];rfl
theorem zjj{X:zae}{tabs:List (List zah)}(h:zig X tabs)(s:zaN):zig X (addT X tabs s):=by
 intro k;rw[zgF]
 split
 ·exact zld (h k) s k
 ·exact zb5
theorem zha{X:zae}:∀ {l:List zaN} {tabs:List (List zah)},zig X tabs→zig X (zf0 X tabs l)
 | [],_,h=>h
 | s::l,_,h=>zha (l:=l) (zjj h s)
theorem zhA{t e:Int}(he:1≤e)(h0: -4611686018427387904≤t)(he2:e≤1000000):zav t e=t-t%e:=by
 obtain⟨h1,h2,_,_⟩:=zd1 t e he;have h:=Int.tmod_add_mul_tdiv t e
 have hm:t%e=t.tmod e%e:=by
  conv=>lhs;rw[← h]
  rw[Int.add_mul_emod_self_left]
 have hv:t.tmod e%e=if t.tmod e<0 then t.tmod e+e else t.tmod e:=by
  split
  ·rw[← Int.add_emod_right]
   exact Int.emod_eq_of_lt (by omega) (by omega)
  ·exact Int.emod_eq_of_lt (by omega) (by omega)
 unfold zav;rw[if_neg (by omega),hm,hv]
 split<;>split<;>omega
theorem zlH{a b e:Int}(he:1≤e)(h0: -4611686018427387904≤a)(he2:e≤1000000)(hab:a≤b):zav a e≤zav b e:=by
 rw[zhA he h0 he2,zhA he (by omega) he2];have h1:=Int.mul_ediv_add_emod a e;have h2:=Int.mul_ediv_add_emod b e;have h3:a / e≤b / e:=Int.ediv_le_ediv (by omega) hab;have h4:e*(a / e)≤e*(b / e):=Int.mul_le_mul_of_nonneg_left h3 (by omega);omega
theorem zjh{a b keep e:Int}(ha:0≤a)(hk:keep≤1000000)(he2:e≤1000000)(hab:a≤b):zch a keep e≤zch b keep e:=by
 unfold zch
 by_cases hz:a<0∨keep<0∨e<1
 ·rw[if_pos hz,if_pos (by omega)]
  exact Int.le_refl _
 ·rw[if_neg hz,if_neg (by omega)]
  have:=zlH (a:=a-keep) (b:=b-keep) (e:=e) (by omega) (by omega) he2 (by omega);omega
theorem znd{a b:Int}{l:List zaa}{fl:List Int}(hl:∀ t∈l,t.keep≤1000000∧t.every≤1000000)(ha:0≤a)(hab:a≤b)(k:Nat):zaF a l fl k≤zaF b l fl k:=by
 unfold zaF
 split
 ·rename_i x y hx hy
  have hb:=zjh (keep:=x.keep) (e:=y.every) ha (hl x (zab hx)).1 (hl y (zab hy)).2 hab;simp only
  split<;>omega
 ·exact Int.le_refl _
theorem zhF(N:Int)(X:zae)(k:Nat)(hk:k<X.tiers.length):(zdz N X).getD k []=za0 (zap (zaF N X.tiers X.floors k)) (X.tabs.getD k []):=by
 unfold zdz;rw[List.getD_eq_getElem?_getD,List.getElem?_map,List.getElem?_range hk]
 rfl
theorem zn0{X:zae}{n:Int}(h:zhT X n=0):zaS X n={X with now:=X.now+n,tabs:=zdz (X.now+n) X}:=by unfold zaS;rw[if_pos h]
def zn_(l:List zaa)(tabs:List (List zah)):Prop:=∀ k x,l[k]? =some x→∀ r∈tabs.getD k [],zau r.name=true∧0≤r.start∧onB r.start x.every=true
structure zbE(nm:ByteArray)(l:List zaa)(fl:List Int)(X:zae)(c:Nat):Prop where
 name:X.name=nm
 tiers:X.tiers=l
 floors:X.floors=fl
 now:0≤X.now∧X.now≤1099511627776
 tlen:X.tabs.length=l.length
 len:∀ m∈X.tabs,m.length≤c
 good:zig X X.tabs
 grid:zn_ l X.tabs
theorem zjZ{X Y:zae}{tabs:List (List zah)}(h:zig X tabs):zig Y tabs:=h
theorem zji{every:Int}{l:List zah}(hs:zay l)(h:∀ r∈l,zau r.name=true∧0≤r.start∧onB r.start every=true)(r:zah):∀ y∈zdg every l r,zau y.name=true∧0≤y.start∧onB y.start every=true:=by
 intro y hy;unfold zdg at hy
 split at hy
 ·rename_i hr
  unfold zbR at hr;simp only[Bool.and_eq_true,decide_eq_true_eq] at hr
  rcases (zaK mgM hs y).1 hy with rfl | ⟨hy,_⟩
  ·exact⟨hr.1.1.1,hr.1.1.2,hr.1.2⟩
  ·exact h y hy
 ·exact h y hy
theorem znN{X:zae}{tabs:List (List zah)}(hg:zig X tabs)(h:zn_ X.tiers tabs)(s:zaN):zn_ X.tiers (addT X tabs s):=by
 intro k x hx r hr;rw[zgF,if_pos (List.getElem?_eq_some_iff.1 hx).1] at hr;unfold zdN at hr;rw[hx] at hr;simp only at hr
 split at hr
 ·exact zji (hg k).1 (h k x hx) _ r hr
 ·exact h k x hx r hr
theorem zh_{X:zae}:∀ {l:List zaN} {tabs:List (List zah)},zig X tabs→zn_ X.tiers tabs→zn_ X.tiers (zf0 X tabs l)
 | [],_,_,h=>h
 | s::l,_,hg,h=>zh_ (l:=l) (zjj hg s) (znN hg h s)
theorem zgo{L:List (List zah)}(k:Nat):L.getD k []∈L∨L.getD k []=[]:=by
 rw[List.getD_eq_getElem?_getD]
 cases h:L[k]? with
 | none=>exact .inr rfl
 | some m=>exact .inl (zab h)
theorem zl0{X:zae}{tabs:List (List zah)}{c:Nat}(h:∀ m∈tabs,m.length≤c)(s:zaN):∀ m∈addT X tabs s,m.length≤c+1:=by
 intro m hm;unfold addT at hm;obtain⟨k,_,rfl⟩:=List.mem_map.1 hm;have h1:=zmk X s k (tabs.getD k [])
 have h2:(tabs.getD k []).length≤c:=by
  rcases zgo (L:=tabs) k with h3 | h3
  ·exact h _ h3
  ·rw[h3];exact Nat.zero_le _
 omega
theorem zfZ{X:zae}:∀ {l:List zaN} {tabs:List (List zah)} {c:Nat},(∀ m∈tabs,m.length≤c)→∀ m∈zf0 X tabs l,m.length≤c+l.length
 | [],_,_,h=>h
 | s::l,tabs,c,h=>fun m hm=>by
  have:=zfZ (l:=l) (zl0 (X:=X) h s) m hm;rw[List.length_cons];omega
theorem zg9{X:zae}:∀ {l:List zaN} {tabs:List (List zah)},tabs.length=X.tiers.length→(zf0 X tabs l).length=X.tiers.length
 | [],_,h=>h
 | s::l,tabs,h=>zg9 (l:=l) (tabs:=addT X tabs s) (by unfold addT;rw[List.length_map,List.length_range])
theorem zbE.new{nm:ByteArray}{l:List zaa}{now:Int}{fl:List Int}(h:zkz nm l now fl=0):zbE nm l fl (zjQ nm l now fl) 0:=by
 have hn:0≤now∧now≤1099511627776:=by
  unfold zkz at h
  split at h
  ·split at h
   ·omega
   ·omega
  ·omega
 have hg:∀ k,(zjQ nm l now fl).tabs.getD k []=[]:=fun k=>by
  show (l.map fun _=>([]:List zah)).getD k []=[]
  rw[List.getD_eq_getElem?_getD,List.getElem?_map]
  cases l[k]? <;>rfl
 refine⟨rfl,rfl,rfl,hn,by simp[zjQ],fun m hm=>?_,fun k=>?_,fun k x _ r hr=>?_⟩
 ·have hm:m∈l.map fun _=>([]:List zah):=hm
  obtain⟨_,_,rfl⟩:=List.mem_map.1 hm;exact Nat.le_refl _
 ·rw[hg];exact zb5
 ·rw[hg] at hr;cases hr
theorem zbE.put{nm:ByteArray}{l:List zaa}{fl:List Int}{X:zae}{c:Nat}(h:zbE nm l fl X c)(s:List zaN):zbE nm l fl (zb2 X s) (c+8):=by
 unfold zb2
 split
 ·rename_i hE
  have h8:s.length≤8:=by
   unfold zks at hE
   split at hE
   ·omega
   ·split at hE<;>omega
  refine⟨h.name,h.tiers,h.floors,h.now,?_,fun m hm=>?_,?_,?_⟩
  ·rw[← h.tiers];exact zg9 (by rw[h.tlen,h.tiers])
  ·have:=zfZ (X:=X) (l:=s) h.len m hm
   omega
  ·exact zjZ (zha h.good)
  ·have:=zh_ (X:=X) (l:=s) h.good (by rw[h.tiers];exact h.grid)
   rw[h.tiers] at this;exact this
 ·exact⟨h.name,h.tiers,h.floors,h.now,h.tlen,fun m hm=>Nat.le_trans (h.len m hm) (Nat.le_add_right _ _),h.good,h.grid⟩
theorem zlD{f:zah→Bool}{l:List zah}(h:zbJ l):zbJ (za0 f l):=⟨h.1.filter _,fun r hr=>h.2 r (List.mem_filter.1 hr).1⟩
theorem zbE.tick{nm:ByteArray}{l:List zaa}{fl:List Int}{X:zae}{c:Nat}(h:zbE nm l fl X c)(n:Int):zbE nm l fl (zaS X n) c:=by
 unfold zaS
 split
 ·rename_i hE
  have hn:0≤n∧n≤1099511627776-X.now:=by
   unfold zhT at hE
   split at hE
   ·omega
   ·split at hE<;>omega
  have h0:=h.now
  have hg:∀ k,(zdz (X.now+n) X).getD k []=if k<X.tiers.length then za0 (zap (zaF (X.now+n) X.tiers X.floors k)) (X.tabs.getD k []) else[]:=fun k=>by
   split
   ·rename_i hk;exact zhF _ X k hk
   ·rename_i hk
    unfold zdz;rw[List.getD_eq_getElem?_getD,List.getElem?_eq_none (by simpa using hk)]
    rfl
  refine⟨h.name,h.tiers,h.floors,by simp only;omega,?_,fun m hm=>?_,fun k=>?_,fun k x hx r hr=>?_⟩
  ·show (zdz _ X).length=_
   unfold zdz;rw[List.length_map,List.length_range,h.tiers]
  ·have hm:m∈zdz (X.now+n) X:=hm
   unfold zdz at hm;obtain⟨k,_,rfl⟩:=List.mem_map.1 hm;have h1:(za0 (zap (zaF (X.now+n) X.tiers X.floors k)) (X.tabs.getD k [])).length≤(X.tabs.getD k []).length:=List.length_filter_le _ _
   have h2:(X.tabs.getD k []).length≤c:=by
    rcases zgo (L:=X.tabs) k with h3 | h3
    ·exact h.len _ h3
    ·rw[h3];exact Nat.zero_le _
   omega
  ·rw[hg]
   split
   ·exact zlD (h.good k)
   ·exact zb5
  ·rw[hg] at hr
   split at hr
   ·exact h.grid k x hx r (List.mem_filter.1 hr).1
   ·cases hr
 ·exact h
theorem zlJ{so:zah→Bool}(hso:∀ x y,zco x y→so x=so y){l:List zah}{r:zah}(hr:so r=false):zcd (za0 so l) r=zcd l r:=by
 unfold zcd za0;rw[List.find?_filter]
 congr 2
 funext x
 by_cases h:zco x r
 ·simp[h,hso x r h,hr]
 ·simp[h]
theorem zjX{so:zah→Bool}(hso:∀ x y,zco x y→so x=so y){l:List zah}(hs:zay l){r:zah}(hr:so r=false):za0 so (zcU mgM l r)=zcU mgM (za0 so l) r:=by
 have hk:zay (za0 so l):=hs.filter _;refine zay.ext ((zaE mgM hs).filter _) (zaE mgM hk) (fun y=>?_)
 have e:zeZ mgM (za0 so l) r=zeZ mgM l r:=by unfold zeZ;rw[zlJ hso hr]
 have h1:y∈za0 so (zcU mgM l r)↔y∈zcU mgM l r∧(!so y)=true:=List.mem_filter;have h2:y∈za0 so l↔y∈l∧(!so y)=true:=List.mem_filter
 show y∈za0 so (zcU mgM l r)↔_
 rw[h1,zaK mgM hs,zaK mgM hk,e,h2]
 constructor
 ·rintro⟨h | ⟨h,k⟩,k2⟩
  ·exact .inl h
  ·exact .inr ⟨⟨h,k2⟩,k⟩
 ·rintro (h | ⟨⟨h,k2⟩,k⟩)
  ·refine⟨.inl h,?_⟩
   rw[h,hso _ r (zdc mgM l r),hr]
   rfl
  ·exact⟨.inr ⟨h,k⟩,k2⟩
theorem zjW{so:zah→Bool}(hso:∀ x y,zco x y→so x=so y){l:List zah}(hs:zay l){r:zah}(hr:so r=true):za0 so (zcU mgM l r)=za0 so l:=by
 refine zay.ext ((zaE mgM hs).filter _) (hs.filter _) (fun y=>?_)
 show y∈za0 so (zcU mgM l r)↔y∈za0 so l
 have h1:y∈za0 so (zcU mgM l r)↔y∈zcU mgM l r∧(!so y)=true:=List.mem_filter;have h2:y∈za0 so l↔y∈l∧(!so y)=true:=List.mem_filter;rw[h1,zaK mgM hs,h2]
 constructor
 ·rintro⟨h | ⟨h,k⟩,k2⟩
  ·rw[h,hso _ r (zdc mgM l r),hr] at k2
   cases k2
  ·exact⟨h,k2⟩
 ·rintro⟨h,k2⟩
  refine⟨.inr ⟨h,fun k=>?_⟩,k2⟩;rw[hso _ r k,hr] at k2
  cases k2
theorem zgf{every:Int}{so:zah→Bool}(hso:∀ x y,zco x y→so x=so y){l:List zah}(hs:zay l){r:zah}(hr:so r=false):za0 so (zdg every l r)=zdg every (za0 so l) r:=by
 unfold zdg
 split
 ·exact zjX hso hs hr
 ·rfl
theorem zge{every:Int}{so:zah→Bool}(hso:∀ x y,zco x y→so x=so y){l:List zah}(hs:zay l){r:zah}(hr:so r=true):za0 so (zdg every l r)=za0 so l:=by
 unfold zdg
 split
 ·exact zjW hso hs hr
 ·rfl
theorem zdS(b:Int):∀ x y,zco x y→zap b x=zap b y:=fun x y h=>by unfold zap;rw[h.2]
theorem zez{now:Int}{l:List zaa}{fl:List Int}{k:Nat}(hk:k<l.length):zii now l fl (k:Int)=zaF now l fl k:=by
 unfold zii;rw[if_pos (by omega),Int.toNat_natCast]
def zqm(X:zae)(k:Nat)(l:List zah)(all:List zaN):List zah:=all.foldl (fun l s=>zdN X s k l) l
def zql(X:zae)(k:Nat)(all:List zaN):List zah:=zqm X k [] all
def zqc(X:zae)(all:List zaN):Prop:=∀ k,k<X.tiers.length→X.tabs.getD k []=zql X k all
theorem zqc.new(nm:ByteArray)(l:List zaa)(now:Int)(fl:List Int):zqc (zjQ nm l now fl) []:=fun k hk=>by
 show (l.map fun _=>([]:List zah)).getD k []=[]
 rw[List.getD_eq_getElem?_getD,List.getElem?_map]
 cases l[k]? <;>rfl
theorem zj9{a b c:zbP}(ha:zbc a=true)(hb:zbc b=true)(hc:zbc c=true):zbO c (zbO a b)=zbO (zbO c a) b:=by
 have ho1:=zcO hc ha;have ho2:=zcO ha hb;obtain⟨h1,h2,h3⟩:=zbo ha;obtain⟨k1,k2,k3⟩:=zbo hb;obtain⟨m1,m2,m3⟩:=zbo hc
 have e1:(zbO c a)=⟨if c.count<4611686018427387904-a.count then c.count+a.count else 4611686018427387904,wrap64 (c.hi+a.hi+(c.lo+a.lo) / 18446744073709551616),(c.lo+a.lo)%18446744073709551616,min c.min a.min,max c.max a.max⟩:=by
  unfold zbO;rw[if_neg (by omega)]
 have e2:(zbO a b)=⟨if a.count<4611686018427387904-b.count then a.count+b.count else 4611686018427387904,wrap64 (a.hi+b.hi+(a.lo+b.lo) / 18446744073709551616),(a.lo+b.lo)%18446744073709551616,min a.min b.min,max a.max b.max⟩:=by
  unfold zbO;rw[if_neg (by omega)]
 have p1:=(zbo ho1).1;rw[e1] at p1 ⊢;rw[e2];unfold zbO;simp only at p1 ⊢;rw[if_neg (show ¬ c.count=0 by omega),if_neg (show ¬ (if c.count<4611686018427387904-a.count then c.count+a.count else 4611686018427387904)=0 by omega),zbP.mk.injEq];refine⟨?_,?_,by omega,by omega,by omega⟩
 ·repeat' split
  all_goals omega
 ·unfold wrap64
  omega
theorem zmS{o:Option zbP}{a b:zbP}(ho:∀ x,o=some x→zbc x=true)(ha:zbc a=true)(hb:zbc b=true):mgM o (zbO a b)=mgM (some (mgM o a)) b:=by
 rw[zcs (ziY ho ha) hb]
 cases o with
 | none=>rw[zdd ha,zdd (zcO ha hb)]
 | some x=>rw[zcs (ho x rfl) ha,zcs (ho x rfl) (zcO ha hb),zj9 ha hb (ho x rfl)]
theorem zm0{l:List zah}(hs:zay l)(ho:okL l)(n:ByteArray)(st:Int){a b:zbP}(ha:zbc a=true)(hb:zbc b=true):zcU mgM (zcU mgM l ⟨n,st,a⟩) ⟨n,st,b⟩=zcU mgM l ⟨n,st,zbO a b⟩:=by
 have hI:=zaE mgM (r:=⟨n,st,a⟩) hs
 have hk:zco (⟨n,st,a⟩:zah) ⟨n,st,b⟩:=⟨rfl,rfl⟩
 have hk2:zco (⟨n,st,zbO a b⟩:zah) ⟨n,st,b⟩:=⟨rfl,rfl⟩
 have hk3:zco (⟨n,st,zbO a b⟩:zah) ⟨n,st,a⟩:=⟨rfl,rfl⟩
 refine zay.ext (zaE mgM hI) (zaE mgM hs) (fun y=>?_);rw[zaK mgM hI,zaK mgM hs,zaK mgM hs]
 have e:zeZ mgM (zcU mgM l ⟨n,st,a⟩) ⟨n,st,b⟩=zeZ mgM l ⟨n,st,zbO a b⟩:=by
  unfold zeZ;rw[zdy hs,if_pos hk];simp only;rw[zi4 hk3,zmS (zfE ho _) ha hb]
 rw[e]
 constructor
 ·rintro (h | ⟨h | ⟨h,hn1⟩,hn2⟩)
  ·exact .inl h
  ·exact absurd (h▸(zdc mgM l ⟨n,st,a⟩:zco _ _)) (fun h3=>hn2 (zcv h3 hk))
  ·exact .inr ⟨h,fun h3=>hn1 h3⟩
 ·rintro (h | ⟨h,hn⟩)
  ·exact .inl h
  ·exact .inr ⟨.inr ⟨h,fun h3=>hn h3⟩,fun h3=>hn h3⟩
theorem zlY{e:Int}{l:List zah}(h:zbJ l)(n:ByteArray)(st:Int){a b:zbP}(ha:zbc a=true)(hb:zbc b=true):zdg e (zdg e l ⟨n,st,a⟩) ⟨n,st,b⟩=zdg e l ⟨n,st,zbO a b⟩:=by
 unfold zdg zbR;simp only[ha,hb,zcO ha hb]
 split
 ·exact zm0 h.1 h.2 n st ha hb
 ·rfl
theorem zhO{e:Int}:∀ {rs:List zah} {l:List zah},zbJ l→zbJ (zfy e l rs)
 | [],_,h=>h
 | r::rs,_,h=>zhO (rs:=rs) (zeH h r)
def zbM(e fr:Int)(acc:List zah)(r:zah):List zah:=if fr≤zav r.start e then zdg e acc ⟨r.name,zav r.start e,r.agg⟩ else acc
def zbL(e fr:Int)(acc l:List zah):List zah:=l.foldl (zbM e fr) acc
theorem zfA(e fr:Int):∀ (l acc:List zah),zfy e acc (zlk e fr l)=zbL e fr acc l
 | [],_=>rfl
 | x::l,acc=>by
  show _=zbL e fr (zbM e fr acc x) l
  rw[← zfA e fr l];unfold zlk zbM;rw[List.map_cons]
  by_cases h:fr≤zav x.start e
  ·rw[List.filter_cons_of_pos (by simpa using h),if_pos h]
   rfl
  ·rw[List.filter_cons_of_neg (by simpa using h),if_neg h]
theorem zcX{e fr:Int}{acc:List zah}(h:zbJ acc)(r:zah):zbJ (zbM e fr acc r):=by
 unfold zbM
 split
 ·exact zeH h _
 ·exact h
theorem zfU{e fr:Int}:∀ {l acc:List zah},zbJ acc→zbJ (zbL e fr acc l)
 | [],_,h=>h
 | x::l,_,h=>zfU (l:=l) (zcX h x)
theorem zeV{e fr:Int}{acc:List zah}(h:zbJ acc)(a b:zah):zbM e fr (zbM e fr acc a) b=zbM e fr (zbM e fr acc b) a:=by
 unfold zbM
 by_cases h1:fr≤zav a.start e<;>by_cases h2:fr≤zav b.start e<;>simp only[h1,h2,if_true,if_false]
 exact znM h _ _
theorem zfT{e fr:Int}(r:zah):∀ {l acc:List zah},zbJ acc→zbL e fr (zbM e fr acc r) l=zbM e fr (zbL e fr acc l) r
 | [],_,_=>rfl
 | y::l,acc,h=>by
  show zbL e fr (zbM e fr (zbM e fr acc r) y) l=zbM e fr (zbL e fr (zbM e fr acc y) l) r
  rw[zeV h,zfT r (zcX h y)]
theorem ziM{e fr:Int}{r:zah}(hr:zbc r.agg=true):∀ {l acc:List zah},zbJ acc→okL l→zbL e fr acc (zcU mgM l r)=zbL e fr (zbM e fr acc r) l
 | [],acc,_,_=>by
  unfold zcU;rw[zdd hr]
  rfl
 | x::l,acc,hg,ho=>by
  have hx:=ho x (by simp);have ho':okL l:=fun y hy=>ho y (List.mem_cons_of_mem _ hy);unfold zcU
  split
  ·show zbL e fr (zbM e fr acc x) (zcU mgM l r)=zbL e fr (zbM e fr (zbM e fr acc r) x) l
   rw[ziM hr (zcX hg x) ho',zeV hg]
  ·split
   ·rename_i hk
    show zbL e fr (zbM e fr acc ⟨r.name,r.start,mgM (some x.agg) r.agg⟩) l=zbL e fr (zbM e fr (zbM e fr acc r) x) l
    congr 1
    rw[zeV hg,zcs hx hr];unfold zbM;simp only;rw[hk.2]
    split
    ·rw[hk.1]
     exact (zlY hg r.name (zav r.start e) hx hr).symm
    ·rfl
   ·rw[zdd hr]
    rfl
theorem zmA{e1 e fr:Int}{l acc:List zah}(hg:zbJ acc)(hl:zbJ l){r:zah}(hr:zbR e1 r=true):zbL e fr acc (zdg e1 l r)=zbM e fr (zbL e fr acc l) r:=by
 have ha:zbc r.agg=true:=by unfold zbR at hr;simp only[Bool.and_eq_true] at hr;exact hr.2
 unfold zdg;rw[if_pos hr,ziM ha hg hl.2,zfT r hg]
theorem zlZ{e:Int}{l:List zah}(hg:zbJ l)(h:∀ r∈l,zbR e r=true)(r:zah):∀ y∈zdg e l r,zbR e y=true:=by
 intro y hy;unfold zdg at hy
 split at hy
 ·rename_i hr
  rcases (zaK mgM hg.1 y).1 hy with rfl | ⟨hy,_⟩
  ·unfold zbR at hr ⊢
   simp only[Bool.and_eq_true] at hr ⊢;exact⟨hr.1,ziY (zfE hg.2 r) hr.2⟩
  ·exact h y hy
 ·exact h y hy
theorem znL{e fr:Int}{l:List zah}(hg:zbJ l)(h:∀ r∈l,fr≤r.start){r:zah}(hr:fr≤r.start):∀ y∈zdg e l r,fr≤y.start:=by
 intro y hy;unfold zdg at hy
 split at hy
 ·rcases (zaK mgM hg.1 y).1 hy with rfl | ⟨hy,_⟩
  ·exact hr
  ·exact h y hy
 ·exact h y hy
theorem zfe{e fr:Int}:∀ {l acc:List zah},zbJ acc→(∀ r∈acc,zbR e r=true∧fr≤r.start)→∀ r∈zbL e fr acc l,zbR e r=true∧fr≤r.start
 | [],_,_,h=>h
 | x::l,acc,hg,h=>zfe (l:=l) (zcX hg x) (fun r hr=>by
  unfold zbM at hr
  split at hr
  ·rename_i hf
   exact⟨zlZ hg (fun y hy=>(h y hy).1) _ r hr,znL hg (fun y hy=>(h y hy).2) hf r hr⟩
  ·exact h r hr)
theorem zd6{e1 e fr:Int}{l:List zah}:zbJ (ziO e1 e fr l)∧∀ r∈ziO e1 e fr l,zbR e r=true∧fr≤r.start:=by
 unfold ziO
 split
 ·rw[zfA]
  exact⟨zfU zb5,zfe zb5 (fun r hr=>by cases hr)⟩
 ·exact⟨zb5,fun r hr=>by cases hr⟩
theorem zij{t e:Int}(h0:0≤t)(he:1≤e):zav t e=t-t%e:=by
 unfold zav;obtain⟨_,_,h3,_⟩:=zd1 t e he;rw[if_neg (by omega),if_neg (by have:=(h3 h0).1;omega),Int.tmod_eq_emod_of_nonneg h0]
theorem zj0{t a b:Int}(h0:0≤t)(ha:1≤a)(hb:1≤b)(hd:a∣b):zav (zav t a) b=zav t b:=by
 obtain⟨f1,f2,_⟩:=zeA h0 ha;rw[zij f1 hb,zij h0 ha,zij h0 hb];obtain⟨c,rfl⟩:=hd;have h1:=Int.mul_ediv_add_emod t (a*c);have h2:=Int.mul_ediv_add_emod t a;have h3:t%a=t%(a*c)%a:=(Int.emod_emod_of_dvd t (Int.dvd_mul_right a c)).symm
 have hc:0<c:=by
  rcases Int.lt_or_le 0 c with h | h
  ·exact h
  ·have:=Int.mul_nonpos_of_nonneg_of_nonpos (show 0≤a by omega) h;omega
 have h4:=Int.emod_nonneg t (show a*c≠0 by omega);have h5:=Int.emod_lt_of_pos t (show 0<a*c by omega);have h6:=Int.emod_nonneg (t%(a*c)) (show a≠0 by omega)
 have h7:t%(a*c)%a≤t%(a*c):=by
  have:=Int.mul_ediv_add_emod (t%(a*c)) a;have h8:0≤t%(a*c) / a:=Int.ediv_nonneg h4 (by omega);have h9:=Int.mul_nonneg (show 0≤a by omega) h8;omega
 have e:(t-t%a)%(a*c)=t%(a*c)-t%a:=by
  have h8:t-t%a=(t%(a*c)-t%a)+(a*c)*(t / (a*c)):=by omega
  rw[h8,Int.add_mul_emod_self_left];exact Int.emod_eq_of_lt (by omega) (by omega)
 rw[e];omega
theorem zfV{n:ByteArray}{t e v:Int}(h0:0≤t)(he:1≤e):zbR e ⟨n,zav t e,zgD v⟩=zau n:=by
 obtain⟨f1,_,f3⟩:=zeA h0 he;unfold zbR;simp[f1,f3,znJ]
theorem zmB{X Y:zae}{i j:Nat}{x y:zaa}(hx:X.tiers[i]? =some x)(hy:Y.tiers[j]? =some y)(hx1:1≤x.every)(hy1:1≤y.every)(hd:x.every∣y.every)(hf:zaF X.now X.tiers X.floors i≤zaF Y.now Y.tiers Y.floors j)
  {l:List zah} (hl:zbJ l) (s:zaN):zbL y.every (zaF Y.now Y.tiers Y.floors j) [] (zdN X s i l)=zdN Y s j (zbL y.every (zaF Y.now Y.tiers Y.floors j) [] l):=by
 have hi:=(List.getElem?_eq_some_iff.1 hx).1;have hj:=(List.getElem?_eq_some_iff.1 hy).1;unfold zdN zkm;simp only[Int.toNat_natCast,hx,hy,zez hi,zez hj]
 by_cases h0:0≤s.time
 ·rw[if_pos (⟨by omega,by omega,h0⟩:0≤(i:Int)∧(i:Int)<(X.tiers.length:Int)∧0≤s.time),if_pos (⟨by omega,by omega,h0⟩:0≤(j:Int)∧(j:Int)<(Y.tiers.length:Int)∧0≤s.time)]
  simp only[decide_eq_true_eq];have hff:=zj0 h0 hx1 hy1 hd;obtain⟨f1,f2,f3⟩:=zeA h0 hx1;obtain⟨g1,g2,g3⟩:=zeA f1 hy1;rw[hff] at g1 g2 g3
  generalize zaF X.now X.tiers X.floors i=f at hf ⊢
  generalize zaF Y.now Y.tiers Y.floors j=g at hf ⊢
  by_cases h1:f≤zav s.time x.every
  ·rw[if_pos h1]
   by_cases hv:zau s.name=true
   ·rw[zmA zb5 hl (by rw[zfV h0 hx1];exact hv)]
    unfold zbM;simp only[hff]
   ·have e1:zdg x.every l ⟨s.name,zav s.time x.every,zgD s.value⟩=l:=by unfold zdg;rw[if_neg (by rw[zfV h0 hx1];exact hv)]
    have e2:∀ m,zdg y.every m ⟨s.name,zav s.time y.every,zgD s.value⟩=m:=fun m=>by unfold zdg;rw[if_neg (by rw[zfV h0 hy1];exact hv)]
    rw[e1,e2]
    split<;>rfl
  ·rw[if_neg h1,if_neg (by omega)]
 ·have c1:¬ (0≤(i:Int)∧(i:Int)<(X.tiers.length:Int)∧0≤s.time):=fun h=>h0 h.2.2
  have c2:¬ (0≤(j:Int)∧(j:Int)<(Y.tiers.length:Int)∧0≤s.time):=fun h=>h0 h.2.2;simp only[if_neg c1,if_neg c2];simp
theorem zgu{a b:Int}(h:zaA a b=true):1≤a∧a∣b:=by
 unfold zaA at h;simp only[Bool.and_eq_true,decide_eq_true_eq] at h;exact⟨h.1,Int.dvd_of_tmod_eq_zero h.2⟩
end Go.Proofs.YteajonicnkpbbaaGreatDoor
