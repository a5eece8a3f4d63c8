/- The plain law of what a tier has: of all samples that ever came, those of its buckets that are not below its reach. -/
import Derived.Test.YteajonicnkpbbaaGreatDoorGoodX
namespace Go.Proofs.YteajonicnkpbbaaGreatDoor
set_option linter.all false
open Go.RowKit
theorem zm2{so:zaf→Bool}(hso:∀ x y,zbZ x y→so x=so y){l:List zaf}{r:zaf}(hr:so r=false):zbz (zao so l) r=zbz l r:=by
 unfold zbz zao;rw[List.find?_filter]
 congr 2
 funext x
 by_cases h:zbZ x r
 ·simp[h,hso x r h,hr]
 ·simp[h]
theorem zlc{so:zaf→Bool}(hso:∀ x y,zbZ x y→so x=so y){l:List zaf}(hs:zav l){r:zaf}(hr:so r=false):zao so (zcE mgM l r)=zcE mgM (zao so l) r:=by
 have hk:zav (zao so l):=hs.filter _;refine zav.ext ((zaD mgM hs).filter _) (zaD mgM hk) (fun y=>?_)
 have e:ze5 mgM (zao so l) r=ze5 mgM l r:=by unfold ze5;rw[zm2 hso hr]
 have h1:y∈zao so (zcE mgM l r)↔y∈zcE mgM l r∧(!so y)=true:=List.mem_filter;have h2:y∈zao so l↔y∈l∧(!so y)=true:=List.mem_filter
 show y∈zao so (zcE mgM l r)↔_
 rw[h1,zaH mgM hs,zaH mgM hk,e,h2]
 constructor
 ·rintro⟨h | ⟨h,k⟩,k2⟩
  ·exact .inl h
  ·exact .inr ⟨⟨h,k2⟩,k⟩
 ·rintro (h | ⟨⟨h,k2⟩,k⟩)
  ·refine⟨.inl h,?_⟩
   rw[h,hso _ r (zdA mgM l r),hr]
   rfl
  ·exact⟨.inr ⟨h,k⟩,k2⟩
theorem zlb{so:zaf→Bool}(hso:∀ x y,zbZ x y→so x=so y){l:List zaf}(hs:zav l){r:zaf}(hr:so r=true):zao so (zcE mgM l r)=zao so l:=by
 refine zav.ext ((zaD mgM hs).filter _) (hs.filter _) (fun y=>?_)
 show y∈zao so (zcE mgM l r)↔y∈zao so l
 have h1:y∈zao so (zcE mgM l r)↔y∈zcE mgM l r∧(!so y)=true:=List.mem_filter;have h2:y∈zao so l↔y∈l∧(!so y)=true:=List.mem_filter;rw[h1,zaH mgM hs,h2]
 constructor
 ·rintro⟨h | ⟨h,k⟩,k2⟩
  ·rw[h,hso _ r (zdA mgM l r),hr] at k2
   cases k2
  ·exact⟨h,k2⟩
 ·rintro⟨h,k2⟩
  refine⟨.inr ⟨h,fun k=>?_⟩,k2⟩;rw[hso _ r k,hr] at k2
  cases k2
theorem zgT{every:Int}{so:zaf→Bool}(hso:∀ x y,zbZ x y→so x=so y){l:List zaf}(hs:zav l){r:zaf}(hr:so r=false):zao so (zb5 every l r)=zb5 every (zao so l) r:=by
 unfold zb5
 split
 ·exact zlc hso hs hr
 ·rfl
theorem zgS{every:Int}{so:zaf→Bool}(hso:∀ x y,zbZ x y→so x=so y){l:List zaf}(hs:zav l){r:zaf}(hr:so r=true):zao so (zb5 every l r)=zao so l:=by
 unfold zb5
 split
 ·exact zlb hso hs hr
 ·rfl
theorem zep(b:Int):∀ x y,zbZ x y→zae b x=zae b y:=fun x y h=>by unfold zae;rw[h.2]
theorem zdp{now:Int}{l:List za_}{fl:List Int}{k:Nat}(hk:k<l.length):zco now l fl (k:Int)=zat now l fl k:=by
 unfold zco;rw[if_pos (by omega),Int.toNat_natCast]
theorem zlt{a b c:zaS}(ha:zaR a=true)(hb:zaR b=true)(hc:zaR c=true):zbl c (zbl a b)=zbl (zbl c a) b:=by
 have ho1:=zdb hc ha;have ho2:=zdb ha hb;obtain⟨h1,h2,h3⟩:=zbq ha;obtain⟨k1,k2,k3⟩:=zbq hb;obtain⟨m1,m2,m3⟩:=zbq hc
 have e1:(zbl c a)=⟨if c.count<4611686018427387904-a.count then c.count+a.count else 4611686018427387904,wrap64 (c.hi+a.hi+(c.lo+a.lo) / 18446744073709551616),(c.lo+a.lo)%18446744073709551616,min c.min a.min,max c.max a.max⟩:=by
  unfold zbl;rw[if_neg (by omega)]
 have e2:(zbl a b)=⟨if a.count<4611686018427387904-b.count then a.count+b.count else 4611686018427387904,wrap64 (a.hi+b.hi+(a.lo+b.lo) / 18446744073709551616),(a.lo+b.lo)%18446744073709551616,min a.min b.min,max a.max b.max⟩:=by
  unfold zbl;rw[if_neg (by omega)]
 have p1:=(zbq ho1).1;rw[e1] at p1 ⊢;rw[e2];unfold zbl;simp only at p1 ⊢;rw[if_neg (show ¬ c.count=0 by omega),if_neg (show ¬ (if c.count<4611686018427387904-a.count then c.count+a.count else 4611686018427387904)=0 by omega),zaS.mk.injEq];refine⟨?_,?_,by omega,by omega,by omega⟩
 ·repeat' split
  all_goals omega
 ·unfold wrap64
  omega
theorem zol{o:Option zaS}{a b:zaS}(ho:∀ x,o=some x→zaR x=true)(ha:zaR a=true)(hb:zaR b=true):mgM o (zbl a b)=mgM (some (mgM o a)) b:=by
 rw[zcz (zjN ho ha) hb]
 cases o with
 | none=>rw[zcA ha,zcA (zdb ha hb)]
 | some x=>rw[zcz (ho x rfl) ha,zcz (ho x rfl) (zdb ha hb),zlt ha hb (ho x rfl)]
theorem zos{l:List zaf}(hs:zav l)(ho:okL l)(n:ByteArray)(st:Int){a b:zaS}(ha:zaR a=true)(hb:zaR b=true):zcE mgM (zcE mgM l ⟨n,st,a⟩) ⟨n,st,b⟩=zcE mgM l ⟨n,st,zbl a b⟩:=by
 have hI:=zaD mgM (r:=⟨n,st,a⟩) hs
 have hk:zbZ (⟨n,st,a⟩:zaf) ⟨n,st,b⟩:=⟨rfl,rfl⟩
 have hk2:zbZ (⟨n,st,zbl a b⟩:zaf) ⟨n,st,b⟩:=⟨rfl,rfl⟩
 have hk3:zbZ (⟨n,st,zbl a b⟩:zaf) ⟨n,st,a⟩:=⟨rfl,rfl⟩
 refine zav.ext (zaD mgM hI) (zaD mgM hs) (fun y=>?_);rw[zaH mgM hI,zaH mgM hs,zaH mgM hs]
 have e:ze5 mgM (zcE mgM l ⟨n,st,a⟩) ⟨n,st,b⟩=ze5 mgM l ⟨n,st,zbl a b⟩:=by
  unfold ze5;rw[zdV hs,if_pos hk];simp only;rw[zjX hk3,zol (zgb ho _) ha hb]
 rw[e]
 constructor
 ·rintro (h | ⟨h | ⟨h,hn1⟩,hn2⟩)
  ·exact .inl h
  ·exact absurd (h▸(zdA mgM l ⟨n,st,a⟩:zbZ _ _)) (fun h3=>hn2 (zcC h3 hk))
  ·exact .inr ⟨h,fun h3=>hn1 h3⟩
 ·rintro (h | ⟨h,hn⟩)
  ·exact .inl h
  ·exact .inr ⟨.inr ⟨h,fun h3=>hn h3⟩,fun h3=>hn h3⟩
theorem zni{e:Int}{l:List zaf}(h:zby l)(n:ByteArray)(st:Int){a b:zaS}(ha:zaR a=true)(hb:zaR b=true):zb5 e (zb5 e l ⟨n,st,a⟩) ⟨n,st,b⟩=zb5 e l ⟨n,st,zbl a b⟩:=by
 unfold zb5 zaJ;simp only[ha,hb,zdb ha hb]
 split
 ·exact zos h.1 h.2 n st ha hb
 ·rfl
theorem zik{e:Int}:∀ {rs:List zaf} {l:List zaf},zby l→zby (zbf e l rs)
 | [],_,h=>h
 | r::rs,_,h=>zik (rs:=rs) (zd4 h r)
def zbT(e fr:Int)(acc:List zaf)(r:zaf):List zaf:=if fr≤zas r.start e then zb5 e acc ⟨r.name,zas r.start e,r.agg⟩ else acc
def zbS(e fr:Int)(acc l:List zaf):List zaf:=l.foldl (zbT e fr) acc
theorem zf4(e fr:Int):∀ (l acc:List zaf),zbf e acc (zeX e fr l)=zbS e fr acc l
 | [],_=>rfl
 | x::l,acc=>by
  show _=zbS e fr (zbT e fr acc x) l
  rw[← zf4 e fr l];unfold zeX zbT;rw[List.map_cons]
  by_cases h:fr≤zas x.start e
  ·rw[List.filter_cons_of_pos (by simpa using h),if_pos h]
   rfl
  ·rw[List.filter_cons_of_neg (by simpa using h),if_neg h]
theorem zdj{e fr:Int}{acc:List zaf}(h:zby acc)(r:zaf):zby (zbT e fr acc r):=by
 unfold zbT
 split
 ·exact zd4 h _
 ·exact h
theorem zgw{e fr:Int}:∀ {l acc:List zaf},zby acc→zby (zbS e fr acc l)
 | [],_,h=>h
 | x::l,_,h=>zgw (l:=l) (zdj h x)
theorem zfs{e fr:Int}{acc:List zaf}(h:zby acc)(a b:zaf):zbT e fr (zbT e fr acc a) b=zbT e fr (zbT e fr acc b) a:=by
 unfold zbT
 by_cases h1:fr≤zas a.start e<;>by_cases h2:fr≤zas b.start e<;>simp only[h1,h2,if_true,if_false]
 exact zo9 h _ _
theorem zgv{e fr:Int}(r:zaf):∀ {l acc:List zaf},zby acc→zbS e fr (zbT e fr acc r) l=zbT e fr (zbS e fr acc l) r
 | [],_,_=>rfl
 | y::l,acc,h=>by
  show zbS e fr (zbT e fr (zbT e fr acc r) y) l=zbT e fr (zbS e fr (zbT e fr acc y) l) r
  rw[zfs h,zgv r (zdj h y)]
theorem zjv{e fr:Int}{r:zaf}(hr:zaR r.agg=true):∀ {l acc:List zaf},zby acc→okL l→zbS e fr acc (zcE mgM l r)=zbS e fr (zbT e fr acc r) l
 | [],acc,_,_=>by
  unfold zcE;rw[zcA hr]
  rfl
 | x::l,acc,hg,ho=>by
  have hx:=ho x (by simp);have ho':okL l:=fun y hy=>ho y (List.mem_cons_of_mem _ hy);unfold zcE
  split
  ·show zbS e fr (zbT e fr acc x) (zcE mgM l r)=zbS e fr (zbT e fr (zbT e fr acc r) x) l
   rw[zjv hr (zdj hg x) ho',zfs hg]
  ·split
   ·rename_i hk
    show zbS e fr (zbT e fr acc ⟨r.name,r.start,mgM (some x.agg) r.agg⟩) l=zbS e fr (zbT e fr (zbT e fr acc r) x) l
    congr 1
    rw[zfs hg,zcz hx hr];unfold zbT;simp only;rw[hk.2]
    split
    ·rw[hk.1]
     exact (zni hg r.name (zas r.start e) hx hr).symm
    ·rfl
   ·rw[zcA hr]
    rfl
theorem zn4{e1 e fr:Int}{l acc:List zaf}(hg:zby acc)(hl:zby l){r:zaf}(hr:zaJ e1 r=true):zbS e fr acc (zb5 e1 l r)=zbT e fr (zbS e fr acc l) r:=by
 have ha:zaR r.agg=true:=by unfold zaJ at hr;simp only[Bool.and_eq_true] at hr;exact hr.2
 unfold zb5;rw[if_pos hr,zjv ha hg hl.2,zgv r hg]
theorem zl0{r:zaf}:∀ {l:List zaf},(∀ x∈l,klt x r)→zaR r.agg=true→zcE mgM l r=l++[r]
 | [],_,h=>by unfold zcE;rw[zcA h];rfl
 | x::l,hl,h=>by
  unfold zcE;rw[if_pos (hl x (by simp)),zl0 (fun y hy=>hl y (List.mem_cons_of_mem _ hy)) h]
  rfl
theorem zha{e:Int}:∀ {l acc:List zaf},zav (acc++l)→(∀ r∈l,zaJ e r=true)→zbf e acc l=acc++l
 | [],acc,_,_=>by simp[zbf]
 | r::l,acc,hs,hr=>by
  have h1:=hr r (by simp)
  have ha:zaR r.agg=true:=by unfold zaJ at h1;simp only[Bool.and_eq_true] at h1;exact h1.2
  have hk:∀ x∈acc,klt x r:=fun x hx=>(List.pairwise_append.1 hs).2.2 x hx r (by simp)
  show zbf e (zb5 e acc r) l=_
  unfold zb5;rw[if_pos h1,zl0 hk ha,zha (by rw[List.append_assoc];exact hs) (fun y hy=>hr y (List.mem_cons_of_mem _ hy)),List.append_assoc]
  rfl
theorem znj{e:Int}{l:List zaf}(hg:zby l)(h:∀ r∈l,zaJ e r=true)(r:zaf):∀ y∈zb5 e l r,zaJ e y=true:=by
 intro y hy;unfold zb5 at hy
 split at hy
 ·rename_i hr
  rcases (zaH mgM hg.1 y).1 hy with rfl | ⟨hy,_⟩
  ·unfold zaJ at hr ⊢
   simp only[Bool.and_eq_true] at hr ⊢;exact⟨hr.1,zjN (zgb hg.2 r) hr.2⟩
  ·exact h y hy
 ·exact h y hy
theorem zo8{e fr:Int}{l:List zaf}(hg:zby l)(h:∀ r∈l,fr≤r.start){r:zaf}(hr:fr≤r.start):∀ y∈zb5 e l r,fr≤y.start:=by
 intro y hy;unfold zb5 at hy
 split at hy
 ·rcases (zaH mgM hg.1 y).1 hy with rfl | ⟨hy,_⟩
  ·exact hr
  ·exact h y hy
 ·exact h y hy
theorem zfO{e fr:Int}:∀ {l acc:List zaf},zby acc→(∀ r∈acc,zaJ e r=true∧fr≤r.start)→∀ r∈zbS e fr acc l,zaJ e r=true∧fr≤r.start
 | [],_,_,h=>h
 | x::l,acc,hg,h=>zfO (l:=l) (zdj hg x) (fun r hr=>by
  unfold zbT at hr
  split at hr
  ·rename_i hf
   exact⟨znj hg (fun y hy=>(h y hy).1) _ r hr,zo8 hg (fun y hy=>(h y hy).2) hf r hr⟩
  ·exact h r hr)
theorem zcM{e1 e fr:Int}{l:List zaf}:zby (zc1 e1 e fr l)∧∀ r∈zc1 e1 e fr l,zaJ e r=true∧fr≤r.start:=by
 unfold zc1
 split
 ·rw[zf4]
  exact⟨zgw zb8,zfO zb8 (fun r hr=>by cases hr)⟩
 ·exact⟨zb8,fun r hr=>by cases hr⟩
theorem zo7{e1 e fr:Int}{l:List zaf}:zbf e [] (zc1 e1 e fr l)=zc1 e1 e fr l:=by
 obtain⟨h1,h2⟩:=zcM (e1:=e1) (e:=e) (fr:=fr) (l:=l);exact zha (acc:=[]) h1.1 (fun r hr=>(h2 r hr).1)
theorem ziO{t e:Int}(h0:0≤t)(he:1≤e):zas t e=t-t%e:=by
 unfold zas;obtain⟨_,_,h3,_⟩:=zdO t e he;rw[if_neg (by omega),if_neg (by have:=(h3 h0).1;omega),Int.tmod_eq_emod_of_nonneg h0]
theorem zlg{t a b:Int}(h0:0≤t)(ha:1≤a)(hb:1≤b)(hd:a∣b):zas (zas t a) b=zas t b:=by
 obtain⟨f1,f2,_⟩:=ze9 h0 ha;rw[ziO f1 hb,ziO h0 ha,ziO h0 hb];obtain⟨c,rfl⟩:=hd;have h1:=Int.mul_ediv_add_emod t (a*c);have h2:=Int.mul_ediv_add_emod t a;have h3:t%a=t%(a*c)%a:=(Int.emod_emod_of_dvd t (Int.dvd_mul_right a c)).symm
 have hc:0<c:=by
  rcases Int.lt_or_le 0 c with h | h
  ·exact h
  ·have:=Int.mul_nonpos_of_nonneg_of_nonpos (show 0≤a by omega) h;omega
 have h4:=Int.emod_nonneg t (show a*c≠0 by omega);have h5:=Int.emod_lt_of_pos t (show 0<a*c by omega);have h6:=Int.emod_nonneg (t%(a*c)) (show a≠0 by omega)
 have h7:t%(a*c)%a≤t%(a*c):=by
  have:=Int.mul_ediv_add_emod (t%(a*c)) a;have h8:0≤t%(a*c) / a:=Int.ediv_nonneg h4 (by omega);have h9:=Int.mul_nonneg (show 0≤a by omega) h8;omega
 have e:(t-t%a)%(a*c)=t%(a*c)-t%a:=by
  have h8:t-t%a=(t%(a*c)-t%a)+(a*c)*(t / (a*c)):=by omega
  rw[h8,Int.add_mul_emod_self_left];exact Int.emod_eq_of_lt (by omega) (by omega)
 rw[e];omega
theorem zgx{n:ByteArray}{t e v:Int}(h0:0≤t)(he:1≤e):zaJ e ⟨n,zas t e,zbj v⟩=zaE n:=by
 obtain⟨f1,_,f3⟩:=ze9 h0 he;unfold zaJ;simp[f1,f3,zo5]
theorem zn5{X Y:zac}{i j:Nat}{x y:za_}(hx:X.tiers[i]? =some x)(hy:Y.tiers[j]? =some y)(hx1:1≤x.every)(hy1:1≤y.every)(hd:x.every∣y.every)(hf:zat X.now X.tiers X.floors i≤zat Y.now Y.tiers Y.floors j)
  {l:List zaf} (hl:zby l) (s:zaz):zbS y.every (zat Y.now Y.tiers Y.floors j) [] (zdJ X s i l)=zdJ Y s j (zbS y.every (zat Y.now Y.tiers Y.floors j) [] l):=by
 have hi:=(List.getElem?_eq_some_iff.1 hx).1;have hj:=(List.getElem?_eq_some_iff.1 hy).1;unfold zdJ zcm;simp only[Int.toNat_natCast,hx,hy,zdp hi,zdp hj]
 by_cases h0:0≤s.time
 ·rw[if_pos (⟨by omega,by omega,h0⟩:0≤(i:Int)∧(i:Int)<(X.tiers.length:Int)∧0≤s.time),if_pos (⟨by omega,by omega,h0⟩:0≤(j:Int)∧(j:Int)<(Y.tiers.length:Int)∧0≤s.time)]
  simp only[decide_eq_true_eq];have hff:=zlg h0 hx1 hy1 hd;obtain⟨f1,f2,f3⟩:=ze9 h0 hx1;obtain⟨g1,g2,g3⟩:=ze9 f1 hy1;rw[hff] at g1 g2 g3
  generalize zat X.now X.tiers X.floors i=f at hf ⊢
  generalize zat Y.now Y.tiers Y.floors j=g at hf ⊢
  by_cases h1:f≤zas s.time x.every
  ·rw[if_pos h1]
   by_cases hv:zaE s.name=true
   ·rw[zn4 zb8 hl (by rw[zgx h0 hx1];exact hv)]
    unfold zbT;simp only[hff]
   ·have e1:zb5 x.every l ⟨s.name,zas s.time x.every,zbj s.value⟩=l:=by unfold zb5;rw[if_neg (by rw[zgx h0 hx1];exact hv)]
    have e2:∀ m,zb5 y.every m ⟨s.name,zas s.time y.every,zbj s.value⟩=m:=fun m=>by unfold zb5;rw[if_neg (by rw[zgx h0 hy1];exact hv)]
    rw[e1,e2]
    split<;>rfl
  ·rw[if_neg h1,if_neg (by omega)]
 ·have c1:¬ (0≤(i:Int)∧(i:Int)<(X.tiers.length:Int)∧0≤s.time):=fun h=>h0 h.2.2
  have c2:¬ (0≤(j:Int)∧(j:Int)<(Y.tiers.length:Int)∧0≤s.time):=fun h=>h0 h.2.2;simp only[if_neg c1,if_neg c2];simp
theorem zg4{a b:Int}(h:zau a b=true):1≤a∧a∣b:=by
 unfold zau at h;simp only[Bool.and_eq_true,decide_eq_true_eq] at h;exact⟨h.1,Int.dvd_of_tmod_eq_zero h.2⟩
end Go.Proofs.YteajonicnkpbbaaGreatDoor
