/- Steps of a drawn region in few words (each operation by its place alone: it is read off the region's list): 'tl', 'tu' take an operation first (with what is held; whose guard is met; not met), 'nl', 'nu' the same with nothing held; 'rl', 'rn': one operation alone is ready. -/
import Derived.Deep.RegionHeld3
import Derived.Lib.Hide
namespace Go.Proofs.YtjhhodndlkpmhaaGreatDoor
set_option linter.all false
section
variable {P:Program} {ops:Array Oper} {Q:Exit→Act→World→Prop} {md:Region.Mode} {S:World→Prop} {fuel:Nat} {listed:Array Bool} {a:Act} {w:World}
theorem dg{α:Type}{l:Array α}{i:Nat}{x:α}{r:List α}(h:l.toList.drop i=x::r):l[i]? =some x:=by
  have:=congrArg List.head? h;rw[List.head?_drop] at this;rw[← Array.getElem?_toList];exact this
theorem tk(i : Nat)(oi : Oper)(v : Value)(hi : ops[i]? = some oi)
    (hb:(Region.noSelect ops&&Region.free md ops listed i&&(Region.ready md ops listed).contains i)=true) (hy:YieldsIf P ops S oi v a)
    (h:wpAnyH P md ops Q S fuel (listed.setIfInBounds i true) (a.put oi.dst v) w)
    (hS:S w:=by assumption) (hQ:∀ c a w,Q (.panic c) (a.put oi.dst v) w→Q (.panic c) a w:=by exact fun _ _ _ h=>h):
    wpAnyH P md ops Q S (fuel+1) listed a w:=by
  rw[Bool.and_eq_true,Bool.and_eq_true] at hb;exact wpAnyH_take hi hb.1.1 hb.1.2 hb.2 hQ hy hS h
theorem tl(i : Nat){oi : Oper}{rs : List Oper}(v : Value)(hi : ops.toList.drop i = oi :: rs)(hq : ∀ w, S w → (execOp a.eval oi).run P w = .ok (.value v) w)
    (h:wpAnyH P md ops Q S fuel (listed.setIfInBounds i true) (a.put oi.dst v) w)
    (hb:(Region.noSelect ops&&Region.free md ops listed i&&(Region.ready md ops listed).contains i)=true:=by kernel_rfl)
    (hw:Region.wanted oi (yielded ops a.tmps)=true:=by rfl)
    (hS:S w:=by assumption) (hQ:∀ c a w,Q (.panic c) (a.put oi.dst v) w→Q (.panic c) a w:=by exact fun _ _ _ h=>h):
    wpAnyH P md ops Q S (fuel+1) listed a w:=tk i oi v (dg hi) hb (.inl ⟨hw,hq⟩) h hS hQ
theorem nk(i : Nat)(oi : Oper)(v : Value)(hi : ops[i]? = some oi)
    (hb:(Region.noSelect ops&&Region.free md ops listed i&&(Region.ready md ops listed).contains i)=true) (hy:Yields P ops oi v a)
    (h:wpAny P md ops Q fuel (listed.setIfInBounds i true) (a.put oi.dst v) w)
    (hQ:∀ c a w,Q (.panic c) (a.put oi.dst v) w→Q (.panic c) a w):wpAny P md ops Q (fuel+1) listed a w:=by
  rw[Bool.and_eq_true,Bool.and_eq_true] at hb;exact wpAny_take hi hb.1.1 hb.1.2 hb.2 hQ hy h
theorem nl(i : Nat){oi : Oper}{rs : List Oper}(v : Value)(hi : ops.toList.drop i = oi :: rs)(hq : ∀ w, (execOp a.eval oi).run P w = .ok (.value v) w)
    (h:wpAny P md ops Q fuel (listed.setIfInBounds i true) (a.put oi.dst v) w)
    (hb:(Region.noSelect ops&&Region.free md ops listed i&&(Region.ready md ops listed).contains i)=true:=by kernel_rfl)
    (hw:Region.wanted oi (yielded ops a.tmps)=true:=by rfl)
    (hQ:∀ c a w,Q (.panic c) (a.put oi.dst v) w→Q (.panic c) a w:=by exact fun _ _ _ h=>h):
    wpAny P md ops Q (fuel+1) listed a w:=nk i oi v (dg hi) hb (.inl ⟨hw,hq⟩) h hQ
theorem nu(i : Nat){oi : Oper}{rs : List Oper}(hi : ops.toList.drop i = oi :: rs)
    (h:wpAny P md ops Q fuel (listed.setIfInBounds i true) (a.put oi.dst undef) w)
    (hb:(Region.noSelect ops&&Region.free md ops listed i&&(Region.ready md ops listed).contains i)=true:=by kernel_rfl)
    (hy:Region.wanted oi (yielded ops a.tmps)=false:=by rfl)
    (hQ:∀ c a w,Q (.panic c) (a.put oi.dst undef) w→Q (.panic c) a w:=by exact fun _ _ _ h=>h):
    wpAny P md ops Q (fuel+1) listed a w:=nk i oi undef (dg hi) hb (.inr ⟨hy,rfl⟩) h hQ
theorem rl(i : Nat){o : Oper}{rs : List Oper}(ho : ops.toList.drop i = o :: rs)
    (h:∀ K':Act→World→Prop,Shut (∀ a w,S w→(S w→wpAnyH P md ops Q S fuel (listed.setIfInBounds i true) a w)→K' a w)→if Region.wanted o (yielded ops a.tmps)=true then Oper.wp P o a w K' Q else K' (a.put o.dst undef) w)
    (hr:Region.ready md ops listed=[i]:=by kernel_rfl):wpAnyH P md ops Q S (fuel+1) listed a w:=
  wpAnyH_ready hr (by simp) (AllReadyH.cons (dg ho) h AllReadyH.nil)
theorem rn(i : Nat){o : Oper}{rs : List Oper}(ho : ops.toList.drop i = o :: rs)
    (h:∀ K':Act→World→Prop,(∀ a w,wpAny P md ops Q fuel (listed.setIfInBounds i true) a w→K' a w)→if Region.wanted o (yielded ops a.tmps)=true then Oper.wp P o a w K' Q else K' (a.put o.dst undef) w)
    (hr:Region.ready md ops listed=[i]:=by kernel_rfl):wpAny P md ops Q (fuel+1) listed a w:=
  wpAny_ready hr (by simp) (AllReady.cons (dg ho) h AllReady.nil)
end
def okS(md:Region.Mode)(ops:Array Oper):List Nat→Array Bool→Bool
  | [],_=>true
  | i::is,l=>(Region.noSelect ops&&Region.free md ops l i&&(Region.ready md ops l).contains i)&&okS md ops is (l.setIfInBounds i true)
def St(P:Program)(md:Region.Mode)(ops:Array Oper)(Q:Exit→Act→World→Prop)(S:World→Prop)(fuel:Nat):List Nat→Array Bool→Act→World→Prop
  | [],l,a,w=>wpAnyH P md ops Q S fuel l a w
  | i::is,l,a,w=>∃ oi v,ops[i]? =some oi∧YieldsIf P ops S oi v a∧St P md ops Q S fuel is (l.setIfInBounds i true) (a.put oi.dst v) w
section
variable {P:Program} {ops:Array Oper} {Q:Exit→Act→World→Prop} {md:Region.Mode} {S:World→Prop} {fuel:Nat} {listed:Array Bool} {a:Act} {w:World}
theorem St.go(hS:S w)(hQ:∀ c (a:Act) k v w,Q (.panic c) (a.put (some k) v) w→Q (.panic c) a w):∀ (is:List Nat) (l:Array Bool) (a:Act),okS md ops is l=true→St P md ops Q S fuel is l a w→wpAnyH P md ops Q S (fuel+is.length) l a w
  | [],_,_,_,h=>h
  | i::is,l,a,hb,h=>by
    obtain⟨oi,v,hi,hy,h⟩:=h;unfold okS at hb;rw[Bool.and_eq_true] at hb
    exact tk i oi v hi hb.1 hy (St.go hS hQ is _ _ hb.2 h) hS (fun c a w h=>by
   cases hd:oi.dst with
   | none=>rw[hd] at h;exact h
   | some k=>rw[hd] at h;exact hQ c a k _ w h)
theorem tq(k : Nat)(is : List Nat)(h : St P md ops Q S fuel is listed a w)(hk : is.length = k := by rfl)(hb : okS md ops is listed = true := by kernel_rfl)(hS : S w := by assumption)
    (hQ:∀ c (a:Act) k v w,Q (.panic c) (a.put (some k) v) w→Q (.panic c) a w:=by exact fun _ _ _ _ _ h=>h):wpAnyH P md ops Q S (fuel+k) listed a w:=hk▸St.go hS hQ is listed a hb h
theorem sk{i : Nat}{is : List Nat}{oi : Oper}{rs : List Oper}{v : Value}(h : St P md ops Q S fuel is (listed.setIfInBounds i true) (a.put oi.dst v) w)(hi : ops.toList.drop i = oi :: rs := by rfl)
    (hq:∀ w,S w→(execOp a.eval oi).run P w=.ok (.value v) w:=by intro W hSw;go_simp;try rfl) (hw:Region.wanted oi (yielded ops a.tmps)=true:=by rfl):St P md ops Q S fuel (i::is) listed a w:=
  ⟨oi,v,dg hi,.inl ⟨hw,hq⟩,h⟩
theorem sf{p : World → Prop}(hC : ∀ w, S w → p w){i : Nat}{is : List Nat}{oi : Oper}{rs : List Oper}{v : Value}(h : St P md ops Q S fuel is (listed.setIfInBounds i true) (a.put oi.dst v) w)(hi : ops.toList.drop i = oi :: rs := by rfl)
    (hq:∀ w,p w→S w→(execOp a.eval oi).run P w=.ok (.value v) w:=by intro W hC hSw;go_simp;try rfl) (hw:Region.wanted oi (yielded ops a.tmps)=true:=by rfl):St P md ops Q S fuel (i::is) listed a w:=
  ⟨oi,v,dg hi,.inl ⟨hw,fun w hS=>hq w (hC w hS) hS⟩,h⟩
theorem su{i : Nat}{is : List Nat}{oi : Oper}{rs : List Oper}(h : St P md ops Q S fuel is (listed.setIfInBounds i true) (a.put oi.dst undef) w)(hi : ops.toList.drop i = oi :: rs := by rfl)
    (hw:Region.wanted oi (yielded ops a.tmps)=false:=by rfl):St P md ops Q S fuel (i::is) listed a w:=⟨oi,undef,dg hi,.inr ⟨hw,rfl⟩,h⟩
theorem sz(h:wpAnyH P md ops Q S fuel listed a w):St P md ops Q S fuel [] listed a w:=h
end
theorem sA{α:Type}(l:List α)(i:Nat)(a:α):l.toArray.setIfInBounds i a=(l.set i a).toArray:=List.setIfInBounds_toArray l i a
theorem sB{α:Type}(a b:α)(l:List α):(a::l).set 0 b=b::l:=List.set_cons_zero
theorem sC{α:Type}(a b:α)(l:List α)(n:Nat):(a::l).set (n+1) b=a::l.set n b:=List.set_cons_succ
theorem q0_{p:Prop}(h:p):RowKit.Hid p:=h
theorem q1_{α:Type}{a:List α}{i:Nat}:a.toArray[i]? =a[i]? :=List.getElem?_toArray
theorem q2_{α:Type}{x:α}{a:List α}{i:Nat}:(x::a)[i+1]? =a[i]? :=List.getElem?_cons_succ
theorem q3_{α:Type}{x:α}{a:List α}:(x::a)[0]? =some x:=List.getElem?_cons_zero
theorem q4_{α:Type}{P:α→Prop}:∀ k:α,(fun _:α=>False) k→P k:=fun _ h=>h.elim
theorem q6_{α:Type}{l:List α}{i:Nat}(h:i<l.length):l[i]? =some l[i]:=List.getElem?_eq_getElem h
theorem q7_{α:Type}(l:List α)(i:Nat)(a:α):l.toArray.setIfInBounds i a=(l.set i a).toArray:=List.setIfInBounds_toArray l i a
theorem q8_{α:Type}{a b:List α}:(a++b).length=a.length+b.length:=List.length_append
theorem q9_{p:Prop}[Decidable p](h:¬p):decide p=false:=decide_eq_false h
theorem qa_{p:Prop}[Decidable p](h:p):decide p=true:=decide_eq_true h
end Go.Proofs.YtjhhodndlkpmhaaGreatDoor
