/- Walks of package table: Len, Copy, Drop. -/
import Derived.Test.YtkfdgodngbinlaaGreatDoorTabAddL
import Derived.Maps.OwnSet
import Derived.Test.YtkfdgodngbinlaaGreatDoorFrom
import Derived.Test.YtkfdgodngbinlaaGreatDoorTk
namespace Go.Proofs.YtkfdgodngbinlaaGreatDoor
set_option linter.all false
open Go.RowKit
open Go.Maps (Keyed)

set_option maxRecDepth 100000 in
set_option maxHeartbeats 4000000 in
theorem tabcopy_any (g : Nat) (every : Int) (b : Nat) (l : List RecV) (w : World) (h : TabAt w g every b l) :
  Calls Tryz.prog 87 #[.pointer (some ⟨g, 0, none⟩)] w fun r w' => (∃ g' b', r = .returned (.pointer (some ⟨g', 0, none⟩)) ∧ TabAt w' g' every b' l ∧ w.heap.size ≤ g' ∧ w.heap.size ≤ b') ∧ Below w.heap.size w w' := by
 have HC : Hid (∀ W, Fr (fun _ => False) w W → W.cell? ⟨g, 0, none⟩ = some (.int .i64 every) ∧ W.cell? ⟨g, 1, none⟩ = some (.map (some b))) := fun W f => ⟨(h.blk.fr f (fun h => h)).cell 0, (h.blk.fr f (fun h => h)).cell 1⟩
 have HCl : Hid (∀ W, Fr (fun _ => False) w W → Calls Tryz.prog 136 #[.map (some b)] W fun r w'' => r = .returned (.map (some W.heap.size)) ∧ OwnsT w'' W.heap.size l ∧ Fr (fun _ => False) w w'') := fun W f => by
  obtain ⟨D, ⟨es, ck, hb, hfit, hs, hD⟩, ht⟩ := (h.own.fr f (fun h => h))
  refine (show Calls Tryz.prog 136 _ _ _ from AnyW.maps_Clone Tryz.cloneM b es ck W hb).mono ?_
  rintro r w'' ⟨e, rfl⟩
  exact ⟨e, ⟨D, ⟨es, ck, (MapKept.heap_alloc W _).1, hfit, hs, hD⟩, ht⟩, f.trans (Fr.none_alloc _ _) (fun _ h => h.elim)⟩
 clear h
 go_enter Tryz.func87, Tryz.ntmps87
 go_wp2_with fail
 refine wp_region_held_drew (S := fun W => Fr (fun _ => False) w W) (by kernel_rfl) ((Fr.refl _ w).drew) (fun hHeld => ?_)
 refine tq 8 [0,1,2,3,4,5,6,7] ?_
 iterate 7 refine sf HC.out ?_
 refine sf HC.out ?_
 try simp only [Act.put, sA, sB, sC]
 refine sz ?_
 try simp only [Act.put, sA, sB, sC]
 refine rl 8 rfl (fun K hK => ?_)
 go_simp
 go_wp2_with (first | (go_at_call 136; refine (HCl.out _ hHeld).mono ?_; rintro r w5 ⟨rfl, ho5, f5⟩))
 refine hK.out _ _ (f5) (fun hHeld => ?_)
 clear hK K
 refine tl 9 ?v9 rfl ?q9 ?r9
 case q9 => intro W hSw; (try obtain ⟨c0, c1⟩ := HC.out W hSw); go_simp; try rfl
 try simp only [Act.put, sA, sB, sC]
 refine rl 10 rfl (fun K hK => ?_)
 go_simp
 refine hK.out _ _ (hHeld.trans (Fr.none_alloc _ _) (fun _ h => h.elim)) (fun hHeld => ?_)
 clear hK K
 refine tl 11 ?v10 rfl ?q10 ?r10
 case q10 => intro W hSw; (try obtain ⟨c0, c1⟩ := HC.out W hSw); go_simp; try rfl
 try simp only [Act.put, sA, sB, sC]
 refine wpAnyH_done (by kernel_rfl) ?_ _
 go_wp2_with fail
 go_ret
 refine ⟨⟨w5.heap.size, w.heap.size, rfl, ⟨Blk.new _ _ _, ho5.fr (Fr.none_alloc _ _) (fun h => h)⟩, f5.size, Nat.le_refl _⟩, hHeld.below (fun _ h => h.elim)⟩

theorem dropso_any (n : ByteArray) (s below : Int) (q : Nat) (W : World) (hc : W.cell? ⟨q, 0, none⟩ = some (.int .i64 below)) :
  Calls Tryz.prog 132 #[.agg #[.string n, .int .i64 s], .pointer (some ⟨q, 0, none⟩)] W fun r w' => r = .returned (.bool (decide (s < below))) ∧ Below W.heap.size W w' := by
 have c1 := fun o => (Fr.none_alloc W o).cell hc (fun h => h)
 clear hc
 go_enter Tryz.func132, Tryz.ntmps132
 go_wp2_with fail
 go_ret
 exact ⟨rfl, (Fr.none_alloc _ _).below (fun _ h => h.elim)⟩
theorem dropdel_any (n : ByteArray) (s : Int) (a : AggV) (below : Int) (p q : Nat) (W : World) (hp : W.cell? ⟨p, 0, none⟩ = some (.func (.func 132) #[] #[.pointer (some ⟨q, 0, none⟩)])) (hc : W.cell? ⟨q, 0, none⟩ = some (.int .i64 below)) :
  Calls Tryz.prog 167 #[.agg #[.string n, .int .i64 s], .agg #[.int .i64 a.count, .int .i64 a.hi, .int .u64 a.lo, .int .i64 a.min, .int .i64 a.max], .pointer (some ⟨p, 0, none⟩)] W fun r w' => r = .returned (.bool (decide (s < below))) ∧ Below W.heap.size W w' := by
 have c1 := fun o1 o2 => (Fr.none_alloc (W.alloc o1) o2).cell ((Fr.none_alloc W o1).cell hp (fun h => h)) (fun h => h)
 have HD : Hid (∀ W', Fr (fun _ => False) W W' → Calls Tryz.prog 132 #[.agg #[.string n, .int .i64 s], .pointer (some ⟨q, 0, none⟩)] W' fun r w'' => r = .returned (.bool (decide (s < below))) ∧ Below W'.heap.size W' w'') := fun W' f => dropso_any n s below q W' (f.cell hc (fun h => h))
 have F2 : Hid (∀ o1 o2, Fr (fun _ => False) W ((W.alloc o1).alloc o2)) := fun o1 o2 => (Fr.none_alloc W o1).trans (Fr.none_alloc _ o2) (fun _ h => h.elim)
 clear hp hc
 go_enter Tryz.func167, Tryz.ntmps167
 go_wp2_with fail
 refine (HD.out _ (F2.out _ _)).mono ?_
 rintro r w5 ⟨rfl, b5⟩
 have B5 := Lib.hid (((F2.out _ _).trans (Fr.b0 b5) (fun _ h => h.elim)).below (fun _ h => h.elim))
 clear b5
 go_wp2_with fail
 go_ret
 exact ⟨rfl, B5.out⟩

def keepT (so : RecV → Bool) (l : List RecV) : List RecV := l.filter fun r => !so r
set_option maxRecDepth 100000 in
set_option maxHeartbeats 8000000 in
theorem delfunc_any (f : Nat) (caps : Array Value) (so : RecV → Bool) (hso : ∀ x y, skey x y → so x = so y) (b : Nat) (l : List RecV) (w : World) (h : OwnsT w b l) (eg : ∀ args w, (callFunc f args).run Tryz.prog w = .ok (.enter f args) w)
  (hdel : ∀ W, Fr (fun j => j = b) w W → ∀ x : RecV, x.wf → Calls Tryz.prog f (#[.agg #[.string x.name, .int .i64 x.start], .agg #[.int .i64 x.agg.count, .int .i64 x.agg.hi, .int .u64 x.agg.lo, .int .i64 x.agg.min, .int .i64 x.agg.max]] ++ caps) W fun r w' => r = .returned (.bool (so x)) ∧ Below W.heap.size W w') :
  Calls Tryz.prog 166 #[.map (some b), .func (.func f) #[] caps] w fun r w' => r = .returned (.tuple #[]) ∧ OwnsT w' b (keepT so l) ∧ Fr (fun j => j = b) w w' := by
 obtain ⟨D, hown, ht⟩ := h
 have hblt := hown.lt
 have Hd := Lib.hid hdel
 have Hso := Lib.hid hso
 have Ht := Lib.hid ht
 clear ht hdel hso
 go_enter Tryz.func166, Tryz.ntmps166
 go_wp2_with (first
  | (at_range; refine wpList_range_own _ rfl _ 187 rfl 192 113 placeKeyed Tryz.underlying187 aggR b l.length _ rfl hown ?_; intro w0 hrg0 hg0 hs0)
  | go_in)
 go_frame
 go_loopw [8] (fun _ wr => ∃ (cur : List RecV) (E : DataW Unit) (left : Lit → Bool) (cnt : Nat), wr.ranges Tryz.prog 192 aggR b w.heap.size l.length E left cnt ∧ TabD cur E ∧ (∀ k, left k = true → Maps.has E k = true) ∧ (∀ x ∈ cur, x ∈ l) ∧ (∀ x ∈ l, so x = false → x ∈ cur) ∧ (∀ x ∈ cur, so x = true → left (kl x) = true) ∧ Fr (fun j => j = b) w wr)
  (fun _ wr => wr.rangeLeft b w.heap.size)
 case atStart => exact ⟨l, D, _, _, hrg0, Ht.out, fun _ h => h, fun _ h => h, fun _ h _ => h, fun x hx _ => Ht.out.hasYes hx, (fr_grown0 hg0).mono (fun _ h => h.elim)⟩
 case round =>
  obtain ⟨cur, E, left, cnt, hrg, hE, hhas, h1, h2, h3, hf⟩ := hrel
  have HE := Lib.hid hE
  have Hhas := Lib.hid hhas
  have H1 := Lib.hid h1
  have H2 := Lib.hid h2
  have H3 := Lib.hid h3
  have HF := Lib.hid hf
  clear hE hhas h1 h2 h3 hf
  go_wp2_with (first
   | (at_next; refine wpList_next_ranges _ rfl _ rfl 192 placeKeyed aggR id id (fun key _ _ => ⟨key, rfl⟩) (fun v _ _ => ⟨v, rfl⟩) b w.heap.size l.length _ _ _ rfl hrg ?_ ?_)
   | go_in)
  ·intro _ hl0
   have e : cur = keepT so l := by
    refine Sorted.ext HE.out.sorted (Ht.out.sorted.filter _) (fun r => ?_)
    unfold keepT
    rw [List.mem_filter]
    constructor
    ·intro hr
     refine ⟨H1.out r hr, ?_⟩
     cases hs : so r
     ·rfl
     ·have h := H3.out r hr hs
      rw [hl0] at h; cases h
    ·rintro ⟨hr, hs⟩
     exact H2.out r hr (by simpa using hs)
   have HO := Lib.hid (OwnsT.of hrg.owns HE.out)
   rw [e] at HO
   clear hl0 e
   go_wp2_with fail
   go_end0
   exact ⟨rfl, HO.out, HF.out⟩
  ·intro x c kx yd yp w1 cnt1 hkey hlx hv hat hrg1 hlt hg1 hs1 hen
   obtain ⟨q, hq, rfl, rfl, rfl⟩ := entry_of HE.out hkey (Hhas.out _ hlx) hv hat
   have hql := H1.out q hq
   have hqw := HE.out.wf q hq
   have F1 := Lib.hid (HF.out.trans (fr_grown hg1) (fun i hi => .inr (by rw [hi]; exact Nat.le_refl _)))
   have Hrg1 := Lib.hid hrg1
   have hinj : ∀ x ∈ cur, (kl x).sameKey (kl q) = true → x = q := fun x hx hk => HE.out.sorted.inj hx hq (kl_inj (HE.out.wf x hx) hqw (WideAt.sameKey_eq hk))
   have Hinj := Lib.hid hinj
   have HD : Hid (∀ W, Fr (fun _ => False) w1 W → Calls Tryz.prog f (#[.agg #[.string q.name, .int .i64 q.start], .agg #[.int .i64 q.agg.count, .int .i64 q.agg.hi, .int .u64 q.agg.lo, .int .i64 q.agg.min, .int .i64 q.agg.max]] ++ caps) W fun r w' => r = .returned (.bool (so q)) ∧ Below W.heap.size W w') := fun W hW => Hd.out W (F1.out.trans hW (fun _ h => h.elim)) q hqw
   have F3 : Hid (∀ o1 o2, Fr (fun _ => False) w1 ((w1.alloc o1).alloc o2)) := fun o1 o2 => (Fr.none_alloc w1 o1).trans (Fr.none_alloc _ o2) (fun _ h => h.elim)
   have KB : Hid (∀ o2, Blk ((w1.alloc (.cells #[.string q.name, .int .i64 q.start] 192)).alloc o2) wr.heap.size 192 #[.string q.name, .int .i64 q.start]) := fun o2 => (Blk.new' hs1.symm _ _).alloc o2
   unfold placeV AggV.val at hen
   clear hrg1 hg1 hinj
   cases hs : so q
   ·rw [hs] at HD
    go_wp2_with (first
     | (go_at_fn f; refine (HD.out _ (F3.out _ _)).mono ?_; rintro e w2 ⟨rfl, b2⟩)
     | go_in)
    have F2 := Lib.hid ((F3.out _ _).trans (Fr.b0 b2) (fun _ h => h.elim))
    have Hrg2 := Lib.hid (ranges_fr Hrg1.out F2.out (fun h => h) (fun h => h))
    clear b2
    go_roundw
    case rel =>
     refine ⟨cur, E, _, cnt1, Hrg2.out, HE.out, fun k hk => Hhas.out k (by cases hl : left k <;> simp [hl] at hk ⊢), H1.out, H2.out, fun x hx hsx => ?_, F1.out.trans F2.out (fun _ h => h.elim)⟩
     rw [H3.out x hx hsx, Bool.true_and]
     cases hk : (kl x).sameKey (kl q)
     ·rfl
     ·rw [Hinj.out x hx hk, hs] at hsx; cases hsx
    case measure => rw [Hrg2.out.left_eq, hrg.left_eq]; exact hlt
   ·rw [hs] at HD
    go_wp2_with (first
     | (go_at_fn f; refine (HD.out _ (F3.out _ _)).mono ?_; rintro e w2 ⟨rfl, b2⟩; have F2 := Lib.hid ((F3.out _ _).trans (Fr.b0 b2) (fun _ h => h.elim)); have hrg2 := ranges_fr Hrg1.out F2.out (fun h => h) (fun h => h); have k0 := ((KB.out _).below b2).cell 0; have k1 := ((KB.out _).below b2).cell 1; simp only [List.getElem?_toArray, List.getElem?_cons_succ, List.getElem?_cons_zero] at k0 k1)
     | (at_delete; refine wpList_delete_ranges _ rfl _ _ 187 192 rfl 113 placeKeyed Tryz.underlying187 aggR b w.heap.size l.length _ _ _ rfl hrg2 _ _ rfl hkey ?_; intro w3 cnt3 hrg3 hle hturn; go_frame)
     | go_in)
    rw [Maps.strike_twice] at hrg3
    have F4 := Lib.hid ((F1.out.trans F2.out (fun _ h => h.elim)).trans (fr_grown hturn.grown) (fun i hi => .inl hi))
    have hE3 := Lib.hid (HE.out.strike hq)
    clear b2 k0 k1 hrg2
    go_wp2_with fail
    go_roundw
    case rel =>
     refine ⟨_, _, _, cnt3, hrg3, hE3.out, fun k hk => ?_, fun x hx => H1.out x (List.mem_filter.1 hx).1, fun x hx hsx => ?_, fun x hx hsx => ?_, F4.out⟩
     ·have h1 : left k = true := by cases hl : left k <;> simp [hl] at hk ⊢
      have h2 : k ≠ kl q := fun e => by rw [e, WideAt.sameKey_self (kl_isKey q)] at hk; simp at hk
      rw [Maps.has_del_other h2]; exact Hhas.out k h1
     ·refine List.mem_filter.2 ⟨H2.out x hx hsx, ?_⟩
      have hne : ¬ skey x q := fun k => by rw [Hso.out x q k, hs] at hsx; cases hsx
      simpa using hne
     ·obtain ⟨hx, hne⟩ := List.mem_filter.1 hx
      have hne : ¬ skey x q := by simpa using hne
      rw [H3.out x hx hsx, Bool.true_and]
      cases hk : (kl x).sameKey (kl q)
      ·rfl
      ·rw [Hinj.out x hx hk] at hne; exact absurd ⟨rfl, rfl⟩ hne
    case measure => rw [hrg3.left_eq, hrg.left_eq]; omega

def startBelow (below : Int) (r : RecV) : Bool := decide (r.start < below)
theorem OwnsT.len {w : World} {b : Nat} {l : List RecV} (h : OwnsT w b l) (ty : TypeId) : (Builtin.len_ #[187] ty #[.map (some b)]).run Tryz.prog w = .ok (.int .i64 (l.length : Nat)) w := by
 obtain ⟨D, ho, ht⟩ := h
 have hl := ho.len Tryz.underlying187 ty
 rwa [ht.size] at hl
theorem cell_ne_map {w : World} {q b : Nat} {v : Value} {es : Array MapEntry} {ck : Nat} (hc : w.cell? ⟨q, 0, none⟩ = some v) (hb : w.heap[b]? = some (.map es ck)) : q ≠ b := by
 rintro rfl
 unfold World.cell? at hc
 rw [hb] at hc
 cases hc
set_option maxRecDepth 100000 in
set_option maxHeartbeats 8000000 in
theorem tabdropso_any (g : Nat) (every : Int) (b : Nat) (l : List RecV) (below : Int) (q : Nat) (w : World) (h : TabAt w g every b l) (hq : w.cell? ⟨q, 0, none⟩ = some (.int .i64 below)) (hl : l.length ≤ 1000000000) :
  Calls Tryz.prog 131 #[.pointer (some ⟨g, 0, none⟩), .func (.func 132) #[] #[.pointer (some ⟨q, 0, none⟩)]] w fun r w' => r = .returned (.int .i64 ((l.length : Int) - ((keepT (startBelow below) l).length : Nat))) ∧ TabAt w' g every b (keepT (startBelow below) l) ∧ Fr (fun j => j = b) w w' := by
 obtain ⟨es, ck, hbm⟩ := h.own.isMap
 have hqb := cell_ne_map hq hbm
 obtain ⟨W1, hW1⟩ : ∃ W1, W1 = w.alloc (.cells #[.func (.func 132) #[] #[.pointer (some ⟨q, 0, none⟩)]] 193) := ⟨_, rfl⟩
 have HW1 := Lib.hid hW1
 have T1 : Hid (TabAt W1 g every b l) := by rw [hW1]; exact h.fr0 (Fr.none_alloc _ _)
 have P1 : Hid (W1.cell? ⟨w.heap.size, 0, none⟩ = some (.func (.func 132) #[] #[.pointer (some ⟨q, 0, none⟩)])) := by show _ = _; rw [hW1]; exact (Blk.new _ _ _).cell 0
 have Q1 : Hid (W1.cell? ⟨q, 0, none⟩ = some (.int .i64 below)) := by show _ = _; rw [hW1]; exact (Fr.none_alloc w _).cell hq (fun h => h)
 have F1 : Hid (Fr (fun j => j = b) w W1) := by show Fr _ _ _; rw [hW1]; exact (Fr.none_alloc w _).mono (fun _ h => h.elim)
 have hwb : w.heap.size ≠ b := fun e => by have := h.own.lt; omega
 have HN := Lib.hid (tabnone_any g every b W1 T1.out.blk)
 have hgb := h.ne
 have c1 := T1.out.blk.cell 1
 simp only [List.getElem?_toArray, List.getElem?_cons_succ, List.getElem?_cons_zero] at c1
 have hlen := T1.out.own.len
 have eg : ∀ args w, (callFunc 167 args).run Tryz.prog w = .ok (.enter 167 args) w := enters_of Tryz.func167 (by kernel_rfl) rfl
 have HD := Lib.hid (delfunc_any 167 #[.pointer (some ⟨w.heap.size, 0, none⟩)] (startBelow below) (fun x y hk => by unfold startBelow; rw [hk.2]) b l W1 T1.out.own eg (fun W hf x _ => dropdel_any x.name x.start x.agg below w.heap.size q W (hf.cell P1.out hwb) (hf.cell Q1.out hqb)))
 clear h hq hbm hW1
 go_enter Tryz.func131, Tryz.ntmps131
 go_wp2_with fail
 rw [← HW1.out]
 refine HN.out.mono ?_
 rintro r w' ⟨rfl, rfl⟩
 go_wp2_with fail
 refine HD.out.mono ?_
 rintro r w5 ⟨rfl, ho5, f5⟩
 have T5 := Lib.hid (TabAt.mk (T1.out.blk.fr f5 hgb) ho5)
 have F5 := Lib.hid (F1.out.trans f5 (fun i hi => .inl hi))
 have hle : (keepT (startBelow below) l).length ≤ l.length := List.length_filter_le _ _
 obtain ⟨m, hm⟩ : ∃ m, (keepT (startBelow below) l).length = m := ⟨_, rfl⟩
 have hlen5 := T5.out.own.len
 rw [hm] at hlen5 hle
 have hw : IntKind.i64.wrap ((l.length : Int) - (m : Int)) = (l.length : Int) - (m : Int) := by simp [IntKind.wrap, IntKind.signed, IntKind.bits]; omega
 have c5 := T5.out.blk.cell 1
 simp only [List.getElem?_toArray, List.getElem?_cons_succ, List.getElem?_cons_zero] at c5
 clear ho5 f5 c1 hlen
 go_wp2_with fail
 go_ret
 rw [hm]
 exact ⟨rfl, T5.out, F5.out⟩
set_option maxRecDepth 100000 in
set_option maxHeartbeats 8000000 in
theorem tabdrop_any (g : Nat) (every : Int) (b : Nat) (l : List RecV) (below : Int) (w : World) (h : TabAt w g every b l) (hl : l.length ≤ 1000000000) :
  Calls Tryz.prog 85 #[.pointer (some ⟨g, 0, none⟩), .int .i64 below] w fun r w' => r = .returned (.int .i64 ((l.length : Int) - ((keepT (startBelow below) l).length : Nat))) ∧ TabAt w' g every b (keepT (startBelow below) l) ∧ Fr (fun j => j = b) w w' := by
 obtain ⟨W1, hW1⟩ : ∃ W1, W1 = w.alloc (.cells #[.int .i64 below] 3) := ⟨_, rfl⟩
 have HW1 := Lib.hid hW1
 have T1 : Hid (TabAt W1 g every b l) := by rw [hW1]; exact h.fr0 (Fr.none_alloc _ _)
 have Q1 : W1.cell? ⟨w.heap.size, 0, none⟩ = some (.int .i64 below) := by rw [hW1]; exact (Blk.new _ _ _).cell 0
 have F1 : Hid (Fr (fun j => j = b) w W1) := by show Fr _ _ _; rw [hW1]; exact (Fr.none_alloc w _).mono (fun _ h => h.elim)
 have HD := Lib.hid (tabdropso_any g every b l below w.heap.size W1 T1.out Q1 hl)
 clear h hW1 Q1
 go_enter Tryz.func85, Tryz.ntmps85
 go_wp2_with fail
 rw [← HW1.out]
 refine HD.out.mono ?_
 rintro r w5 ⟨rfl, t5, f5⟩
 have T5 := Lib.hid t5
 have F5 := Lib.hid (F1.out.trans f5 (fun i hi => .inl hi))
 clear t5 f5
 go_wp2_with fail
 go_ret
 exact ⟨rfl, T5.out, F5.out⟩
end Go.Proofs.YtkfdgodngbinlaaGreatDoor
namespace Go.Proofs.YtkfdgodngbinlaaGreatDoor
set_option linter.all false
open Go.RowKit

end Go.Proofs.YtkfdgodngbinlaaGreatDoor
namespace Go.Proofs.YtkfdgodngbinlaaGreatDoor
set_option linter.all false
open Go.RowKit

end Go.Proofs.YtkfdgodngbinlaaGreatDoor
namespace Go.Proofs.YtkfdgodngbinlaaGreatDoor
set_option linter.all false
open Go.RowKit

end Go.Proofs.YtkfdgodngbinlaaGreatDoor
namespace Go.Proofs.YtkfdgodngbinlaaGreatDoor
set_option linter.all false
open Go.RowKit

def rollL (e fr : Int) (l : List RecV) : List RecV := (l.map fun r => (⟨r.name, floorV r.start e, r.agg⟩ : RecV)).filter fun r => decide (fr ≤ r.start)
def rollV (every e fr : Int) (l : List RecV) : List RecV := if dividesB every e then addsV e [] (rollL e fr l) else []
theorem rollL_snoc (e fr : Int) (l : List RecV) (x : RecV) : rollL e fr (l ++ [x]) = rollL e fr l ++ (if decide (fr ≤ floorV x.start e) then [⟨x.name, floorV x.start e, x.agg⟩] else []) := by
 unfold rollL
 rw [List.map_append, List.filter_append]
 congr 1
 simp only [List.map_cons, List.map_nil]
 cases h : decide (fr ≤ floorV x.start e) <;> simp [h]
theorem rollL_len (e fr : Int) (l : List RecV) : (rollL e fr l).length ≤ l.length := by
 unfold rollL
 refine Nat.le_trans (List.length_filter_le _ _) (by simp)

set_option maxRecDepth 100000 in
set_option maxHeartbeats 8000000 in
theorem tabroll_any (g : Nat) (every : Int) (b : Nat) (l : List RecV) (e fr : Int) (he : in64 e) (w : World) (h : TabAt w g every b l) (hl : l.length ≤ 100000000) :
  Calls Tryz.prog 135 #[.pointer (some ⟨g, 0, none⟩), .int .i64 e, .int .i64 fr] w fun r w' => (∃ g' b', r = .returned (.pointer (some ⟨g', 0, none⟩)) ∧ TabAt w' g' (max e 1) b' (rollV every (max e 1) fr l) ∧ w.heap.size ≤ g' ∧ w.heap.size ≤ b') ∧ Below w.heap.size w w' := by
 have HNw := Lib.hid (tabnew_any e w)
 have Hwf := Lib.hid h.own.wf
 have HT := Lib.hid h
 have hem : in64 (max e 1) := by unfold in64 at *; omega
 have hem1 : 1 ≤ max e 1 := by omega
 obtain ⟨m, hm⟩ : ∃ m, max e 1 = m := ⟨_, rfl⟩
 rw [hm] at HNw hem hem1 ⊢
 unfold rollV
 obtain ⟨RV, hRV⟩ : ∃ RV, (if dividesB every m = true then addsV m [] (rollL m fr l) else []) = RV := ⟨_, rfl⟩
 rw [hRV]
 have HRV := Lib.hid hRV
 clear h hm he hRV
 go_enter Tryz.func135, Tryz.ntmps135
 go_wp2_with fail
 refine HNw.out.mono ?_
 rintro r w1 ⟨⟨g', b', rfl, ht', hg', hb'⟩, b1⟩
 have T1 := Lib.hid (HT.out.fr0 (Fr.b0 b1))
 have N1 := Lib.hid ht'
 have O1 := Lib.hid b1
 have HE : Hid (∀ W, Fr (fun _ => False) w1 W → Calls Tryz.prog 169 #[.pointer (some ⟨g, 0, none⟩)] W fun r w' => r = .returned (.int .i64 every) ∧ W = w') := fun W f => tabevery_any g every b W (T1.out.blk.fr f (fun h => h))
 have HD : Hid (∀ W, Calls Tryz.prog 164 #[.int .i64 every, .int .i64 m] W fun r w' => r = .returned (.bool (dividesB every m)) ∧ W = w') := fun W => divides_any every m W
 have HC : Hid (∀ W, Fr (fun _ => False) w1 W → W.cell? ⟨g', 0, none⟩ = some (.int .i64 m)) := fun W f => (N1.out.blk.fr f (fun h => h)).cell 0
 clear ht' b1 HNw
 cases hdv : dividesB every m
 ·rw [hdv] at HD
  go_wp2_with fail
  refine wp_region_held_drew (S := fun W => Fr (fun _ => False) w1 W) (by kernel_rfl) ((Fr.refl _ w1).drew) (fun hHeld => ?_)
  refine tq 5 [0,2,3,4,5] ?_
  iterate 4 refine sk ?_
  refine sf HC.out ?_
  try simp only [Act.put, sA, sB, sC]
  refine sz ?_
  try simp only [Act.put, sA, sB, sC]
  refine rl 1 rfl (fun K hK => ?_)
  go_simp
  go_wp2_with (first | (go_at_call 169; refine (HE.out _ hHeld).mono ?_; rintro r w5 ⟨rfl, rfl⟩))
  refine hK.out _ _ (hHeld) (fun hHeld => ?_)
  clear hK K
  try simp only [Act.put, sA, sB, sC]
  refine rl 6 rfl (fun K hK => ?_)
  go_simp
  go_wp2_with (first | (go_at_call 164; refine (HD.out _).mono ?_; rintro r w6 ⟨rfl, rfl⟩))
  refine hK.out _ _ (hHeld) (fun hHeld => ?_)
  clear hK K
  refine tl 7 ?v6 rfl ?q6 ?r6
  case q6 => intro W hSw; go_simp; try rfl
  try simp only [Act.put, sA, sB, sC]
  refine wpAnyH_done (by kernel_rfl) ?_ _
  go_wp2_with fail
  go_ret
  have hr := HRV.out
  rw [hdv, if_neg (by simp)] at hr
  rw [← hr]
  exact ⟨⟨g', b', rfl, N1.out.fr0 hHeld, hg', hb'⟩, O1.out.trans ((hHeld.below (fun _ h => h.elim)).mono O1.out.size)⟩
 ·rw [hdv] at HD
  go_wp2_with fail
  refine wp_region_held_drew (S := fun W => Fr (fun _ => False) w1 W) (by kernel_rfl) ((Fr.refl _ w1).drew) (fun hHeld => ?_)
  refine tq 5 [0,2,3,4,5] ?_
  iterate 4 refine sk ?_
  refine sf HC.out ?_
  try simp only [Act.put, sA, sB, sC]
  refine sz ?_
  try simp only [Act.put, sA, sB, sC]
  refine rl 1 rfl (fun K hK => ?_)
  go_simp
  go_wp2_with (first | (go_at_call 169; refine (HE.out _ hHeld).mono ?_; rintro r w5 ⟨rfl, rfl⟩))
  refine hK.out _ _ (hHeld) (fun hHeld => ?_)
  clear hK K
  try simp only [Act.put, sA, sB, sC]
  refine rl 6 rfl (fun K hK => ?_)
  go_simp
  go_wp2_with (first | (go_at_call 164; refine (HD.out _).mono ?_; rintro r w6 ⟨rfl, rfl⟩))
  refine hK.out _ _ (hHeld) (fun hHeld => ?_)
  clear hK K
  refine tl 7 ?v12 rfl ?q12 ?r12
  case q12 => intro W hSw; go_simp; try rfl
  try simp only [Act.put, sA, sB, sC]
  refine wpAnyH_done (by kernel_rfl) ?_ _
  have HA := Lib.hid (taball_any g every b l w1.drew (T1.out.fr0 hHeld) (by omega))
  have N2 := Lib.hid (N1.out.fr0 hHeld)
  have O2 : Hid (Below w.heap.size w w1.drew) := O1.out.trans ((hHeld.below (fun _ h => h.elim)).mono O1.out.size)
  clear hHeld HE HD HC N1 O1 T1
  go_wp2_with fail
  refine HA.out.mono ?_
  rintro r w5 ⟨⟨A, c, rfl, ho5⟩, b5⟩
  have N5 := Lib.hid (N2.out.fr0 (Fr.b0 b5))
  have O5 := Lib.hid (O2.out.trans (b5.mono O2.out.size))
  have Ho5 := Lib.hid ho5
  have hdisj : ∀ j, rowF (.slice A l.length c) j → ¬ j = b' := fun j hj e => by
   obtain ⟨cs', fz, hc⟩ := own_ty ho5 hj
   obtain ⟨es, ck, hbm⟩ := N5.out.own.isMap
   rw [e, hbm] at hc
   cases hc
  have Hdj := Lib.hid hdisj
  have hgb' := N5.out.ne
  clear ho5 b5 HA N2 O2 hdisj
  go_wp2_with fail
  go_loopw [26] (fun i wr => ∃ k : Nat, k ≤ l.length ∧ i = .int .i64 k ∧ TabAt wr g' m b' (addsV m [] (rollL m fr (l.take k))) ∧ Fr (fun j => j = b') w5 wr) (fun i _ => l.length - (intOf i).toNat)
  case atStart => exact ⟨0, Nat.zero_le _, rfl, N5.out, Fr.refl _ _⟩
  case round =>
   obtain ⟨k, hk, rfl, ht, hf⟩ := hrel
   by_cases hlt : k < l.length
   ·obtain ⟨ad, q, rfl, hq, d0, d1, d2, d3, d4, d5, d6⟩ := (own_any (own_fr Ho5.out hf Hdj.out)).2.2.1.rec_ hlt
    have hqw := Hwf.out q (mem_of_get hq)
    have Ht := Lib.hid ht
    have Hf := Lib.hid hf
    have Hq := Lib.hid hq
    have hcl := addsV_len (every := m) (rollL m fr (l.take k)) Sorted.nil
    have hrl := rollL_len m fr (l.take k)
    rw [List.length_take] at hrl
    obtain ⟨cur, hcur⟩ : ∃ cur, addsV m [] (rollL m fr (l.take k)) = cur := ⟨_, rfl⟩
    have HS1 : Hid (addsV m [] (rollL m fr (l.take (k + 1))) = if decide (fr ≤ floorV q.start m) then addV m cur ⟨q.name, floorV q.start m, q.agg⟩ else cur) := by
     show _ = _
     rw [take_snoc hq, rollL_snoc]
     cases decide (fr ≤ floorV q.start m)
     ·simp [hcur]
     ·rw [if_pos rfl, if_pos rfl, addsV_snoc, hcur]
    rw [hcur] at Ht hcl
    have hfin := floor_in (e := m) hqw.1.1 hqw.1.2
    obtain ⟨fv, hfv⟩ : ∃ fv, floorV q.start m = fv := ⟨_, rfl⟩
    have HFl : Hid (∀ W, Calls Tryz.prog 91 #[.int .i64 q.start, .int .i64 m] W fun r w' => r = .returned (.int .i64 fv) ∧ W = w') := fun W => by rw [← hfv]; exact floor_any q.start m hqw.1.1 hqw.1.2 hem.1 hem.2 W
    rw [hfv] at HS1 hfin
    have hqw2 : (⟨q.name, fv, q.agg⟩ : RecV).wf := ⟨hfin, hqw.2⟩
    have kn : 0 ≤ (k : Int) ∧ (k : Int) < (l.length : Int) := by omega
    clear ht hf hq hcur hfv hqw
    go_wp2_with fail
    obtain ⟨W1, hW1⟩ : ∃ W1, W1 = wr.alloc (.cells #[.string q.name, .int .i64 q.start, .int .i64 q.agg.count, .int .i64 q.agg.hi, .int .u64 q.agg.lo, .int .i64 q.agg.min, .int .i64 q.agg.max] 115) := ⟨_, rfl⟩
    rw [← hW1]
    have bq : Blk W1 wr.heap.size 115 #[.string q.name, .int .i64 q.start, .int .i64 q.agg.count, .int .i64 q.agg.hi, .int .u64 q.agg.lo, .int .i64 q.agg.min, .int .i64 q.agg.max] := hW1 ▸ Blk.new _ _ _
    have t1 : TabAt W1 g' m b' cur := by rw [hW1]; exact Ht.out.fr0 (Fr.none_alloc _ _)
    have f1 : Fr (fun j => j = b') w5 W1 := by rw [hW1]; exact Hf.out.trans (Fr.none_alloc _ _) (fun _ h => h.elim)
    have hwq : w5.heap.size ≤ wr.heap.size := Hf.out.size
    have x1 : W1.drew.cell? ⟨wr.heap.size, 1, none⟩ = some (.int .i64 q.start) := bq.cell 1
    have e0 : W1.drew.cell? ⟨g', 0, none⟩ = some (.int .i64 m) := t1.blk.cell 0
    have z1 := bq.frozen 1
    have Bq := Lib.hid bq
    have T1 := Lib.hid t1
    have F1 := Lib.hid f1
    clear bq t1 f1 hW1 Ht Hf d0 d1 d2 d3 d4 d5 d6
    refine wp_region_any (by kernel_rfl) ?_
    change wpAny _ _ _ _ _ _ _ (World.drew _)
    refine nl 0 ?v13 rfl ?q13 ?r13
    case q13 => intro W; go_simp; try rfl
    refine nl 2 ?v14 rfl ?q14 ?r14
    case q14 => intro W; go_simp; try rfl
    refine nl 3 ?v15 rfl ?q15 ?r15
    case q15 => intro W; go_simp; try rfl
    refine nl 4 ?v16 rfl ?q16 ?r16
    case q16 => intro W; go_simp; try rfl
    try simp only [Act.put, sA, sB, sC]
    refine wpAny_ready (rs := [1, 5]) (by kernel_rfl) (by simp) ?_
    refine AllReady.cons (dg rfl) (fun K hK => ?_) ?_
    ·go_simp
     refine hK _ _ ?_
     clear hK K
     try simp only [Act.put, sA, sB, sC]
     refine rn 5 rfl (fun K hK => ?_)
     go_simp
     refine hK _ _ ?_
     clear hK K
     try simp only [Act.put, sA, sB, sC]
     refine rn 6 rfl (fun K hK => ?_)
     go_simp
     go_wp2_with (first | (go_at_call 91; refine (HFl.out _).mono ?_; rintro r w6 ⟨rfl, rfl⟩))
     refine nl 7 ?v17 rfl ?q17 ?r17
     case q17 => intro W; go_simp; try rfl
     try simp only [Act.put, sA, sB, sC]
     refine rn 8 rfl (fun K hK => ?_)
     go_simp
     refine hK _ _ ?_
     clear hK K
     try simp only [Act.put, sA, sB, sC]
     refine wpAny_done (by kernel_rfl) ?_ _
     clear x1 e0 z1
     obtain ⟨W2, hW2⟩ : ∃ W2, W2 = (W1.setCell ⟨wr.heap.size, 1, none⟩ (.int .i64 fv)).drew := ⟨_, rfl⟩
     rw [← hW2]
     have f12 : Fr (fun j => j = wr.heap.size) W1 W2 := by rw [hW2]; exact ((Fr.refl (fun j => j = wr.heap.size) W1).setCell (p := ⟨wr.heap.size, 1, none⟩) (.inl rfl) _).drew
     have B2 : Hid (Blk W2 wr.heap.size 115 #[.string q.name, .int .i64 fv, .int .i64 q.agg.count, .int .i64 q.agg.hi, .int .u64 q.agg.lo, .int .i64 q.agg.min, .int .i64 q.agg.max]) := hW2 ▸ Bq.out.set_ 1 _
     have T2 : Hid (TabAt W2 g' m b' cur) := T1.out.fr f12 (by have := N5.out.blk.lt; omega) (by have := N5.out.own.lt; omega)
     have F2 : Hid (Fr (fun j => j = b') w5 W2) := F1.out.trans f12 (fun i hi => .inr (by rw [hi]; exact hwq))
     have x0 := B2.out.cell 0
     have x1 := B2.out.cell 1
     have x2 := B2.out.cell 2
     have x3 := B2.out.cell 3
     have x4 := B2.out.cell 4
     have x5 := B2.out.cell 5
     have x6 := B2.out.cell 6
     simp only [List.getElem?_toArray, List.getElem?_cons_succ, List.getElem?_cons_zero] at x0 x1 x2 x3 x4 x5 x6
     clear hW2 f12 Bq T1 F1
     by_cases hff : fr ≤ fv
     ·have hfd : decide (fr ≤ fv) = true := decide_eq_true hff
      have HAdd := Lib.hid (add_any g' m b' cur [⟨q.name, fv, q.agg⟩] (some ⟨W2.heap.size, 0, none⟩) 1 1 (W2.alloc (.cells #[.string q.name, .int .i64 fv, .int .i64 q.agg.count, .int .i64 q.agg.hi, .int .u64 q.agg.lo, .int .i64 q.agg.min, .int .i64 q.agg.max] 115)) (T2.out.fr0 (Fr.none_alloc _ _)) (Rd.newS rfl _ _ 1 7 rfl) (fun a ha => by rw [List.mem_singleton] at ha; rw [ha]; exact hqw2) (by simp at hcl; omega))
      go_wp2_with fail
      refine HAdd.out.mono ?_
      rintro r w7 ⟨rfl, t7, f7⟩
      have T7 := Lib.hid t7
      have F7 := Lib.hid ((F2.out.trans (Fr.none_alloc _ _) (fun _ h => h.elim)).trans f7 (fun i hi => .inl hi))
      clear t7 f7 x0 x1 x2 x3 x4 x5 x6
      go_wp2
      go_roundw
      case rel => exact ⟨k + 1, by omega, by go_num, by rw [HS1.out, hfd, if_pos rfl]; exact T7.out, F7.out⟩
      case measure => simp [intOf]; omega
     ·have hfd : decide (fr ≤ fv) = false := decide_eq_false hff
      go_wp2_with fail
      go_roundw
      case rel => exact ⟨k + 1, by omega, by go_num, by rw [HS1.out, hfd, if_neg (by simp)]; exact T2.out, F2.out⟩
      case measure => simp [intOf]; omega
    refine AllReady.cons (dg rfl) (fun K hK => ?_) ?_
    ·go_simp
     refine hK _ _ ?_
     clear hK K
     try simp only [Act.put, sA, sB, sC]
     refine rn 1 rfl (fun K hK => ?_)
     go_simp
     refine hK _ _ ?_
     clear hK K
     try simp only [Act.put, sA, sB, sC]
     refine rn 6 rfl (fun K hK => ?_)
     go_simp
     go_wp2_with (first | (go_at_call 91; refine (HFl.out _).mono ?_; rintro r w6 ⟨rfl, rfl⟩))
     refine nl 7 ?v18 rfl ?q18 ?r18
     case q18 => intro W; go_simp; try rfl
     try simp only [Act.put, sA, sB, sC]
     refine rn 8 rfl (fun K hK => ?_)
     go_simp
     refine hK _ _ ?_
     clear hK K
     try simp only [Act.put, sA, sB, sC]
     refine wpAny_done (by kernel_rfl) ?_ _
     clear x1 e0 z1
     obtain ⟨W2, hW2⟩ : ∃ W2, W2 = (W1.setCell ⟨wr.heap.size, 1, none⟩ (.int .i64 fv)).drew := ⟨_, rfl⟩
     rw [← hW2]
     have f12 : Fr (fun j => j = wr.heap.size) W1 W2 := by rw [hW2]; exact ((Fr.refl (fun j => j = wr.heap.size) W1).setCell (p := ⟨wr.heap.size, 1, none⟩) (.inl rfl) _).drew
     have B2 : Hid (Blk W2 wr.heap.size 115 #[.string q.name, .int .i64 fv, .int .i64 q.agg.count, .int .i64 q.agg.hi, .int .u64 q.agg.lo, .int .i64 q.agg.min, .int .i64 q.agg.max]) := hW2 ▸ Bq.out.set_ 1 _
     have T2 : Hid (TabAt W2 g' m b' cur) := T1.out.fr f12 (by have := N5.out.blk.lt; omega) (by have := N5.out.own.lt; omega)
     have F2 : Hid (Fr (fun j => j = b') w5 W2) := F1.out.trans f12 (fun i hi => .inr (by rw [hi]; exact hwq))
     have x0 := B2.out.cell 0
     have x1 := B2.out.cell 1
     have x2 := B2.out.cell 2
     have x3 := B2.out.cell 3
     have x4 := B2.out.cell 4
     have x5 := B2.out.cell 5
     have x6 := B2.out.cell 6
     simp only [List.getElem?_toArray, List.getElem?_cons_succ, List.getElem?_cons_zero] at x0 x1 x2 x3 x4 x5 x6
     clear hW2 f12 Bq T1 F1
     by_cases hff : fr ≤ fv
     ·have hfd : decide (fr ≤ fv) = true := decide_eq_true hff
      have HAdd := Lib.hid (add_any g' m b' cur [⟨q.name, fv, q.agg⟩] (some ⟨W2.heap.size, 0, none⟩) 1 1 (W2.alloc (.cells #[.string q.name, .int .i64 fv, .int .i64 q.agg.count, .int .i64 q.agg.hi, .int .u64 q.agg.lo, .int .i64 q.agg.min, .int .i64 q.agg.max] 115)) (T2.out.fr0 (Fr.none_alloc _ _)) (Rd.newS rfl _ _ 1 7 rfl) (fun a ha => by rw [List.mem_singleton] at ha; rw [ha]; exact hqw2) (by simp at hcl; omega))
      go_wp2_with fail
      refine HAdd.out.mono ?_
      rintro r w7 ⟨rfl, t7, f7⟩
      have T7 := Lib.hid t7
      have F7 := Lib.hid ((F2.out.trans (Fr.none_alloc _ _) (fun _ h => h.elim)).trans f7 (fun i hi => .inl hi))
      clear t7 f7 x0 x1 x2 x3 x4 x5 x6
      go_wp2
      go_roundw
      case rel => exact ⟨k + 1, by omega, by go_num, by rw [HS1.out, hfd, if_pos rfl]; exact T7.out, F7.out⟩
      case measure => simp [intOf]; omega
     ·have hfd : decide (fr ≤ fv) = false := decide_eq_false hff
      go_wp2_with fail
      go_roundw
      case rel => exact ⟨k + 1, by omega, by go_num, by rw [HS1.out, hfd, if_neg (by simp)]; exact T2.out, F2.out⟩
      case measure => simp [intOf]; omega
    exact AllReady.nil
   ·have hkl : k = l.length := by omega
    subst hkl
    rw [List.take_length] at ht
    have hr := HRV.out
    rw [hdv, if_pos rfl] at hr
    rw [hr] at ht
    have Ht := Lib.hid ht
    have Hf := Lib.hid (hf.below_of (B := w.heap.size) O5.out.size (fun i hi => by rw [hi]; exact hb'))
    clear ht hf hr
    go_wp2_with fail
    go_ret
    exact ⟨⟨g', b', rfl, Ht.out, hg', hb'⟩, O5.out.trans Hf.out⟩
end Go.Proofs.YtkfdgodngbinlaaGreatDoor
namespace Go.Proofs.YtkfdgodngbinlaaGreatDoor
set_option linter.all false
open Go.RowKit
open Go.Maps (Keyed int_keyed keyOf_int_mk)

def cntS (M : Int) (l : List RecV) (k : Nat) : Nat := (l.filter fun r => decide (shardV r.name M = (k : Int))).length
def needV (M : Int) (l : List RecV) : Nat := ((List.range M.toNat).map fun k => (cntS M l k + 2) / 3).sum
theorem cntS_snoc (M : Int) (l : List RecV) (r : RecV) (k : Nat) : cntS M (l ++ [r]) k = cntS M l k + (if shardV r.name M = (k : Int) then 1 else 0) := by
 unfold cntS
 rw [List.filter_append, List.length_append]
 congr 1
 by_cases h : shardV r.name M = (k : Int) <;> simp [h]
theorem cntS_le (M : Int) (l : List RecV) (k : Nat) : cntS M l k ≤ l.length := List.length_filter_le _ _
structure CntD (M : Int) (l : List RecV) (D : DataW Unit) : Prop where
 isMap : Maps.IsMap D
 key : ∀ z, Maps.has D z = true → ∃ j : Nat, (j : Int) < M ∧ z = .int .i64 j ∧ 0 < cntS M l j
 at_ : ∀ j : Nat, D.atKey (.int .i64 j) (.lit (.int .i64 0)) = .lit (.int .i64 (cntS M l j : Nat))
 pos : ∀ j : Nat, 0 < cntS M l j → Maps.has D (.int .i64 j) = true
theorem CntD.nil (M : Int) : CntD M [] (.map []) := ⟨Maps.isMap_empty, fun z h => (by simp [Maps.has_eq] at h), fun j => rfl, fun j h => absurd h (Nat.lt_irrefl 0)⟩
theorem CntD.step {M : Int} {l : List RecV} {D : DataW Unit} (h : CntD M l D) (r : RecV) {j : Nat} (hj : shardV r.name M = (j : Int)) (hjM : (j : Int) < M) : CntD M (l ++ [r]) (D.put (.int .i64 j) (.lit (.int .i64 ((cntS M l j : Nat) + 1)))) := by
 have hk : WideAt.IsKeyLit (.int .i64 (j : Int)) := trivial
 refine ⟨h.isMap.put _ _, fun z hz => ?_, fun i => ?_, fun i hi => ?_⟩
 ·by_cases e : z = .int .i64 (j : Int)
  ·exact ⟨j, hjM, e, by rw [cntS_snoc, if_pos hj]; omega⟩
  ·rw [Maps.has_put_other e] at hz
   obtain ⟨i, h1, h2, h3⟩ := h.key z hz
   exact ⟨i, h1, h2, by rw [cntS_snoc]; omega⟩
 ·by_cases e : i = j
  ·subst e
   rw [Maps.atKey_put_same h.isMap hk, cntS_snoc, if_pos hj]
   rfl
  ·rw [Maps.atKey_put_other (by simp; omega), h.at_ i, cntS_snoc, if_neg (by rw [hj]; omega)]
   rfl
 ·by_cases e : i = j
  ·subst e; exact Maps.has_put_same h.isMap hk _
  ·rw [Maps.has_put_other (by simp; omega)]
   rw [cntS_snoc, if_neg (by rw [hj]; omega)] at hi
   exact h.pos i hi
def partS (M : Int) (l : List RecV) (left : Lit → Bool) : Nat := ((List.range M.toNat).map fun (k : Nat) => if left (.int .i64 (k : Int)) = true then 0 else (cntS M l k + 2) / 3).sum
theorem sum_one : ∀ (n : Nat) (f g : Nat → Nat) (x d : Nat), x < n → f x = g x + d → (∀ k, k ≠ x → f k = g k) → ((List.range n).map f).sum = ((List.range n).map g).sum + d
 | 0, _, _, _, _, h, _, _ => by omega
 | n + 1, f, g, x, d, h, h1, h2 => by
  rw [List.range_succ, List.map_append, List.map_append, List.sum_append, List.sum_append]
  simp only [List.map_cons, List.map_nil, List.sum_cons, List.sum_nil]
  by_cases e : x = n
  ·subst e
   have : (List.range x).map f = (List.range x).map g := List.map_congr_left (fun k hk => h2 k (by have := List.mem_range.1 hk; omega))
   rw [this]; omega
  ·have := sum_one n f g x d (by omega) h1 h2
   rw [this, h2 n (fun h => e h.symm)]; omega
theorem sum_le : ∀ (n : Nat) (f : Nat → Nat) (c : Nat), (∀ k, f k ≤ c) → ((List.range n).map f).sum ≤ n * c
 | 0, _, _, _ => by simp
 | n + 1, f, c, h => by
  rw [List.range_succ, List.map_append, List.sum_append]
  simp only [List.map_cons, List.map_nil, List.sum_cons, List.sum_nil]
  have h1 := sum_le n f c h
  have h2 := h n
  rw [Nat.add_mul]; omega
theorem partS_le (M : Int) (hM : M ≤ 8) (l : List RecV) (left : Lit → Bool) : partS M l left ≤ 8 * (l.length + 2) := by
 unfold partS
 refine Nat.le_trans (sum_le M.toNat _ (l.length + 2) (fun k => ?_)) (Nat.mul_le_mul_right _ (show M.toNat ≤ 8 by omega))
 split
 ·omega
 ·have := cntS_le M l k; omega
theorem partS_step {M : Int} {l : List RecV} {left : Lit → Bool} {j : Nat} (hj : (j : Int) < M) (hl : left (.int .i64 (j : Int)) = true) : partS M l (fun z => left z && !z.sameKey (.int .i64 (j : Int))) = partS M l left + (cntS M l j + 2) / 3 := by
 unfold partS
 refine sum_one M.toNat _ _ j _ (by omega) ?_ (fun k hk => ?_)
 ·have hs : (Lit.int .i64 (j : Int)).sameKey (.int .i64 (j : Int)) = true := WideAt.sameKey_self trivial
  simp [hl, hs]
 ·have hs : (Lit.int .i64 (k : Int)).sameKey (.int .i64 (j : Int)) = false := Maps.sameKey_ne (by simp; omega)
  simp [hs]
theorem partS_start {M : Int} {l : List RecV} {D : DataW Unit} (h : CntD M l D) : partS M l (Maps.has D) = 0 := by
 unfold partS
 have : ((List.range M.toNat).map fun (k : Nat) => if Maps.has D (.int .i64 (k : Int)) = true then 0 else (cntS M l k + 2) / 3) = (List.range M.toNat).map fun (_ : Nat) => 0 := by
  refine List.map_congr_left (fun k _ => ?_)
  split
  ·rfl
  ·rename_i hh
   have : cntS M l k = 0 := by
    rcases Nat.eq_zero_or_pos (cntS M l k) with h0 | h0
    ·exact h0
    ·exact absurd (h.pos k h0) hh
   rw [this]
 rw [this]
 induction M.toNat with
 | zero => rfl
 | succ n ih => rw [List.range_succ, List.map_append, List.sum_append, ih]; rfl
theorem partS_end {M : Int} {l : List RecV} {left : Lit → Bool} (h : ∀ z, left z = false) : partS M l left = needV M l := by
 unfold partS needV
 congr 1
 exact List.map_congr_left (fun k _ => by rw [h]; rfl)
theorem shardV_in2 (s : ByteArray) (M : Int) (h : 1 ≤ M) : ∃ j : Nat, shardV s M = (j : Int) ∧ (j : Int) < M := by
 have h1 : 0 ≤ shardV s M ∧ shardV s M < M := by
  unfold shardV
  rw [if_neg (by omega)]
  exact ⟨Int.emod_nonneg _ (by omega), Int.emod_lt_of_pos _ (by omega)⟩
 obtain ⟨j, hj⟩ := Int.eq_ofNat_of_zero_le h1.1
 exact ⟨j, hj, by omega⟩

theorem ownsInt_fr {w w' : World} {F : Nat → Prop} {b n : Nat} {D : DataW Unit} (h : w.ownsMap Tryz.prog 3 (plainElem Tryz.prog 3) b n D) (hf : Fr F w w') (hn : ¬ F b) : w'.ownsMap Tryz.prog 3 (plainElem Tryz.prog 3) b n D := by
 have hlt := h.lt
 obtain ⟨es, clock, hb, hfit, hs, hD⟩ := h
 exact ⟨es, clock, (hf.block b hlt hn).trans hb, hfit, hs, hD⟩
theorem lawInt : Keyed Tryz.prog 3 := int_keyed Tryz.underlying3
theorem zeroInt (w : World) : (zeroValue 3).run Tryz.prog w = .ok (.int .i64 0) w := by kernel_rfl
theorem lit_inj {a b : Int} (h : (DataW.lit (.int .i64 a) : DataW Unit) = .lit (.int .i64 b)) : b = a := by
 simp at h
 exact h.symm
theorem wf_lit {x : Int} (h : in64 x) : (Lit.int .i64 x).wf = true := by
 obtain ⟨h1, h2⟩ := h
 simp [Lit.wf, IntKind.min, IntKind.max, IntKind.bits, IntKind.signed]
 omega

set_option maxRecDepth 100000 in
set_option maxHeartbeats 8000000 in
theorem tabneed_any (g : Nat) (every : Int) (b : Nat) (l : List RecV) (sh : Int) (hsh : sh ≤ 8) (w : World) (h : TabAt w g every b l) (hl : l.length ≤ 100000000) :
  Calls Tryz.prog 59 #[.pointer (some ⟨g, 0, none⟩), .int .i64 sh] w fun r w' => r = .returned (.int .i64 (needV (max sh 1) l : Nat)) ∧ Below w.heap.size w w' := by
 have Hwf := Lib.hid h.own.wf
 obtain ⟨W1, hW1⟩ : ∃ W1, W1 = w.alloc (.map #[] 0) := ⟨_, rfl⟩
 have HW1 := Lib.hid hW1
 have T1 : TabAt W1 g every b l := by rw [hW1]; exact h.fr0 (Fr.none_alloc _ _)
 have M1 : Hid (W1.ownsMap Tryz.prog 3 (plainElem Tryz.prog 3) w.heap.size 0 (.map [] : DataW Unit)) := by show World.ownsMap _ _ _ _ _ _ _; rw [hW1]; exact World.ownsMap_made _ _ _ _
 have O1 : Hid (Own w W1 (fun j => j = w.heap.size)) := by show Own _ _ _; rw [hW1]; exact ((Own.start w).skip (Fr.none_alloc _ _)).also (fun k hk => by rw [hk]; exact Nat.le_refl _)
 have HA := Lib.hid (taball_any g every b l W1 T1 (by omega))
 have hs1 : w.heap.size < W1.heap.size := M1.out.lt
 have hmm := @run_makeMap Tryz.prog
 have hM8 : max sh 1 ≤ 8 := by omega
 have hM1 : 1 ≤ max sh 1 := by omega
 obtain ⟨M, hM⟩ : ∃ M, max sh 1 = M := ⟨_, rfl⟩
 rw [hM] at hM8 hM1 ⊢
 clear h hW1 T1
 go_enter Tryz.func59, Tryz.ntmps59
 go_wp2_with fail
 rw [← HW1.out]
 refine HA.out.mono ?_
 rintro r w5 ⟨⟨A, c, rfl, ho5⟩, b5⟩
 have O5 := Lib.hid (O1.out.skip (Fr.b0 b5))
 have M5 := Lib.hid (ownsInt_fr M1.out (Fr.b0 b5) (fun h => h))
 have Ho5 := Lib.hid ho5
 have Hdj : Hid (∀ j, rowF (.slice A l.length c) j → ¬ j = w.heap.size) := fun j hj e => by have := (Ho5.out.lt j hj).1; omega
 clear ho5 b5 HA M1 O1 hs1
 go_wp2_with fail
 go_loopw [15] (fun i wr => ∃ (k : Nat) (D : DataW Unit), k ≤ l.length ∧ i = .int .i64 k ∧ wr.ownsMap Tryz.prog 3 (plainElem Tryz.prog 3) w.heap.size k D ∧ CntD M (l.take k) D ∧ Fr (fun j => j = w.heap.size) w5 wr) (fun i _ => l.length - (intOf i).toNat)
 case atStart => exact ⟨0, _, Nat.zero_le _, rfl, M5.out, CntD.nil M, Fr.refl _ _⟩
 case round =>
  obtain ⟨k, D, hk, rfl, hown, hcd, hf⟩ := hrel
  by_cases hlt : k < l.length
  ·obtain ⟨ad, q, rfl, hq, d0, d1, d2, d3, d4, d5, d6⟩ := (own_any (own_fr Ho5.out hf Hdj.out)).2.2.1.rec_ hlt
   have hqw := Hwf.out q (mem_of_get hq)
   obtain ⟨j, hj, hjM⟩ := shardV_in2 q.name M hM1
   have HSh : Hid (∀ W, Calls Tryz.prog 106 #[.string q.name, .int .i64 M] W fun r w' => r = .returned (.int .i64 j) ∧ W = w') := fun W => by rw [← hj]; exact shard_any q.name hqw.2.2 M W
   have hkey : keyOf Tryz.prog 3 (.int .i64 (j : Int)) = some (.int .i64 (j : Int)) := keyOf_int_mk Tryz.underlying3 (wf_lit (by unfold in64; omega))
   have hcl := cntS_le M (l.take k) j
   rw [List.length_take] at hcl
   have hat0 := hcd.at_ j
   obtain ⟨cn, hcn⟩ : ∃ cn, cntS M (l.take k) j = cn := ⟨_, rfl⟩
   have Hstep := Lib.hid (hcd.step q hj hjM)
   rw [hcn] at hat0 hcl Hstep
   have Hat := Lib.hid hat0
   have hw1 : IntKind.i64.wrap ((cn : Int) + 1) = (cn : Int) + 1 := by simp [IntKind.wrap, IntKind.signed, IntKind.bits]; omega
   have hwcn := Lib.hid (show (Lit.int .i64 ((cn : Int) + 1)).wf = true from wf_lit (by unfold in64; omega))
   have Hq := Lib.hid hq
   have Hj := Lib.hid hj
   have Hf := Lib.hid hf
   have kn : 0 ≤ (k : Int) ∧ (k : Int) < (l.length : Int) := by omega
   have Hown := Lib.hid hown
   clear hcd hq hj hf hqw hown hat0 hcn
   go_wp2_with (first
    | (go_at_call 106; refine (HSh.out _).mono ?_; rintro r w6 ⟨rfl, rfl⟩)
    | (at_lookup; refine wpList_lookup_own_int _ rfl _ _ 158 rfl 3 3 .i64 lawInt Tryz.underlying158 Tryz.underlying3 (zeroInt _) w.heap.size k _ rfl (Hown.out.alloc _) _ _ rfl hkey ?_; intro cv hat hwc; rw [Hat.out] at hat; obtain rfl : cv = (cn : Int) := lit_inj hat; clear hat hwc)
    | (at_mapUpdate; refine wpList_mapUpdate_own _ rfl _ _ _ 158 rfl 3 3 lawInt Tryz.underlying158 _ w.heap.size k _ rfl (Hown.out.alloc _) (by unfold maxLen; omega) _ _ _ rfl rfl hkey _ [] (plainElem_int Tryz.underlying3 (a := (cn : Int) + 1) hwcn.out) ?_; intro w7 hown7 hgrow7)
    | go_in)
   have F7 := Lib.hid ((Hf.out.trans (Fr.none_alloc _ _) (fun _ h => h.elim)).trans (fr_grown hgrow7) (fun i hi => .inl hi))
   have Hown7 := Lib.hid hown7
   clear hown7 hgrow7
   go_roundw
   case rel => exact ⟨k + 1, _, by omega, by go_num, Hown7.out, by rw [take_snoc Hq.out]; exact Hstep.out, F7.out⟩
   case measure => simp [intOf]; omega
  ·have hkl : k = l.length := by omega
   subst hkl
   rw [List.take_length] at hcd
   have Hcd := Lib.hid hcd
   have O6 := Lib.hid (O5.out.fr hf)
   clear hcd hf Ho5 Hdj O5 M5
   go_wp2_with (first
    | (at_range; refine wpList_range_own _ rfl _ 158 rfl 3 3 lawInt Tryz.underlying158 (plainElem Tryz.prog 3) w.heap.size l.length _ rfl hown ?_; intro w8 hrg8 hg8 hs8)
    | go_in)
   go_frame
   have hr0 : w.heap.size < wr.heap.size := hown.lt
   clear hown
   obtain ⟨rb, hrb⟩ : ∃ rb, wr.heap.size = rb := ⟨_, rfl⟩
   rw [hrb] at hrg8 hr0
   have hst : Hid (Below w.heap.size w w8) := (O6.out.fr ((fr_grown0 hg8).mono (fun _ h => h.elim))).bel
   rw [hrb]
   clear hrb hg8 hs8
   go_loopw [8] (fun t wq => ∃ (left : Lit → Bool) (cnt : Nat), t = .int .i64 (partS M l left : Nat) ∧ wq.ranges Tryz.prog 3 (plainElem Tryz.prog 3) w.heap.size rb l.length D left cnt ∧ (∀ z, left z = true → Maps.has D z = true) ∧ Below w.heap.size w wq) (fun _ wq => wq.rangeLeft w.heap.size rb)
   case atStart => exact ⟨_, _, by rw [partS_start Hcd.out]; rfl, hrg8, fun _ h => h, hst.out⟩
   case round =>
    obtain ⟨left, cnt, rfl, hrg, hhas, hbel⟩ := hrel
    have Hhas := Lib.hid hhas
    have Hbel := Lib.hid hbel
    have hps := partS_le M hM8 l left
    obtain ⟨pv, hpv⟩ : ∃ pv, partS M l left = pv := ⟨_, rfl⟩
    have Hpv := Lib.hid hpv
    rw [hpv] at hps ⊢
    clear hhas hbel hpv
    go_wp2_with (first
     | (at_next; refine wpList_next_ranges_ii _ rfl _ rfl 3 3 .i64 .i64 lawInt Tryz.underlying3 Tryz.underlying3 w.heap.size rb l.length _ _ _ rfl hrg ?_ ?_)
     | go_in)
    ·intro _ hl0
     rw [partS_end hl0] at Hpv
     clear hl0 hrg
     go_wp2_with fail
     go_ret
     rw [Hpv.out]
     exact ⟨rfl, Hbel.out⟩
    ·intro x cv w9 cnt9 hwx hwc hlx hat hrg9 hlt9 hg9 hs9 hen
     obtain ⟨j, hjM, hx, hpos⟩ := Hcd.out.key _ (Hhas.out _ hlx)
     obtain rfl : x = (j : Int) := by simpa using hx
     have hat1 := hat (.lit (.int .i64 0))
     rw [Hcd.out.at_ j] at hat1
     obtain rfl : cv = (cntS M l j : Nat) := lit_inj hat1
     have Hst := Lib.hid (partS_step (l := l) hjM hlx)
     rw [Hpv.out] at Hst
     have Hps2 := Lib.hid (partS_le M hM8 l (fun z => left z && !z.sameKey (.int .i64 (j : Int))))
     have hcl := cntS_le M l j
     obtain ⟨cn, hcn⟩ : ∃ cn, cntS M l j = cn := ⟨_, rfl⟩
     rw [hcn] at hen Hst hcl
     have Hrg9 := Lib.hid hrg9
     have Hb9 := Lib.hid (Hbel.out.trans (((fr_grown hg9).below_of (B := w.heap.size) Hbel.out.size (fun i hi => by rw [hi]; omega))))
     have hd : ((cn : Int) + 3 - 1).tdiv 3 = ((cn + 2) / 3 : Nat) := by rw [Int.tdiv_eq_ediv_of_nonneg (by omega)]; omega
     have hw1 : IntKind.i64.wrap ((cn : Int) + 3) = (cn : Int) + 3 := by simp [IntKind.wrap, IntKind.signed, IntKind.bits]; omega
     have hw2 : IntKind.i64.wrap ((cn : Int) + 3 - 1) = (cn : Int) + 3 - 1 := by simp [IntKind.wrap, IntKind.signed, IntKind.bits]; omega
     rw [hcn]
     clear hat hat1 hx hpos hwx hwc hcn hrg9 hg9
     go_wp2_with fail
     go_roundw
     case rel => exact ⟨_, cnt9, by rw [Hst.out]; push_cast; rfl, Hrg9.out, fun z hz => Hhas.out z (by cases hz2 : left z <;> simp [hz2] at hz ⊢), Hb9.out⟩
     case measure => rw [Hrg9.out.left_eq, hrg.left_eq]; exact hlt9
end Go.Proofs.YtkfdgodngbinlaaGreatDoor
