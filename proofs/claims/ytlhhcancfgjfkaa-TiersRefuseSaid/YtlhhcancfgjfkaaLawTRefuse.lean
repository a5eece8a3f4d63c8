/- TiersRefuse's walk: what is refused changes nothing. -/
import Derived.Test.YtlhhcancfgjfkaaAlive11
import Derived.Test.YtlhhcancfgjfkaaTioR
import Derived.Test.YtlhhcancfgjfkaaFew
import Derived.Test.YtlhhcancfgjfkaaTiersP
import Derived.Test.YtlhhcancfgjfkaaFills
namespace Go.Proofs.Ytlhhcancfgjfkaa
set_option linter.all false
open Go.RowKit

theorem vflat_take {α : Type} {f : α → List Value} {size : Nat} (hf : ∀ x, (f x).length = size) : ∀ (l : List α) (k : Nat), (l.flatMap f).take (k * size) = (l.take k).flatMap f
  | [], k => by simp
  | a :: l, 0 => by simp
  | a :: l, k + 1 => by
    have ih := vflat_take hf l k
    simp only [List.take_succ_cons, List.flatMap_cons]
    rw [show (k + 1) * size = (f a).length + k * size by rw [hf, Nat.succ_mul, Nat.add_comm], List.take_length_add_append, ih]
theorem vflat_drop {α : Type} {f : α → List Value} {size : Nat} (hf : ∀ x, (f x).length = size) : ∀ (l : List α) (k : Nat), (l.flatMap f).drop (k * size) = (l.drop k).flatMap f
  | [], k => by simp
  | a :: l, 0 => by simp
  | a :: l, k + 1 => by
    have ih := vflat_drop hf l k
    simp only [List.drop_succ_cons, List.flatMap_cons]
    rw [show (k + 1) * size = (f a).length + k * size by rw [hf, Nat.succ_mul, Nat.add_comm], List.drop_length_add_append, ih]
theorem tref_iff {X : TiersX} {L : List SampV} (h : 1 ≤ L.length ∧ L.length ≤ 8) : putE X L = 0 ↔ (L.all fun x => decide (takesV X.now X.tiers X.floors x = 0)) = true := by
  rw [List.all_eq_true]
  unfold putE
  rw [if_neg (by omega), if_neg (by omega)]
  constructor
  · intro hz x hx
    unfold firstE at hz
    split at hz
    · rename_i z hf
      have := List.find?_some hf
      simp only [decide_eq_true_eq] at this
      exact absurd hz this
    · rename_i hf
      have := List.find?_eq_none.1 hf x hx
      simpa using this
  · intro hz
    exact firstE_zero (fun s hs => by simpa using hz s hs)
def trefS : List SampV := [⟨{ data := #[107] }, 450, 1⟩]
theorem tref_new : newE webN webT 500 [] = 0 := by decide +kernel
theorem tref_ck : checkB webN webT = true := by decide +kernel
theorem tref_put : putE (newX webN webT 500 []) trefS = 0 := by decide +kernel
def trefZ : List SampV := [⟨ByteArray.empty, 0, 0⟩, ⟨ByteArray.empty, 0, 0⟩, ⟨ByteArray.empty, 0, 0⟩, ⟨ByteArray.empty, 0, 0⟩, ⟨ByteArray.empty, 0, 0⟩, ⟨ByteArray.empty, 0, 0⟩, ⟨ByteArray.empty, 0, 0⟩, ⟨ByteArray.empty, 0, 0⟩, ⟨ByteArray.empty, 0, 0⟩]
def trefC : Array Value := (scells trefZ).toArray
theorem tref_mk (w : World) : (Instr.makeSlice 22 (.int .i64 9) (.int .i64 9)).run Try.prog w = .ok (.slice (some ⟨w.heap.size, 0, none⟩) 9 9) (w.alloc (.cells trefC 37)) := by kernel_rfl
theorem tref_zwf : ∀ s ∈ trefZ, s.wf := by
  intro s hs
  have : s = ⟨ByteArray.empty, 0, 0⟩ := by
    simp only [trefZ, List.mem_cons, List.not_mem_nil, or_false] at hs
    rcases hs with h | h | h | h | h | h | h | h | h <;> exact h
  subst this
  unfold SampV.wf in64 maxLen
  decide
theorem tref_swf : ∀ s ∈ trefS, s.wf := by
  intro s hs
  simp only [trefS, List.mem_cons, List.not_mem_nil, or_false] at hs
  subst hs
  unfold SampV.wf in64 maxLen
  decide

set_option maxRecDepth 100000 in
set_option maxHeartbeats 3000000 in
theorem trefuse_walk (ls : List SampV) (A : Option Addr) (n c : Nat) (y : SampV) (at_ nn : Int) (w : World) (hr : Rd w 3 A n (scells ls)) (hnc : n ≤ c) (hn9 : n ≤ 9223372036854775807) (hc9 : c ≤ 9223372036854775807) (hw : ∀ x ∈ ls, x.wf) (hy : y.wf) (hat : -9223372036854775808 ≤ at_ ∧ at_ ≤ 9223372036854775807) (hnn : -9223372036854775808 ≤ nn ∧ nn ≤ 9223372036854775807) :
    Calls Try.prog 6 #[.slice A n c, .agg #[.string y.name, .int .i64 y.time, .int .i64 y.value], .int .i64 at_, .int .i64 nn] w fun e w' => e = .returned (.bool true) ∧ Below w.heap.size w w' := by
  have HAl := Lib.hid alive11_any
  have HSo : Hid (∀ W, Fr (fun _ => False) w W → Calls Try.prog 10 #[.int .i64 7, .slice A n c] W fun r w' => FewR 7 n r ∧ W = w') := fun W f => some_any 7 (by omega) ls (fun y h => (hw y h).2.2) A n c W (hr.fr0 f) hn9
  have HW := Lib.hid web_any
  have HN : Hid (∀ W A c, w.heap.size ≤ W.heap.size → 2 ≤ c → Rd W 4 A 2 (tcells webT) → Calls Try.prog 12 #[.agg #[.string webN, .slice A 2 c], .int .i64 500, .slice none 0 0] W fun r w' => (∃ t F, r = .returned (.tuple #[.pointer (some ⟨t, 0, none⟩), .int .i64 0]) ∧ Tio webN webT [] w.heap.size w' t (newX webN webT 500 []) F 0 ∧ ∀ j, F j → W.heap.size ≤ j) ∧ Below W.heap.size W w') := fun W A c hs hc h => (tio_new (by decide) a11_web A 2 c 500 (by omega) w.heap.size W hs h hc (by omega)).mono fun r w' ⟨⟨h1, _⟩, hb⟩ => ⟨(h1 tref_new).2, hb⟩
  have P : Hid (PolOk webN webT) := ⟨tref_ck, a11_web⟩
  have Hr := Lib.hid hr
  have hmk := tref_mk
  have Hw := Lib.hid hw
  have Hy := Lib.hid hy
  have Hln := Lib.hid hr.samps_len
  obtain ⟨i0, hi, hz0, hz1, hz2⟩ := info_parts info_samp
  unfold polV at HW
  clear hr hw hy
  go_enter Try.func6, Try.ntmps6
  go_wp2_with fail
  obtain ⟨W0, hW0⟩ : ∃ W0, W0 = w.alloc (.cells #[.string y.name, .int .i64 y.time, .int .i64 y.value] 37) := ⟨_, rfl⟩
  rw [← hW0]
  have F0 : Hid (Fr (fun _ => False) w W0) := hW0 ▸ Fr.none_alloc _ _
  have B0 : Hid (Blk W0 w.heap.size 37 #[.string y.name, .int .i64 y.time, .int .i64 y.value]) := hW0 ▸ Blk.new _ _ _
  clear hW0
  refine (HSo.out _ F0.out).mono ?_
  rintro r w1 ⟨⟨b, rfl, hb⟩, rfl⟩
  cases b with
  | false =>
    clear hb
    go_wp2_with fail
    refine (HAl.out _).mono ?_
    rintro r wq ⟨rfl, bq⟩
    go_wp2_with fail
    go_ret
    exact ⟨rfl, (F0.out.trans (Fr.b0 bq) (fun _ h => h.elim)).below (fun _ h => h.elim)⟩
  | true =>
  have h7 : n ≤ 7 := hb rfl
  clear hb HSo
  have p0 := B0.out.cell 0
  simp only [List.getElem?_toArray, List.getElem?_cons_succ, List.getElem?_cons_zero] at p0
  by_cases c0 : 60 < y.name.size
  · have c00 : decide ((60 : Int) < (y.name.size : Int)) = true := decide_eq_true (by omega)
    go_wp2_with fail
    refine (HAl.out _).mono ?_
    rintro r wq ⟨rfl, bq⟩
    go_wp2_with fail
    go_ret
    exact ⟨rfl, (F0.out.trans (Fr.b0 bq) (fun _ h => h.elim)).below (fun _ h => h.elim)⟩
  have c00 : decide ((60 : Int) < (y.name.size : Int)) = false := decide_eq_false (by omega)
  by_cases c1 : at_ < 0
  · have c10 : decide (at_ < 0) = true := decide_eq_true (by omega)
    go_wp2_with fail
    refine (HAl.out _).mono ?_
    rintro r wq ⟨rfl, bq⟩
    go_wp2_with fail
    go_ret
    exact ⟨rfl, (F0.out.trans (Fr.b0 bq) (fun _ h => h.elim)).below (fun _ h => h.elim)⟩
  have c10 : decide (at_ < 0) = false := decide_eq_false (by omega)
  obtain ⟨k, rfl⟩ := Int.eq_ofNat_of_zero_le (show 0 ≤ at_ by omega)
  by_cases c2 : n < k
  · have c20 : decide ((n : Int) < (k : Int)) = true := decide_eq_true (by omega)
    have c21 : decide (n < k) = true := decide_eq_true (by omega)
    go_wp2_with fail
    refine (HAl.out _).mono ?_
    rintro r wq ⟨rfl, bq⟩
    go_wp2_with fail
    go_ret
    exact ⟨rfl, (F0.out.trans (Fr.b0 bq) (fun _ h => h.elim)).below (fun _ h => h.elim)⟩
  have c20 : decide ((n : Int) < (k : Int)) = false := decide_eq_false (by omega)
  have c21 : decide (n < k) = false := decide_eq_false (by omega)
  have hkn : k ≤ n := by omega
  go_wp2_with fail
  clear p0
  refine (HW.out _).mono ?_
  rintro r w1 ⟨⟨A1, d1, rfl, hd1, r1⟩, b1⟩
  have F1 : Hid (Fr (fun _ => False) w w1) := F0.out.trans (Fr.b0 b1) (fun _ h => h.elim)
  have B1 := Lib.hid (B0.out.fr (Fr.b0 b1) (fun h => h))
  have R1 := Lib.hid r1
  clear b1 r1 B0 F0
  go_wp2_with fail
  refine (HN.out _ _ _ F1.out.size hd1 R1.out).mono ?_
  rintro r w2 ⟨⟨t, F, rfl, T2, hF⟩, b2⟩
  have F2 : Hid (Fr (fun _ => False) w w2) := F1.out.trans (Fr.b0 b2) (fun _ h => h.elim)
  have B2 := Lib.hid (B1.out.fr (Fr.b0 b2) (fun h => h))
  have HFl : Hid (∀ j, F j → w.heap.size < j) := fun j hj => Nat.lt_of_lt_of_le B1.out.lt (hF j hj)
  have HT2 := Lib.hid T2
  clear b2 T2 hF R1 HN B1 F1 HW
  go_wp2_with fail
  obtain ⟨W2, hW2⟩ : ∃ W2, W2 = w2.alloc (.cells #[.string { data := #[107] }, .int .i64 450, .int .i64 1] 37) := ⟨_, rfl⟩
  rw [← hW2]
  have F22 : Hid (Fr (fun _ => False) w2 W2) := hW2 ▸ Fr.none_alloc _ _
  have rk : Rd W2 3 (some ⟨w2.heap.size, 0, none⟩) 1 (scells trefS) := by rw [hW2]; exact Rd.newS rfl _ _ 1 3 rfl
  have HP2 := Lib.hid (tio_put P.out (HT2.out.fr0 F22.out) (by omega) trefS (some ⟨w2.heap.size, 0, none⟩) 1 1 rk tref_swf)
  rw [tref_put] at HP2
  have G2 : Hid (Fr F w W2) := (F2.out.trans F22.out (fun _ h => h.elim)).mono (fun _ h => h.elim)
  have B22 := Lib.hid (B2.out.fr F22.out (fun h => h))
  clear hW2 rk F22 HT2 B2
  refine HP2.out.mono ?_
  rintro r w3 ⟨rfl, T3, f3⟩
  have G3 : Hid (Fr F w w3) := G2.out.trans f3 (fun _ h => .inl h)
  have B3 := Lib.hid (B22.out.fr f3 (fun h => absurd (HFl.out _ h) (Nat.lt_irrefl _)))
  have HT3 := Lib.hid T3
  obtain ⟨X1, hX1⟩ : ∃ v, putX (newX webN webT 500 []) trefS = v := ⟨_, rfl⟩
  have HX1n : Hid (X1.now = 500) := by show _ = _; rw [← hX1]; decide +kernel
  rw [hX1] at HT3
  clear T3 f3 HP2 hX1 G2 B22
  go_wp2_with fail
  have HCp := Lib.hid (tio_copy P.out HT3.out (by simp) w.heap.size G3.out.size)
  refine HCp.out.mono ?_
  rintro r W3 ⟨⟨u, FU, rfl, U3, hU⟩, b3⟩
  have G4 : Hid (Fr F w W3) := G3.out.trans (Fr.b0 b3) (fun _ h => h.elim)
  have B4 := Lib.hid (B3.out.fr (Fr.b0 b3) (fun h => h))
  have HT4 := Lib.hid (HT3.out.fr0 (Fr.b0 b3))
  have HU4 := Lib.hid U3
  have HD : Hid (∀ j, F j → ¬ FU j) := fun j hj hj2 => by
    have h1 := (HT3.out.ge j hj).2
    have h2 := hU j hj2
    omega
  clear b3 U3 hU HCp G3 B3 HT3 F2
  have OW : Hid (Below w.heap.size w W3) := G4.out.below_of (Nat.le_refl _) (fun j hj => Nat.le_of_lt (HFl.out j hj))
  have RA := Lib.hid (Hr.out.below OW.out)
  have RT : Hid (Rd W3 3 A k (scells (ls.take k))) := by
    have h := RA.out.take hkn
    have e : (scells ls).take (k * 3) = scells (ls.take k) := vflat_take samp_len ls k
    rw [e] at h
    exact h
  have HL : Hid (∀ W A7 c7 m, k + 1 + m = n + 1 → W.ownsRow W3.heap.size 37 3 (.slice A7 (k + 1 + m) c7) (k + 1 + m) (scells (ls.take k) ++ [.string y.name, .int .i64 y.time, .int .i64 y.value] ++ scells (ls.drop k)) → Rd W 3 A7 (n + 1) (scells (ls.take k ++ y :: ls.drop k)) ∧ ∀ j, adF A7 (n + 1) j → W3.heap.size ≤ j) := fun W A7 c7 m hm ho => by
    have h := (own_any ho).2.2.1
    have e : scells (ls.take k) ++ [.string y.name, .int .i64 y.time, .int .i64 y.value] ++ scells (ls.drop k) = scells (ls.take k ++ y :: ls.drop k) := by
      unfold scells
      rw [List.flatMap_append, List.flatMap_cons, List.append_assoc]
      rfl
    rw [e, hm] at h
    have h2 := (own_any ho).2.2.2
    rw [hm] at h2
    exact ⟨h, h2⟩
  have HC4 : Hid (∀ W, Fr (fun _ => False) W3 W → W.cell? ⟨w.heap.size, 0, none⟩ = some (.string y.name) ∧ W.cell? ⟨w.heap.size, 1, none⟩ = some (.int .i64 y.time) ∧ W.cell? ⟨w.heap.size, 2, none⟩ = some (.int .i64 y.value)) := fun W f => ⟨(B4.out.fr f (fun h => h)).cell 0, (B4.out.fr f (fun h => h)).cell 1, (B4.out.fr f (fun h => h)).cell 2⟩
  have RDD : Hid (Rd W3 3 (if c = k then A else A.map (·.add (k * 3))) (n - k) (scells (ls.drop k))) := by
    have h := RA.out.cut hkn hnc
    have e : (scells ls).drop (k * 3) = scells (ls.drop k) := vflat_drop samp_len ls k
    rw [e] at h
    exact h
  have hkI : 0 ≤ (k : Int) ∧ (k : Int) ≤ (n : Int) ∧ (k : Int) ≤ (c : Int) := by omega
  go_wp2_with fail
  go_cut [12] (fun s12 wx => ∃ (A7 : Option Addr) (c7 : Nat), s12 = .slice A7 (n + 1) c7 ∧ (Rd wx 3 A7 (n + 1) (scells (ls.take k ++ y :: ls.drop k)) ∧ ∀ j, adF A7 (n + 1) j → W3.heap.size ≤ j) ∧ Fr (fun _ => False) W3 wx)
  case first =>
    by_cases hck : c = k
    case pos =>
      obtain rfl : k = c := hck.symm
      have RD : Hid (Rd W3 3 A 0 (scells (ls.drop k))) := by
        have h := RDD.out
        rw [if_pos rfl, show n - k = 0 by omega] at h
        exact h
      clear RDD
      refine wp_region_held_drew (S := fun W => Fr (fun _ => False) W3 W) (by kernel_rfl) ((Fr.refl _ W3).drew) (fun hHeld => ?_)
      refine wpAnyH_take (i := 0) (oi := { dst := some 58, op := Op.move (Operand.tmp 0), type := 22, pos := "law.go:177", after := #[], guard := none }) (v := ?vq1) rfl (by kernel_rfl) (by kernel_rfl) (by kernel_rfl) (fun _ _ _ h => h) (Or.inl ⟨by rfl, ?hq1⟩) (by assumption) ?rq1
      case hq1 => intro W hSw; (try obtain ⟨y0, y1, y2⟩ := HC4.out W hSw); go_simp; (try with_reducible rfl)
      try simp only [Act.put, List.setIfInBounds_toArray, List.set_cons_zero, List.set_cons_succ]
      refine wpAnyH_take (i := 1) (oi := { dst := some 59, op := Op.move (Operand.tmp 2), type := 3, pos := "law.go:177", after := #[], guard := none }) (v := ?vq2) rfl (by kernel_rfl) (by kernel_rfl) (by kernel_rfl) (fun _ _ _ h => h) (Or.inl ⟨by rfl, ?hq2⟩) (by assumption) ?rq2
      case hq2 => intro W hSw; (try obtain ⟨y0, y1, y2⟩ := HC4.out W hSw); go_simp; (try with_reducible rfl)
      try simp only [Act.put, List.setIfInBounds_toArray, List.set_cons_zero, List.set_cons_succ]
      refine wpAnyH_take (i := 2) (oi := { dst := some 60, op := Op.slice 22 (Operand.tmp 58) none (some (Operand.tmp 59)) none, type := 22, pos := "law.go:177", after := #[{ on := 0, ground := Ground.data }, { on := 1, ground := Ground.data }], guard := none }) (v := ?vq3) rfl (by kernel_rfl) (by kernel_rfl) (by kernel_rfl) (fun _ _ _ h => h) (Or.inl ⟨by rfl, ?hq3⟩) (by assumption) ?rq3
      case hq3 => intro W hSw; (try obtain ⟨y0, y1, y2⟩ := HC4.out W hSw); go_simp; (try with_reducible rfl)
      try simp only [Act.put, List.setIfInBounds_toArray, List.set_cons_zero, List.set_cons_succ]
      refine wpAnyH_take (i := 4) (oi := { dst := some 62, op := Op.load 37 (Operand.tmp 5), type := 37, pos := "law.go:177", after := #[], guard := none }) (v := ?vq4) rfl (by kernel_rfl) (by kernel_rfl) (by kernel_rfl) (fun _ _ _ h => h) (Or.inl ⟨by rfl, ?hq4⟩) (by assumption) ?rq4
      case hq4 => intro W hSw; (try obtain ⟨y0, y1, y2⟩ := HC4.out W hSw); go_simp; (try with_reducible rfl)
      try simp only [Act.put, List.setIfInBounds_toArray, List.set_cons_zero, List.set_cons_succ]
      refine wpAnyH_take (i := 7) (oi := { dst := some 65, op := Op.move (Operand.tmp 0), type := 22, pos := "law.go:177", after := #[], guard := none }) (v := ?vq5) rfl (by kernel_rfl) (by kernel_rfl) (by kernel_rfl) (fun _ _ _ h => h) (Or.inl ⟨by rfl, ?hq5⟩) (by assumption) ?rq5
      case hq5 => intro W hSw; (try obtain ⟨y0, y1, y2⟩ := HC4.out W hSw); go_simp; (try with_reducible rfl)
      try simp only [Act.put, List.setIfInBounds_toArray, List.set_cons_zero, List.set_cons_succ]
      refine wpAnyH_take (i := 8) (oi := { dst := some 66, op := Op.move (Operand.tmp 2), type := 3, pos := "law.go:177", after := #[], guard := none }) (v := ?vq6) rfl (by kernel_rfl) (by kernel_rfl) (by kernel_rfl) (fun _ _ _ h => h) (Or.inl ⟨by rfl, ?hq6⟩) (by assumption) ?rq6
      case hq6 => intro W hSw; (try obtain ⟨y0, y1, y2⟩ := HC4.out W hSw); go_simp; (try with_reducible rfl)
      try simp only [Act.put, List.setIfInBounds_toArray, List.set_cons_zero, List.set_cons_succ]
      refine wpAnyH_take (i := 9) (oi := { dst := some 67, op := Op.slice 22 (Operand.tmp 65) (some (Operand.tmp 66)) none none, type := 22, pos := "law.go:177", after := #[{ on := 7, ground := Ground.data }, { on := 8, ground := Ground.data }], guard := none }) (v := ?vq7) rfl (by kernel_rfl) (by kernel_rfl) (by kernel_rfl) (fun _ _ _ h => h) (Or.inl ⟨by rfl, ?hq7⟩) (by assumption) ?rq7
      case hq7 => intro W hSw; (try obtain ⟨y0, y1, y2⟩ := HC4.out W hSw); go_simp; (try with_reducible rfl)
      try simp only [Act.put, List.setIfInBounds_toArray, List.set_cons_zero, List.set_cons_succ]
      refine wpAnyH_ready (rs := [3, 5]) (by kernel_rfl) (by simp) ?_
      refine AllReadyH.cons (o := { dst := some 61, op := Op.call { callee := Callee.builtin Builtin.append, args := #[Operand.const (Value.slice none 0 0), Operand.tmp 60], argTypes := #[22, 22] }, type := 22, pos := "law.go:177", after := #[{ on := 2, ground := Ground.data }], guard := none }) rfl (fun K hK => ?_) ?_
      · rw [if_pos (by rfl)]
        refine op_app3 _ _ 22 rfl 37 i0 _ 3 32 Try.underlying22 hi hz0 hz1 hz2 rfl (by decide) (.slice none 0 0) 0 [] rfl W3.heap.size hHeld.size (World.ownsRow_nil _ _ _ _) _ _ _ (scells (ls.take k)) rfl (RT.out.fr0 hHeld) (scells_one _) (by unfold maxLen; omega) (by omega) (fun A5 c5 w5 ho5 hm5 _ => ?_)
        simp only [Nat.zero_add, List.nil_append] at ho5
        try simp only [Nat.zero_add]
        have ho5 := Lib.hid ho5
        refine hK.out _ _ (hHeld.trans hm5.fr (fun i hi => by cases hi)) (fun hHeld => ?_)
        clear hK K
        try simp only [Act.put, List.setIfInBounds_toArray, List.set_cons_zero, List.set_cons_succ]
        refine wpAnyH_ready (rs := [5]) (by kernel_rfl) (by simp) ?_
        refine AllReadyH.cons (o := { dst := some 63, op := Op.buildSlice 22 1 #[(0, Operand.tmp 62)], type := 22, pos := "law.go:177", after := #[{ on := 4, ground := Ground.data }], guard := none }) rfl (fun K hK => ?_) AllReadyH.nil
        go_simp
        have rb := Lib.hid (Rd.newS (w := w5) (k := w5.heap.size) rfl [.string y.name, .int .i64 y.time, .int .i64 y.value] 37 1 3 rfl)
        have ho5 := Lib.hid (own_fr0 ho5.out (Fr.none_alloc w5 (.cells #[.string y.name, .int .i64 y.time, .int .i64 y.value] 37)))
        refine hK.out _ _ (hHeld.trans (Fr.none_alloc _ _) (fun _ h => h.elim)) (fun hHeld => ?_)
        clear hK K
        try simp only [Act.put, List.setIfInBounds_toArray, List.set_cons_zero, List.set_cons_succ]
        refine wpAnyH_ready (rs := [6]) (by kernel_rfl) (by simp) ?_
        refine AllReadyH.cons (o := { dst := some 64, op := Op.call { callee := Callee.builtin Builtin.append, args := #[Operand.tmp 61, Operand.tmp 63], argTypes := #[22, 22] }, type := 22, pos := "law.go:177", after := #[{ on := 3, ground := Ground.data }, { on := 5, ground := Ground.data }, { on := 3, ground := Ground.chain }], guard := none }) rfl (fun K hK => ?_) AllReadyH.nil
        rw [if_pos (by rfl)]
        refine op_app3 _ _ 22 rfl 37 i0 _ 3 32 Try.underlying22 hi hz0 hz1 hz2 rfl (by decide) (.slice A5 k c5) k (scells (ls.take k)) rfl W3.heap.size hHeld.size ho5.out (some ⟨w5.heap.size, 0, none⟩) 1 1 [.string y.name, .int .i64 y.time, .int .i64 y.value] rfl rb.out (by intro u hu; simp at hu; rcases hu with rfl | rfl | rfl <;> rfl) (by unfold maxLen; omega) (by omega) (fun A6 c6 w6 ho6 hm6 _ => ?_)
        have ho6 := Lib.hid ho6
        refine hK.out _ _ (hHeld.trans hm6.fr (fun i hi => .inr (ho5.out.lt i hi).1)) (fun hHeld => ?_)
        clear hK K
        try simp only [Act.put, List.setIfInBounds_toArray, List.set_cons_zero, List.set_cons_succ]
        refine wpAnyH_ready (rs := [10]) (by kernel_rfl) (by simp) ?_
        refine AllReadyH.cons (o := { dst := some 68, op := Op.call { callee := Callee.builtin Builtin.append, args := #[Operand.tmp 64, Operand.tmp 67], argTypes := #[22, 22] }, type := 22, pos := "law.go:177", after := #[{ on := 6, ground := Ground.data }, { on := 9, ground := Ground.data }, { on := 6, ground := Ground.chain }], guard := none }) rfl (fun K hK => ?_) AllReadyH.nil
        rw [if_pos (by rfl)]
        refine op_app3 _ _ 22 rfl 37 i0 _ 3 32 Try.underlying22 hi hz0 hz1 hz2 rfl (by decide) (.slice A6 (k + 1) c6) (k + 1) (scells (ls.take k) ++ [.string y.name, .int .i64 y.time, .int .i64 y.value]) rfl W3.heap.size hHeld.size ho6.out _ _ _ (scells (ls.drop k)) rfl (RD.out.fr0 hHeld) (scells_one _) (by unfold maxLen; omega) (by omega) (fun A7 c7 w7 ho7 hm7 _ => ?_)
        have ho7 := Lib.hid ho7
        refine hK.out _ _ (hHeld.trans hm7.fr (fun i hi => .inr (ho6.out.lt i hi).1)) (fun hHeld => ?_)
        clear hK K
        try simp only [Act.put, List.setIfInBounds_toArray, List.set_cons_zero, List.set_cons_succ]
        refine wpAnyH_take (i := 11) (oi := { dst := some 12, op := Op.assign (Operand.tmp 68), type := 22, pos := "law.go:177", after := #[{ on := 10, ground := Ground.data }, { on := 10, ground := Ground.chain }, { on := 0, ground := Ground.phase }, { on := 1, ground := Ground.phase }, { on := 2, ground := Ground.phase }, { on := 3, ground := Ground.phase }, { on := 4, ground := Ground.phase }, { on := 5, ground := Ground.phase }, { on := 6, ground := Ground.phase }, { on := 7, ground := Ground.phase }, { on := 8, ground := Ground.phase }, { on := 9, ground := Ground.phase }, { on := 10, ground := Ground.phase }], guard := none }) (v := ?vq8) rfl (by kernel_rfl) (by kernel_rfl) (by kernel_rfl) (fun _ _ _ h => h) (Or.inl ⟨by rfl, ?hq8⟩) (by assumption) ?rq8
        case hq8 => intro W hSw; (try obtain ⟨y0, y1, y2⟩ := HC4.out W hSw); go_simp; (try with_reducible rfl)
        try simp only [Act.put, List.setIfInBounds_toArray, List.set_cons_zero, List.set_cons_succ]
        refine wpAnyH_done (by kernel_rfl) ?_ _
        go_wp2_with fail
        go_meet
        exact ⟨A7, c7, by congr 1; omega, HL.out _ _ _ _ (by omega) ho7.out, hHeld⟩
      refine AllReadyH.cons (o := { dst := some 63, op := Op.buildSlice 22 1 #[(0, Operand.tmp 62)], type := 22, pos := "law.go:177", after := #[{ on := 4, ground := Ground.data }], guard := none }) rfl (fun K hK => ?_) AllReadyH.nil
      go_simp
      have rbz := Lib.hid (Rd.newS (w := W3) (k := W3.heap.size) rfl [.string y.name, .int .i64 y.time, .int .i64 y.value] 37 1 3 rfl).drew
      refine hK.out _ _ (by first | exact ((Fr.refl _ W3).alloc _).drew | exact hHeld.alloc _) (fun hHeld => ?_)
      clear hK K
      try simp only [Act.put, List.setIfInBounds_toArray, List.set_cons_zero, List.set_cons_succ]
      refine wpAnyH_ready (rs := [3]) (by kernel_rfl) (by simp) ?_
      refine AllReadyH.cons (o := { dst := some 61, op := Op.call { callee := Callee.builtin Builtin.append, args := #[Operand.const (Value.slice none 0 0), Operand.tmp 60], argTypes := #[22, 22] }, type := 22, pos := "law.go:177", after := #[{ on := 2, ground := Ground.data }], guard := none }) rfl (fun K hK => ?_) AllReadyH.nil
      rw [if_pos (by rfl)]
      refine op_app3 _ _ 22 rfl 37 i0 _ 3 32 Try.underlying22 hi hz0 hz1 hz2 rfl (by decide) (.slice none 0 0) 0 [] rfl W3.heap.size hHeld.size (World.ownsRow_nil _ _ _ _) _ _ _ (scells (ls.take k)) rfl (RT.out.fr0 hHeld) (scells_one _) (by unfold maxLen; omega) (by omega) (fun A5 c5 w5 ho5 hm5 _ => ?_)
      simp only [Nat.zero_add, List.nil_append] at ho5
      try simp only [Nat.zero_add]
      have ho5 := Lib.hid ho5
      have rb := Lib.hid (rbz.out.fr hm5.fr (fun _ _ h => by cases h))
      have hHb := hHeld
      refine hK.out _ _ (hHeld.trans hm5.fr (fun i hi => by cases hi)) (fun hHeld => ?_)
      clear hK K
      try simp only [Act.put, List.setIfInBounds_toArray, List.set_cons_zero, List.set_cons_succ]
      refine wpAnyH_ready (rs := [6]) (by kernel_rfl) (by simp) ?_
      refine AllReadyH.cons (o := { dst := some 64, op := Op.call { callee := Callee.builtin Builtin.append, args := #[Operand.tmp 61, Operand.tmp 63], argTypes := #[22, 22] }, type := 22, pos := "law.go:177", after := #[{ on := 3, ground := Ground.data }, { on := 5, ground := Ground.data }, { on := 3, ground := Ground.chain }], guard := none }) rfl (fun K hK => ?_) AllReadyH.nil
      rw [if_pos (by rfl)]
      refine op_app3 _ _ 22 rfl 37 i0 _ 3 32 Try.underlying22 hi hz0 hz1 hz2 rfl (by decide) (.slice A5 k c5) k (scells (ls.take k)) rfl W3.heap.size hHeld.size ho5.out (some ⟨W3.heap.size, 0, none⟩) 1 1 [.string y.name, .int .i64 y.time, .int .i64 y.value] rfl rb.out (by intro u hu; simp at hu; rcases hu with rfl | rfl | rfl <;> rfl) (by unfold maxLen; omega) (by omega) (fun A6 c6 w6 ho6 hm6 _ => ?_)
      have ho6 := Lib.hid ho6
      refine hK.out _ _ (hHeld.trans hm6.fr (fun i hi => .inr (ho5.out.lt i hi).1)) (fun hHeld => ?_)
      clear hK K
      try simp only [Act.put, List.setIfInBounds_toArray, List.set_cons_zero, List.set_cons_succ]
      refine wpAnyH_ready (rs := [10]) (by kernel_rfl) (by simp) ?_
      refine AllReadyH.cons (o := { dst := some 68, op := Op.call { callee := Callee.builtin Builtin.append, args := #[Operand.tmp 64, Operand.tmp 67], argTypes := #[22, 22] }, type := 22, pos := "law.go:177", after := #[{ on := 6, ground := Ground.data }, { on := 9, ground := Ground.data }, { on := 6, ground := Ground.chain }], guard := none }) rfl (fun K hK => ?_) AllReadyH.nil
      rw [if_pos (by rfl)]
      refine op_app3 _ _ 22 rfl 37 i0 _ 3 32 Try.underlying22 hi hz0 hz1 hz2 rfl (by decide) (.slice A6 (k + 1) c6) (k + 1) (scells (ls.take k) ++ [.string y.name, .int .i64 y.time, .int .i64 y.value]) rfl W3.heap.size hHeld.size ho6.out _ _ _ (scells (ls.drop k)) rfl (RD.out.fr0 hHeld) (scells_one _) (by unfold maxLen; omega) (by omega) (fun A7 c7 w7 ho7 hm7 _ => ?_)
      have ho7 := Lib.hid ho7
      refine hK.out _ _ (hHeld.trans hm7.fr (fun i hi => .inr (ho6.out.lt i hi).1)) (fun hHeld => ?_)
      clear hK K
      try simp only [Act.put, List.setIfInBounds_toArray, List.set_cons_zero, List.set_cons_succ]
      refine wpAnyH_take (i := 11) (oi := { dst := some 12, op := Op.assign (Operand.tmp 68), type := 22, pos := "law.go:177", after := #[{ on := 10, ground := Ground.data }, { on := 10, ground := Ground.chain }, { on := 0, ground := Ground.phase }, { on := 1, ground := Ground.phase }, { on := 2, ground := Ground.phase }, { on := 3, ground := Ground.phase }, { on := 4, ground := Ground.phase }, { on := 5, ground := Ground.phase }, { on := 6, ground := Ground.phase }, { on := 7, ground := Ground.phase }, { on := 8, ground := Ground.phase }, { on := 9, ground := Ground.phase }, { on := 10, ground := Ground.phase }], guard := none }) (v := ?vq9) rfl (by kernel_rfl) (by kernel_rfl) (by kernel_rfl) (fun _ _ _ h => h) (Or.inl ⟨by rfl, ?hq9⟩) (by assumption) ?rq9
      case hq9 => intro W hSw; (try obtain ⟨y0, y1, y2⟩ := HC4.out W hSw); go_simp; (try with_reducible rfl)
      try simp only [Act.put, List.setIfInBounds_toArray, List.set_cons_zero, List.set_cons_succ]
      refine wpAnyH_done (by kernel_rfl) ?_ _
      go_wp2_with fail
      go_meet
      exact ⟨A7, c7, by congr 1; omega, HL.out _ _ _ _ (by omega) ho7.out, hHeld⟩
    case neg =>
      have RD : Hid (Rd W3 3 (A.map (·.add (k * 3))) (n - k) (scells (ls.drop k))) := by
        have h := RDD.out
        rw [if_neg hck] at h
        exact h
      clear RDD
      refine wp_region_held_drew (S := fun W => Fr (fun _ => False) W3 W) (by kernel_rfl) ((Fr.refl _ W3).drew) (fun hHeld => ?_)
      refine wpAnyH_take (i := 0) (oi := { dst := some 58, op := Op.move (Operand.tmp 0), type := 22, pos := "law.go:177", after := #[], guard := none }) (v := ?vq10) rfl (by kernel_rfl) (by kernel_rfl) (by kernel_rfl) (fun _ _ _ h => h) (Or.inl ⟨by rfl, ?hq10⟩) (by assumption) ?rq10
      case hq10 => intro W hSw; (try obtain ⟨y0, y1, y2⟩ := HC4.out W hSw); go_simp; (try with_reducible rfl)
      try simp only [Act.put, List.setIfInBounds_toArray, List.set_cons_zero, List.set_cons_succ]
      refine wpAnyH_take (i := 1) (oi := { dst := some 59, op := Op.move (Operand.tmp 2), type := 3, pos := "law.go:177", after := #[], guard := none }) (v := ?vq11) rfl (by kernel_rfl) (by kernel_rfl) (by kernel_rfl) (fun _ _ _ h => h) (Or.inl ⟨by rfl, ?hq11⟩) (by assumption) ?rq11
      case hq11 => intro W hSw; (try obtain ⟨y0, y1, y2⟩ := HC4.out W hSw); go_simp; (try with_reducible rfl)
      try simp only [Act.put, List.setIfInBounds_toArray, List.set_cons_zero, List.set_cons_succ]
      refine wpAnyH_take (i := 2) (oi := { dst := some 60, op := Op.slice 22 (Operand.tmp 58) none (some (Operand.tmp 59)) none, type := 22, pos := "law.go:177", after := #[{ on := 0, ground := Ground.data }, { on := 1, ground := Ground.data }], guard := none }) (v := ?vq12) rfl (by kernel_rfl) (by kernel_rfl) (by kernel_rfl) (fun _ _ _ h => h) (Or.inl ⟨by rfl, ?hq12⟩) (by assumption) ?rq12
      case hq12 => intro W hSw; (try obtain ⟨y0, y1, y2⟩ := HC4.out W hSw); go_simp; (try with_reducible rfl)
      try simp only [Act.put, List.setIfInBounds_toArray, List.set_cons_zero, List.set_cons_succ]
      refine wpAnyH_take (i := 4) (oi := { dst := some 62, op := Op.load 37 (Operand.tmp 5), type := 37, pos := "law.go:177", after := #[], guard := none }) (v := ?vq13) rfl (by kernel_rfl) (by kernel_rfl) (by kernel_rfl) (fun _ _ _ h => h) (Or.inl ⟨by rfl, ?hq13⟩) (by assumption) ?rq13
      case hq13 => intro W hSw; (try obtain ⟨y0, y1, y2⟩ := HC4.out W hSw); go_simp; (try with_reducible rfl)
      try simp only [Act.put, List.setIfInBounds_toArray, List.set_cons_zero, List.set_cons_succ]
      refine wpAnyH_take (i := 7) (oi := { dst := some 65, op := Op.move (Operand.tmp 0), type := 22, pos := "law.go:177", after := #[], guard := none }) (v := ?vq14) rfl (by kernel_rfl) (by kernel_rfl) (by kernel_rfl) (fun _ _ _ h => h) (Or.inl ⟨by rfl, ?hq14⟩) (by assumption) ?rq14
      case hq14 => intro W hSw; (try obtain ⟨y0, y1, y2⟩ := HC4.out W hSw); go_simp; (try with_reducible rfl)
      try simp only [Act.put, List.setIfInBounds_toArray, List.set_cons_zero, List.set_cons_succ]
      refine wpAnyH_take (i := 8) (oi := { dst := some 66, op := Op.move (Operand.tmp 2), type := 3, pos := "law.go:177", after := #[], guard := none }) (v := ?vq15) rfl (by kernel_rfl) (by kernel_rfl) (by kernel_rfl) (fun _ _ _ h => h) (Or.inl ⟨by rfl, ?hq15⟩) (by assumption) ?rq15
      case hq15 => intro W hSw; (try obtain ⟨y0, y1, y2⟩ := HC4.out W hSw); go_simp; (try with_reducible rfl)
      try simp only [Act.put, List.setIfInBounds_toArray, List.set_cons_zero, List.set_cons_succ]
      refine wpAnyH_take (i := 9) (oi := { dst := some 67, op := Op.slice 22 (Operand.tmp 65) (some (Operand.tmp 66)) none none, type := 22, pos := "law.go:177", after := #[{ on := 7, ground := Ground.data }, { on := 8, ground := Ground.data }], guard := none }) (v := ?vq16) rfl (by kernel_rfl) (by kernel_rfl) (by kernel_rfl) (fun _ _ _ h => h) (Or.inl ⟨by rfl, ?hq16⟩) (by assumption) ?rq16
      case hq16 => intro W hSw; (try obtain ⟨y0, y1, y2⟩ := HC4.out W hSw); go_simp; (try with_reducible rfl)
      try simp only [Act.put, List.setIfInBounds_toArray, List.set_cons_zero, List.set_cons_succ]
      refine wpAnyH_ready (rs := [3, 5]) (by kernel_rfl) (by simp) ?_
      refine AllReadyH.cons (o := { dst := some 61, op := Op.call { callee := Callee.builtin Builtin.append, args := #[Operand.const (Value.slice none 0 0), Operand.tmp 60], argTypes := #[22, 22] }, type := 22, pos := "law.go:177", after := #[{ on := 2, ground := Ground.data }], guard := none }) rfl (fun K hK => ?_) ?_
      · rw [if_pos (by rfl)]
        refine op_app3 _ _ 22 rfl 37 i0 _ 3 32 Try.underlying22 hi hz0 hz1 hz2 rfl (by decide) (.slice none 0 0) 0 [] rfl W3.heap.size hHeld.size (World.ownsRow_nil _ _ _ _) _ _ _ (scells (ls.take k)) rfl (RT.out.fr0 hHeld) (scells_one _) (by unfold maxLen; omega) (by omega) (fun A5 c5 w5 ho5 hm5 _ => ?_)
        simp only [Nat.zero_add, List.nil_append] at ho5
        try simp only [Nat.zero_add]
        have ho5 := Lib.hid ho5
        refine hK.out _ _ (hHeld.trans hm5.fr (fun i hi => by cases hi)) (fun hHeld => ?_)
        clear hK K
        try simp only [Act.put, List.setIfInBounds_toArray, List.set_cons_zero, List.set_cons_succ]
        refine wpAnyH_ready (rs := [5]) (by kernel_rfl) (by simp) ?_
        refine AllReadyH.cons (o := { dst := some 63, op := Op.buildSlice 22 1 #[(0, Operand.tmp 62)], type := 22, pos := "law.go:177", after := #[{ on := 4, ground := Ground.data }], guard := none }) rfl (fun K hK => ?_) AllReadyH.nil
        go_simp
        have rb := Lib.hid (Rd.newS (w := w5) (k := w5.heap.size) rfl [.string y.name, .int .i64 y.time, .int .i64 y.value] 37 1 3 rfl)
        have ho5 := Lib.hid (own_fr0 ho5.out (Fr.none_alloc w5 (.cells #[.string y.name, .int .i64 y.time, .int .i64 y.value] 37)))
        refine hK.out _ _ (hHeld.trans (Fr.none_alloc _ _) (fun _ h => h.elim)) (fun hHeld => ?_)
        clear hK K
        try simp only [Act.put, List.setIfInBounds_toArray, List.set_cons_zero, List.set_cons_succ]
        refine wpAnyH_ready (rs := [6]) (by kernel_rfl) (by simp) ?_
        refine AllReadyH.cons (o := { dst := some 64, op := Op.call { callee := Callee.builtin Builtin.append, args := #[Operand.tmp 61, Operand.tmp 63], argTypes := #[22, 22] }, type := 22, pos := "law.go:177", after := #[{ on := 3, ground := Ground.data }, { on := 5, ground := Ground.data }, { on := 3, ground := Ground.chain }], guard := none }) rfl (fun K hK => ?_) AllReadyH.nil
        rw [if_pos (by rfl)]
        refine op_app3 _ _ 22 rfl 37 i0 _ 3 32 Try.underlying22 hi hz0 hz1 hz2 rfl (by decide) (.slice A5 k c5) k (scells (ls.take k)) rfl W3.heap.size hHeld.size ho5.out (some ⟨w5.heap.size, 0, none⟩) 1 1 [.string y.name, .int .i64 y.time, .int .i64 y.value] rfl rb.out (by intro u hu; simp at hu; rcases hu with rfl | rfl | rfl <;> rfl) (by unfold maxLen; omega) (by omega) (fun A6 c6 w6 ho6 hm6 _ => ?_)
        have ho6 := Lib.hid ho6
        refine hK.out _ _ (hHeld.trans hm6.fr (fun i hi => .inr (ho5.out.lt i hi).1)) (fun hHeld => ?_)
        clear hK K
        try simp only [Act.put, List.setIfInBounds_toArray, List.set_cons_zero, List.set_cons_succ]
        refine wpAnyH_ready (rs := [10]) (by kernel_rfl) (by simp) ?_
        refine AllReadyH.cons (o := { dst := some 68, op := Op.call { callee := Callee.builtin Builtin.append, args := #[Operand.tmp 64, Operand.tmp 67], argTypes := #[22, 22] }, type := 22, pos := "law.go:177", after := #[{ on := 6, ground := Ground.data }, { on := 9, ground := Ground.data }, { on := 6, ground := Ground.chain }], guard := none }) rfl (fun K hK => ?_) AllReadyH.nil
        rw [if_pos (by rfl)]
        refine op_app3 _ _ 22 rfl 37 i0 _ 3 32 Try.underlying22 hi hz0 hz1 hz2 rfl (by decide) (.slice A6 (k + 1) c6) (k + 1) (scells (ls.take k) ++ [.string y.name, .int .i64 y.time, .int .i64 y.value]) rfl W3.heap.size hHeld.size ho6.out _ _ _ (scells (ls.drop k)) rfl (RD.out.fr0 hHeld) (scells_one _) (by unfold maxLen; omega) (by omega) (fun A7 c7 w7 ho7 hm7 _ => ?_)
        have ho7 := Lib.hid ho7
        refine hK.out _ _ (hHeld.trans hm7.fr (fun i hi => .inr (ho6.out.lt i hi).1)) (fun hHeld => ?_)
        clear hK K
        try simp only [Act.put, List.setIfInBounds_toArray, List.set_cons_zero, List.set_cons_succ]
        refine wpAnyH_take (i := 11) (oi := { dst := some 12, op := Op.assign (Operand.tmp 68), type := 22, pos := "law.go:177", after := #[{ on := 10, ground := Ground.data }, { on := 10, ground := Ground.chain }, { on := 0, ground := Ground.phase }, { on := 1, ground := Ground.phase }, { on := 2, ground := Ground.phase }, { on := 3, ground := Ground.phase }, { on := 4, ground := Ground.phase }, { on := 5, ground := Ground.phase }, { on := 6, ground := Ground.phase }, { on := 7, ground := Ground.phase }, { on := 8, ground := Ground.phase }, { on := 9, ground := Ground.phase }, { on := 10, ground := Ground.phase }], guard := none }) (v := ?vq17) rfl (by kernel_rfl) (by kernel_rfl) (by kernel_rfl) (fun _ _ _ h => h) (Or.inl ⟨by rfl, ?hq17⟩) (by assumption) ?rq17
        case hq17 => intro W hSw; (try obtain ⟨y0, y1, y2⟩ := HC4.out W hSw); go_simp; (try with_reducible rfl)
        try simp only [Act.put, List.setIfInBounds_toArray, List.set_cons_zero, List.set_cons_succ]
        refine wpAnyH_done (by kernel_rfl) ?_ _
        go_wp2_with fail
        go_meet
        exact ⟨A7, c7, by congr 1; omega, HL.out _ _ _ _ (by omega) ho7.out, hHeld⟩
      refine AllReadyH.cons (o := { dst := some 63, op := Op.buildSlice 22 1 #[(0, Operand.tmp 62)], type := 22, pos := "law.go:177", after := #[{ on := 4, ground := Ground.data }], guard := none }) rfl (fun K hK => ?_) AllReadyH.nil
      go_simp
      have rbz := Lib.hid (Rd.newS (w := W3) (k := W3.heap.size) rfl [.string y.name, .int .i64 y.time, .int .i64 y.value] 37 1 3 rfl).drew
      refine hK.out _ _ (by first | exact ((Fr.refl _ W3).alloc _).drew | exact hHeld.alloc _) (fun hHeld => ?_)
      clear hK K
      try simp only [Act.put, List.setIfInBounds_toArray, List.set_cons_zero, List.set_cons_succ]
      refine wpAnyH_ready (rs := [3]) (by kernel_rfl) (by simp) ?_
      refine AllReadyH.cons (o := { dst := some 61, op := Op.call { callee := Callee.builtin Builtin.append, args := #[Operand.const (Value.slice none 0 0), Operand.tmp 60], argTypes := #[22, 22] }, type := 22, pos := "law.go:177", after := #[{ on := 2, ground := Ground.data }], guard := none }) rfl (fun K hK => ?_) AllReadyH.nil
      rw [if_pos (by rfl)]
      refine op_app3 _ _ 22 rfl 37 i0 _ 3 32 Try.underlying22 hi hz0 hz1 hz2 rfl (by decide) (.slice none 0 0) 0 [] rfl W3.heap.size hHeld.size (World.ownsRow_nil _ _ _ _) _ _ _ (scells (ls.take k)) rfl (RT.out.fr0 hHeld) (scells_one _) (by unfold maxLen; omega) (by omega) (fun A5 c5 w5 ho5 hm5 _ => ?_)
      simp only [Nat.zero_add, List.nil_append] at ho5
      try simp only [Nat.zero_add]
      have ho5 := Lib.hid ho5
      have rb := Lib.hid (rbz.out.fr hm5.fr (fun _ _ h => by cases h))
      have hHb := hHeld
      refine hK.out _ _ (hHeld.trans hm5.fr (fun i hi => by cases hi)) (fun hHeld => ?_)
      clear hK K
      try simp only [Act.put, List.setIfInBounds_toArray, List.set_cons_zero, List.set_cons_succ]
      refine wpAnyH_ready (rs := [6]) (by kernel_rfl) (by simp) ?_
      refine AllReadyH.cons (o := { dst := some 64, op := Op.call { callee := Callee.builtin Builtin.append, args := #[Operand.tmp 61, Operand.tmp 63], argTypes := #[22, 22] }, type := 22, pos := "law.go:177", after := #[{ on := 3, ground := Ground.data }, { on := 5, ground := Ground.data }, { on := 3, ground := Ground.chain }], guard := none }) rfl (fun K hK => ?_) AllReadyH.nil
      rw [if_pos (by rfl)]
      refine op_app3 _ _ 22 rfl 37 i0 _ 3 32 Try.underlying22 hi hz0 hz1 hz2 rfl (by decide) (.slice A5 k c5) k (scells (ls.take k)) rfl W3.heap.size hHeld.size ho5.out (some ⟨W3.heap.size, 0, none⟩) 1 1 [.string y.name, .int .i64 y.time, .int .i64 y.value] rfl rb.out (by intro u hu; simp at hu; rcases hu with rfl | rfl | rfl <;> rfl) (by unfold maxLen; omega) (by omega) (fun A6 c6 w6 ho6 hm6 _ => ?_)
      have ho6 := Lib.hid ho6
      refine hK.out _ _ (hHeld.trans hm6.fr (fun i hi => .inr (ho5.out.lt i hi).1)) (fun hHeld => ?_)
      clear hK K
      try simp only [Act.put, List.setIfInBounds_toArray, List.set_cons_zero, List.set_cons_succ]
      refine wpAnyH_ready (rs := [10]) (by kernel_rfl) (by simp) ?_
      refine AllReadyH.cons (o := { dst := some 68, op := Op.call { callee := Callee.builtin Builtin.append, args := #[Operand.tmp 64, Operand.tmp 67], argTypes := #[22, 22] }, type := 22, pos := "law.go:177", after := #[{ on := 6, ground := Ground.data }, { on := 9, ground := Ground.data }, { on := 6, ground := Ground.chain }], guard := none }) rfl (fun K hK => ?_) AllReadyH.nil
      rw [if_pos (by rfl)]
      refine op_app3 _ _ 22 rfl 37 i0 _ 3 32 Try.underlying22 hi hz0 hz1 hz2 rfl (by decide) (.slice A6 (k + 1) c6) (k + 1) (scells (ls.take k) ++ [.string y.name, .int .i64 y.time, .int .i64 y.value]) rfl W3.heap.size hHeld.size ho6.out _ _ _ (scells (ls.drop k)) rfl (RD.out.fr0 hHeld) (scells_one _) (by unfold maxLen; omega) (by omega) (fun A7 c7 w7 ho7 hm7 _ => ?_)
      have ho7 := Lib.hid ho7
      refine hK.out _ _ (hHeld.trans hm7.fr (fun i hi => .inr (ho6.out.lt i hi).1)) (fun hHeld => ?_)
      clear hK K
      try simp only [Act.put, List.setIfInBounds_toArray, List.set_cons_zero, List.set_cons_succ]
      refine wpAnyH_take (i := 11) (oi := { dst := some 12, op := Op.assign (Operand.tmp 68), type := 22, pos := "law.go:177", after := #[{ on := 10, ground := Ground.data }, { on := 10, ground := Ground.chain }, { on := 0, ground := Ground.phase }, { on := 1, ground := Ground.phase }, { on := 2, ground := Ground.phase }, { on := 3, ground := Ground.phase }, { on := 4, ground := Ground.phase }, { on := 5, ground := Ground.phase }, { on := 6, ground := Ground.phase }, { on := 7, ground := Ground.phase }, { on := 8, ground := Ground.phase }, { on := 9, ground := Ground.phase }, { on := 10, ground := Ground.phase }], guard := none }) (v := ?vq18) rfl (by kernel_rfl) (by kernel_rfl) (by kernel_rfl) (fun _ _ _ h => h) (Or.inl ⟨by rfl, ?hq18⟩) (by assumption) ?rq18
      case hq18 => intro W hSw; (try obtain ⟨y0, y1, y2⟩ := HC4.out W hSw); go_simp; (try with_reducible rfl)
      try simp only [Act.put, List.setIfInBounds_toArray, List.set_cons_zero, List.set_cons_succ]
      refine wpAnyH_done (by kernel_rfl) ?_ _
      go_wp2_with fail
      go_meet
      exact ⟨A7, c7, by congr 1; omega, HL.out _ _ _ _ (by omega) ho7.out, hHeld⟩
  case rest =>
    obtain ⟨A7, c7, rfl, ⟨r7, hl7⟩, f7⟩ := hcut
    have G7 := Lib.hid (G4.out.trans f7 (fun _ h => h.elim))
    have HT7 := Lib.hid (HT4.out.fr0 f7)
    have HU7 := Lib.hid (HU4.out.fr0 f7)
    have HA7 : Hid (∀ j, adF A7 (n + 1) j → ¬ F j) := fun j hj hf => by
      have h1 := (HT4.out.ge j hf).2
      have h2 := hl7 j hj
      omega
    have HLm : Hid ((ls.take k ++ y :: ls.drop k).length = n + 1) := by
      show _ = _
      rw [List.length_append, List.length_cons, List.length_take, List.length_drop, Hln.out]
      omega
    have HLw : Hid (∀ x ∈ ls.take k ++ y :: ls.drop k, x.wf) := fun x hx => by
      rcases List.mem_append.1 hx with hx | hx
      · exact Hw.out x (List.mem_of_mem_take hx)
      · rcases List.mem_cons.1 hx with rfl | hx
        · exact Hy.out
        · exact Hw.out x (List.mem_of_mem_drop hx)
    have R7 := Lib.hid r7
    obtain ⟨L, hL⟩ : ∃ L, ls.take k ++ y :: ls.drop k = L := ⟨_, rfl⟩
    obtain ⟨N, hN⟩ : ∃ N, n + 1 = N := ⟨_, rfl⟩
    rw [hL, hN] at R7 HLm
    rw [hN]
    rw [hL] at HLw
    rw [hN] at HA7
    have hNI : (n : Int) + 1 = (N : Int) := by omega
    have hN8 : 1 ≤ N ∧ N ≤ 8 := by omega
    have HP := Lib.hid (tio_put P.out HT7.out (by omega) L A7 N c7 R7.out HLw.out)
    have hEq : Hid (putE X1 L = 0 ↔ (L.all fun x => decide (takesV X1.now X1.tiers X1.floors x = 0)) = true) := tref_iff (by rw [HLm.out]; exact hN8)
    have hX2 : (putX X1 L).now = 500 ∧ (putX X1 L).tiers = X1.tiers ∧ (putX X1 L).floors = X1.floors ∧ (putE X1 L ≠ 0 → putX X1 L = X1) := by
      unfold putX
      split
      · exact ⟨HX1n.out, rfl, rfl, fun h => absurd ‹_› h⟩
      · exact ⟨HX1n.out, rfl, rfl, fun _ => rfl⟩
    clear r7 hl7 f7 hL hN RA RT RDD HL HC4 B4 G4 HT4 HU4 OW hkn hkI
    obtain ⟨X2, hX2e⟩ : ∃ v, putX X1 L = v := ⟨_, rfl⟩
    obtain ⟨E, hE0⟩ : ∃ v, putE X1 L = v := ⟨_, rfl⟩
    rw [hX2e, hE0] at HP hX2
    rw [hE0] at hEq
    clear hX2e hE0
    try simp only [hNI]
    go_wp2_with fail
    refine HP.out.mono ?_
    rintro r w8 ⟨rfl, T8, f8⟩
    have HT8 := Lib.hid T8
    have HU8 := Lib.hid (HU7.out.apart HT7.out f8 (fun _ h => h) (fun j h1 h2 => HD.out j h2 h1))
    have R8 := Lib.hid (R7.out.fr f8 HA7.out)
    have G8 : Hid (Fr F w w8) := G7.out.trans f8 (fun _ h => .inl h)
    clear T8 f8 HP HT7 HU7 R7 G7 HA7
    obtain ⟨tA, tc, tB, td, hR⟩ := HT8.out.reach
    rw [hX2.1] at hR
    have HTk : Hid (∀ W, Fr (fun _ => False) w8 W → ∀ x ∈ L, Calls Try.prog 26 #[.agg #[.int .i64 500, .string webN, .slice tA 2 tc, .slice tB 0 td], .agg #[.string x.name, .int .i64 x.time, .int .i64 x.value]] W fun r w' => r = .returned (.int .i64 (takesV 500 webT [] x)) ∧ Below W.heap.size W w') := fun W f x hx => by
      have h := hR.fr0 f
      exact takes_any 500 (by unfold i64; omega) webN webT tA 2 tc [] tB 0 td x (HLw.out x hx).2.2 W h.rt h.rf a11_web (by omega)
    have HRc : Hid (∀ W, Fr (fun _ => False) w8 W → W.cell? ⟨t, 0, none⟩ = some (.int .i64 500) ∧ W.cell? ⟨t, 1, none⟩ = some (.string webN) ∧ W.cell? ⟨t, 2, none⟩ = some (.slice tA 2 tc) ∧ W.cell? ⟨t, 3, none⟩ = some (.slice tB 0 td)) := fun W f => by
      have h := hR.fr0 f
      exact ⟨h.c0, h.c1, h.c2, h.c3⟩
    have hX1t : X1.tiers = webT := by rw [← hX2.2.1]; exact HT8.out.good.tiers
    have hX1f : X1.floors = [] := by rw [← hX2.2.2.1]; exact HT8.out.good.floors
    rw [HX1n.out, hX1t, hX1f] at hEq
    obtain ⟨tk, htk⟩ : ∃ f : SampV → Int, takesV 500 webT [] = f := ⟨_, rfl⟩
    rw [htk] at HTk hEq
    have HX2 := Lib.hid hX2
    clear hX1t hX1f htk hR hX2
    have Z8 : Hid (Fr (fun _ => False) w8 w8) := Fr.refl _ _
    go_wp2_with fail
    go_loopw [14, 15] (fun g i wr => ∃ q : Nat, q ≤ N ∧ g = .bool ((L.take q).all fun x => decide (tk x = 0)) ∧ i = .int .i64 q ∧ Fr (fun _ => False) w8 wr) (fun _ i _ => N - (intOf i).toNat)
    case atStart => exact ⟨0, Nat.zero_le _, rfl, rfl, Z8.out⟩
    case round =>
      obtain ⟨q, hq, rfl, rfl, fq⟩ := hrel
      have Fq := Lib.hid fq
      clear fq
      by_cases hlq : q < N
      · obtain ⟨ad, x, rfl, hx, d0, d1, d2⟩ := (R8.out.fr0 Fq.out).samp_ hlq
        have hqw : IntKind.i64.wrap ((q : Int) + 1) = (q : Int) + 1 := by simp [IntKind.wrap, IntKind.signed, IntKind.bits]; omega
        have hqn : 0 ≤ (q : Int) ∧ (q : Int) < (N : Int) := by omega
        have HSn : Hid (((L.take (q + 1)).all fun x => decide (tk x = 0)) = (((L.take q).all fun x => decide (tk x = 0)) && decide (tk x = 0))) := by
          show _ = _
          rw [take_snoc hx, List.all_append]
          simp
        obtain ⟨gq, hgq⟩ : ∃ g, ((L.take q).all fun x => decide (tk x = 0)) = g := ⟨_, rfl⟩
        rw [hgq] at HSn ⊢
        have HTx := Lib.hid (fun W f => HTk.out W f x (mem_of_get hx))
        obtain ⟨tx, htx⟩ : ∃ v, tk x = v := ⟨_, rfl⟩
        rw [htx] at HSn HTx
        have HCq : Hid (∀ W, Fr (fun _ => False) wr W → W.cell? ⟨t, 0, none⟩ = some (.int .i64 500) ∧ W.cell? ⟨t, 1, none⟩ = some (.string webN) ∧ W.cell? ⟨t, 2, none⟩ = some (.slice tA 2 tc) ∧ W.cell? ⟨t, 3, none⟩ = some (.slice tB 0 td) ∧ W.cell? (ad.add (q * 3)) = some (.string x.name) ∧ W.cell? ⟨(ad.add (q * 3)).block, (ad.add (q * 3)).off + 1, none⟩ = some (.int .i64 x.time) ∧ W.cell? ⟨(ad.add (q * 3)).block, (ad.add (q * 3)).off + 2, none⟩ = some (.int .i64 x.value)) := fun W f => by
          obtain ⟨k0, k1, k2, k3⟩ := HRc.out W (Fq.out.trans f (fun _ h => h.elim))
          exact ⟨k0, k1, k2, k3, f.cell d0 (fun h => h), f.cell d1 (fun h => h), f.cell d2 (fun h => h)⟩
        have HTq : Hid (∀ W, Fr (fun _ => False) wr W → Calls Try.prog 26 #[.agg #[.int .i64 500, .string webN, .slice tA 2 tc, .slice tB 0 td], .agg #[.string x.name, .int .i64 x.time, .int .i64 x.value]] W fun r w' => r = .returned (.int .i64 tx) ∧ Below W.heap.size W w') := fun W f => HTx.out W (Fq.out.trans f (fun _ h => h.elim))
        obtain ⟨xn, hxn⟩ : ∃ v, x.name = v := ⟨_, rfl⟩
        obtain ⟨xt, hxt⟩ : ∃ v, x.time = v := ⟨_, rfl⟩
        obtain ⟨xv, hxv⟩ : ∃ v, x.value = v := ⟨_, rfl⟩
        rw [hxn, hxt, hxv] at HCq HTq
        clear hgq htx hx d0 d1 d2 HTx hxn hxt hxv
        cases gq with
        | false =>
          go_wp2_with fail
          refine wp_region_held_drew (S := fun W => Fr (fun _ => False) wr W) (by kernel_rfl) ((Fr.refl _ wr).drew) (fun hHeld => ?_)
          refine wpAnyH_take (i := 0) (oi := { dst := some 78, op := Op.move (Operand.tmp 14), type := 4, pos := "law.go:181", after := #[], guard := none }) (v := ?vq19) rfl (by kernel_rfl) (by kernel_rfl) (by kernel_rfl) (fun _ _ _ h => h) (Or.inl ⟨by rfl, ?hq19⟩) (by assumption) ?rq19
          case hq19 => intro W hSw; (try obtain ⟨t0, t1, t2, t3, y0, y1, y2⟩ := HCq.out W hSw); go_simp; (try with_reducible rfl)
          try simp only [Act.put, List.setIfInBounds_toArray, List.set_cons_zero, List.set_cons_succ]
          refine wpAnyH_take (i := 1) (oi := { dst := some 79, op := Op.move (Operand.tmp 78), type := 4, pos := "law.go:181", after := #[{ on := 0, ground := Ground.data }], guard := none }) (v := ?vq20) rfl (by kernel_rfl) (by kernel_rfl) (by kernel_rfl) (fun _ _ _ h => h) (Or.inl ⟨by rfl, ?hq20⟩) (by assumption) ?rq20
          case hq20 => intro W hSw; (try obtain ⟨t0, t1, t2, t3, y0, y1, y2⟩ := HCq.out W hSw); go_simp; (try with_reducible rfl)
          try simp only [Act.put, List.setIfInBounds_toArray, List.set_cons_zero, List.set_cons_succ]
          refine wpAnyH_take (i := 2) (oi := { dst := some 80, op := Op.move (Operand.tmp 9), type := 25, pos := "law.go:181", after := #[{ on := 1, ground := Ground.guard }], guard := some (1, true) }) (v := undef) rfl (by kernel_rfl) (by kernel_rfl) (by kernel_rfl) (fun _ _ _ h => h) (Or.inr ⟨by rfl, rfl⟩) (by assumption) ?_
          try simp only [Act.put, List.setIfInBounds_toArray, List.set_cons_zero, List.set_cons_succ]
          refine wpAnyH_take (i := 3) (oi := { dst := some 81, op := Op.nilCheck (Operand.tmp 80), type := 0, pos := "law.go:181", after := #[{ on := 2, ground := Ground.data }, { on := 1, ground := Ground.guard }], guard := some (1, true) }) (v := undef) rfl (by kernel_rfl) (by kernel_rfl) (by kernel_rfl) (fun _ _ _ h => h) (Or.inr ⟨by rfl, rfl⟩) (by assumption) ?_
          try simp only [Act.put, List.setIfInBounds_toArray, List.set_cons_zero, List.set_cons_succ]
          refine wpAnyH_take (i := 4) (oi := { dst := some 82, op := Op.fieldAddr 61 (Operand.tmp 81) 0, type := 0, pos := "law.go:181", after := #[{ on := 3, ground := Ground.data }, { on := 1, ground := Ground.guard }], guard := some (1, true) }) (v := undef) rfl (by kernel_rfl) (by kernel_rfl) (by kernel_rfl) (fun _ _ _ h => h) (Or.inr ⟨by rfl, rfl⟩) (by assumption) ?_
          try simp only [Act.put, List.setIfInBounds_toArray, List.set_cons_zero, List.set_cons_succ]
          refine wpAnyH_take (i := 5) (oi := { dst := some 83, op := Op.load 58 (Operand.tmp 82), type := 58, pos := "law.go:181", after := #[{ on := 4, ground := Ground.data }, { on := 1, ground := Ground.guard }], guard := some (1, true) }) (v := undef) rfl (by kernel_rfl) (by kernel_rfl) (by kernel_rfl) (fun _ _ _ h => h) (Or.inr ⟨by rfl, rfl⟩) (by assumption) ?_
          try simp only [Act.put, List.setIfInBounds_toArray, List.set_cons_zero, List.set_cons_succ]
          refine wpAnyH_take (i := 6) (oi := { dst := some 84, op := Op.move (Operand.tmp 12), type := 22, pos := "law.go:181", after := #[{ on := 1, ground := Ground.guard }], guard := some (1, true) }) (v := undef) rfl (by kernel_rfl) (by kernel_rfl) (by kernel_rfl) (fun _ _ _ h => h) (Or.inr ⟨by rfl, rfl⟩) (by assumption) ?_
          try simp only [Act.put, List.setIfInBounds_toArray, List.set_cons_zero, List.set_cons_succ]
          refine wpAnyH_take (i := 7) (oi := { dst := some 85, op := Op.move (Operand.tmp 15), type := 3, pos := "law.go:181", after := #[{ on := 1, ground := Ground.guard }], guard := some (1, true) }) (v := undef) rfl (by kernel_rfl) (by kernel_rfl) (by kernel_rfl) (fun _ _ _ h => h) (Or.inr ⟨by rfl, rfl⟩) (by assumption) ?_
          try simp only [Act.put, List.setIfInBounds_toArray, List.set_cons_zero, List.set_cons_succ]
          refine wpAnyH_take (i := 8) (oi := { dst := some 86, op := Op.indexAddr 22 (Operand.tmp 84) (Operand.tmp 85), type := 0, pos := "law.go:181", after := #[{ on := 6, ground := Ground.data }, { on := 7, ground := Ground.data }, { on := 1, ground := Ground.guard }], guard := some (1, true) }) (v := undef) rfl (by kernel_rfl) (by kernel_rfl) (by kernel_rfl) (fun _ _ _ h => h) (Or.inr ⟨by rfl, rfl⟩) (by assumption) ?_
          try simp only [Act.put, List.setIfInBounds_toArray, List.set_cons_zero, List.set_cons_succ]
          refine wpAnyH_take (i := 9) (oi := { dst := some 87, op := Op.load 37 (Operand.tmp 86), type := 37, pos := "law.go:181", after := #[{ on := 8, ground := Ground.data }, { on := 1, ground := Ground.guard }], guard := some (1, true) }) (v := undef) rfl (by kernel_rfl) (by kernel_rfl) (by kernel_rfl) (fun _ _ _ h => h) (Or.inr ⟨by rfl, rfl⟩) (by assumption) ?_
          try simp only [Act.put, List.setIfInBounds_toArray, List.set_cons_zero, List.set_cons_succ]
          refine wpAnyH_take (i := 10) (oi := { dst := some 88, op := Op.call { callee := Callee.value (Operand.func 26), args := #[Operand.tmp 83, Operand.tmp 87], argTypes := #[58, 37] }, type := 26, pos := "law.go:181", after := #[{ on := 5, ground := Ground.data }, { on := 9, ground := Ground.data }, { on := 1, ground := Ground.chain }, { on := 1, ground := Ground.guard }], guard := some (1, true) }) (v := undef) rfl (by kernel_rfl) (by kernel_rfl) (by kernel_rfl) (fun _ _ _ h => h) (Or.inr ⟨by rfl, rfl⟩) (by assumption) ?_
          try simp only [Act.put, List.setIfInBounds_toArray, List.set_cons_zero, List.set_cons_succ]
          refine wpAnyH_take (i := 11) (oi := { dst := some 89, op := Op.binOp BinOp.eql 26 (Operand.tmp 88) (Operand.const (Value.int IntKind.i64 0)) 26, type := 4, pos := "law.go:181", after := #[{ on := 10, ground := Ground.data }, { on := 1, ground := Ground.guard }], guard := some (1, true) }) (v := undef) rfl (by kernel_rfl) (by kernel_rfl) (by kernel_rfl) (fun _ _ _ h => h) (Or.inr ⟨by rfl, rfl⟩) (by assumption) ?_
          try simp only [Act.put, List.setIfInBounds_toArray, List.set_cons_zero, List.set_cons_succ]
          refine wpAnyH_take (i := 12) (oi := { dst := some 90, op := Op.pick (Operand.tmp 79) (Operand.tmp 89) (Operand.const (Value.bool false)), type := 4, pos := "law.go:181", after := #[{ on := 1, ground := Ground.data }, { on := 11, ground := Ground.data }], guard := none }) (v := ?vq21) rfl (by kernel_rfl) (by kernel_rfl) (by kernel_rfl) (fun _ _ _ h => h) (Or.inl ⟨by rfl, ?hq21⟩) (by assumption) ?rq21
          case hq21 => intro W hSw; (try obtain ⟨t0, t1, t2, t3, y0, y1, y2⟩ := HCq.out W hSw); go_simp; (try with_reducible rfl)
          try simp only [Act.put, List.setIfInBounds_toArray, List.set_cons_zero, List.set_cons_succ]
          refine wpAnyH_take (i := 13) (oi := { dst := some 14, op := Op.assign (Operand.tmp 90), type := 4, pos := "law.go:181", after := #[{ on := 12, ground := Ground.data }, { on := 10, ground := Ground.chain }, { on := 0, ground := Ground.phase }, { on := 1, ground := Ground.phase }, { on := 2, ground := Ground.phase }, { on := 3, ground := Ground.phase }, { on := 4, ground := Ground.phase }, { on := 5, ground := Ground.phase }, { on := 6, ground := Ground.phase }, { on := 7, ground := Ground.phase }, { on := 8, ground := Ground.phase }, { on := 9, ground := Ground.phase }, { on := 10, ground := Ground.phase }, { on := 11, ground := Ground.phase }, { on := 12, ground := Ground.phase }], guard := none }) (v := ?vq22) rfl (by kernel_rfl) (by kernel_rfl) (by kernel_rfl) (fun _ _ _ h => h) (Or.inl ⟨by rfl, ?hq22⟩) (by assumption) ?rq22
          case hq22 => intro W hSw; (try obtain ⟨t0, t1, t2, t3, y0, y1, y2⟩ := HCq.out W hSw); go_simp; (try with_reducible rfl)
          try simp only [Act.put, List.setIfInBounds_toArray, List.set_cons_zero, List.set_cons_succ]
          refine wpAnyH_done (by kernel_rfl) ?_ _
          have Fh := Lib.hid hHeld
          clear hHeld
          go_wp2_with fail
          go_roundw
          case rel => exact ⟨q + 1, by omega, by rw [HSn.out]; rfl, by go_num, Fq.out.trans Fh.out (fun _ h => h.elim)⟩
          case measure => simp [intOf]; omega
        | true =>
          have e1 : (tx == 0) = decide (tx = 0) := by by_cases h : tx = 0 <;> simp [h]
          obtain ⟨bx, hbx⟩ : ∃ b, decide (tx = 0) = b := ⟨_, rfl⟩
          rw [hbx] at HSn e1
          go_wp2_with fail
          refine wp_region_held_drew (S := fun W => Fr (fun _ => False) wr W) (by kernel_rfl) ((Fr.refl _ wr).drew) (fun hHeld => ?_)
          refine wpAnyH_take (i := 0) (oi := { dst := some 78, op := Op.move (Operand.tmp 14), type := 4, pos := "law.go:181", after := #[], guard := none }) (v := ?vq23) rfl (by kernel_rfl) (by kernel_rfl) (by kernel_rfl) (fun _ _ _ h => h) (Or.inl ⟨by rfl, ?hq23⟩) (by assumption) ?rq23
          case hq23 => intro W hSw; (try obtain ⟨t0, t1, t2, t3, y0, y1, y2⟩ := HCq.out W hSw); go_simp; (try with_reducible rfl)
          try simp only [Act.put, List.setIfInBounds_toArray, List.set_cons_zero, List.set_cons_succ]
          refine wpAnyH_take (i := 1) (oi := { dst := some 79, op := Op.move (Operand.tmp 78), type := 4, pos := "law.go:181", after := #[{ on := 0, ground := Ground.data }], guard := none }) (v := ?vq24) rfl (by kernel_rfl) (by kernel_rfl) (by kernel_rfl) (fun _ _ _ h => h) (Or.inl ⟨by rfl, ?hq24⟩) (by assumption) ?rq24
          case hq24 => intro W hSw; (try obtain ⟨t0, t1, t2, t3, y0, y1, y2⟩ := HCq.out W hSw); go_simp; (try with_reducible rfl)
          try simp only [Act.put, List.setIfInBounds_toArray, List.set_cons_zero, List.set_cons_succ]
          refine wpAnyH_take (i := 2) (oi := { dst := some 80, op := Op.move (Operand.tmp 9), type := 25, pos := "law.go:181", after := #[{ on := 1, ground := Ground.guard }], guard := some (1, true) }) (v := ?vq25) rfl (by kernel_rfl) (by kernel_rfl) (by kernel_rfl) (fun _ _ _ h => h) (Or.inl ⟨by rfl, ?hq25⟩) (by assumption) ?rq25
          case hq25 => intro W hSw; (try obtain ⟨t0, t1, t2, t3, y0, y1, y2⟩ := HCq.out W hSw); go_simp; (try with_reducible rfl)
          try simp only [Act.put, List.setIfInBounds_toArray, List.set_cons_zero, List.set_cons_succ]
          refine wpAnyH_take (i := 3) (oi := { dst := some 81, op := Op.nilCheck (Operand.tmp 80), type := 0, pos := "law.go:181", after := #[{ on := 2, ground := Ground.data }, { on := 1, ground := Ground.guard }], guard := some (1, true) }) (v := ?vq26) rfl (by kernel_rfl) (by kernel_rfl) (by kernel_rfl) (fun _ _ _ h => h) (Or.inl ⟨by rfl, ?hq26⟩) (by assumption) ?rq26
          case hq26 => intro W hSw; (try obtain ⟨t0, t1, t2, t3, y0, y1, y2⟩ := HCq.out W hSw); go_simp; (try with_reducible rfl)
          try simp only [Act.put, List.setIfInBounds_toArray, List.set_cons_zero, List.set_cons_succ]
          refine wpAnyH_take (i := 4) (oi := { dst := some 82, op := Op.fieldAddr 61 (Operand.tmp 81) 0, type := 0, pos := "law.go:181", after := #[{ on := 3, ground := Ground.data }, { on := 1, ground := Ground.guard }], guard := some (1, true) }) (v := ?vq27) rfl (by kernel_rfl) (by kernel_rfl) (by kernel_rfl) (fun _ _ _ h => h) (Or.inl ⟨by rfl, ?hq27⟩) (by assumption) ?rq27
          case hq27 => intro W hSw; (try obtain ⟨t0, t1, t2, t3, y0, y1, y2⟩ := HCq.out W hSw); go_simp; (try with_reducible rfl)
          try simp only [Act.put, List.setIfInBounds_toArray, List.set_cons_zero, List.set_cons_succ]
          refine wpAnyH_take (i := 5) (oi := { dst := some 83, op := Op.load 58 (Operand.tmp 82), type := 58, pos := "law.go:181", after := #[{ on := 4, ground := Ground.data }, { on := 1, ground := Ground.guard }], guard := some (1, true) }) (v := ?vq28) rfl (by kernel_rfl) (by kernel_rfl) (by kernel_rfl) (fun _ _ _ h => h) (Or.inl ⟨by rfl, ?hq28⟩) (by assumption) ?rq28
          case hq28 => intro W hSw; (try obtain ⟨t0, t1, t2, t3, y0, y1, y2⟩ := HCq.out W hSw); go_simp; (try with_reducible rfl)
          try simp only [Act.put, List.setIfInBounds_toArray, List.set_cons_zero, List.set_cons_succ]
          refine wpAnyH_take (i := 6) (oi := { dst := some 84, op := Op.move (Operand.tmp 12), type := 22, pos := "law.go:181", after := #[{ on := 1, ground := Ground.guard }], guard := some (1, true) }) (v := ?vq29) rfl (by kernel_rfl) (by kernel_rfl) (by kernel_rfl) (fun _ _ _ h => h) (Or.inl ⟨by rfl, ?hq29⟩) (by assumption) ?rq29
          case hq29 => intro W hSw; (try obtain ⟨t0, t1, t2, t3, y0, y1, y2⟩ := HCq.out W hSw); go_simp; (try with_reducible rfl)
          try simp only [Act.put, List.setIfInBounds_toArray, List.set_cons_zero, List.set_cons_succ]
          refine wpAnyH_take (i := 7) (oi := { dst := some 85, op := Op.move (Operand.tmp 15), type := 3, pos := "law.go:181", after := #[{ on := 1, ground := Ground.guard }], guard := some (1, true) }) (v := ?vq30) rfl (by kernel_rfl) (by kernel_rfl) (by kernel_rfl) (fun _ _ _ h => h) (Or.inl ⟨by rfl, ?hq30⟩) (by assumption) ?rq30
          case hq30 => intro W hSw; (try obtain ⟨t0, t1, t2, t3, y0, y1, y2⟩ := HCq.out W hSw); go_simp; (try with_reducible rfl)
          try simp only [Act.put, List.setIfInBounds_toArray, List.set_cons_zero, List.set_cons_succ]
          refine wpAnyH_take (i := 8) (oi := { dst := some 86, op := Op.indexAddr 22 (Operand.tmp 84) (Operand.tmp 85), type := 0, pos := "law.go:181", after := #[{ on := 6, ground := Ground.data }, { on := 7, ground := Ground.data }, { on := 1, ground := Ground.guard }], guard := some (1, true) }) (v := ?vq31) rfl (by kernel_rfl) (by kernel_rfl) (by kernel_rfl) (fun _ _ _ h => h) (Or.inl ⟨by rfl, ?hq31⟩) (by assumption) ?rq31
          case hq31 => intro W hSw; (try obtain ⟨t0, t1, t2, t3, y0, y1, y2⟩ := HCq.out W hSw); go_simp; (try with_reducible rfl)
          try simp only [Act.put, List.setIfInBounds_toArray, List.set_cons_zero, List.set_cons_succ]
          refine wpAnyH_take (i := 9) (oi := { dst := some 87, op := Op.load 37 (Operand.tmp 86), type := 37, pos := "law.go:181", after := #[{ on := 8, ground := Ground.data }, { on := 1, ground := Ground.guard }], guard := some (1, true) }) (v := ?vq32) rfl (by kernel_rfl) (by kernel_rfl) (by kernel_rfl) (fun _ _ _ h => h) (Or.inl ⟨by rfl, ?hq32⟩) (by assumption) ?rq32
          case hq32 => intro W hSw; (try obtain ⟨t0, t1, t2, t3, y0, y1, y2⟩ := HCq.out W hSw); go_simp; (try with_reducible rfl)
          try simp only [Act.put, List.setIfInBounds_toArray, List.set_cons_zero, List.set_cons_succ]
          refine wpAnyH_ready (rs := [10]) (by kernel_rfl) (by simp) ?_
          refine AllReadyH.cons (o := { dst := some 88, op := Op.call { callee := Callee.value (Operand.func 26), args := #[Operand.tmp 83, Operand.tmp 87], argTypes := #[58, 37] }, type := 26, pos := "law.go:181", after := #[{ on := 5, ground := Ground.data }, { on := 9, ground := Ground.data }, { on := 1, ground := Ground.chain }, { on := 1, ground := Ground.guard }], guard := some (1, true) }) rfl (fun K hK => ?_) AllReadyH.nil
          go_simp
          go_wp2_with (first | (go_at_call 26; refine (HTq.out _ hHeld).mono ?_; rintro r wa ⟨rfl, ba⟩))
          refine hK.out _ _ (hHeld.trans (Fr.b0 ba) (fun _ h => h.elim)) (fun hHeld => ?_)
          clear hK K
          try simp only [Act.put, List.setIfInBounds_toArray, List.set_cons_zero, List.set_cons_succ]
          refine wpAnyH_take (i := 11) (oi := { dst := some 89, op := Op.binOp BinOp.eql 26 (Operand.tmp 88) (Operand.const (Value.int IntKind.i64 0)) 26, type := 4, pos := "law.go:181", after := #[{ on := 10, ground := Ground.data }, { on := 1, ground := Ground.guard }], guard := some (1, true) }) (v := ?vq33) rfl (by kernel_rfl) (by kernel_rfl) (by kernel_rfl) (fun _ _ _ h => h) (Or.inl ⟨by rfl, ?hq33⟩) (by assumption) ?rq33
          case hq33 => intro W hSw; (try obtain ⟨t0, t1, t2, t3, y0, y1, y2⟩ := HCq.out W hSw); go_simp; (try with_reducible rfl)
          try simp only [Act.put, List.setIfInBounds_toArray, List.set_cons_zero, List.set_cons_succ]
          refine wpAnyH_take (i := 12) (oi := { dst := some 90, op := Op.pick (Operand.tmp 79) (Operand.tmp 89) (Operand.const (Value.bool false)), type := 4, pos := "law.go:181", after := #[{ on := 1, ground := Ground.data }, { on := 11, ground := Ground.data }], guard := none }) (v := ?vq34) rfl (by kernel_rfl) (by kernel_rfl) (by kernel_rfl) (fun _ _ _ h => h) (Or.inl ⟨by rfl, ?hq34⟩) (by assumption) ?rq34
          case hq34 => intro W hSw; (try obtain ⟨t0, t1, t2, t3, y0, y1, y2⟩ := HCq.out W hSw); go_simp; (try with_reducible rfl)
          try simp only [Act.put, List.setIfInBounds_toArray, List.set_cons_zero, List.set_cons_succ]
          refine wpAnyH_take (i := 13) (oi := { dst := some 14, op := Op.assign (Operand.tmp 90), type := 4, pos := "law.go:181", after := #[{ on := 12, ground := Ground.data }, { on := 10, ground := Ground.chain }, { on := 0, ground := Ground.phase }, { on := 1, ground := Ground.phase }, { on := 2, ground := Ground.phase }, { on := 3, ground := Ground.phase }, { on := 4, ground := Ground.phase }, { on := 5, ground := Ground.phase }, { on := 6, ground := Ground.phase }, { on := 7, ground := Ground.phase }, { on := 8, ground := Ground.phase }, { on := 9, ground := Ground.phase }, { on := 10, ground := Ground.phase }, { on := 11, ground := Ground.phase }, { on := 12, ground := Ground.phase }], guard := none }) (v := ?vq35) rfl (by kernel_rfl) (by kernel_rfl) (by kernel_rfl) (fun _ _ _ h => h) (Or.inl ⟨by rfl, ?hq35⟩) (by assumption) ?rq35
          case hq35 => intro W hSw; (try obtain ⟨t0, t1, t2, t3, y0, y1, y2⟩ := HCq.out W hSw); go_simp; (try with_reducible rfl)
          try simp only [Act.put, List.setIfInBounds_toArray, List.set_cons_zero, List.set_cons_succ]
          refine wpAnyH_done (by kernel_rfl) ?_ _
          have Fh := Lib.hid hHeld
          clear hHeld ba
          go_wp2_with fail
          go_roundw
          case rel => exact ⟨q + 1, by omega, by rw [HSn.out]; rfl, by go_num, Fq.out.trans Fh.out (fun _ h => h.elim)⟩
          case measure => simp [intOf]; omega
      · obtain rfl : N = q := by omega
        have hta : L.take N = L := take_all (by rw [HLm.out]; exact Nat.le_refl _)
        rw [hta]
        obtain ⟨ga, hga⟩ : ∃ g, (L.all fun x => decide (tk x = 0)) = g := ⟨_, rfl⟩
        rw [hga] at hEq ⊢
        have HEg := Lib.hid hEq
        have HT9 := Lib.hid (HT8.out.fr0 Fq.out)
        have HU9 := Lib.hid (HU8.out.fr0 Fq.out)
        have G9 : Hid (Fr F w wr) := G8.out.trans Fq.out (fun _ h => h.elim)
        obtain ⟨W9, hW9⟩ : ∃ W9, W9 = wr := ⟨_, rfl⟩
        rw [← hW9] at HT9 HU9 G9 ⊢
        clear hW9 hta hga hEq HT8 HU8 G8 HTk HRc R8 Fq Z8
        have X5 : X2.now = 500 := HX2.out.1
        by_cases hE : E = 0
        case pos =>
          subst hE
          have hgt : ga = true := HEg.out.1 rfl
          subst hgt
          have U9 : Hid (Fr (fun _ => False) W9 W9) := Fr.refl _ _
          clear HEg
          have HTa := Lib.hid (HT9.out.fr0 U9.out)
          have Ga : Hid (Fr F w _) := G9.out.trans U9.out (fun _ h => h.elim)
          have HCp := Lib.hid (tio_copy P.out HTa.out (by simp) w.heap.size Ga.out.size)
          go_wp2_with fail
          refine HCp.out.mono ?_
          rintro r wc ⟨⟨v, FV, rfl, V, hV⟩, bc⟩
          have HTc := Lib.hid (HTa.out.fr0 (Fr.b0 bc))
          have HVc := Lib.hid V
          have Gc : Hid (Fr F w wc) := Ga.out.trans (Fr.b0 bc) (fun _ h => h.elim)
          have HDv : Hid (∀ j, FV j → ¬ F j) := fun j hj hj2 => by
            have h1 := (HTa.out.ge j hj2).2
            have h2 := hV j hj
            omega
          have HTi := Lib.hid (tio_tick P.out HTc.out (by omega) nn (by exact hnn))
          clear V hV bc HCp HTa Ga
          have hti : tickE X2 nn = if nn < 0 then 1 else if 1099511627276 < nn then 26 else 0 := by
            unfold tickE
            rw [X5]
            simp only [show ((1099511627776 : Int) - 500) = 1099511627276 by omega]
          by_cases hok : 0 ≤ nn ∧ nn ≤ 1099511627276
          case pos =>
            have k1 : tickE X2 nn = 0 := by rw [hti, if_neg (by omega), if_neg (by omega)]
            have k2 : decide (0 ≤ nn) = true := decide_eq_true hok.1
            have k3 : decide (nn ≤ 1099511627276) = true := decide_eq_true hok.2
            rw [k1] at HTi
            clear hti k1
            go_wp2_with fail
            refine HTi.out.mono ?_
            rintro r wd ⟨rfl, Td, fd⟩
            have Gd : Hid (Fr F w wd) := Gc.out.trans fd (fun _ h => .inl h)
            have HTd := Lib.hid Td
            clear Td fd HTi HTc HVc Gc
            go_wp2_with fail
            refine (HAl.out _).mono ?_
            rintro r we ⟨rfl, be⟩
            have HTe := Lib.hid (HTd.out.fr0 (Fr.b0 be))
            have Ge : Hid (Fr F w we) := Gd.out.trans (Fr.b0 be) (fun _ h => h.elim)
            clear be HTd Gd
            have HP0 := Lib.hid (tio_put P.out HTe.out (by omega) [] none 0 0 Rd.nil_ (fun _ h => by cases h))
            rw [show ∀ X : TiersX, putE X [] = 1 from fun _ => rfl] at HP0
            go_wp2_with fail
            refine HP0.out.mono ?_
            rintro r wf ⟨rfl, Tf, ff⟩
            have HTf := Lib.hid Tf
            have Gf : Hid (Fr F w wf) := Ge.out.trans ff (fun _ h => .inl h)
            clear Tf ff HP0 HTe Ge
            go_wp2_with fail
            obtain ⟨W5, hW5⟩ : ∃ W5, W5 = wf.alloc (.cells trefC 37) := ⟨_, rfl⟩
            rw [← hW5]
            have F5 : Hid (Fr (fun _ => False) wf W5) := hW5 ▸ Fr.none_alloc _ _
            have r5 : Rd W5 3 (some ⟨wf.heap.size, 0, none⟩) 9 (scells trefZ) := by rw [hW5]; exact Rd.newS rfl _ _ 9 3 rfl
            have HP9 := Lib.hid (tio_put P.out (HTf.out.fr0 F5.out) (by omega) trefZ (some ⟨wf.heap.size, 0, none⟩) 9 9 r5 tref_zwf)
            rw [show ∀ X : TiersX, putE X trefZ = 2 from fun _ => rfl] at HP9
            clear hW5 r5
            refine HP9.out.mono ?_
            rintro r wg ⟨rfl, Tg, fg⟩
            have Gg : Hid (Fr F w wg) := (Gf.out.trans F5.out (fun _ h => h.elim)).trans fg (fun _ h => .inl h)
            clear Tg fg HP9 HTf Gf F5
            go_wp2_with fail
            go_ret
            exact ⟨rfl, Gg.out.below (fun j hj => Nat.le_of_lt (HFl.out j hj))⟩
          case neg =>
            have kz : tickE X2 nn ≠ 0 := by
              rw [hti]
              by_cases h1 : nn < 0
              · rw [if_pos h1]; decide
              · rw [if_neg h1, if_pos (by omega)]; decide
            have kx : tickX X2 nn = X2 := by unfold tickX; rw [if_neg kz]
            have k4 : (decide (0 ≤ nn) && decide (nn ≤ 1099511627276)) = false := by
              by_cases h1 : 0 ≤ nn <;> by_cases h2 : nn ≤ 1099511627276 <;> simp [h1, h2]
              exact hok ⟨h1, h2⟩
            rw [kx] at HTi
            obtain ⟨E2, hE2⟩ : ∃ v, tickE X2 nn = v := ⟨_, rfl⟩
            rw [hE2] at HTi kz
            have z1 : (E2 == 0) = false := by simpa using kz
            have z2 : decide (E2 = 0) = false := decide_eq_false kz
            clear hti hE2 kx
            have HNb : Hid (∀ b1 b2 : Bool, decide (0 ≤ nn) = b1 → decide (nn ≤ 1099511627276) = b2 → (b1 && b2) = false) := fun b1 b2 h1 h2 => by rw [← h1, ← h2]; exact k4
            clear k4
            by_cases hn0 : 0 ≤ nn
            case pos =>
              have y1 : decide (0 ≤ nn) = true := decide_eq_true hn0
              have y2 : decide (nn ≤ 1099511627276) = false := decide_eq_false (fun h => hok ⟨hn0, h⟩)
              go_wp2_with fail
              refine HTi.out.mono ?_
              rintro r wd ⟨rfl, Td, fd⟩
              have Gd : Hid (Fr F w wd) := Gc.out.trans fd (fun _ h => .inl h)
              have HTd := Lib.hid Td
              have HVd := Lib.hid (HVc.out.apart HTc.out fd (fun _ h => h) HDv.out)
              clear Td fd HTi HTc HVc Gc
              go_wp2_with fail
              refine (HAl.out _).mono ?_
              rintro r we ⟨rfl, be⟩
              have HTe := Lib.hid (HTd.out.fr0 (Fr.b0 be))
              have HVe := Lib.hid (HVd.out.fr0 (Fr.b0 be))
              have Ge : Hid (Fr F w we) := Gd.out.trans (Fr.b0 be) (fun _ h => h.elim)
              clear be HTd HVd Gd
              have HSb := Lib.hid (tio_same P.out P.out HTe.out HVe.out (by omega) (by omega))
              rw [sameX_self] at HSb
              go_wp2_with fail
              refine HSb.out.mono ?_
              rintro r wh ⟨rfl, bh⟩
              have HTh := Lib.hid (HTe.out.fr0 (Fr.b0 bh))
              have Gh : Hid (Fr F w wh) := Ge.out.trans (Fr.b0 bh) (fun _ h => h.elim)
              clear bh HTe HVe Ge HSb
              have HP0 := Lib.hid (tio_put P.out HTh.out (by omega) [] none 0 0 Rd.nil_ (fun _ h => by cases h))
              rw [show ∀ X : TiersX, putE X [] = 1 from fun _ => rfl] at HP0
              go_wp2_with fail
              refine HP0.out.mono ?_
              rintro r wf ⟨rfl, Tf, ff⟩
              have HTf := Lib.hid Tf
              have Gf : Hid (Fr F w wf) := Gh.out.trans ff (fun _ h => .inl h)
              clear Tf ff HP0 HTh Gh
              go_wp2_with fail
              obtain ⟨W5, hW5⟩ : ∃ W5, W5 = wf.alloc (.cells trefC 37) := ⟨_, rfl⟩
              rw [← hW5]
              have F5 : Hid (Fr (fun _ => False) wf W5) := hW5 ▸ Fr.none_alloc _ _
              have r5 : Rd W5 3 (some ⟨wf.heap.size, 0, none⟩) 9 (scells trefZ) := by rw [hW5]; exact Rd.newS rfl _ _ 9 3 rfl
              have HP9 := Lib.hid (tio_put P.out (HTf.out.fr0 F5.out) (by omega) trefZ (some ⟨wf.heap.size, 0, none⟩) 9 9 r5 tref_zwf)
              rw [show ∀ X : TiersX, putE X trefZ = 2 from fun _ => rfl] at HP9
              clear hW5 r5
              refine HP9.out.mono ?_
              rintro r wg ⟨rfl, Tg, fg⟩
              have Gg : Hid (Fr F w wg) := (Gf.out.trans F5.out (fun _ h => h.elim)).trans fg (fun _ h => .inl h)
              clear Tg fg HP9 HTf Gf F5
              go_wp2_with fail
              go_ret
              exact ⟨rfl, Gg.out.below (fun j hj => Nat.le_of_lt (HFl.out j hj))⟩
            case neg =>
              have y1 : decide (0 ≤ nn) = false := decide_eq_false hn0
              go_wp2_with fail
              refine HTi.out.mono ?_
              rintro r wd ⟨rfl, Td, fd⟩
              have Gd : Hid (Fr F w wd) := Gc.out.trans fd (fun _ h => .inl h)
              have HTd := Lib.hid Td
              have HVd := Lib.hid (HVc.out.apart HTc.out fd (fun _ h => h) HDv.out)
              clear Td fd HTi HTc HVc Gc
              go_wp2_with fail
              refine (HAl.out _).mono ?_
              rintro r we ⟨rfl, be⟩
              have HTe := Lib.hid (HTd.out.fr0 (Fr.b0 be))
              have HVe := Lib.hid (HVd.out.fr0 (Fr.b0 be))
              have Ge : Hid (Fr F w we) := Gd.out.trans (Fr.b0 be) (fun _ h => h.elim)
              clear be HTd HVd Gd
              have HSb := Lib.hid (tio_same P.out P.out HTe.out HVe.out (by omega) (by omega))
              rw [sameX_self] at HSb
              go_wp2_with fail
              refine HSb.out.mono ?_
              rintro r wh ⟨rfl, bh⟩
              have HTh := Lib.hid (HTe.out.fr0 (Fr.b0 bh))
              have Gh : Hid (Fr F w wh) := Ge.out.trans (Fr.b0 bh) (fun _ h => h.elim)
              clear bh HTe HVe Ge HSb
              have HP0 := Lib.hid (tio_put P.out HTh.out (by omega) [] none 0 0 Rd.nil_ (fun _ h => by cases h))
              rw [show ∀ X : TiersX, putE X [] = 1 from fun _ => rfl] at HP0
              go_wp2_with fail
              refine HP0.out.mono ?_
              rintro r wf ⟨rfl, Tf, ff⟩
              have HTf := Lib.hid Tf
              have Gf : Hid (Fr F w wf) := Gh.out.trans ff (fun _ h => .inl h)
              clear Tf ff HP0 HTh Gh
              go_wp2_with fail
              obtain ⟨W5, hW5⟩ : ∃ W5, W5 = wf.alloc (.cells trefC 37) := ⟨_, rfl⟩
              rw [← hW5]
              have F5 : Hid (Fr (fun _ => False) wf W5) := hW5 ▸ Fr.none_alloc _ _
              have r5 : Rd W5 3 (some ⟨wf.heap.size, 0, none⟩) 9 (scells trefZ) := by rw [hW5]; exact Rd.newS rfl _ _ 9 3 rfl
              have HP9 := Lib.hid (tio_put P.out (HTf.out.fr0 F5.out) (by omega) trefZ (some ⟨wf.heap.size, 0, none⟩) 9 9 r5 tref_zwf)
              rw [show ∀ X : TiersX, putE X trefZ = 2 from fun _ => rfl] at HP9
              clear hW5 r5
              refine HP9.out.mono ?_
              rintro r wg ⟨rfl, Tg, fg⟩
              have Gg : Hid (Fr F w wg) := (Gf.out.trans F5.out (fun _ h => h.elim)).trans fg (fun _ h => .inl h)
              clear Tg fg HP9 HTf Gf F5
              go_wp2_with fail
              go_ret
              exact ⟨rfl, Gg.out.below (fun j hj => Nat.le_of_lt (HFl.out j hj))⟩
        case neg =>
          have hgf : ga = false := by
            cases ga
            · rfl
            · exact absurd (HEg.out.2 rfl) hE
          subst hgf
          have e1 : (E == 0) = false := by simpa using hE
          have e2 : decide (E = 0) = false := decide_eq_false hE
          have e3 : (E != 0) = true := by simpa using hE
          have e4 : ¬ E = 0 := hE
          have HSa := Lib.hid (tio_same P.out P.out HT9.out HU9.out (by omega) (by omega))
          rw [HX2.out.2.2.2 hE, sameX_self] at HSa
          clear HEg
          go_wp2_with fail
          refine HSa.out.mono ?_
          rintro r wb ⟨rfl, bb⟩
          have U9 : Hid (Fr (fun _ => False) W9 wb) := Fr.b0 bb
          clear HSa bb
          have HTa := Lib.hid (HT9.out.fr0 U9.out)
          have Ga : Hid (Fr F w _) := G9.out.trans U9.out (fun _ h => h.elim)
          have HCp := Lib.hid (tio_copy P.out HTa.out (by simp) w.heap.size Ga.out.size)
          go_wp2_with fail
          refine HCp.out.mono ?_
          rintro r wc ⟨⟨v, FV, rfl, V, hV⟩, bc⟩
          have HTc := Lib.hid (HTa.out.fr0 (Fr.b0 bc))
          have HVc := Lib.hid V
          have Gc : Hid (Fr F w wc) := Ga.out.trans (Fr.b0 bc) (fun _ h => h.elim)
          have HDv : Hid (∀ j, FV j → ¬ F j) := fun j hj hj2 => by
            have h1 := (HTa.out.ge j hj2).2
            have h2 := hV j hj
            omega
          have HTi := Lib.hid (tio_tick P.out HTc.out (by omega) nn (by exact hnn))
          clear V hV bc HCp HTa Ga
          have hti : tickE X2 nn = if nn < 0 then 1 else if 1099511627276 < nn then 26 else 0 := by
            unfold tickE
            rw [X5]
            simp only [show ((1099511627776 : Int) - 500) = 1099511627276 by omega]
          by_cases hok : 0 ≤ nn ∧ nn ≤ 1099511627276
          case pos =>
            have k1 : tickE X2 nn = 0 := by rw [hti, if_neg (by omega), if_neg (by omega)]
            have k2 : decide (0 ≤ nn) = true := decide_eq_true hok.1
            have k3 : decide (nn ≤ 1099511627276) = true := decide_eq_true hok.2
            rw [k1] at HTi
            clear hti k1
            go_wp2_with fail
            refine HTi.out.mono ?_
            rintro r wd ⟨rfl, Td, fd⟩
            have Gd : Hid (Fr F w wd) := Gc.out.trans fd (fun _ h => .inl h)
            have HTd := Lib.hid Td
            clear Td fd HTi HTc HVc Gc
            go_wp2_with fail
            refine (HAl.out _).mono ?_
            rintro r we ⟨rfl, be⟩
            have HTe := Lib.hid (HTd.out.fr0 (Fr.b0 be))
            have Ge : Hid (Fr F w we) := Gd.out.trans (Fr.b0 be) (fun _ h => h.elim)
            clear be HTd Gd
            have HP0 := Lib.hid (tio_put P.out HTe.out (by omega) [] none 0 0 Rd.nil_ (fun _ h => by cases h))
            rw [show ∀ X : TiersX, putE X [] = 1 from fun _ => rfl] at HP0
            go_wp2_with fail
            refine HP0.out.mono ?_
            rintro r wf ⟨rfl, Tf, ff⟩
            have HTf := Lib.hid Tf
            have Gf : Hid (Fr F w wf) := Ge.out.trans ff (fun _ h => .inl h)
            clear Tf ff HP0 HTe Ge
            go_wp2_with fail
            obtain ⟨W5, hW5⟩ : ∃ W5, W5 = wf.alloc (.cells trefC 37) := ⟨_, rfl⟩
            rw [← hW5]
            have F5 : Hid (Fr (fun _ => False) wf W5) := hW5 ▸ Fr.none_alloc _ _
            have r5 : Rd W5 3 (some ⟨wf.heap.size, 0, none⟩) 9 (scells trefZ) := by rw [hW5]; exact Rd.newS rfl _ _ 9 3 rfl
            have HP9 := Lib.hid (tio_put P.out (HTf.out.fr0 F5.out) (by omega) trefZ (some ⟨wf.heap.size, 0, none⟩) 9 9 r5 tref_zwf)
            rw [show ∀ X : TiersX, putE X trefZ = 2 from fun _ => rfl] at HP9
            clear hW5 r5
            refine HP9.out.mono ?_
            rintro r wg ⟨rfl, Tg, fg⟩
            have Gg : Hid (Fr F w wg) := (Gf.out.trans F5.out (fun _ h => h.elim)).trans fg (fun _ h => .inl h)
            clear Tg fg HP9 HTf Gf F5
            go_wp2_with fail
            go_ret
            exact ⟨rfl, Gg.out.below (fun j hj => Nat.le_of_lt (HFl.out j hj))⟩
          case neg =>
            have kz : tickE X2 nn ≠ 0 := by
              rw [hti]
              by_cases h1 : nn < 0
              · rw [if_pos h1]; decide
              · rw [if_neg h1, if_pos (by omega)]; decide
            have kx : tickX X2 nn = X2 := by unfold tickX; rw [if_neg kz]
            have k4 : (decide (0 ≤ nn) && decide (nn ≤ 1099511627276)) = false := by
              by_cases h1 : 0 ≤ nn <;> by_cases h2 : nn ≤ 1099511627276 <;> simp [h1, h2]
              exact hok ⟨h1, h2⟩
            rw [kx] at HTi
            obtain ⟨E2, hE2⟩ : ∃ v, tickE X2 nn = v := ⟨_, rfl⟩
            rw [hE2] at HTi kz
            have z1 : (E2 == 0) = false := by simpa using kz
            have z2 : decide (E2 = 0) = false := decide_eq_false kz
            clear hti hE2 kx
            have HNb : Hid (∀ b1 b2 : Bool, decide (0 ≤ nn) = b1 → decide (nn ≤ 1099511627276) = b2 → (b1 && b2) = false) := fun b1 b2 h1 h2 => by rw [← h1, ← h2]; exact k4
            clear k4
            by_cases hn0 : 0 ≤ nn
            case pos =>
              have y1 : decide (0 ≤ nn) = true := decide_eq_true hn0
              have y2 : decide (nn ≤ 1099511627276) = false := decide_eq_false (fun h => hok ⟨hn0, h⟩)
              go_wp2_with fail
              refine HTi.out.mono ?_
              rintro r wd ⟨rfl, Td, fd⟩
              have Gd : Hid (Fr F w wd) := Gc.out.trans fd (fun _ h => .inl h)
              have HTd := Lib.hid Td
              have HVd := Lib.hid (HVc.out.apart HTc.out fd (fun _ h => h) HDv.out)
              clear Td fd HTi HTc HVc Gc
              go_wp2_with fail
              refine (HAl.out _).mono ?_
              rintro r we ⟨rfl, be⟩
              have HTe := Lib.hid (HTd.out.fr0 (Fr.b0 be))
              have HVe := Lib.hid (HVd.out.fr0 (Fr.b0 be))
              have Ge : Hid (Fr F w we) := Gd.out.trans (Fr.b0 be) (fun _ h => h.elim)
              clear be HTd HVd Gd
              have HSb := Lib.hid (tio_same P.out P.out HTe.out HVe.out (by omega) (by omega))
              rw [sameX_self] at HSb
              go_wp2_with fail
              refine HSb.out.mono ?_
              rintro r wh ⟨rfl, bh⟩
              have HTh := Lib.hid (HTe.out.fr0 (Fr.b0 bh))
              have Gh : Hid (Fr F w wh) := Ge.out.trans (Fr.b0 bh) (fun _ h => h.elim)
              clear bh HTe HVe Ge HSb
              have HP0 := Lib.hid (tio_put P.out HTh.out (by omega) [] none 0 0 Rd.nil_ (fun _ h => by cases h))
              rw [show ∀ X : TiersX, putE X [] = 1 from fun _ => rfl] at HP0
              go_wp2_with fail
              refine HP0.out.mono ?_
              rintro r wf ⟨rfl, Tf, ff⟩
              have HTf := Lib.hid Tf
              have Gf : Hid (Fr F w wf) := Gh.out.trans ff (fun _ h => .inl h)
              clear Tf ff HP0 HTh Gh
              go_wp2_with fail
              obtain ⟨W5, hW5⟩ : ∃ W5, W5 = wf.alloc (.cells trefC 37) := ⟨_, rfl⟩
              rw [← hW5]
              have F5 : Hid (Fr (fun _ => False) wf W5) := hW5 ▸ Fr.none_alloc _ _
              have r5 : Rd W5 3 (some ⟨wf.heap.size, 0, none⟩) 9 (scells trefZ) := by rw [hW5]; exact Rd.newS rfl _ _ 9 3 rfl
              have HP9 := Lib.hid (tio_put P.out (HTf.out.fr0 F5.out) (by omega) trefZ (some ⟨wf.heap.size, 0, none⟩) 9 9 r5 tref_zwf)
              rw [show ∀ X : TiersX, putE X trefZ = 2 from fun _ => rfl] at HP9
              clear hW5 r5
              refine HP9.out.mono ?_
              rintro r wg ⟨rfl, Tg, fg⟩
              have Gg : Hid (Fr F w wg) := (Gf.out.trans F5.out (fun _ h => h.elim)).trans fg (fun _ h => .inl h)
              clear Tg fg HP9 HTf Gf F5
              go_wp2_with fail
              go_ret
              exact ⟨rfl, Gg.out.below (fun j hj => Nat.le_of_lt (HFl.out j hj))⟩
            case neg =>
              have y1 : decide (0 ≤ nn) = false := decide_eq_false hn0
              go_wp2_with fail
              refine HTi.out.mono ?_
              rintro r wd ⟨rfl, Td, fd⟩
              have Gd : Hid (Fr F w wd) := Gc.out.trans fd (fun _ h => .inl h)
              have HTd := Lib.hid Td
              have HVd := Lib.hid (HVc.out.apart HTc.out fd (fun _ h => h) HDv.out)
              clear Td fd HTi HTc HVc Gc
              go_wp2_with fail
              refine (HAl.out _).mono ?_
              rintro r we ⟨rfl, be⟩
              have HTe := Lib.hid (HTd.out.fr0 (Fr.b0 be))
              have HVe := Lib.hid (HVd.out.fr0 (Fr.b0 be))
              have Ge : Hid (Fr F w we) := Gd.out.trans (Fr.b0 be) (fun _ h => h.elim)
              clear be HTd HVd Gd
              have HSb := Lib.hid (tio_same P.out P.out HTe.out HVe.out (by omega) (by omega))
              rw [sameX_self] at HSb
              go_wp2_with fail
              refine HSb.out.mono ?_
              rintro r wh ⟨rfl, bh⟩
              have HTh := Lib.hid (HTe.out.fr0 (Fr.b0 bh))
              have Gh : Hid (Fr F w wh) := Ge.out.trans (Fr.b0 bh) (fun _ h => h.elim)
              clear bh HTe HVe Ge HSb
              have HP0 := Lib.hid (tio_put P.out HTh.out (by omega) [] none 0 0 Rd.nil_ (fun _ h => by cases h))
              rw [show ∀ X : TiersX, putE X [] = 1 from fun _ => rfl] at HP0
              go_wp2_with fail
              refine HP0.out.mono ?_
              rintro r wf ⟨rfl, Tf, ff⟩
              have HTf := Lib.hid Tf
              have Gf : Hid (Fr F w wf) := Gh.out.trans ff (fun _ h => .inl h)
              clear Tf ff HP0 HTh Gh
              go_wp2_with fail
              obtain ⟨W5, hW5⟩ : ∃ W5, W5 = wf.alloc (.cells trefC 37) := ⟨_, rfl⟩
              rw [← hW5]
              have F5 : Hid (Fr (fun _ => False) wf W5) := hW5 ▸ Fr.none_alloc _ _
              have r5 : Rd W5 3 (some ⟨wf.heap.size, 0, none⟩) 9 (scells trefZ) := by rw [hW5]; exact Rd.newS rfl _ _ 9 3 rfl
              have HP9 := Lib.hid (tio_put P.out (HTf.out.fr0 F5.out) (by omega) trefZ (some ⟨wf.heap.size, 0, none⟩) 9 9 r5 tref_zwf)
              rw [show ∀ X : TiersX, putE X trefZ = 2 from fun _ => rfl] at HP9
              clear hW5 r5
              refine HP9.out.mono ?_
              rintro r wg ⟨rfl, Tg, fg⟩
              have Gg : Hid (Fr F w wg) := (Gf.out.trans F5.out (fun _ h => h.elim)).trans fg (fun _ h => .inl h)
              clear Tg fg HP9 HTf Gf F5
              go_wp2_with fail
              go_ret
              exact ⟨rfl, Gg.out.below (fun j hj => Nat.le_of_lt (HFl.out j hj))⟩
end Go.Proofs.Ytlhhcancfgjfkaa
