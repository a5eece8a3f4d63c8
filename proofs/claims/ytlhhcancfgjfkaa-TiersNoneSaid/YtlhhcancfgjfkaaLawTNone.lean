/- TiersNone's walk: of nil ones. -/
import Derived.Test.YtlhhcancfgjfkaaAlive11
namespace Go.Proofs.Ytlhhcancfgjfkaa
set_option linter.all false
open Go.RowKit

set_option maxRecDepth 100000 in
set_option maxHeartbeats 4000000 in
theorem tiersnone_walk (s : SampV) (n : Int) (w : World) (hs : s.name.size ≤ maxLen) :
    Calls Try.prog 9 #[.agg #[.string s.name, .int .i64 s.time, .int .i64 s.value], .int .i64 n] w fun e w' => e = .returned (.bool true) ∧ Below w.heap.size w w' := by
  have HAl := Lib.hid alive11_any
  have HAsk := Lib.hid task_nil
  have HPut := Lib.hid tput_nil
  have HTick := Lib.hid ttick_nil
  have HLoad := Lib.hid tload_nil
  have HTab := Lib.hid ttable_nil
  have HRec := Lib.hid trecords_nil
  have HNeed := Lib.hid tneed_nil
  have HLen := Lib.hid tlen_nil
  have HEm := Lib.hid tempty_nil
  have HSame := Lib.hid tsame_nil
  have HCopy := Lib.hid tcopy_nil
  have O0 := Lib.hid ((Own.start w).skip (Fr.none_alloc w (.cells #[.string s.name, .int .i64 s.time, .int .i64 s.value] 37)))
  unfold ansV at HAsk
  by_cases h60 : 60 < s.name.size
  · have hd : decide ((60 : Int) < (s.name.size : Int)) = true := decide_eq_true (by omega)
    have hd2 : (60 : Int) < (s.name.size : Int) := by omega
    go_enter Try.func9, Try.ntmps9
    go_wp2_with fail
    refine (HAl.out _).mono ?_
    rintro r w1 ⟨rfl, b1⟩
    have O1 := Lib.hid (O0.out.below b1)
    go_wp2_with fail
    go_ret
    exact ⟨rfl, O1.out.bel⟩
  · have hd : decide ((60 : Int) < (s.name.size : Int)) = false := decide_eq_false (by omega)
    have hd2 : ¬ (60 : Int) < (s.name.size : Int) := by omega
    go_enter Try.func9, Try.ntmps9
    go_wp2_with fail
    refine (HAsk.out _ _ _ _).mono ?_
    rintro r w1 ⟨rfl, b1⟩
    have O1 := Lib.hid (O0.out.below b1)
    have B0 := Lib.hid ((Blk.new w 37 #[.string s.name, .int .i64 s.time, .int .i64 s.value]).fr (Fr.b0 b1) (fun h => h))
    clear b1
    go_wp2_with fail
    have O2 := Lib.hid (O1.out.skip (Fr.none_alloc w1 (.cells #[.int .i64 0, .slice none 0 0] 52)))
    have B1 := Lib.hid (Blk.new w1 52 #[.int .i64 0, .slice none 0 0])
    have B2 := Lib.hid (B0.out.fr (Fr.none_alloc w1 (.cells #[.int .i64 0, .slice none 0 0] 52)) (fun h => h))
    refine (HAl.out _).mono ?_
    rintro r w3 ⟨rfl, b3⟩
    have O3 := Lib.hid (O2.out.below b3)
    have s0 := (B2.out.fr (Fr.b0 b3) (fun h => h)).cell 0
    have s1 := (B2.out.fr (Fr.b0 b3) (fun h => h)).cell 1
    have s2 := (B2.out.fr (Fr.b0 b3) (fun h => h)).cell 2
    have B3 := Lib.hid (B1.out.fr (Fr.b0 b3) (fun h => h))
    simp only [List.getElem?_toArray, List.getElem?_cons_succ, List.getElem?_cons_zero] at s0 s1 s2
    clear b3
    go_wp2_with fail
    obtain ⟨W4, hW4⟩ : ∃ W4, W4 = w3.alloc (.cells #[.string s.name, .int .i64 s.time, .int .i64 s.value] 37) := ⟨_, rfl⟩
    rw [← hW4]
    have O4 : Hid (Own w W4 (fun _ => False)) := hW4 ▸ O3.out.skip (Fr.none_alloc _ _)
    have c1 : W4.cell? ⟨w1.heap.size, 1, none⟩ = some (.slice none 0 0) := by
      have := (B3.out.fr (Fr.none_alloc w3 (.cells #[.string s.name, .int .i64 s.time, .int .i64 s.value] 37)) (fun h => h)).cell 1
      rw [← hW4] at this
      exact this
    clear hW4 s0 s1 s2
    refine (HPut.out _ _).mono ?_
    rintro r w5 ⟨rfl, rfl⟩
    go_wp2_with fail
    refine (HTick.out _ _).mono ?_
    rintro r w5 ⟨rfl, rfl⟩
    go_wp2_with fail
    refine (HLoad.out _ _ _).mono ?_
    rintro r w5 ⟨rfl, rfl⟩
    go_wp2_with fail
    refine (HTab.out _ _).mono ?_
    rintro r w5 ⟨rfl, rfl⟩
    go_wp2_with fail
    refine (HRec.out _ _).mono ?_
    rintro r w5 ⟨rfl, rfl⟩
    go_wp2_with fail
    refine (HNeed.out _).mono ?_
    rintro r w5 ⟨rfl, rfl⟩
    go_wp2_with fail
    refine (HLen.out _).mono ?_
    rintro r w5 ⟨rfl, rfl⟩
    go_wp2_with fail
    refine (HEm.out _).mono ?_
    rintro r w5 ⟨rfl, rfl⟩
    go_wp2_with fail
    refine (HSame.out _).mono ?_
    rintro r w5 ⟨rfl, rfl⟩
    go_wp2_with fail
    refine (HCopy.out _).mono ?_
    rintro r w5 ⟨rfl, rfl⟩
    go_wp2_with fail
    go_ret
    exact ⟨rfl, O4.out.bel⟩
end Go.Proofs.Ytlhhcancfgjfkaa
