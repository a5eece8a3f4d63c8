/- Walk of a segment's block. -/
import Derived.Test.YtkickdmiilmkoaaGreatDoorSegC
namespace Go.Proofs.YtkickdmiilmkoaaGreatDoor
open Go.RowKit

/-- A block's bytes. -/
def blockB (h : HeadV) (l : List RecV) : List UInt8 := headB h ++ l.flatMap recB ++ List.replicate (208 - 64 * l.length) 0
theorem blockB_len (h : HeadV) (l : List RecV) (hok : l.all recOk = true) (h3 : l.length ≤ 3) : (blockB h l).length = 256 := by
  unfold blockB
  rw [List.length_append, List.length_append, headB_len, recsB_len hok, List.length_replicate]; omega
set_option maxRecDepth 100000 in
set_option maxHeartbeats 4000000 in
theorem blockput_any (h : HeadV) (hf : h.fit) (l : List RecV) (hl : ∀ r ∈ l, r.wf) (hok : l.all recOk = true) (h3 : l.length ≤ 3) (A : Option Addr) (n c : Nat) (w : World) (hr : Rd w 7 A n (rcells l)) :
    Calls Tryz.prog 102 #[h.val, .slice A n c] w fun r w' => r = .returned (.string (bstr (blockB h l))) ∧ Below w.heap.size w w' := by
  have hlen := hr.recs_len
  have HP : Hid (∀ w', Fr (fun _ => False) w w' → Calls Tryz.prog 22 #[.slice A n c] w' fun e w'' => e = .returned (.tuple #[.string (bstr (l.flatMap recB)), .int .i64 0]) ∧ Below w'.heap.size w' w'') := fun w' f => by
    have := recput_any l hl A n c w' (hr.fr0 f) (by omega)
    rwa [hok] at this
  have HH := Lib.hid (fun w' => head_any h hf w')
  have hz : (bstr (l.flatMap recB)).size = 64 * n := by rw [bstr_size, recsB_len hok, hlen]
  have hB : bstr (blockB h l) = bstr (headB h) ++ bstr (l.flatMap recB) ++ bstr (List.replicate (208 - 64 * n) 0) := by
    rw [bstr_append, bstr_append]; unfold blockB; rw [hlen]
  have hHz : (bstr (headB h)).size = 48 := by rw [bstr_size, headB_len]
  obtain ⟨Q, hQ⟩ : ∃ Q, bstr (l.flatMap recB) = Q := ⟨_, rfl⟩
  obtain ⟨E, hE⟩ : ∃ E, bstr (headB h) = E := ⟨_, rfl⟩
  obtain ⟨Y, hY⟩ : ∃ Y, bstr (blockB h l) = Y := ⟨_, rfl⟩
  rw [hQ] at HP hz hB
  rw [hE] at HH hB hHz
  rw [hY] at hB ⊢
  have HB := Lib.hid hB
  have hn3 : n ≤ 3 := by omega
  have hQi : (Q.size : Int) = 64 * (n : Int) := by omega
  have HQi := Lib.hid hQi
  have HHz := Lib.hid hHz
  have hQb : Q.size ≤ 192 := by omega
  have hEb : E.size ≤ 48 := by omega
  clear hlen hr hl hok h3 hf hz hB hQ hE hY hQi hHz
  obtain ⟨id, ti, sh, pl, of_, rc⟩ := h
  unfold HeadV.val at HH ⊢
  have B0 := Lib.hid (Blk.new w 136 #[.int .u64 id, .int .i64 ti, .int .i64 sh, .int .i64 pl, .int .i64 of_, .int .i64 rc])
  have O := Lib.hid ((Own.start w).skip (Fr.none_alloc w (.cells #[.int .u64 id, .int .i64 ti, .int .i64 sh, .int .i64 pl, .int .i64 of_, .int .i64 rc] 136)))
  go_enter Tryz.func102, Tryz.ntmps102
  go_wp2_with fail
  refine (HP.out _ (Fr.none_alloc _ _)).mono ?_
  rintro r w1 ⟨rfl, b1⟩
  have O1 := Lib.hid (O.out.below b1)
  have B1 := Lib.hid (B0.out.below b1)
  clear b1
  have P1 := Lib.hid (Pk.new w1).1
  have Q1 := Lib.hid ((O1.out.skip (Fr.none_alloc w1 (.cells #[.int .i64 0, .slice none 0 0] 87))).also (fun k hk => Nat.le_trans O1.out.bel.size ((Pk.new w1).2 k hk)))
  go_wp2_with fail
  refine (fill_any _ _ 0 [] _ _ P1.out (by simp)).mono ?_
  rw [show pFill 0 [] ((208 : Int) - (Q.size : Int)) = (0, List.replicate (208 - 64 * n) 0) by
    have := HQi.out
    unfold pFill; rw [if_pos rfl, if_neg (by omega), if_neg (by simp; omega), List.nil_append]
    congr 2
    simp; omega]
  rintro r w2 ⟨rfl, F2, p2, m2⟩
  have Q2 := Lib.hid (Q1.out.mv m2)
  have hq1 := Lib.hid B1.out.lt
  have B2 := B1.out.fr (F := fun _ => False) ((Fr.none_alloc w1 (.cells #[.int .i64 0, .slice none 0 0] 87)).trans m2.fr (fun k hk => .inr ((Pk.new w1).2 k hk))) (fun h => h)
  have HB2 := Lib.hid B2
  obtain ⟨X, hX⟩ : ∃ X, bstr (List.replicate (208 - 64 * n) (0 : UInt8)) = X := ⟨_, rfl⟩
  have hXb : X.size ≤ 208 := by rw [← hX, bstr_size, List.length_replicate]; omega
  rw [hX] at HB
  have HD := Lib.hid (done_at _ F2 _ X w2 p2 hX)
  have c0 := B2.cell 0
  have c1 := B2.cell 1
  have c2 := B2.cell 2
  have c3 := B2.cell 3
  have c4 := B2.cell 4
  have c5 := B2.cell 5
  simp only [List.getElem?_toArray, List.getElem?_cons_succ, List.getElem?_cons_zero] at c0 c1 c2 c3 c4 c5
  clear p2 m2 B2 hX P1
  go_wp2_with fail
  refine (HD.out).mono ?_
  rintro r w3 ⟨rfl, rfl⟩
  go_wp2_with fail
  refine (HH.out _).mono ?_
  rintro r w4 ⟨rfl, b4⟩
  have O4 := Lib.hid (Q2.out.below b4)
  clear b4 c0 c1 c2 c3 c4 c5
  go_wp2_with fail
  go_ret
  exact ⟨by rw [HB.out]; rfl, O4.out.bel⟩
end Go.Proofs.YtkickdmiilmkoaaGreatDoor
