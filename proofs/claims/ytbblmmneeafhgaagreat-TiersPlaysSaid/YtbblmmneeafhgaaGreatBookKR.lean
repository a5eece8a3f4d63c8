/- Walks of sedimentbook on kinds of which there are no lists. -/
import Derived.Test.YtbblmmneeafhgaaGreatProg
import Derived.WalkKit
import Derived.Test.YtbblmmneeafhgaaGreatBook
import Derived.Test.YtbblmmneeafhgaaGreatSame
import Derived.Test.YtbblmmneeafhgaaGreatAlive16
namespace Go.Proofs.YtbblmmneeafhgaaGreat
set_option linter.all false
open Go.RowKit
theorem stillTexts_none (g : Nat) (cs : Array Value) (w : World) (hb : Blk w g 49 cs) (hV : cs[0]? = some (.slice none 0 0)) :
    Calls Tryz.prog 80 #[.pointer (some ⟨g, 0, none⟩)] w fun r w' => r = .returned (.bool true) ∧ w = w' := by
  have c0 := hb.cell 0
  rw [hV] at c0
  clear hb hV
  go_enter Tryz.func80, Tryz.ntmps80
  go_wp2_with fail
  go_loop [3] (fun i => i = .int .i64 0) (fun _ => 0)
  case atStart => exact rfl
  case round =>
    obtain rfl := hrel
    go_wp2_with fail
    go_ret
    exact ⟨rfl, rfl⟩
theorem putTexts_none (g : Nat) (cs : Array Value) (w : World) (hb : Blk w g 49 cs) (hV : cs[0]? = some (.slice none 0 0)) :
    Calls Tryz.prog 89 #[.pointer (some ⟨g, 0, none⟩)] w fun r w' => r = .returned (.tuple #[]) ∧ w = w' := by
  have c0 := hb.cell 0
  rw [hV] at c0
  clear hb hV
  go_enter Tryz.func89, Tryz.ntmps89
  go_wp2_with fail
  go_loop [2] (fun i => i = .int .i64 0) (fun _ => 0)
  case atStart => exact rfl
  case round =>
    obtain rfl := hrel
    go_wp2_with fail
    go_end0
    exact ⟨rfl, rfl⟩
theorem growTexts_none (g : Nat) (cs : Array Value) (w : World) (hb : Blk w g 49 cs) (hV : cs[0]? = some (.slice none 0 0)) :
    Calls Tryz.prog 96 #[.pointer (some ⟨g, 0, none⟩)] w fun r w' => r = .returned (.slice none 0 0) ∧ w = w' := by
  have c0 := hb.cell 0
  rw [hV] at c0
  clear hb hV
  go_enter Tryz.func96, Tryz.ntmps96
  go_wp2_with fail
  go_loop [3, 4] (fun o i => o = .slice none 0 0 ∧ i = .int .i64 0) (fun _ _ => 0)
  case atStart => exact ⟨rfl, rfl⟩
  case round =>
    obtain ⟨rfl, rfl⟩ := hrel
    go_wp2_with fail
    go_ret
    exact ⟨rfl, rfl⟩
theorem markedTexts_none (w : World) :
    Calls Tryz.prog 104 #[.slice none 0 0] w fun r w' => r = .returned (.bool true) ∧ w = w' := by
  go_enter Tryz.func104, Tryz.ntmps104
  go_wp2_with fail
  go_loop [3] (fun i => i = .int .i64 0) (fun _ => 0)
  case atStart => exact rfl
  case round =>
    obtain rfl := hrel
    go_wp2_with fail
    go_ret
    exact ⟨rfl, rfl⟩
theorem stillInts_none (g : Nat) (cs : Array Value) (w : World) (hb : Blk w g 49 cs) (hV : cs[2]? = some (.slice none 0 0)) :
    Calls Tryz.prog 81 #[.pointer (some ⟨g, 0, none⟩)] w fun r w' => r = .returned (.bool true) ∧ w = w' := by
  have c0 := hb.cell 2
  rw [hV] at c0
  clear hb hV
  go_enter Tryz.func81, Tryz.ntmps81
  go_wp2_with fail
  go_loop [3] (fun i => i = .int .i64 0) (fun _ => 0)
  case atStart => exact rfl
  case round =>
    obtain rfl := hrel
    go_wp2_with fail
    go_ret
    exact ⟨rfl, rfl⟩
theorem putInts_none (g : Nat) (cs : Array Value) (w : World) (hb : Blk w g 49 cs) (hV : cs[2]? = some (.slice none 0 0)) :
    Calls Tryz.prog 90 #[.pointer (some ⟨g, 0, none⟩)] w fun r w' => r = .returned (.tuple #[]) ∧ w = w' := by
  have c0 := hb.cell 2
  rw [hV] at c0
  clear hb hV
  go_enter Tryz.func90, Tryz.ntmps90
  go_wp2_with fail
  go_loop [2] (fun i => i = .int .i64 0) (fun _ => 0)
  case atStart => exact rfl
  case round =>
    obtain rfl := hrel
    go_wp2_with fail
    go_end0
    exact ⟨rfl, rfl⟩
theorem growInts_none (g : Nat) (cs : Array Value) (w : World) (hb : Blk w g 49 cs) (hV : cs[2]? = some (.slice none 0 0)) :
    Calls Tryz.prog 97 #[.pointer (some ⟨g, 0, none⟩)] w fun r w' => r = .returned (.slice none 0 0) ∧ w = w' := by
  have c0 := hb.cell 2
  rw [hV] at c0
  clear hb hV
  go_enter Tryz.func97, Tryz.ntmps97
  go_wp2_with fail
  go_loop [3, 4] (fun o i => o = .slice none 0 0 ∧ i = .int .i64 0) (fun _ _ => 0)
  case atStart => exact ⟨rfl, rfl⟩
  case round =>
    obtain ⟨rfl, rfl⟩ := hrel
    go_wp2_with fail
    go_ret
    exact ⟨rfl, rfl⟩
theorem markedInts_none (w : World) :
    Calls Tryz.prog 105 #[.slice none 0 0] w fun r w' => r = .returned (.bool true) ∧ w = w' := by
  go_enter Tryz.func105, Tryz.ntmps105
  go_wp2_with fail
  go_loop [3] (fun i => i = .int .i64 0) (fun _ => 0)
  case atStart => exact rfl
  case round =>
    obtain rfl := hrel
    go_wp2_with fail
    go_ret
    exact ⟨rfl, rfl⟩
theorem stillTiers_none (g : Nat) (cs : Array Value) (w : World) (hb : Blk w g 49 cs) (hV : cs[8]? = some (.slice none 0 0)) :
    Calls Tryz.prog 84 #[.pointer (some ⟨g, 0, none⟩)] w fun r w' => r = .returned (.bool true) ∧ w = w' := by
  have c0 := hb.cell 8
  rw [hV] at c0
  clear hb hV
  go_enter Tryz.func84, Tryz.ntmps84
  go_wp2_with fail
  go_loop [3] (fun i => i = .int .i64 0) (fun _ => 0)
  case atStart => exact rfl
  case round =>
    obtain rfl := hrel
    go_wp2_with fail
    go_ret
    exact ⟨rfl, rfl⟩
theorem putTiers_none (g : Nat) (cs : Array Value) (w : World) (hb : Blk w g 49 cs) (hV : cs[8]? = some (.slice none 0 0)) :
    Calls Tryz.prog 93 #[.pointer (some ⟨g, 0, none⟩)] w fun r w' => r = .returned (.tuple #[]) ∧ w = w' := by
  have c0 := hb.cell 8
  rw [hV] at c0
  clear hb hV
  go_enter Tryz.func93, Tryz.ntmps93
  go_wp2_with fail
  go_loop [2] (fun i => i = .int .i64 0) (fun _ => 0)
  case atStart => exact rfl
  case round =>
    obtain rfl := hrel
    go_wp2_with fail
    go_end0
    exact ⟨rfl, rfl⟩
theorem growTiers_none (g : Nat) (cs : Array Value) (w : World) (hb : Blk w g 49 cs) (hV : cs[8]? = some (.slice none 0 0)) :
    Calls Tryz.prog 100 #[.pointer (some ⟨g, 0, none⟩)] w fun r w' => r = .returned (.slice none 0 0) ∧ w = w' := by
  have c0 := hb.cell 8
  rw [hV] at c0
  clear hb hV
  go_enter Tryz.func100, Tryz.ntmps100
  go_wp2_with fail
  go_loop [3, 4] (fun o i => o = .slice none 0 0 ∧ i = .int .i64 0) (fun _ _ => 0)
  case atStart => exact ⟨rfl, rfl⟩
  case round =>
    obtain ⟨rfl, rfl⟩ := hrel
    go_wp2_with fail
    go_ret
    exact ⟨rfl, rfl⟩
theorem markedTiers_none (w : World) :
    Calls Tryz.prog 108 #[.slice none 0 0] w fun r w' => r = .returned (.bool true) ∧ w = w' := by
  go_enter Tryz.func108, Tryz.ntmps108
  go_wp2_with fail
  go_loop [3] (fun i => i = .int .i64 0) (fun _ => 0)
  case atStart => exact rfl
  case round =>
    obtain rfl := hrel
    go_wp2_with fail
    go_ret
    exact ⟨rfl, rfl⟩
theorem stillErrnos_none (g : Nat) (cs : Array Value) (w : World) (hb : Blk w g 49 cs) (hV : cs[10]? = some (.slice none 0 0)) :
    Calls Tryz.prog 85 #[.pointer (some ⟨g, 0, none⟩)] w fun r w' => r = .returned (.bool true) ∧ w = w' := by
  have c0 := hb.cell 10
  rw [hV] at c0
  clear hb hV
  go_enter Tryz.func85, Tryz.ntmps85
  go_wp2_with fail
  go_loop [3] (fun i => i = .int .i64 0) (fun _ => 0)
  case atStart => exact rfl
  case round =>
    obtain rfl := hrel
    go_wp2_with fail
    go_ret
    exact ⟨rfl, rfl⟩
theorem putErrnos_none (g : Nat) (cs : Array Value) (w : World) (hb : Blk w g 49 cs) (hV : cs[10]? = some (.slice none 0 0)) :
    Calls Tryz.prog 94 #[.pointer (some ⟨g, 0, none⟩)] w fun r w' => r = .returned (.tuple #[]) ∧ w = w' := by
  have c0 := hb.cell 10
  rw [hV] at c0
  clear hb hV
  go_enter Tryz.func94, Tryz.ntmps94
  go_wp2_with fail
  go_loop [2] (fun i => i = .int .i64 0) (fun _ => 0)
  case atStart => exact rfl
  case round =>
    obtain rfl := hrel
    go_wp2_with fail
    go_end0
    exact ⟨rfl, rfl⟩
theorem growErrnos_none (g : Nat) (cs : Array Value) (w : World) (hb : Blk w g 49 cs) (hV : cs[10]? = some (.slice none 0 0)) :
    Calls Tryz.prog 101 #[.pointer (some ⟨g, 0, none⟩)] w fun r w' => r = .returned (.slice none 0 0) ∧ w = w' := by
  have c0 := hb.cell 10
  rw [hV] at c0
  clear hb hV
  go_enter Tryz.func101, Tryz.ntmps101
  go_wp2_with fail
  go_loop [3, 4] (fun o i => o = .slice none 0 0 ∧ i = .int .i64 0) (fun _ _ => 0)
  case atStart => exact ⟨rfl, rfl⟩
  case round =>
    obtain ⟨rfl, rfl⟩ := hrel
    go_wp2_with fail
    go_ret
    exact ⟨rfl, rfl⟩
theorem markedErrnos_none (w : World) :
    Calls Tryz.prog 109 #[.slice none 0 0] w fun r w' => r = .returned (.bool true) ∧ w = w' := by
  go_enter Tryz.func109, Tryz.ntmps109
  go_wp2_with fail
  go_loop [3] (fun i => i = .int .i64 0) (fun _ => 0)
  case atStart => exact rfl
  case round =>
    obtain rfl := hrel
    go_wp2_with fail
    go_ret
    exact ⟨rfl, rfl⟩
theorem stillWords_none (g : Nat) (cs : Array Value) (w : World) (hb : Blk w g 49 cs) (hV : cs[12]? = some (.slice none 0 0)) :
    Calls Tryz.prog 86 #[.pointer (some ⟨g, 0, none⟩)] w fun r w' => r = .returned (.bool true) ∧ w = w' := by
  have c0 := hb.cell 12
  rw [hV] at c0
  clear hb hV
  go_enter Tryz.func86, Tryz.ntmps86
  go_wp2_with fail
  go_loop [3] (fun i => i = .int .i64 0) (fun _ => 0)
  case atStart => exact rfl
  case round =>
    obtain rfl := hrel
    go_wp2_with fail
    go_ret
    exact ⟨rfl, rfl⟩
theorem putWords_none (g : Nat) (cs : Array Value) (w : World) (hb : Blk w g 49 cs) (hV : cs[12]? = some (.slice none 0 0)) :
    Calls Tryz.prog 95 #[.pointer (some ⟨g, 0, none⟩)] w fun r w' => r = .returned (.tuple #[]) ∧ w = w' := by
  have c0 := hb.cell 12
  rw [hV] at c0
  clear hb hV
  go_enter Tryz.func95, Tryz.ntmps95
  go_wp2_with fail
  go_loop [2] (fun i => i = .int .i64 0) (fun _ => 0)
  case atStart => exact rfl
  case round =>
    obtain rfl := hrel
    go_wp2_with fail
    go_end0
    exact ⟨rfl, rfl⟩
theorem growWords_none (g : Nat) (cs : Array Value) (w : World) (hb : Blk w g 49 cs) (hV : cs[12]? = some (.slice none 0 0)) :
    Calls Tryz.prog 102 #[.pointer (some ⟨g, 0, none⟩)] w fun r w' => r = .returned (.slice none 0 0) ∧ w = w' := by
  have c0 := hb.cell 12
  rw [hV] at c0
  clear hb hV
  go_enter Tryz.func102, Tryz.ntmps102
  go_wp2_with fail
  go_loop [3, 4] (fun o i => o = .slice none 0 0 ∧ i = .int .i64 0) (fun _ _ => 0)
  case atStart => exact ⟨rfl, rfl⟩
  case round =>
    obtain ⟨rfl, rfl⟩ := hrel
    go_wp2_with fail
    go_ret
    exact ⟨rfl, rfl⟩
theorem markedWords_none (w : World) :
    Calls Tryz.prog 110 #[.slice none 0 0] w fun r w' => r = .returned (.bool true) ∧ w = w' := by
  go_enter Tryz.func110, Tryz.ntmps110
  go_wp2_with fail
  go_loop [3] (fun i => i = .int .i64 0) (fun _ => 0)
  case atStart => exact rfl
  case round =>
    obtain rfl := hrel
    go_wp2_with fail
    go_ret
    exact ⟨rfl, rfl⟩
theorem stillSteps_none (g : Nat) (cs : Array Value) (w : World) (hb : Blk w g 49 cs) (hV : cs[14]? = some (.slice none 0 0)) :
    Calls Tryz.prog 87 #[.pointer (some ⟨g, 0, none⟩)] w fun r w' => r = .returned (.bool true) ∧ w = w' := by
  have c0 := hb.cell 14
  rw [hV] at c0
  clear hb hV
  go_enter Tryz.func87, Tryz.ntmps87
  go_wp2_with fail
  go_loop [3] (fun i => i = .int .i64 0) (fun _ => 0)
  case atStart => exact rfl
  case round =>
    obtain rfl := hrel
    go_wp2_with fail
    go_ret
    exact ⟨rfl, rfl⟩
theorem putSteps_none (g : Nat) (cs : Array Value) (w : World) (hb : Blk w g 49 cs) (hV : cs[14]? = some (.slice none 0 0)) :
    Calls Tryz.prog 88 #[.pointer (some ⟨g, 0, none⟩)] w fun r w' => r = .returned (.tuple #[]) ∧ w = w' := by
  have c0 := hb.cell 14
  rw [hV] at c0
  clear hb hV
  go_enter Tryz.func88, Tryz.ntmps88
  go_wp2_with fail
  go_loop [2] (fun i => i = .int .i64 0) (fun _ => 0)
  case atStart => exact rfl
  case round =>
    obtain rfl := hrel
    go_wp2_with fail
    go_end0
    exact ⟨rfl, rfl⟩
theorem growSteps_none (g : Nat) (cs : Array Value) (w : World) (hb : Blk w g 49 cs) (hV : cs[14]? = some (.slice none 0 0)) :
    Calls Tryz.prog 103 #[.pointer (some ⟨g, 0, none⟩)] w fun r w' => r = .returned (.slice none 0 0) ∧ w = w' := by
  have c0 := hb.cell 14
  rw [hV] at c0
  clear hb hV
  go_enter Tryz.func103, Tryz.ntmps103
  go_wp2_with fail
  go_loop [3, 4] (fun o i => o = .slice none 0 0 ∧ i = .int .i64 0) (fun _ _ => 0)
  case atStart => exact ⟨rfl, rfl⟩
  case round =>
    obtain ⟨rfl, rfl⟩ := hrel
    go_wp2_with fail
    go_ret
    exact ⟨rfl, rfl⟩
theorem markedSteps_none (w : World) :
    Calls Tryz.prog 111 #[.slice none 0 0] w fun r w' => r = .returned (.bool true) ∧ w = w' := by
  go_enter Tryz.func111, Tryz.ntmps111
  go_wp2_with fail
  go_loop [3] (fun i => i = .int .i64 0) (fun _ => 0)
  case atStart => exact rfl
  case round =>
    obtain rfl := hrel
    go_wp2_with fail
    go_ret
    exact ⟨rfl, rfl⟩
end Go.Proofs.YtbblmmneeafhgaaGreat
namespace Go.Proofs.YtbblmmneeafhgaaGreat
set_option linter.all false
open Go.RowKit
def mrkS (i k : Nat) : SampV := ⟨{ data := #[] }, -1000 * (i : Int) - (k : Int) - 1, 0⟩
theorem info_sS : (Tryz.prog.info? 50).map (fun i => (i.zero, i.size, i.bytes)) = some (some (.slice none 0 0), 1, 24) := by kernel_rfl
def marksS (i b n : Nat) : List SampV := (List.range n).map fun j => mrkS i (b + j)
theorem marksS_len (i b n : Nat) : (marksS i b n).length = n := by simp [marksS]
theorem marksS_snoc (i b n : Nat) : marksS i b (n + 1) = marksS i b n ++ [mrkS i (b + n)] := by simp [marksS, List.range_succ]
theorem marksS_add (i b m : Nat) : ∀ n, marksS i b (m + n) = marksS i b m ++ marksS i (b + m) n
  | 0 => by simp [marksS]
  | n + 1 => by rw [← Nat.add_assoc, marksS_snoc, marksS_add i b m n, marksS_snoc, List.append_assoc, Nat.add_assoc]
set_option maxRecDepth 100000 in
set_option maxHeartbeats 4000000 in
theorem markS_any (i b n : Nat) (hi : i ≤ 1000) (hb : b ≤ 17179869184) (hn : n ≤ 17179869184) (w : World) :
    Calls Tryz.prog 164 #[.int .i64 (i : Int), .int .i64 (b : Int), .int .i64 (n : Int)] w fun r w' => ∃ A c, r = .returned (.slice A n c) ∧ w'.ownsRow w.heap.size 95 3 (.slice A n c) n (scells (marksS i b n)) ∧ Below w.heap.size w w' := by
  obtain ⟨i0, hi0, hz0, hz1, hz2⟩ := info_parts info_samp
  go_enter Tryz.func164, Tryz.ntmps164
  go_wp2_with fail
  go_loopw [7, 8] (fun o i' wr => ∃ (k j : Nat) (R : Option Addr) (cs : Nat), k ≤ n ∧ i' = .int .i64 j ∧ Hid (j = b + k) ∧ o = .slice R k cs ∧ wr.ownsRow w.heap.size 95 3 (.slice R k cs) k (scells (marksS i b k)) ∧ Own w wr (rowF (.slice R k cs))) (fun _ i' _ => b + n - (intOf i').toNat)
  case atStart => exact ⟨0, b, none, 0, Nat.zero_le _, rfl, rfl, rfl, World.ownsRow_nil _ _ _ _, (Own.start w).also (fun k hk => by cases hk)⟩
  case round =>
    obtain ⟨k, j, R, cs, hk, rfl, hj, rfl, hrow, ho⟩ := hrel
    have Hrow := Lib.hid hrow
    have Ho := Lib.hid ho
    have hwr := Lib.hid ho.bel.size
    clear hrow ho
    have hjb : j ≤ 34359738368 := by have := hj.out; omega
    by_cases hlt : k < n
    · have hjn : (j : Int) < (b : Int) + (n : Int) := by have := hj.out; omega
      have Hs : Hid (scells (marksS i b (k + 1)) = scells (marksS i b k) ++ [.string { data := #[] }, .int .i64 (-1000 * (i : Int) - (j : Int) - 1), .int .i64 0]) := by
        show _ = _
        rw [marksS_snoc, hj.out.symm]; unfold scells; rw [List.flatMap_append]; simp [mrkS, SampV.cells]
      go_wp2_with (at_builtin; refine wpList_app2 rfl _ _ 50 rfl 95 i0 _ 3 32 Tryz.underlying50 hi0 hz0 hz1 hz2 rfl (by decide) (.slice R k cs) k _ rfl w.heap.size (by have := hwr.out; simp; omega) (own_fr0 Hrow.out (Fr.none_alloc _ _)) (some ⟨wr.heap.size, 0, none⟩) 1 1 [.string { data := #[] }, .int .i64 (-1000 * (i : Int) - (j : Int) - 1), .int .i64 0] rfl (Rd.newS (by simp) _ _ _ _ rfl) (by simp [Value.oneCell']) ?q1 ?q2 ?_)
      case q1 => unfold maxLen; omega
      case q2 => omega
      intro R6 c6 w6 ho6 hm6 _
      have Ho6 := Lib.hid ho6
      have Hm6 := Lib.hid hm6
      clear ho6 hm6
      go_wp2
      go_roundw
      case rel =>
        refine ⟨k + 1, j + 1, R6, c6, by omega, by go_num, by have := hj.out; show _ = _; omega, by go_num, ?_, (Ho.out.skip (Fr.none_alloc _ _)).mv Hm6.out⟩
        rw [Hs.out]
        exact Ho6.out
      case measure => simp [intOf]; omega
    · obtain rfl : k = n := by omega
      have hje : ¬ (j : Int) < (b : Int) + (k : Int) := by have := hj.out; omega
      go_wp2_with fail
      go_ret
      exact ⟨R, cs, rfl, Hrow.out, Ho.out.bel⟩

set_option maxRecDepth 100000 in
set_option maxHeartbeats 4000000 in
theorem stillS_any (g : Nat) (cs : Array Value) (base : Nat) (V U : Value) (hs us : List (HV SampV)) (w : World) (hb : Blk w g 49 cs) (hV : cs[6]? = some V) (hU : cs[7]? = some U)
    (hk : Kind SampV.cells w base 50 95 3 V U hs us) (hn : hs.length ≤ 1000) (hl : ∀ h ∈ hs, h.l.length ≤ 1000000) :
    Calls Tryz.prog 83 #[.pointer (some ⟨g, 0, none⟩)] w fun r w' => r = .returned (.bool true) ∧ Below w.heap.size w w' := by
  have HB := Lib.hid hb
  have HV0 := Lib.hid hV
  have HU0 := Lib.hid hU
  have HK := Lib.hid hk
  have HL := Lib.hid hl
  have hln := hk.len
  obtain ⟨RA, rc, rfl, _, _, hR⟩ := own_slice hk.row
  obtain ⟨UA, uc, rfl, _, _, hU2⟩ := own_slice hk.wrow
  rw [hln] at hU2 HU0 HK
  have HR := Lib.hid hR
  have HU := Lib.hid hU2
  obtain ⟨m, hm⟩ : ∃ m, hs.length = m := ⟨_, rfl⟩
  rw [hm] at HR HU HV0 HU0 HK hn
  have Hm := Lib.hid hm
  have Hln := Lib.hid hln
  clear hb hV hU hk hl hR hU2 hm hln
  go_enter Tryz.func83, Tryz.ntmps83
  go_wp2_with fail
  go_loopw [3] (fun i wr => ∃ k : Nat, k ≤ m ∧ i = .int .i64 k ∧ Own w wr (fun _ => False)) (fun i _ => m - (intOf i).toNat)
  case atStart => exact ⟨0, Nat.zero_le _, rfl, Own.start w⟩
  case round =>
    obtain ⟨k, hk, rfl, ho⟩ := hrel
    have Ho := Lib.hid ho
    have hB := HB.out.below ho.bel
    have c0 := hB.cell 6
    have c1 := hB.cell 7
    rw [HV0.out] at c0
    rw [HU0.out] at c1
    clear hB
    by_cases hlt : k < m
    · obtain ⟨ad, x, rfl, hx, d0⟩ := (HR.out.fr0 (Fr.b0 ho.bel)).at_map hlt
      obtain ⟨bd, y, rfl, hy, d1⟩ := (HU.out.fr0 (Fr.b0 ho.bel)).at_map hlt
      have hlx := HL.out x (mem_of_get hx)
      have hyx : y.l = x.l := by
        have h1 : (us.map HV.l)[k]? = (hs.map HV.l)[k]? := by rw [HK.out.same]
        rw [List.getElem?_map, List.getElem?_map, hx, hy] at h1
        exact Option.some.inj h1
      have ox := own_fr0 (HK.out.lists.own x (mem_of_get hx)) (Fr.b0 ho.bel)
      have oy := own_fr0 (HK.out.was y (mem_of_get hy)) (Fr.b0 ho.bel)
      obtain ⟨vx, lx⟩ := x
      obtain ⟨vy, ly⟩ := y
      simp only at hyx d0 d1 ox oy hlx
      subst hyx
      obtain ⟨Ax, cx, rfl, _, _, rx⟩ := own_slice ox
      obtain ⟨Ay, cy, rfl, _, _, ry⟩ := own_slice oy
      have RX := Lib.hid (Rd.drew rx)
      have RY := Lib.hid (Rd.drew ry)
      have hlt2 : (k : Int) < (m : Int) := by omega
      clear hx hy ox oy rx ry ho
      go_wp2_with fail
      go_still_tail 14, (by kernel_rfl)
      repeat still_step
      try refine wpStill_nil ?_
      change wpList _ _ _ _ _ wr.drew
      have o1 := Lib.hid (Ho.out.skip ((Fr.refl _ wr).drew))
      clear c0 c1 d0 d1
      go_wp2_with fail
      refine (samesamps_eq ly _ _ _ _ _ wr.drew RX.out RY.out (by omega)).mono ?_
      rintro r w5 ⟨rfl, b5⟩
      have o5 := Lib.hid (o1.out.below b5)
      clear b5
      go_wp2
      go_roundw
      case rel => exact ⟨k + 1, by omega, by go_num, o5.out⟩
      case measure => simp [intOf]; omega
    · obtain rfl : k = m := by omega
      clear ho
      go_wp2_with fail
      go_ret
      exact ⟨rfl, Ho.out.bel⟩

end Go.Proofs.YtbblmmneeafhgaaGreat
namespace Go.Proofs.YtbblmmneeafhgaaGreat
set_option linter.all false
open Go.RowKit

set_option maxRecDepth 100000 in
set_option maxHeartbeats 8000000 in
theorem putS_any (g : Nat) (cs : Array Value) (base : Nat) (V : Value) (hs : List (HV SampV)) (w : World) (hb : Blk w g 49 cs) (hV : cs[6]? = some V) (hbase : base ≤ w.heap.size)
    (hL : Lists SampV.cells w base 95 3 hs) (hrow : w.ownsRow base 50 1 V hs.length (hs.map HV.v)) (hn : hs.length ≤ 1000) (hl : ∀ h ∈ hs, h.l.length ≤ 1000000) :
    Calls Tryz.prog 92 #[.pointer (some ⟨g, 0, none⟩)] w fun r w' => r = .returned (.tuple #[]) ∧ Lists SampV.cells w' base 95 3 (markedTo (fun i n => marksS i 0 n) hs.length hs) ∧ Fr (listsF hs) w w' := by
  obtain ⟨RA, rc, rfl, _, _, hR⟩ := own_slice hrow
  have HB := Lib.hid hb
  have HLs := Lib.hid hL
  have HRow := Lib.hid hrow
  have HL := Lib.hid hl
  obtain ⟨m, hm⟩ : ∃ m, hs.length = m := ⟨_, rfl⟩
  rw [hm] at HRow hn hV hR ⊢
  have HV0 := Lib.hid hV
  have HR := Lib.hid hR
  have HBs := Lib.hid hbase
  have OB := Lib.hid (Off.lists hL (ts := [49, 50]) (by decide))
  have HMk := Lib.hid (fun i n => marksS_len i 0 n)
  clear hb hV hL hrow hl hR hm hbase
  go_enter Tryz.func92, Tryz.ntmps92
  go_wp2_with fail
  go_loopw [2] (fun i wr => ∃ k : Nat, k ≤ m ∧ i = .int .i64 k ∧ Lists SampV.cells wr base 95 3 (markedTo (fun i n => marksS i 0 n) k hs) ∧ Fr (listsF hs) w wr) (fun i _ => m - (intOf i).toNat)
  case atStart => exact ⟨0, Nat.zero_le _, rfl, by rw [markedTo_zero]; exact HLs.out, Fr.refl _ _⟩
  case round =>
    obtain ⟨k, hk, rfl, hl2, hf2⟩ := hrel
    have HL2 := Lib.hid hl2
    have HF2 := Lib.hid hf2
    have hB := OB.out.blkf HB.out (by decide) hf2
    have hR2 := OB.out.own HRow.out (by decide) hf2
    have c0 := hB.cell 6
    rw [HV0.out] at c0
    have HB2 := Lib.hid hB
    have HR2 := Lib.hid hR2
    clear hB hl2 hf2
    by_cases hlt : k < m
    · obtain ⟨ad, x, rfl, hx, d0⟩ := (Rd.of_own hR2).at_map hlt
      have hlx := HL.out x (mem_of_get hx)
      have ox : wr.ownsRow base 95 3 x.v x.l.length (x.l.flatMap SampV.cells) := HL2.out.own x (by
        have := markedTo_get (mk := fun i n => marksS i 0 n) (k := k) hx
        rw [if_neg (Nat.lt_irrefl k)] at this
        exact mem_of_get this)
      have hxF : ∀ i, rowF x.v i → listsF hs i := fun i hi => ⟨x, mem_of_get hx, hi⟩
      have HX := Lib.hid hx
      obtain ⟨vx, lx⟩ := x
      simp only at d0 ox hlx hxF
      obtain ⟨Ax, cx, rfl, hcx, hcx2, _⟩ := own_slice ox
      obtain ⟨nx, hnx⟩ : ∃ nx, lx.length = nx := ⟨_, rfl⟩
      rw [hnx] at d0 ox hlx hcx hxF HX
      have HOX := Lib.hid ox
      have HNX := Lib.hid hnx
      have HXF := Lib.hid hxF
      have HMK : Hid (∀ w', Calls Tryz.prog 164 #[.int .i64 (k : Int), .int .i64 0, .int .i64 (nx : Int)] w' fun r w'' => ∃ A c, r = .returned (.slice A nx c) ∧ w''.ownsRow w'.heap.size 95 3 (.slice A nx c) nx (scells (marksS k 0 nx)) ∧ Below w'.heap.size w' w'') := fun w' => by
        have := markS_any k 0 nx (by omega) (by omega) (by omega) w'
        exact this
      have hlt2 : (k : Int) < (m : Int) := by omega
      clear hx ox hnx hxF hR2
      go_wp2_with fail
      refine (HMK.out wr).mono ?_
      rintro r w5 ⟨M, cm, rfl, om, b5⟩
      have OM := Lib.hid om
      have B5 := Lib.hid (HB2.out.below b5)
      have R5 := Lib.hid (own_fr0 HR2.out (Fr.b0 b5))
      have OX5 := Lib.hid (own_fr0 HOX.out (Fr.b0 b5))
      have F5 := Lib.hid (HF2.out.trans (Fr.b0 b5) (fun _ h => h.elim))
      have BB5 := Lib.hid b5
      have hMX : Hid (∀ i, rowF (.slice M nx cm) i → ¬ rowF (.slice Ax nx cx) i) := fun i h1 h2 => by
        have := own_lt HOX.out i h2
        have := (OM.out.lt i h1).1
        omega
      clear om b5 c0 d0 HB2 HR2
      go_wp2_with fail
      go_loopw [4] (fun j w2 => ∃ jj : Nat, jj ≤ nx ∧ j = .int .i64 jj ∧ w2.ownsRow base 95 3 (.slice Ax nx cx) nx (((marksS k 0 nx).take jj ++ lx.drop jj).flatMap SampV.cells) ∧ Fr (rowF (.slice Ax nx cx)) w5 w2) (fun j _ => nx - (intOf j).toNat)
      case atStart => exact ⟨0, Nat.zero_le _, rfl, by simpa using OX5.out, Fr.refl _ _⟩
      case round =>
        obtain ⟨jj, hjj, rfl, ho2, hf3⟩ := hrel
        have HX2 := Lib.hid ho2
        have HF3 := Lib.hid hf3
        have RX5 : Off w5 (rowF (.slice Ax nx cx)) [49, 50] := Off.row OX5.out (by decide)
        have B6 := RX5.blkf B5.out (by decide) hf3
        have R6 := RX5.own R5.out (by decide) hf3
        have M6 := own_fr OM.out hf3 hMX.out
        clear RX5
        by_cases hlj : jj < nx
        · have c0 := B6.cell 6
          rw [HV0.out] at c0
          obtain ⟨ad2, x2, e2, hx2, d0⟩ := (Rd.of_own R6).at_map hlt
          injection e2 with e2
          subst e2
          have hx3 := HX.out
          rw [hx2] at hx3
          injection hx3 with hx3
          subst hx3
          obtain ⟨md, y, rfl, hy, e0, e1, e2⟩ := (Rd.of_own M6).samp_ hlj
          have HY := Lib.hid hy
          obtain ⟨gx, cap, hform, hgx, _⟩ := HX2.out.form (by omega)
          injection hform with h1 h2 h3
          subst h1
          subst h3
          have hlenX : (((marksS k 0 nx).take jj ++ lx.drop jj).flatMap SampV.cells).length = nx * 3 := HX2.out.1
          obtain ⟨q0, hq0⟩ : ∃ q, (((marksS k 0 nx).take jj ++ lx.drop jj).flatMap SampV.cells)[jj * 3]? = some q := ⟨_, List.getElem?_eq_getElem (by rw [hlenX]; omega)⟩
          have s0 := HX2.out.cellAt (jj * 3) (by omega)
          rw [hq0] at s0
          have z0 := HX2.out.frozenAt (jj * 3)
          clear hq0
          obtain ⟨q1, hq1⟩ : ∃ q, (((marksS k 0 nx).take jj ++ lx.drop jj).flatMap SampV.cells)[jj * 3 + 1]? = some q := ⟨_, List.getElem?_eq_getElem (by rw [hlenX]; omega)⟩
          have s1 := HX2.out.cellAt (jj * 3 + 1) (by omega)
          rw [hq1] at s1
          have z1 := HX2.out.frozenAt (jj * 3 + 1)
          clear hq1
          obtain ⟨q2, hq2⟩ : ∃ q, (((marksS k 0 nx).take jj ++ lx.drop jj).flatMap SampV.cells)[jj * 3 + 2]? = some q := ⟨_, List.getElem?_eq_getElem (by rw [hlenX]; omega)⟩
          have s2 := HX2.out.cellAt (jj * 3 + 2) (by omega)
          rw [hq2] at s2
          have z2 := HX2.out.frozenAt (jj * 3 + 2)
          clear hq2
          have HZ : Hid (∀ W, W = setRun wr.drew gx (jj * 3) [.string y.name, .int .i64 y.time, .int .i64 y.value] → W.ownsRow base 95 3 (.slice (some ⟨gx, 0, none⟩) nx cx) nx (((marksS k 0 nx).take (jj + 1) ++ lx.drop (jj + 1)).flatMap SampV.cells) ∧ Fr (rowF (.slice (some ⟨gx, 0, none⟩) nx cx)) w5 W) := fun W hW => by
            subst hW
            have hlx : ∃ z, lx[jj]? = some z := ⟨lx[jj]'(by rw [HNX.out]; exact hlj), List.getElem?_eq_getElem _⟩
            obtain ⟨z, hz⟩ := hlx
            have h1 := setRun_own [.string y.name, .int .i64 y.time, .int .i64 y.value] (jj * 3) wr.drew _ (own_fr0 HX2.out ((Fr.refl (fun _ => False) wr).drew))
            have h2 := flat_put samp_len _ _ HY.out hz
            refine ⟨?_, (HF3.out.drew).trans (setRun_fr [.string y.name, .int .i64 y.time, .int .i64 y.value] (jj * 3) wr.drew) (fun i hi => .inl (by subst hi; rfl))⟩
            rw [← h2]
            exact h1
          clear hx2 hy B6 R6 M6 hlenX ho2 hf3
          go_wp2_with fail
          go_still_tail 13, (by kernel_rfl)
          repeat still_step
          try refine wpStill_nil ?_
          change wpList _ _ _ _ _ wr.drew
          obtain ⟨W2, hW2⟩ : ∃ W2, W2 = wr.drew := ⟨_, rfl⟩
          change wr.drew.cell? _ = _ at s0
          change wr.drew.frozen? _ = _ at z0
          change wr.drew.cell? _ = _ at s1
          change wr.drew.frozen? _ = _ at z1
          change wr.drew.cell? _ = _ at s2
          change wr.drew.frozen? _ = _ at z2
          rw [← hW2] at HZ s0 z0 s1 z1 s2 z2 ⊢
          obtain ⟨p, hp⟩ : ∃ p, jj * 3 = p := ⟨_, rfl⟩
          rw [hp] at HZ s0 z0 s1 z1 s2 z2 ⊢
          clear c0 d0 e0 e1 e2 hW2 hp
          go_wp2
          go_roundw
          case rel => exact ⟨jj + 1, by omega, by go_num, (HZ.out _ rfl).1, (HZ.out _ rfl).2⟩
          case measure => simp [intOf]; omega
        · obtain rfl : jj = nx := by omega
          have HE : Hid (Lists SampV.cells wr base 95 3 (markedTo (fun i n => marksS i 0 n) (k + 1) hs) ∧ Fr (listsF hs) w wr) := by
            have hL5 := (HL2.out.fr0 (Fr.b0 BB5.out))
            have ho3 : wr.ownsRow base 95 3 (.slice Ax jj cx) jj ((marksS k 0 jj).flatMap SampV.cells) := by
              have := HX2.out
              rwa [take_all (by rw [marksS_len]; exact Nat.le_refl _), List.drop_eq_nil_of_le (by rw [HNX.out]; exact Nat.le_refl _), List.append_nil] at this
            refine ⟨hL5.mark HX.out HMk.out HF3.out ?_, F5.out.trans HF3.out (fun i hi => .inl (HXF.out i hi))⟩
            rw [HNX.out]
            exact ho3
          clear ho2 hf3 B6 R6 M6
          go_wp2
          go_roundw
          case rel => exact ⟨k + 1, by omega, by go_num, HE.out.1, HE.out.2⟩
          case measure => simp [intOf]; omega
    · obtain rfl : k = m := by omega
      go_wp2_with fail
      go_end0
      exact ⟨rfl, HL2.out, HF2.out⟩
end Go.Proofs.YtbblmmneeafhgaaGreat
namespace Go.Proofs.YtbblmmneeafhgaaGreat
set_option linter.all false
open Go.RowKit

set_option maxRecDepth 100000 in
set_option maxHeartbeats 4000000 in
theorem markedS_any (O : Option Addr) (co m : Nat) (gs : List (HV SampV)) (w : World) (hr : Rd w 1 O m (gs.map HV.v)) (hn : m ≤ 1000)
    (hg : ∀ h ∈ gs, Reads SampV.cells w 3 h) (hl : ∀ h ∈ gs, h.l.length ≤ 2000000) (hmk : ∀ (i : Nat) (h : HV SampV), gs[i]? = some h → h.l = marksS i 0 h.l.length) :
    Calls Tryz.prog 107 #[.slice O m co] w fun r w' => r = .returned (.bool true) ∧ Below w.heap.size w w' := by
  have HR := Lib.hid hr
  have HG := Lib.hid hg
  have HL := Lib.hid hl
  have HMk := Lib.hid hmk
  clear hr hg hl hmk
  go_enter Tryz.func107, Tryz.ntmps107
  go_wp2_with fail
  go_loopw [3] (fun i wr => ∃ k : Nat, k ≤ m ∧ i = .int .i64 k ∧ Own w wr (fun _ => False)) (fun i _ => m - (intOf i).toNat)
  case atStart => exact ⟨0, Nat.zero_le _, rfl, Own.start w⟩
  case round =>
    obtain ⟨k, hk, rfl, ho⟩ := hrel
    have Ho := Lib.hid ho
    by_cases hlt : k < m
    · obtain ⟨ad, x, rfl, hx, d0⟩ := (HR.out.fr0 (Fr.b0 ho.bel)).at_map hlt
      have hlx := HL.out x (mem_of_get hx)
      have hxl := HMk.out k x hx
      obtain ⟨Ax, cx, hv, hrx, _⟩ := (HG.out x (mem_of_get hx)).fr0 (Fr.b0 ho.bel)
      obtain ⟨vx, lx⟩ := x
      simp only at hv hlx hxl hrx d0
      subst hv
      obtain ⟨nx, hnx⟩ : ∃ nx, lx.length = nx := ⟨_, rfl⟩
      rw [hnx] at hlx hxl hrx d0
      subst hxl
      have HRX := Lib.hid hrx
      have hlt2 : (k : Int) < (m : Int) := by omega
      have HM : Hid (∀ W, W.cell? (ad.add k) = some (.slice Ax nx cx) ∧ Fr (fun _ => False) wr W → Calls Tryz.prog 164 #[.int .i64 (k : Int), .int .i64 0, .int .i64 (nx : Int)] W fun r w'' => ∃ A c, r = .returned (.slice A nx c) ∧ w''.ownsRow wr.heap.size 95 3 (.slice A nx c) nx (scells (marksS k 0 nx)) ∧ w''.cell? (ad.add k) = some (.slice Ax nx cx) ∧ Fr (fun _ => False) wr w'') := fun W hW => by
        refine (markS_any k 0 nx (by omega) (by omega) (by omega) W).mono ?_
        rintro r w'' ⟨A, c, e, ho, b⟩
        exact ⟨A, c, e, own_le ho hW.2.size, (Fr.b0 b).cell hW.1 (fun h => h), hW.2.trans (Fr.b0 b) (fun _ h => h.elim)⟩
      have HS : Hid (∀ W A c, Fr (fun _ => False) wr W → W.ownsRow wr.heap.size 95 3 (.slice A nx c) nx (scells (marksS k 0 nx)) → Calls Tryz.prog 67 #[.slice Ax nx cx, .slice A nx c] W fun r w'' => r = .returned (.bool true) ∧ w''.cell? (ad.add k) = some (.slice Ax nx cx) ∧ Fr (fun _ => False) wr w'') := fun W A c hf h => by
        refine (samesamps_eq (marksS k 0 nx) _ _ _ _ _ W (HRX.out.fr0 hf) (Rd.of_own h) (by omega)).mono ?_
        rintro r w'' ⟨e, b⟩
        have hf2 : Fr (fun _ => False) wr w'' := hf.trans (Fr.b0 b) (fun _ h => h.elim)
        exact ⟨e, hf2.cell d0 (fun h => h), hf2⟩
      clear hx hnx hrx ho
      go_wp2_with fail
      go_region_held3 (fun w' => w'.cell? (ad.add k) = some (.slice Ax nx cx) ∧ Fr (fun _ => False) wr w') (first | exact ⟨d0, (Fr.refl _ wr).drew⟩ | assumption | exact ⟨by assumption, by assumption⟩) (first | (go_at_call 164; refine (HM.out _ (by first | assumption | exact ⟨by assumption, by assumption⟩)).mono ?_; rintro r w5 ⟨M, cm, rfl, om, q5, f5⟩) | (go_at_call 67; refine (HS.out _ _ _ (by assumption) (by assumption)).mono ?_; rintro r w6 ⟨rfl, q6, f6⟩))
      go_wp2
      go_roundw
      case rel => exact ⟨k + 1, by omega, by go_num, Ho.out.skip (by assumption)⟩
      case measure => simp [intOf]; omega
    · obtain rfl : k = m := by omega
      clear ho
      go_wp2_with fail
      go_ret
      exact ⟨rfl, Ho.out.bel⟩

set_option maxRecDepth 100000 in
set_option maxHeartbeats 8000000 in
theorem growS_any (g : Nat) (cs : Array Value) (base : Nat) (V : Value) (hs : List (HV SampV)) (w : World) (hb : Blk w g 49 cs) (hV : cs[6]? = some V) (hbase : base ≤ w.heap.size)
    (hL : Lists SampV.cells w base 95 3 hs) (hrow : w.ownsRow base 50 1 V hs.length (hs.map HV.v)) (hn : hs.length ≤ 1000) (hl : ∀ h ∈ hs, h.l.length ≤ 1000000)
    (hmk : ∀ (i : Nat) (h : HV SampV), hs[i]? = some h → h.l = marksS i 0 h.l.length) :
    Calls Tryz.prog 99 #[.pointer (some ⟨g, 0, none⟩)] w fun r w' => ∃ (O : Option Addr) (co : Nat) (gs : List (HV SampV)), r = .returned (.slice O hs.length co) ∧ w'.ownsRow w.heap.size 50 1 (.slice O hs.length co) hs.length (gs.map HV.v) ∧ gs.length = hs.length ∧ (∀ h ∈ gs, Reads SampV.cells w' 3 h) ∧ (∀ h ∈ hs, Reads SampV.cells w' 3 h) ∧
      (∀ h ∈ gs, h.l.length ≤ 1000072) ∧ (∀ (i : Nat) (h : HV SampV), gs[i]? = some h → h.l = marksS i 0 h.l.length) ∧ (∀ h ∈ gs, ∀ b, rowF h.v b → listsF hs b ∨ w.heap.size ≤ b) ∧ Fr (listsF hs) w w' := by
  obtain ⟨RA, rc, rfl, _, _, hR⟩ := own_slice hrow
  have HB := Lib.hid hb
  have HLs := Lib.hid hL
  have HRow := Lib.hid hrow
  have HL := Lib.hid hl
  have HMk := Lib.hid hmk
  obtain ⟨m, hm⟩ : ∃ m, hs.length = m := ⟨_, rfl⟩
  rw [hm] at HRow hn hV ⊢
  have HV0 := Lib.hid hV
  have HBs := Lib.hid hbase
  have OB := Lib.hid (Off.lists hL (ts := [49, 50]) (by decide))
  obtain ⟨i0, hi0, hz0, hz1, hz2⟩ := info_parts info_sS
  obtain ⟨j0, hj0, hy0, hy1, hy2⟩ := info_parts info_samp
  have HLen := Lib.hid hm
  clear hb hV hL hrow hl hR hm hbase hmk
  go_enter Tryz.func99, Tryz.ntmps99
  go_wp2_with fail
  go_loopw [3, 4] (fun o i wr => ∃ (k : Nat) (O : Option Addr) (co : Nat) (gs : List (HV SampV)), k ≤ m ∧ i = .int .i64 k ∧ o = .slice O k co ∧ Hid (gs.length = k) ∧ wr.ownsRow w.heap.size 50 1 (.slice O k co) k (gs.map HV.v) ∧ Grown SampV.cells wr base 95 3 (fun i n => marksS i 0 n) w.heap.size hs gs ∧
      Hid (∀ (i : Nat) (h : HV SampV), k ≤ i → hs[i]? = some h → wr.ownsRow base 95 3 h.v h.l.length (h.l.flatMap SampV.cells)) ∧ Fr (listsF hs) w wr) (fun _ i _ => m - (intOf i).toNat)
  case atStart => exact ⟨0, none, 0, [], Nat.zero_le _, rfl, rfl, rfl, World.ownsRow_nil _ _ _ _, Grown.start fun h hh => Reads.of_own (HLs.out.own h hh), fun i h _ hh => HLs.out.own h (mem_of_get hh), Fr.refl _ _⟩
  case round =>
    obtain ⟨k, O, co, gs, hk, rfl, rfl, hgl, hrow, hgr, hown, hf2⟩ := hrel
    have HO2 := Lib.hid hrow
    have HG := Lib.hid hgr
    have HF2 := Lib.hid hf2
    have hB := OB.out.blkf HB.out (by decide) hf2
    have hR2 := OB.out.own HRow.out (by decide) hf2
    have c0 := hB.cell 6
    rw [HV0.out] at c0
    have HB2 := Lib.hid hB
    clear hB hrow hgr hf2
    by_cases hlt : k < m
    · obtain ⟨ad, x, rfl, hx, d0⟩ := (Rd.of_own hR2).at_map hlt
      have hlx := HL.out x (mem_of_get hx)
      have ox := hown.out k x (Nat.le_refl _) hx
      have hxl := HMk.out k x hx
      have HX := Lib.hid hx
      obtain ⟨vx, lx⟩ := x
      simp only at d0 ox hlx hxl
      obtain ⟨Ax, cx, rfl, hcx, hcx2, _⟩ := own_slice ox
      obtain ⟨nx, hnx⟩ : ∃ nx, lx.length = nx := ⟨_, rfl⟩
      rw [hnx] at d0 ox hlx hcx hxl HX
      subst hxl
      have HOX := Lib.hid ox
      have hhx := Lib.hid (own_head ox)
      have HMK : Hid (∀ (j q : Nat) w', j ≤ 1001000 → q ≤ 1000 → Calls Tryz.prog 164 #[.int .i64 (k : Int), .int .i64 (j : Int), .int .i64 (q : Int)] w' fun r w'' => ∃ A c, r = .returned (.slice A q c) ∧ w''.ownsRow w'.heap.size 95 3 (.slice A q c) q (scells (marksS k j q)) ∧ Below w'.heap.size w' w'') := fun j q w' hj hq => markS_any k j q (by omega) (by omega) (by omega) w'
      obtain ⟨wo, hwo⟩ : ∃ wo : World, wo = wr := ⟨_, rfl⟩
      have hlt2 : (k : Int) < (m : Int) := by omega
      clear hx ox hR2
      go_wp2_with fail
      rw [← hwo] at HO2 HG hown HF2 HB2 HOX ⊢
      clear c0 d0 hwo
      go_loopw [5, 6] (fun l j wr => ∃ (jj q : Nat) (A : Option Addr) (c : Nat), jj ≤ 12 ∧ j = .int .i64 jj ∧ q ≤ 1000012 ∧ Hid (q = nx + jj) ∧ l = .slice A q c ∧ wr.ownsRow base 95 3 (.slice A q c) q ((marksS k 0 q).flatMap SampV.cells) ∧ Rd wr 3 Ax nx ((marksS k 0 nx).flatMap SampV.cells) ∧ Mv (rowF (.slice Ax nx cx)) (rowF (.slice A q c)) wo wr) (fun _ j _ => 12 - (intOf j).toNat)
      case atStart => exact ⟨0, nx, Ax, cx, by omega, rfl, by omega, rfl, rfl, HOX.out, Rd.of_own HOX.out, Mv.refl _ _⟩
      case round =>
        obtain ⟨jj, q, A, c, hjj, rfl, hq, hqn, rfl, hol, hrx, hmv⟩ := hrel
        have HOL := Lib.hid hol
        have HRX := Lib.hid hrx
        have HMV := Lib.hid hmv
        have hha := Lib.hid (own_head hol)
        have hbs := Lib.hid hmv.size
        have hbw : Hid (base ≤ wo.heap.size) := by have := HF2.out.size; have := HBs.out; show _ ≤ _; omega
        clear hol hrx hmv
        by_cases hlj : jj < 12
        · have hmk1 : Hid ((marksS k 0 (q + 1)).flatMap SampV.cells = (marksS k 0 q).flatMap SampV.cells ++ scells (marksS k q 1)) := by
            show _ = _
            rw [marksS_add, List.flatMap_append, Nat.zero_add]; rfl
          have hpre : Hid (((marksS k 0 q).flatMap SampV.cells).take (nx * 3) = (marksS k 0 nx).flatMap SampV.cells) := by
            show _ = _
            rw [hqn.out, marksS_add, List.flatMap_append, List.take_left' (by rw [vflat_len samp_len, marksS_len])]
          go_wp2_with fail
          refine (HMK.out q 1 wr (by omega) (by omega)).mono ?_
          rintro r w5 ⟨M, cm, rfl, om, b5⟩
          have OM := Lib.hid om
          have B5 := Lib.hid b5
          have hs5 := Lib.hid b5.size
          clear om b5
          go_wp2_with (at_builtin; refine wpList_app2 rfl _ _ 50 rfl 95 j0 _ 3 32 Tryz.underlying50 hj0 hy0 hy1 hy2 rfl (by decide) (.slice A q c) q _ rfl base (by have := hs5.out; have := hbs.out; have := hbw.out; omega) (own_fr0 HOL.out (Fr.b0 B5.out)) M 1 cm (scells (marksS k q 1)) rfl (Rd.of_own OM.out) (scells_one _) ?q1 ?q2 ?_)
          case q1 => unfold maxLen; omega
          case q2 => omega
          intro A6 c6 w6 ho6 hm6 hk6
          have HO6 := Lib.hid ho6
          have HM6 := Lib.hid hm6
          have HK6 := Lib.hid hk6
          clear ho6 hm6 hk6
          go_wp2
          go_roundw
          case rel =>
            refine ⟨jj + 1, q + 1, A6, c6, by omega, by go_num, by have := hqn.out; omega, by have := hqn.out; show _ = _; omega, by go_num, ?_, ?_, (HMV.out.skip (Fr.b0 B5.out)).trans HM6.out⟩
            · rw [hmk1.out]; exact HO6.out
            · exact keep_head hhx.out (HRX.out.fr0 (Fr.b0 B5.out)) hha.out HM6.out.fr HK6.out (by have := hqn.out; omega) hpre.out
          case measure => simp [intOf]; omega
        · obtain rfl : jj = 12 := by omega
          have hmk1 : Hid ((marksS k 0 (q + 60)).flatMap SampV.cells = (marksS k 0 q).flatMap SampV.cells ++ scells (marksS k q 60)) := by
            show _ = _
            rw [marksS_add, List.flatMap_append, Nat.zero_add]; rfl
          have hpre : Hid (((marksS k 0 q).flatMap SampV.cells).take (nx * 3) = (marksS k 0 nx).flatMap SampV.cells) := by
            show _ = _
            rw [hqn.out, marksS_add, List.flatMap_append, List.take_left' (by rw [vflat_len samp_len, marksS_len])]
          go_wp2_with fail
          refine (HMK.out q 60 wr (by omega) (by omega)).mono ?_
          rintro r w5 ⟨M, cm, rfl, om, b5⟩
          have OM := Lib.hid om
          have B5 := Lib.hid b5
          have hs5 := Lib.hid b5.size
          clear om b5
          go_wp2_with (at_builtin; refine wpList_app2 rfl (.tmp 34) (.tmp 38) 50 rfl 95 j0 _ 3 32 Tryz.underlying50 hj0 hy0 hy1 hy2 rfl (by decide) (.slice A q c) q _ rfl base (by have := hs5.out; have := hbs.out; have := hbw.out; omega) (own_fr0 HOL.out (Fr.b0 B5.out)) M 60 cm (scells (marksS k q 60)) rfl (Rd.of_own OM.out) (scells_one _) ?q1 ?q2 ?_)
          case q1 => unfold maxLen; omega
          case q2 => omega
          intro A7 c7 w7 ho7 hm7 hk7
          have HM7 := Lib.hid ((HMV.out.skip (Fr.b0 B5.out)).trans hm7)
          have HX7 : Hid (Rd w7 3 Ax nx ((marksS k 0 nx).flatMap SampV.cells)) := keep_head hhx.out (HRX.out.fr0 (Fr.b0 B5.out)) hha.out hm7.fr hk7 (by have := hqn.out; omega) hpre.out
          have HO7 : Hid (w7.ownsRow base 95 3 (.slice A7 (q + 60) c7) (q + 60) ((marksS k 0 (q + 60)).flatMap SampV.cells)) := by show World.ownsRow _ _ _ _ _ _ _; rw [hmk1.out]; exact ho7
          have HR7 : Hid (w7.ownsRow w.heap.size 50 1 (.slice O k co) k (gs.map HV.v)) := (Off.row HOX.out (ts := [50]) (by decide)).own HO2.out (by decide) HM7.out.fr
          have hs7 := Lib.hid HM7.out.size
          have hw0 := Lib.hid HF2.out.size
          have HG7 : Hid (Grown SampV.cells w7 base 95 3 (fun i n => marksS i 0 n) w.heap.size hs (gs ++ [⟨.slice A7 (q + 60) c7, marksS k 0 (q + 60)⟩])) := by
            refine HG.out.step HX.out hgl.out HLs.out.apart (fun i hi => ?_) hw0.out HM7.out ?_ ?_ ?_ ?_
            · exact own_lt (HLs.out.own _ (mem_of_get HX.out)) i hi
            · refine ⟨Ax, cx, ?_, ?_, hhx.out⟩
              · simp only [marksS_len]
              · simp only [marksS_len]; exact HX7.out
            · simp only [marksS_len]; exact HO7.out
            · simp only [marksS_len]; have := hqn.out; omega
            · simp only [marksS_len]
          clear ho7 hm7 hk7
          go_wp2_with (at_builtin; refine wpList_app2 rfl (.tmp 33) (.tmp 40) 43 rfl 50 i0 _ 1 24 Tryz.underlying43 hi0 hz0 hz1 hz2 rfl (by decide) (.slice O k co) k _ rfl w.heap.size (by have := hs7.out; have := hw0.out; simp; omega) (own_fr0 HR7.out (Fr.none_alloc _ _)) (some ⟨w7.heap.size, 0, none⟩) 1 1 [.slice A7 (q + 60) c7] rfl (Rd.newS (by simp) _ _ _ _ rfl) (by simp [Value.oneCell']) ?q1 ?q2 ?_)
          case q1 => unfold maxLen; omega
          case q2 => omega
          intro O8 c8 w8 ho8 hm8 _
          have HO8 := Lib.hid ho8
          have F8 : Fr (rowF (.slice O k co)) w7 w8 := ((Fr.none_alloc w7 (.cells #[.slice A7 (q + 60) c7] 50)).mono (fun _ h => h.elim)).trans hm8.fr (fun i hi => .inl hi)
          have HG8 : Hid (Grown SampV.cells w8 base 95 3 (fun i n => marksS i 0 n) w.heap.size hs (gs ++ [⟨.slice A7 (q + 60) c7, marksS k 0 (q + 60)⟩])) := by
            refine HG7.out.fr F8 (Off.row HR7.out (by decide)) (fun i hi => (HR7.out.lt i hi).1) (fun i ⟨x, hx, hi⟩ => own_lt (HLs.out.own x hx) i hi)
          have HF8 : Hid (Fr (listsF hs) w w8) := (HF2.out.trans HM7.out.fr (fun i hi => .inl ⟨_, mem_of_get HX.out, hi⟩)).trans F8 (fun i hi => .inr (HR7.out.lt i hi).1)
          have HW8 : Hid (∀ (i : Nat) (h : HV SampV), k + 1 ≤ i → hs[i]? = some h → w8.ownsRow base 95 3 h.v h.l.length (h.l.flatMap SampV.cells)) := fun i h hik hi => by
            refine (Off.row HR7.out (ts := [95]) (by decide)).own ?_ (by decide) F8
            exact own_fr (hown.out i h (by omega) hi) HM7.out.fr (apart_ne HLs.out.apart hi HX.out (by omega))
          have hgl2 : Hid ((gs ++ [(⟨.slice A7 (q + 60) c7, marksS k 0 (q + 60)⟩ : HV SampV)]).length = k + 1) := by show _ = _; rw [List.length_append, hgl.out]; rfl
          clear ho8 hm8 F8
          go_wp2
          go_roundw
          case rel =>
            refine ⟨k + 1, O8, c8, gs ++ [⟨.slice A7 (q + 60) c7, marksS k 0 (q + 60)⟩], by omega, by go_num, by go_num, hgl2, ?_, HG8.out, HW8.out, HF8.out⟩
            simpa using HO8.out
          case measure => simp [intOf]; omega
    · obtain rfl : k = m := by omega
      go_wp2_with fail
      go_ret
      exact ⟨O, co, gs, rfl, HO2.out, by rw [hgl.out], fun h hh => Reads.of_own (HG.out.2.1 h hh), HG.out.1, HG.out.2.2.1 (fun h hh => HL.out h hh), HG.out.2.2.2.1, HG.out.whence (by rw [hgl.out, HLen.out]), HF2.out⟩
end Go.Proofs.YtbblmmneeafhgaaGreat
namespace Go.Proofs.YtbblmmneeafhgaaGreat
set_option linter.all false
open Go.RowKit
def mrkR (i k : Nat) : RecV := ⟨{ data := #[] }, -1000 * (i : Int) - (k : Int) - 1, ⟨0, 0, 0, 0, 0⟩⟩
theorem info_sR : (Tryz.prog.info? 51).map (fun i => (i.zero, i.size, i.bytes)) = some (some (.slice none 0 0), 1, 24) := by kernel_rfl
def marksR (i b n : Nat) : List RecV := (List.range n).map fun j => mrkR i (b + j)
theorem marksR_len (i b n : Nat) : (marksR i b n).length = n := by simp [marksR]
theorem marksR_snoc (i b n : Nat) : marksR i b (n + 1) = marksR i b n ++ [mrkR i (b + n)] := by simp [marksR, List.range_succ]
theorem marksR_add (i b m : Nat) : ∀ n, marksR i b (m + n) = marksR i b m ++ marksR i (b + m) n
  | 0 => by simp [marksR]
  | n + 1 => by rw [← Nat.add_assoc, marksR_snoc, marksR_add i b m n, marksR_snoc, List.append_assoc, Nat.add_assoc]
theorem csR_len (l : List RecV) : (rcells l).length = l.length * 7 := vflat_len rec_len l

set_option maxRecDepth 100000 in
set_option maxHeartbeats 4000000 in
theorem markR_any (i b n : Nat) (hi : i ≤ 1000) (hb : b ≤ 17179869184) (hn : n ≤ 17179869184) (w : World) :
    Calls Tryz.prog 163 #[.int .i64 (i : Int), .int .i64 (b : Int), .int .i64 (n : Int)] w fun r w' => ∃ A c, r = .returned (.slice A n c) ∧ w'.ownsRow w.heap.size 100 7 (.slice A n c) n (rcells (marksR i b n)) ∧ Below w.heap.size w w' := by
  obtain ⟨i0, hi0, hz0, hz1, hz2⟩ := info_parts info_rec
  go_enter Tryz.func163, Tryz.ntmps163
  go_wp2_with fail
  go_loopw [7, 8] (fun o i' wr => ∃ (k j : Nat) (R : Option Addr) (cs : Nat), k ≤ n ∧ i' = .int .i64 j ∧ Hid (j = b + k) ∧ o = .slice R k cs ∧ wr.ownsRow w.heap.size 100 7 (.slice R k cs) k (rcells (marksR i b k)) ∧ Own w wr (rowF (.slice R k cs))) (fun _ i' _ => b + n - (intOf i').toNat)
  case atStart => exact ⟨0, b, none, 0, Nat.zero_le _, rfl, rfl, rfl, World.ownsRow_nil _ _ _ _, (Own.start w).also (fun k hk => by cases hk)⟩
  case round =>
    obtain ⟨k, j, R, cs, hk, rfl, hj, rfl, hrow, ho⟩ := hrel
    have Hrow := Lib.hid hrow
    have Ho := Lib.hid ho
    have hwr := Lib.hid ho.bel.size
    clear hrow ho
    have hjb : j ≤ 34359738368 := by have := hj.out; omega
    by_cases hlt : k < n
    · have hjn : (j : Int) < (b : Int) + (n : Int) := by have := hj.out; omega
      have Hs : Hid (rcells (marksR i b (k + 1)) = rcells (marksR i b k) ++ [.string { data := #[] }, .int .i64 (-1000 * (i : Int) - (j : Int) - 1), .int .i64 0, .int .i64 0, .int .u64 0, .int .i64 0, .int .i64 0]) := by
        show _ = _
        rw [marksR_snoc, hj.out.symm]; unfold rcells; rw [List.flatMap_append]; simp [mrkR, RecV.cells]
      go_wp2_with (at_builtin; refine wpList_app2 rfl _ _ 51 rfl 100 i0 _ 7 64 Tryz.underlying51 hi0 hz0 hz1 hz2 rfl (by decide) (.slice R k cs) k _ rfl w.heap.size (by have := hwr.out; simp; omega) (own_fr0 Hrow.out (Fr.none_alloc _ _)) (some ⟨wr.heap.size, 0, none⟩) 1 1 [.string { data := #[] }, .int .i64 (-1000 * (i : Int) - (j : Int) - 1), .int .i64 0, .int .i64 0, .int .u64 0, .int .i64 0, .int .i64 0] rfl (Rd.newS (by simp) _ _ _ _ rfl) (by simp [Value.oneCell']) ?q1 ?q2 ?_)
      case q1 => unfold maxLen; omega
      case q2 => omega
      intro R6 c6 w6 ho6 hm6 _
      have Ho6 := Lib.hid ho6
      have Hm6 := Lib.hid hm6
      clear ho6 hm6
      go_wp2
      go_roundw
      case rel =>
        refine ⟨k + 1, j + 1, R6, c6, by omega, by go_num, by have := hj.out; show _ = _; omega, by go_num, ?_, (Ho.out.skip (Fr.none_alloc _ _)).mv Hm6.out⟩
        rw [Hs.out]
        exact Ho6.out
      case measure => simp [intOf]; omega
    · obtain rfl : k = n := by omega
      have hje : ¬ (j : Int) < (b : Int) + (k : Int) := by have := hj.out; omega
      go_wp2_with fail
      go_ret
      exact ⟨R, cs, rfl, Hrow.out, Ho.out.bel⟩

set_option maxHeartbeats 1000000 in
theorem copyR_any (l : List RecV) (A : Option Addr) (n c : Nat) (w : World) (hr : Rd w 7 A n (rcells l)) (hn : n ≤ 17179869184) :
    Calls Tryz.prog 74 #[.slice A n c] w fun r w' => ∃ B d, r = .returned (.slice B n d) ∧ w'.ownsRow w.heap.size 100 7 (.slice B n d) n (rcells l) ∧ Below w.heap.size w w' := by
  obtain ⟨i0, hi0, hz0, hz1, hz2⟩ := info_parts info_rec
  have Hr := Lib.hid hr
  clear hr
  go_enter Tryz.func74, Tryz.ntmps74
  go_wp2_with (at_builtin; refine wpList_app2 rfl _ _ 51 rfl 100 i0 _ 7 64 Tryz.underlying51 hi0 hz0 hz1 hz2 rfl (by decide) (.slice none 0 0) 0 [] rfl w.heap.size (Nat.le_refl _) (World.ownsRow_nil _ _ _ _) A n c (rcells l) rfl Hr.out (rcells_one l) ?q1 ?q2 ?_)
  case q1 => unfold maxLen; omega
  case q2 => omega
  intro R6 c6 w6 ho6 hm6 _
  (try simp only [Nat.zero_add, List.nil_append] at ho6)
  (try simp only [Nat.zero_add] at hm6)
  (try rw [Nat.zero_add])
  have Ho6 := Lib.hid ho6
  have Hm6 := Lib.hid hm6
  clear ho6 hm6
  go_wp2_with fail
  go_ret
  exact ⟨R6, c6, rfl, Ho6.out, (((Own.start w).also (G := rowF (.slice none 0 0)) (fun k hk => by cases hk)).mv Hm6.out).bel⟩

set_option maxRecDepth 100000 in
set_option maxHeartbeats 4000000 in
theorem stillR_any (g : Nat) (cs : Array Value) (base : Nat) (V U : Value) (hs us : List (HV RecV)) (w : World) (hb : Blk w g 49 cs) (hV : cs[4]? = some V) (hU : cs[5]? = some U)
    (hk : Kind RecV.cells w base 51 100 7 V U hs us) (hn : hs.length ≤ 1000) (hl : ∀ h ∈ hs, h.l.length ≤ 1000000) :
    Calls Tryz.prog 82 #[.pointer (some ⟨g, 0, none⟩)] w fun r w' => r = .returned (.bool true) ∧ Below w.heap.size w w' := by
  have HB := Lib.hid hb
  have HV0 := Lib.hid hV
  have HU0 := Lib.hid hU
  have HK := Lib.hid hk
  have HL := Lib.hid hl
  have hln := hk.len
  obtain ⟨RA, rc, rfl, _, _, hR⟩ := own_slice hk.row
  obtain ⟨UA, uc, rfl, _, _, hU2⟩ := own_slice hk.wrow
  rw [hln] at hU2 HU0 HK
  have HR := Lib.hid hR
  have HU := Lib.hid hU2
  obtain ⟨m, hm⟩ : ∃ m, hs.length = m := ⟨_, rfl⟩
  rw [hm] at HR HU HV0 HU0 HK hn
  have Hm := Lib.hid hm
  have Hln := Lib.hid hln
  clear hb hV hU hk hl hR hU2 hm hln
  go_enter Tryz.func82, Tryz.ntmps82
  go_wp2_with fail
  go_loopw [3] (fun i wr => ∃ k : Nat, k ≤ m ∧ i = .int .i64 k ∧ Own w wr (fun _ => False)) (fun i _ => m - (intOf i).toNat)
  case atStart => exact ⟨0, Nat.zero_le _, rfl, Own.start w⟩
  case round =>
    obtain ⟨k, hk, rfl, ho⟩ := hrel
    have Ho := Lib.hid ho
    have hB := HB.out.below ho.bel
    have c0 := hB.cell 4
    have c1 := hB.cell 5
    rw [HV0.out] at c0
    rw [HU0.out] at c1
    clear hB
    by_cases hlt : k < m
    · obtain ⟨ad, x, rfl, hx, d0⟩ := (HR.out.fr0 (Fr.b0 ho.bel)).at_map hlt
      obtain ⟨bd, y, rfl, hy, d1⟩ := (HU.out.fr0 (Fr.b0 ho.bel)).at_map hlt
      have hlx := HL.out x (mem_of_get hx)
      have hyx : y.l = x.l := by
        have h1 : (us.map HV.l)[k]? = (hs.map HV.l)[k]? := by rw [HK.out.same]
        rw [List.getElem?_map, List.getElem?_map, hx, hy] at h1
        exact Option.some.inj h1
      have ox := own_fr0 (HK.out.lists.own x (mem_of_get hx)) (Fr.b0 ho.bel)
      have oy := own_fr0 (HK.out.was y (mem_of_get hy)) (Fr.b0 ho.bel)
      obtain ⟨vx, lx⟩ := x
      obtain ⟨vy, ly⟩ := y
      simp only at hyx d0 d1 ox oy hlx
      subst hyx
      obtain ⟨Ax, cx, rfl, _, _, rx⟩ := own_slice ox
      obtain ⟨Ay, cy, rfl, _, _, ry⟩ := own_slice oy
      have RX := Lib.hid (Rd.drew rx)
      have RY := Lib.hid (Rd.drew ry)
      have hlt2 : (k : Int) < (m : Int) := by omega
      clear hx hy ox oy rx ry ho
      go_wp2_with fail
      go_still_tail 14, (by kernel_rfl)
      repeat still_step
      try refine wpStill_nil ?_
      change wpList _ _ _ _ _ wr.drew
      have o1 := Lib.hid (Ho.out.skip ((Fr.refl _ wr).drew))
      clear c0 c1 d0 d1
      go_wp2_with fail
      refine (samerecs_eq ly _ _ _ _ _ wr.drew RX.out RY.out (by omega)).mono ?_
      rintro r w5 ⟨rfl, b5⟩
      have o5 := Lib.hid (o1.out.below b5)
      clear b5
      go_wp2
      go_roundw
      case rel => exact ⟨k + 1, by omega, by go_num, o5.out⟩
      case measure => simp [intOf]; omega
    · obtain rfl : k = m := by omega
      clear ho
      go_wp2_with fail
      go_ret
      exact ⟨rfl, Ho.out.bel⟩

set_option maxRecDepth 100000 in
set_option maxHeartbeats 4000000 in
theorem addR_any (g : Nat) (cs : Array Value) (base : Nat) (V U : Value) (hs us : List (HV RecV)) (l : List RecV) (A : Option Addr) (n c : Nat) (w : World) (hb : Blk w g 49 cs) (hV : cs[4]? = some V) (hU : cs[5]? = some U)
    (hk : Kind RecV.cells w base 51 100 7 V U hs us) (hn : hs.length < 250) (ho : w.ownsRow base 100 7 (.slice A n c) n (rcells l)) (hl : n ≤ 1000000) (hbase : base ≤ w.heap.size) (hd : ∀ h ∈ hs, ∀ k, rowF h.v k → ¬ rowF (.slice A n c) k) :
    Calls Tryz.prog 27 #[.pointer (some ⟨g, 0, none⟩), .slice A n c] w fun r w' => r = .returned (.tuple #[]) ∧ ∃ V' U' B d, Blk w' g 49 ((cs.setIfInBounds 4 V').setIfInBounds 5 U') ∧ Kind RecV.cells w' base 51 100 7 V' U' (hs ++ [⟨.slice A n c, l⟩]) (us ++ [⟨.slice B n d, l⟩]) ∧ Fr (fun k => k = g ∨ rowF V k ∨ rowF U k) w w' ∧ (∀ k, rowF V' k → rowF V k ∨ w.heap.size ≤ k) ∧ (∀ k, rowF U' k → rowF U k ∨ w.heap.size ≤ k) ∧ ∀ k, rowF (.slice B n d) k → w.heap.size ≤ k := by
  have hln := hk.len
  have hsz : l.length = n := by have := ho.1; rw [csR_len] at this; omega
  obtain ⟨RA, rc, rfl, hrc1, hrc2, _⟩ := own_slice hk.row
  obtain ⟨UA, uc, rfl, huc1, huc2, _⟩ := own_slice hk.wrow
  have Hlen := Lib.hid hln
  obtain ⟨m, hm⟩ : ∃ m, hs.length = m := ⟨_, rfl⟩
  have HK := Lib.hid hk
  have HU0 := Lib.hid hk.row
  have HW0 := Lib.hid hk.wrow
  rw [hln] at HK HW0 hU
  rw [hm] at HK HU0 HW0 hn hV hU
  have Hm := Lib.hid hm
  have Hsz := Lib.hid hsz
  have HO := Lib.hid ho
  have HD := Lib.hid hd
  have HBs := Lib.hid hbase
  have HB := Lib.hid hb
  have c0 := hb.cell 4
  have f0 := hb.frozen 4
  rw [hV] at c0
  have hcs0 : 4 < cs.size := (Array.getElem?_eq_some_iff.1 hV).1
  have HUU := Lib.hid hU
  have HVV := Lib.hid hV
  obtain ⟨i0, hi0, hz0, hz1, hz2⟩ := info_parts info_sR
  clear hb hV hU hk ho hd hm hln hsz hbase
  go_enter Tryz.func27, Tryz.ntmps27
  go_wp2_with (at_builtin; refine wpList_app2 rfl _ _ 42 rfl 51 i0 _ 1 24 Tryz.underlying42 hi0 hz0 hz1 hz2 rfl (by decide) (.slice RA m rc) m _ rfl base (by have := HBs.out; simp; omega) (own_fr0 HU0.out (Fr.none_alloc _ _)) (some ⟨w.heap.size, 0, none⟩) 1 1 [.slice A n c] rfl (Rd.newS (by simp) _ _ _ _ rfl) (by simp [Value.oneCell']) ?q1 ?q2 ?_)
  case q1 => unfold maxLen; omega
  case q2 => omega
  intro R2 c2 w2 ho2 hm2 _
  have HO2 := Lib.hid ho2
  have HM2 := Lib.hid hm2
  have gV : ¬ rowF (.slice RA m rc) g := own_blk_ne HU0.out HB.out (by decide)
  have gU : ¬ rowF (.slice UA m uc) g := own_blk_ne HW0.out HB.out (by decide)
  have B2 := (HB.out.alloc (.cells #[.slice A n c] 51)).fr hm2.fr gV
  have gV2 : ¬ rowF (.slice R2 (m + 1) c2) g := own_blk_ne ho2 B2 (by decide)
  have c2' := B2.cell 4
  have f2' := B2.frozen 4
  rw [HVV.out] at c2'
  have HB2 := Lib.hid B2
  have GV := Lib.hid gV
  have GU := Lib.hid gU
  have GV2 := Lib.hid gV2
  have hc0 := Lib.hid hcs0
  clear ho2 hm2 gV gU gV2 B2 c0 f0 hcs0
  go_wp2_with fail
  obtain ⟨W3, hW3⟩ : ∃ W3, W3 = w2.setCell ⟨g, 4, none⟩ (.slice R2 (m + 1) c2) := ⟨_, rfl⟩
  rw [← hW3]
  have B3 : Blk W3 g 49 (cs.setIfInBounds 4 (.slice R2 (m + 1) c2)) := hW3 ▸ HB2.out.set_ 4 _
  have F3 : Fr (fun k => k = g ∨ rowF (.slice RA m rc) k ∨ rowF (.slice UA m uc) k) w W3 := by
    rw [hW3]
    exact (((Fr.none_alloc w (.cells #[.slice A n c] 51)).mono (fun _ h => h.elim)).trans HM2.out.fr (fun i hi => .inl (.inr (.inl hi)))).setCell (p := ⟨g, 4, none⟩) (.inl (.inl rfl)) _
  have R3 : W3.ownsRow base 51 1 (.slice R2 (m + 1) c2) (m + 1) (hs.map HV.v ++ [.slice A n c]) := by
    rw [hW3]
    exact own_fr HO2.out ((Fr.refl (fun k => k = g) w2).setCell (p := ⟨g, 4, none⟩) (.inl rfl) _) (fun k hk e => GV2.out (e ▸ hk))
  have U3 : W3.ownsRow base 51 1 (.slice UA m uc) m (us.map HV.v) := by
    refine own_fr (own_fr (own_fr0 HW0.out (Fr.none_alloc w (.cells #[.slice A n c] 51))) HM2.out.fr (fun k hk e => HK.out.uv k e hk)) (?_ : Fr (fun k => k = g) w2 W3) (fun k hk e => GU.out (e ▸ hk))
    rw [hW3]
    exact (Fr.refl (fun k => k = g) w2).setCell (p := ⟨g, 4, none⟩) (.inl rfl) _
  have V3 : ∀ k, rowF (.slice R2 (m + 1) c2) k → ¬ rowF (.slice UA m uc) k := fun k h1 h2 => by
    rcases HM2.out.sub k h1 with h3 | h3
    · exact HK.out.uv k h3 h2
    · have := own_lt HW0.out k h2
      simp at h3
      omega
  have L3 : W3.ownsRow base 100 7 (.slice A n c) n (rcells l) := by
    refine (Off.or (Off.blk HB.out (by decide)) (Off.or (Off.row HU0.out (by decide)) (Off.row HW0.out (by decide)))).own (ts := [100]) HO.out (by decide) F3
  have e1 : W3.drew.cell? ⟨g, 5, none⟩ = some (.slice UA m uc) := by
    have := B3.cell 5
    rwa [Array.getElem?_setIfInBounds_ne (by decide), HUU.out] at this
  have HB3 := Lib.hid (show Blk W3.drew g 49 (cs.setIfInBounds 4 (.slice R2 (m + 1) c2)) from B3)
  have HF3 := Lib.hid (F3.drew)
  have HR3 := Lib.hid (show W3.drew.ownsRow base 51 1 (.slice R2 (m + 1) c2) (m + 1) (hs.map HV.v ++ [.slice A n c]) from own_fr0 R3 ((Fr.refl (fun _ => False) W3).drew))
  have HU3 := Lib.hid (show W3.drew.ownsRow base 51 1 (.slice UA m uc) m (us.map HV.v) from own_fr0 U3 ((Fr.refl (fun _ => False) W3).drew))
  have HL3 := Lib.hid (show W3.drew.ownsRow base 100 7 (.slice A n c) n (rcells l) from own_fr0 L3 ((Fr.refl (fun _ => False) W3).drew))
  have HV3 := Lib.hid V3
  have hbs3 := Lib.hid (show base ≤ W3.drew.heap.size by have := F3.size; have := HBs.out; show base ≤ W3.heap.size; omega)
  clear hW3 B3 F3 R3 U3 V3 L3 c2' f2'
  have hU1 : 5 < cs.size := (Array.getElem?_eq_some_iff.1 HUU.out).1
  have HP5 : Hid (∀ w5, Below W3.drew.heap.size W3.drew w5 → w5.cell? ⟨g, 5, none⟩ = some (.slice UA m uc)) := fun w5 h => (HB3.out.below h).cell 5 |>.trans (by rw [Array.getElem?_setIfInBounds_ne (by decide), HUU.out])
  have HP5' : Hid (∀ w5, Below W3.drew.heap.size W3.drew w5 → ∀ o, (w5.alloc o).cell? ⟨g, 5, none⟩ = some (.slice UA m uc)) := fun w5 h o => ((HB3.out.below h).alloc o).cell 5 |>.trans (by rw [Array.getElem?_setIfInBounds_ne (by decide), HUU.out])
  have HB6 : Hid (∀ w5, Below W3.drew.heap.size W3.drew w5 → ∀ o A6 c6 w6, Mv (rowF (.slice UA m uc)) (rowF (.slice A6 (m + 1) c6)) (w5.alloc o) w6 → Blk w6 g 49 (cs.setIfInBounds 4 (.slice R2 (m + 1) c2))) := fun w5 h o A6 c6 w6 hm => ((HB3.out.below h).alloc o).fr hm.fr GU.out
  have HP6 : Hid (∀ w5, Below W3.drew.heap.size W3.drew w5 → ∀ o A6 c6 w6, Mv (rowF (.slice UA m uc)) (rowF (.slice A6 (m + 1) c6)) (w5.alloc o) w6 → w6.cell? ⟨g, 5, none⟩ = some (.slice UA m uc)) := fun w5 h o A6 c6 w6 hm => (HB6.out w5 h o A6 c6 w6 hm).cell 5 |>.trans (by rw [Array.getElem?_setIfInBounds_ne (by decide), HUU.out])
  have HF6 : Hid (∀ w5, Below W3.drew.heap.size W3.drew w5 → ∀ o A6 c6 w6, Mv (rowF (.slice UA m uc)) (rowF (.slice A6 (m + 1) c6)) (w5.alloc o) w6 → w6.frozen? ⟨g, 5, none⟩ = false) := fun w5 h o A6 c6 w6 hm => (HB6.out w5 h o A6 c6 w6 hm).frozen 5
  have HZ : Hid (∀ w5, Below W3.drew.heap.size W3.drew w5 → ∀ B d, w5.ownsRow W3.drew.heap.size 100 7 (.slice B n d) n (rcells l) → ∀ o A6 c6 w6, w6.ownsRow base 51 1 (.slice A6 (m + 1) c6) (m + 1) (us.map HV.v ++ [.slice B n d]) → Mv (rowF (.slice UA m uc)) (rowF (.slice A6 (m + 1) c6)) (w5.alloc o) w6 →
      Blk (w6.setCell ⟨g, 5, none⟩ (.slice A6 (m + 1) c6)) g 49 ((cs.setIfInBounds 4 (.slice R2 (m + 1) c2)).setIfInBounds 5 (.slice A6 (m + 1) c6)) ∧ Kind RecV.cells (w6.setCell ⟨g, 5, none⟩ (.slice A6 (m + 1) c6)) base 51 100 7 (.slice R2 (m + 1) c2) (.slice A6 (m + 1) c6) (hs ++ [⟨.slice A n c, l⟩]) (us ++ [⟨.slice B n d, l⟩]) ∧ Fr (fun k => k = g ∨ rowF (.slice RA m rc) k ∨ rowF (.slice UA m uc) k) w (w6.setCell ⟨g, 5, none⟩ (.slice A6 (m + 1) c6)) ∧ (∀ k, rowF (.slice R2 (m + 1) c2) k → rowF (.slice RA m rc) k ∨ w.heap.size ≤ k) ∧ (∀ k, rowF (.slice A6 (m + 1) c6) k → rowF (.slice UA m uc) k ∨ w.heap.size ≤ k) ∧ ∀ k, rowF (.slice B n d) k → w.heap.size ≤ k) := by
    intro w5 h5 B d hB5 o A6 c6 w6 hown hm
    have hb6 := HB6.out w5 h5 o A6 c6 w6 hm
    have hne : ¬ rowF (.slice A6 (m + 1) c6) g := own_blk_ne hown hb6 (by decide)
    have hs7 : Fr (fun j => j = g) w6 (w6.setCell ⟨g, 5, none⟩ (.slice A6 (m + 1) c6)) := (Fr.refl (fun j => j = g) w6).setCell (p := ⟨g, 5, none⟩) (.inl rfl) _
    have f5 : Fr (fun _ => False) W3.drew (w5.alloc o) := (Fr.b0 h5).alloc o
    have f57 : Fr (fun k => k = g ∨ rowF (.slice UA m uc) k) (w5.alloc o) (w6.setCell ⟨g, 5, none⟩ (.slice A6 (m + 1) c6)) := (hm.fr.mono (fun i hi => .inl (.inr hi))).trans hs7 (fun i hi => .inl (.inl hi))
    have f37 : Fr (fun k => k = g ∨ rowF (.slice UA m uc) k) W3.drew (w6.setCell ⟨g, 5, none⟩ (.slice A6 (m + 1) c6)) := (f5.mono (fun _ h => h.elim)).trans f57 (fun i hi => .inl hi)
    have f07 : Fr (fun k => k = g ∨ rowF (.slice RA m rc) k ∨ rowF (.slice UA m uc) k) w (w6.setCell ⟨g, 5, none⟩ (.slice A6 (m + 1) c6)) := HF3.out.trans f37 (fun i hi => .inl (hi.imp id .inr))
    have off0 : Off w (fun k => k = g ∨ rowF (.slice RA m rc) k ∨ rowF (.slice UA m uc) k) [100] := Off.or (Off.blk HB.out (by decide)) (Off.or (Off.row HU0.out (by decide)) (Off.row HW0.out (by decide)))
    have off5 : Off (w5.alloc o) (fun k => k = g ∨ rowF (.slice UA m uc) k) [100] := Off.or (Off.blk ((HB3.out.below h5).alloc o) (by decide)) (Off.row (own_fr0 HU3.out f5) (by decide))
    have hsz35 : w.heap.size ≤ W3.drew.heap.size := HF3.out.size
    have hsz5 : W3.drew.heap.size ≤ (w5.alloc o).heap.size := f5.size
    refine ⟨hb6.set_ 5 _, Kind.add HK.out ?_ ?_ ?_ ?_ ?_ f07 off0 HD.out, f07, fun k hk => (HM2.out.sub k hk).imp id (fun h => by simp at h; omega), fun k hk => (hm.sub k hk).imp id (fun h => by omega), fun k hk => by have := (hB5.lt k hk).1; omega⟩
    · rw [Hm.out]
      refine own_fr (own_fr0 HR3.out f5) f57 (fun k hk e => ?_)
      rcases e with e | e
      · exact absurd (e ▸ hk) (own_blk_ne HR3.out HB3.out (by decide))
      · exact HV3.out k hk e
    · rw [Hlen.out, Hm.out]
      exact own_fr hown hs7 (fun k hk e => hne (e ▸ hk))
    · intro k h1 h2
      rcases hm.sub k h2 with h3 | h3
      · exact HV3.out k h1 h3
      · have := own_lt (own_fr0 HR3.out f5) k h1
        omega
    · rw [Hsz.out]
      exact off0.own HO.out (by decide) f07
    · rw [Hsz.out]
      exact own_le (off5.own (own_fr0 hB5 (Fr.none_alloc _ _)) (by decide) f57) hbs3.out
  have HC5 := Lib.hid (fun (_ : Unit) => copyR_any l A n c W3.drew (Rd.of_own HL3.out) (by omega))
  have hq1 : m + 1 ≤ maxLen := by unfold maxLen; omega
  have hq2 : (m + 1) * 24 ≤ 140737488355328 := by omega
  go_region_law (first
    | (refine step_app2 rfl (.tmp 24) (.tmp 27) 42 rfl 51 i0 (.slice none 0 0) 1 24 Tryz.underlying42 hi0 hz0 hz1 hz2 rfl (by decide) (.slice UA m uc) m _ rfl base (by have := hbs3.out; have := b5.size; simp; omega)
        (own_fr0 (own_fr0 HU3.out (Fr.b0 b5)) (Fr.none_alloc _ _)) (some ⟨w5.heap.size, 0, none⟩) 1 1 [.slice B n d] rfl (Rd.new w5 [.slice B n d] _ 1 rfl) (by simp [Value.oneCell']) hq1 hq2 ?_; intro A6 c6 w6 ho6 hm6 _; have q6 := HP6.out w5 b5 _ _ _ _ hm6; have f6 := HF6.out w5 b5 _ _ _ _ hm6)
    | (go_simp; go_at_call 74; refine (HC5.out ()).mono ?_; rintro r w5 ⟨B, d, rfl, ho5, b5⟩; have q5 := HP5.out w5 b5; have q5' := HP5'.out w5 b5; try dsimp only))
  all_goals (
    have hz := Lib.hid (HZ.out w5 b5 _ _ ho5 _ _ _ _ ho6 hm6)
    clear e1 q5 q5' q6 f6 ho6 hm6 b5 ho5
    go_wp2
    go_end0
    exact ⟨rfl, .slice R2 (m + 1) c2, .slice A6 (m + 1) c6, B, d, by rw [Hlen.out, Hm.out]; exact hz.out⟩)
end Go.Proofs.YtbblmmneeafhgaaGreat
namespace Go.Proofs.YtbblmmneeafhgaaGreat
set_option linter.all false
open Go.RowKit

set_option maxRecDepth 100000 in
set_option maxHeartbeats 8000000 in
theorem putR_any (g : Nat) (cs : Array Value) (base : Nat) (V : Value) (hs : List (HV RecV)) (w : World) (hb : Blk w g 49 cs) (hV : cs[4]? = some V) (hbase : base ≤ w.heap.size)
    (hL : Lists RecV.cells w base 100 7 hs) (hrow : w.ownsRow base 51 1 V hs.length (hs.map HV.v)) (hn : hs.length ≤ 1000) (hl : ∀ h ∈ hs, h.l.length ≤ 1000000) :
    Calls Tryz.prog 91 #[.pointer (some ⟨g, 0, none⟩)] w fun r w' => r = .returned (.tuple #[]) ∧ Lists RecV.cells w' base 100 7 (markedTo (fun i n => marksR i 0 n) hs.length hs) ∧ Fr (listsF hs) w w' := by
  obtain ⟨RA, rc, rfl, _, _, hR⟩ := own_slice hrow
  have HB := Lib.hid hb
  have HLs := Lib.hid hL
  have HRow := Lib.hid hrow
  have HL := Lib.hid hl
  obtain ⟨m, hm⟩ : ∃ m, hs.length = m := ⟨_, rfl⟩
  rw [hm] at HRow hn hV hR ⊢
  have HV0 := Lib.hid hV
  have HR := Lib.hid hR
  have HBs := Lib.hid hbase
  have OB := Lib.hid (Off.lists hL (ts := [49, 51]) (by decide))
  have HMk := Lib.hid (fun i n => marksR_len i 0 n)
  clear hb hV hL hrow hl hR hm hbase
  go_enter Tryz.func91, Tryz.ntmps91
  go_wp2_with fail
  go_loopw [2] (fun i wr => ∃ k : Nat, k ≤ m ∧ i = .int .i64 k ∧ Lists RecV.cells wr base 100 7 (markedTo (fun i n => marksR i 0 n) k hs) ∧ Fr (listsF hs) w wr) (fun i _ => m - (intOf i).toNat)
  case atStart => exact ⟨0, Nat.zero_le _, rfl, by rw [markedTo_zero]; exact HLs.out, Fr.refl _ _⟩
  case round =>
    obtain ⟨k, hk, rfl, hl2, hf2⟩ := hrel
    have HL2 := Lib.hid hl2
    have HF2 := Lib.hid hf2
    have hB := OB.out.blkf HB.out (by decide) hf2
    have hR2 := OB.out.own HRow.out (by decide) hf2
    have c0 := hB.cell 4
    rw [HV0.out] at c0
    have HB2 := Lib.hid hB
    have HR2 := Lib.hid hR2
    clear hB hl2 hf2
    by_cases hlt : k < m
    · obtain ⟨ad, x, rfl, hx, d0⟩ := (Rd.of_own hR2).at_map hlt
      have hlx := HL.out x (mem_of_get hx)
      have ox : wr.ownsRow base 100 7 x.v x.l.length (x.l.flatMap RecV.cells) := HL2.out.own x (by
        have := markedTo_get (mk := fun i n => marksR i 0 n) (k := k) hx
        rw [if_neg (Nat.lt_irrefl k)] at this
        exact mem_of_get this)
      have hxF : ∀ i, rowF x.v i → listsF hs i := fun i hi => ⟨x, mem_of_get hx, hi⟩
      have HX := Lib.hid hx
      obtain ⟨vx, lx⟩ := x
      simp only at d0 ox hlx hxF
      obtain ⟨Ax, cx, rfl, hcx, hcx2, _⟩ := own_slice ox
      obtain ⟨nx, hnx⟩ : ∃ nx, lx.length = nx := ⟨_, rfl⟩
      rw [hnx] at d0 ox hlx hcx hxF HX
      have HOX := Lib.hid ox
      have HNX := Lib.hid hnx
      have HXF := Lib.hid hxF
      have HMK : Hid (∀ w', Calls Tryz.prog 163 #[.int .i64 (k : Int), .int .i64 0, .int .i64 (nx : Int)] w' fun r w'' => ∃ A c, r = .returned (.slice A nx c) ∧ w''.ownsRow w'.heap.size 100 7 (.slice A nx c) nx (rcells (marksR k 0 nx)) ∧ Below w'.heap.size w' w'') := fun w' => by
        have := markR_any k 0 nx (by omega) (by omega) (by omega) w'
        exact this
      have hlt2 : (k : Int) < (m : Int) := by omega
      clear hx ox hnx hxF hR2
      go_wp2_with fail
      refine (HMK.out wr).mono ?_
      rintro r w5 ⟨M, cm, rfl, om, b5⟩
      have OM := Lib.hid om
      have B5 := Lib.hid (HB2.out.below b5)
      have R5 := Lib.hid (own_fr0 HR2.out (Fr.b0 b5))
      have OX5 := Lib.hid (own_fr0 HOX.out (Fr.b0 b5))
      have F5 := Lib.hid (HF2.out.trans (Fr.b0 b5) (fun _ h => h.elim))
      have BB5 := Lib.hid b5
      have hMX : Hid (∀ i, rowF (.slice M nx cm) i → ¬ rowF (.slice Ax nx cx) i) := fun i h1 h2 => by
        have := own_lt HOX.out i h2
        have := (OM.out.lt i h1).1
        omega
      clear om b5 c0 d0 HB2 HR2
      go_wp2_with fail
      go_loopw [4] (fun j w2 => ∃ jj : Nat, jj ≤ nx ∧ j = .int .i64 jj ∧ w2.ownsRow base 100 7 (.slice Ax nx cx) nx (((marksR k 0 nx).take jj ++ lx.drop jj).flatMap RecV.cells) ∧ Fr (rowF (.slice Ax nx cx)) w5 w2) (fun j _ => nx - (intOf j).toNat)
      case atStart => exact ⟨0, Nat.zero_le _, rfl, by simpa using OX5.out, Fr.refl _ _⟩
      case round =>
        obtain ⟨jj, hjj, rfl, ho2, hf3⟩ := hrel
        have HX2 := Lib.hid ho2
        have HF3 := Lib.hid hf3
        have RX5 : Off w5 (rowF (.slice Ax nx cx)) [49, 51] := Off.row OX5.out (by decide)
        have B6 := RX5.blkf B5.out (by decide) hf3
        have R6 := RX5.own R5.out (by decide) hf3
        have M6 := own_fr OM.out hf3 hMX.out
        clear RX5
        by_cases hlj : jj < nx
        · have c0 := B6.cell 4
          rw [HV0.out] at c0
          obtain ⟨ad2, x2, e2, hx2, d0⟩ := (Rd.of_own R6).at_map hlt
          injection e2 with e2
          subst e2
          have hx3 := HX.out
          rw [hx2] at hx3
          injection hx3 with hx3
          subst hx3
          obtain ⟨md, y, rfl, hy, e0, e1, e2, e3, e4, e5, e6⟩ := (Rd.of_own M6).rec_ hlj
          have HY := Lib.hid hy
          obtain ⟨gx, cap, hform, hgx, _⟩ := HX2.out.form (by omega)
          injection hform with h1 h2 h3
          subst h1
          subst h3
          have hlenX : (((marksR k 0 nx).take jj ++ lx.drop jj).flatMap RecV.cells).length = nx * 7 := HX2.out.1
          obtain ⟨q0, hq0⟩ : ∃ q, (((marksR k 0 nx).take jj ++ lx.drop jj).flatMap RecV.cells)[jj * 7]? = some q := ⟨_, List.getElem?_eq_getElem (by rw [hlenX]; omega)⟩
          have s0 := HX2.out.cellAt (jj * 7) (by omega)
          rw [hq0] at s0
          have z0 := HX2.out.frozenAt (jj * 7)
          clear hq0
          obtain ⟨q1, hq1⟩ : ∃ q, (((marksR k 0 nx).take jj ++ lx.drop jj).flatMap RecV.cells)[jj * 7 + 1]? = some q := ⟨_, List.getElem?_eq_getElem (by rw [hlenX]; omega)⟩
          have s1 := HX2.out.cellAt (jj * 7 + 1) (by omega)
          rw [hq1] at s1
          have z1 := HX2.out.frozenAt (jj * 7 + 1)
          clear hq1
          obtain ⟨q2, hq2⟩ : ∃ q, (((marksR k 0 nx).take jj ++ lx.drop jj).flatMap RecV.cells)[jj * 7 + 2]? = some q := ⟨_, List.getElem?_eq_getElem (by rw [hlenX]; omega)⟩
          have s2 := HX2.out.cellAt (jj * 7 + 2) (by omega)
          rw [hq2] at s2
          have z2 := HX2.out.frozenAt (jj * 7 + 2)
          clear hq2
          obtain ⟨q3, hq3⟩ : ∃ q, (((marksR k 0 nx).take jj ++ lx.drop jj).flatMap RecV.cells)[jj * 7 + 3]? = some q := ⟨_, List.getElem?_eq_getElem (by rw [hlenX]; omega)⟩
          have s3 := HX2.out.cellAt (jj * 7 + 3) (by omega)
          rw [hq3] at s3
          have z3 := HX2.out.frozenAt (jj * 7 + 3)
          clear hq3
          obtain ⟨q4, hq4⟩ : ∃ q, (((marksR k 0 nx).take jj ++ lx.drop jj).flatMap RecV.cells)[jj * 7 + 4]? = some q := ⟨_, List.getElem?_eq_getElem (by rw [hlenX]; omega)⟩
          have s4 := HX2.out.cellAt (jj * 7 + 4) (by omega)
          rw [hq4] at s4
          have z4 := HX2.out.frozenAt (jj * 7 + 4)
          clear hq4
          obtain ⟨q5, hq5⟩ : ∃ q, (((marksR k 0 nx).take jj ++ lx.drop jj).flatMap RecV.cells)[jj * 7 + 5]? = some q := ⟨_, List.getElem?_eq_getElem (by rw [hlenX]; omega)⟩
          have s5 := HX2.out.cellAt (jj * 7 + 5) (by omega)
          rw [hq5] at s5
          have z5 := HX2.out.frozenAt (jj * 7 + 5)
          clear hq5
          obtain ⟨q6, hq6⟩ : ∃ q, (((marksR k 0 nx).take jj ++ lx.drop jj).flatMap RecV.cells)[jj * 7 + 6]? = some q := ⟨_, List.getElem?_eq_getElem (by rw [hlenX]; omega)⟩
          have s6 := HX2.out.cellAt (jj * 7 + 6) (by omega)
          rw [hq6] at s6
          have z6 := HX2.out.frozenAt (jj * 7 + 6)
          clear hq6
          have HZ : Hid (∀ W, W = setRun wr.drew gx (jj * 7) [.string y.name, .int .i64 y.start, .int .i64 y.agg.count, .int .i64 y.agg.hi, .int .u64 y.agg.lo, .int .i64 y.agg.min, .int .i64 y.agg.max] → W.ownsRow base 100 7 (.slice (some ⟨gx, 0, none⟩) nx cx) nx (((marksR k 0 nx).take (jj + 1) ++ lx.drop (jj + 1)).flatMap RecV.cells) ∧ Fr (rowF (.slice (some ⟨gx, 0, none⟩) nx cx)) w5 W) := fun W hW => by
            subst hW
            have hlx : ∃ z, lx[jj]? = some z := ⟨lx[jj]'(by rw [HNX.out]; exact hlj), List.getElem?_eq_getElem _⟩
            obtain ⟨z, hz⟩ := hlx
            have h1 := setRun_own [.string y.name, .int .i64 y.start, .int .i64 y.agg.count, .int .i64 y.agg.hi, .int .u64 y.agg.lo, .int .i64 y.agg.min, .int .i64 y.agg.max] (jj * 7) wr.drew _ (own_fr0 HX2.out ((Fr.refl (fun _ => False) wr).drew))
            have h2 := flat_put rec_len _ _ HY.out hz
            refine ⟨?_, (HF3.out.drew).trans (setRun_fr [.string y.name, .int .i64 y.start, .int .i64 y.agg.count, .int .i64 y.agg.hi, .int .u64 y.agg.lo, .int .i64 y.agg.min, .int .i64 y.agg.max] (jj * 7) wr.drew) (fun i hi => .inl (by subst hi; rfl))⟩
            rw [← h2]
            exact h1
          clear hx2 hy B6 R6 M6 hlenX ho2 hf3
          go_wp2_with fail
          go_still_tail 13, (by kernel_rfl)
          repeat still_step
          try refine wpStill_nil ?_
          change wpList _ _ _ _ _ wr.drew
          obtain ⟨W2, hW2⟩ : ∃ W2, W2 = wr.drew := ⟨_, rfl⟩
          change wr.drew.cell? _ = _ at s0
          change wr.drew.frozen? _ = _ at z0
          change wr.drew.cell? _ = _ at s1
          change wr.drew.frozen? _ = _ at z1
          change wr.drew.cell? _ = _ at s2
          change wr.drew.frozen? _ = _ at z2
          change wr.drew.cell? _ = _ at s3
          change wr.drew.frozen? _ = _ at z3
          change wr.drew.cell? _ = _ at s4
          change wr.drew.frozen? _ = _ at z4
          change wr.drew.cell? _ = _ at s5
          change wr.drew.frozen? _ = _ at z5
          change wr.drew.cell? _ = _ at s6
          change wr.drew.frozen? _ = _ at z6
          rw [← hW2] at HZ s0 z0 s1 z1 s2 z2 s3 z3 s4 z4 s5 z5 s6 z6 ⊢
          obtain ⟨p, hp⟩ : ∃ p, jj * 7 = p := ⟨_, rfl⟩
          rw [hp] at HZ s0 z0 s1 z1 s2 z2 s3 z3 s4 z4 s5 z5 s6 z6 ⊢
          clear c0 d0 e0 e1 e2 e3 e4 e5 e6 hW2 hp
          go_wp2
          go_roundw
          case rel => exact ⟨jj + 1, by omega, by go_num, (HZ.out _ rfl).1, (HZ.out _ rfl).2⟩
          case measure => simp [intOf]; omega
        · obtain rfl : jj = nx := by omega
          have HE : Hid (Lists RecV.cells wr base 100 7 (markedTo (fun i n => marksR i 0 n) (k + 1) hs) ∧ Fr (listsF hs) w wr) := by
            have hL5 := (HL2.out.fr0 (Fr.b0 BB5.out))
            have ho3 : wr.ownsRow base 100 7 (.slice Ax jj cx) jj ((marksR k 0 jj).flatMap RecV.cells) := by
              have := HX2.out
              rwa [take_all (by rw [marksR_len]; exact Nat.le_refl _), List.drop_eq_nil_of_le (by rw [HNX.out]; exact Nat.le_refl _), List.append_nil] at this
            refine ⟨hL5.mark HX.out HMk.out HF3.out ?_, F5.out.trans HF3.out (fun i hi => .inl (HXF.out i hi))⟩
            rw [HNX.out]
            exact ho3
          clear ho2 hf3 B6 R6 M6
          go_wp2
          go_roundw
          case rel => exact ⟨k + 1, by omega, by go_num, HE.out.1, HE.out.2⟩
          case measure => simp [intOf]; omega
    · obtain rfl : k = m := by omega
      go_wp2_with fail
      go_end0
      exact ⟨rfl, HL2.out, HF2.out⟩
end Go.Proofs.YtbblmmneeafhgaaGreat
namespace Go.Proofs.YtbblmmneeafhgaaGreat
set_option linter.all false
open Go.RowKit

set_option maxRecDepth 100000 in
set_option maxHeartbeats 4000000 in
theorem markedR_any (O : Option Addr) (co m : Nat) (gs : List (HV RecV)) (w : World) (hr : Rd w 1 O m (gs.map HV.v)) (hn : m ≤ 1000)
    (hg : ∀ h ∈ gs, Reads RecV.cells w 7 h) (hl : ∀ h ∈ gs, h.l.length ≤ 2000000) (hmk : ∀ (i : Nat) (h : HV RecV), gs[i]? = some h → h.l = marksR i 0 h.l.length) :
    Calls Tryz.prog 106 #[.slice O m co] w fun r w' => r = .returned (.bool true) ∧ Below w.heap.size w w' := by
  have HR := Lib.hid hr
  have HG := Lib.hid hg
  have HL := Lib.hid hl
  have HMk := Lib.hid hmk
  clear hr hg hl hmk
  go_enter Tryz.func106, Tryz.ntmps106
  go_wp2_with fail
  go_loopw [3] (fun i wr => ∃ k : Nat, k ≤ m ∧ i = .int .i64 k ∧ Own w wr (fun _ => False)) (fun i _ => m - (intOf i).toNat)
  case atStart => exact ⟨0, Nat.zero_le _, rfl, Own.start w⟩
  case round =>
    obtain ⟨k, hk, rfl, ho⟩ := hrel
    have Ho := Lib.hid ho
    by_cases hlt : k < m
    · obtain ⟨ad, x, rfl, hx, d0⟩ := (HR.out.fr0 (Fr.b0 ho.bel)).at_map hlt
      have hlx := HL.out x (mem_of_get hx)
      have hxl := HMk.out k x hx
      obtain ⟨Ax, cx, hv, hrx, _⟩ := (HG.out x (mem_of_get hx)).fr0 (Fr.b0 ho.bel)
      obtain ⟨vx, lx⟩ := x
      simp only at hv hlx hxl hrx d0
      subst hv
      obtain ⟨nx, hnx⟩ : ∃ nx, lx.length = nx := ⟨_, rfl⟩
      rw [hnx] at hlx hxl hrx d0
      subst hxl
      have HRX := Lib.hid hrx
      have hlt2 : (k : Int) < (m : Int) := by omega
      have HM : Hid (∀ W, W.cell? (ad.add k) = some (.slice Ax nx cx) ∧ Fr (fun _ => False) wr W → Calls Tryz.prog 163 #[.int .i64 (k : Int), .int .i64 0, .int .i64 (nx : Int)] W fun r w'' => ∃ A c, r = .returned (.slice A nx c) ∧ w''.ownsRow wr.heap.size 100 7 (.slice A nx c) nx (rcells (marksR k 0 nx)) ∧ w''.cell? (ad.add k) = some (.slice Ax nx cx) ∧ Fr (fun _ => False) wr w'') := fun W hW => by
        refine (markR_any k 0 nx (by omega) (by omega) (by omega) W).mono ?_
        rintro r w'' ⟨A, c, e, ho, b⟩
        exact ⟨A, c, e, own_le ho hW.2.size, (Fr.b0 b).cell hW.1 (fun h => h), hW.2.trans (Fr.b0 b) (fun _ h => h.elim)⟩
      have HS : Hid (∀ W A c, Fr (fun _ => False) wr W → W.ownsRow wr.heap.size 100 7 (.slice A nx c) nx (rcells (marksR k 0 nx)) → Calls Tryz.prog 28 #[.slice Ax nx cx, .slice A nx c] W fun r w'' => r = .returned (.bool true) ∧ w''.cell? (ad.add k) = some (.slice Ax nx cx) ∧ Fr (fun _ => False) wr w'') := fun W A c hf h => by
        refine (samerecs_eq (marksR k 0 nx) _ _ _ _ _ W (HRX.out.fr0 hf) (Rd.of_own h) (by omega)).mono ?_
        rintro r w'' ⟨e, b⟩
        have hf2 : Fr (fun _ => False) wr w'' := hf.trans (Fr.b0 b) (fun _ h => h.elim)
        exact ⟨e, hf2.cell d0 (fun h => h), hf2⟩
      clear hx hnx hrx ho
      go_wp2_with fail
      go_region_held3 (fun w' => w'.cell? (ad.add k) = some (.slice Ax nx cx) ∧ Fr (fun _ => False) wr w') (first | exact ⟨d0, (Fr.refl _ wr).drew⟩ | assumption | exact ⟨by assumption, by assumption⟩) (first | (go_at_call 163; refine (HM.out _ (by first | assumption | exact ⟨by assumption, by assumption⟩)).mono ?_; rintro r w5 ⟨M, cm, rfl, om, q5, f5⟩) | (go_at_call 28; refine (HS.out _ _ _ (by assumption) (by assumption)).mono ?_; rintro r w6 ⟨rfl, q6, f6⟩))
      go_wp2
      go_roundw
      case rel => exact ⟨k + 1, by omega, by go_num, Ho.out.skip (by assumption)⟩
      case measure => simp [intOf]; omega
    · obtain rfl : k = m := by omega
      clear ho
      go_wp2_with fail
      go_ret
      exact ⟨rfl, Ho.out.bel⟩

set_option maxRecDepth 100000 in
set_option maxHeartbeats 8000000 in
theorem growR_any (g : Nat) (cs : Array Value) (base : Nat) (V : Value) (hs : List (HV RecV)) (w : World) (hb : Blk w g 49 cs) (hV : cs[4]? = some V) (hbase : base ≤ w.heap.size)
    (hL : Lists RecV.cells w base 100 7 hs) (hrow : w.ownsRow base 51 1 V hs.length (hs.map HV.v)) (hn : hs.length ≤ 1000) (hl : ∀ h ∈ hs, h.l.length ≤ 1000000)
    (hmk : ∀ (i : Nat) (h : HV RecV), hs[i]? = some h → h.l = marksR i 0 h.l.length) :
    Calls Tryz.prog 98 #[.pointer (some ⟨g, 0, none⟩)] w fun r w' => ∃ (O : Option Addr) (co : Nat) (gs : List (HV RecV)), r = .returned (.slice O hs.length co) ∧ w'.ownsRow w.heap.size 51 1 (.slice O hs.length co) hs.length (gs.map HV.v) ∧ gs.length = hs.length ∧ (∀ h ∈ gs, Reads RecV.cells w' 7 h) ∧ (∀ h ∈ hs, Reads RecV.cells w' 7 h) ∧
      (∀ h ∈ gs, h.l.length ≤ 1000072) ∧ (∀ (i : Nat) (h : HV RecV), gs[i]? = some h → h.l = marksR i 0 h.l.length) ∧ (∀ h ∈ gs, ∀ b, rowF h.v b → listsF hs b ∨ w.heap.size ≤ b) ∧ Fr (listsF hs) w w' := by
  obtain ⟨RA, rc, rfl, _, _, hR⟩ := own_slice hrow
  have HB := Lib.hid hb
  have HLs := Lib.hid hL
  have HRow := Lib.hid hrow
  have HL := Lib.hid hl
  have HMk := Lib.hid hmk
  obtain ⟨m, hm⟩ : ∃ m, hs.length = m := ⟨_, rfl⟩
  rw [hm] at HRow hn hV ⊢
  have HV0 := Lib.hid hV
  have HBs := Lib.hid hbase
  have OB := Lib.hid (Off.lists hL (ts := [49, 51]) (by decide))
  obtain ⟨i0, hi0, hz0, hz1, hz2⟩ := info_parts info_sR
  obtain ⟨j0, hj0, hy0, hy1, hy2⟩ := info_parts info_rec
  have HLen := Lib.hid hm
  clear hb hV hL hrow hl hR hm hbase hmk
  go_enter Tryz.func98, Tryz.ntmps98
  go_wp2_with fail
  go_loopw [3, 4] (fun o i wr => ∃ (k : Nat) (O : Option Addr) (co : Nat) (gs : List (HV RecV)), k ≤ m ∧ i = .int .i64 k ∧ o = .slice O k co ∧ Hid (gs.length = k) ∧ wr.ownsRow w.heap.size 51 1 (.slice O k co) k (gs.map HV.v) ∧ Grown RecV.cells wr base 100 7 (fun i n => marksR i 0 n) w.heap.size hs gs ∧
      Hid (∀ (i : Nat) (h : HV RecV), k ≤ i → hs[i]? = some h → wr.ownsRow base 100 7 h.v h.l.length (h.l.flatMap RecV.cells)) ∧ Fr (listsF hs) w wr) (fun _ i _ => m - (intOf i).toNat)
  case atStart => exact ⟨0, none, 0, [], Nat.zero_le _, rfl, rfl, rfl, World.ownsRow_nil _ _ _ _, Grown.start fun h hh => Reads.of_own (HLs.out.own h hh), fun i h _ hh => HLs.out.own h (mem_of_get hh), Fr.refl _ _⟩
  case round =>
    obtain ⟨k, O, co, gs, hk, rfl, rfl, hgl, hrow, hgr, hown, hf2⟩ := hrel
    have HO2 := Lib.hid hrow
    have HG := Lib.hid hgr
    have HF2 := Lib.hid hf2
    have hB := OB.out.blkf HB.out (by decide) hf2
    have hR2 := OB.out.own HRow.out (by decide) hf2
    have c0 := hB.cell 4
    rw [HV0.out] at c0
    have HB2 := Lib.hid hB
    clear hB hrow hgr hf2
    by_cases hlt : k < m
    · obtain ⟨ad, x, rfl, hx, d0⟩ := (Rd.of_own hR2).at_map hlt
      have hlx := HL.out x (mem_of_get hx)
      have ox := hown.out k x (Nat.le_refl _) hx
      have hxl := HMk.out k x hx
      have HX := Lib.hid hx
      obtain ⟨vx, lx⟩ := x
      simp only at d0 ox hlx hxl
      obtain ⟨Ax, cx, rfl, hcx, hcx2, _⟩ := own_slice ox
      obtain ⟨nx, hnx⟩ : ∃ nx, lx.length = nx := ⟨_, rfl⟩
      rw [hnx] at d0 ox hlx hcx hxl HX
      subst hxl
      have HOX := Lib.hid ox
      have hhx := Lib.hid (own_head ox)
      have HMK : Hid (∀ (j q : Nat) w', j ≤ 1001000 → q ≤ 1000 → Calls Tryz.prog 163 #[.int .i64 (k : Int), .int .i64 (j : Int), .int .i64 (q : Int)] w' fun r w'' => ∃ A c, r = .returned (.slice A q c) ∧ w''.ownsRow w'.heap.size 100 7 (.slice A q c) q (rcells (marksR k j q)) ∧ Below w'.heap.size w' w'') := fun j q w' hj hq => markR_any k j q (by omega) (by omega) (by omega) w'
      obtain ⟨wo, hwo⟩ : ∃ wo : World, wo = wr := ⟨_, rfl⟩
      have hlt2 : (k : Int) < (m : Int) := by omega
      clear hx ox hR2
      go_wp2_with fail
      rw [← hwo] at HO2 HG hown HF2 HB2 HOX ⊢
      clear c0 d0 hwo
      go_loopw [5, 6] (fun l j wr => ∃ (jj q : Nat) (A : Option Addr) (c : Nat), jj ≤ 12 ∧ j = .int .i64 jj ∧ q ≤ 1000012 ∧ Hid (q = nx + jj) ∧ l = .slice A q c ∧ wr.ownsRow base 100 7 (.slice A q c) q ((marksR k 0 q).flatMap RecV.cells) ∧ Rd wr 7 Ax nx ((marksR k 0 nx).flatMap RecV.cells) ∧ Mv (rowF (.slice Ax nx cx)) (rowF (.slice A q c)) wo wr) (fun _ j _ => 12 - (intOf j).toNat)
      case atStart => exact ⟨0, nx, Ax, cx, by omega, rfl, by omega, rfl, rfl, HOX.out, Rd.of_own HOX.out, Mv.refl _ _⟩
      case round =>
        obtain ⟨jj, q, A, c, hjj, rfl, hq, hqn, rfl, hol, hrx, hmv⟩ := hrel
        have HOL := Lib.hid hol
        have HRX := Lib.hid hrx
        have HMV := Lib.hid hmv
        have hha := Lib.hid (own_head hol)
        have hbs := Lib.hid hmv.size
        have hbw : Hid (base ≤ wo.heap.size) := by have := HF2.out.size; have := HBs.out; show _ ≤ _; omega
        clear hol hrx hmv
        by_cases hlj : jj < 12
        · have hmk1 : Hid ((marksR k 0 (q + 1)).flatMap RecV.cells = (marksR k 0 q).flatMap RecV.cells ++ rcells (marksR k q 1)) := by
            show _ = _
            rw [marksR_add, List.flatMap_append, Nat.zero_add]; rfl
          have hpre : Hid (((marksR k 0 q).flatMap RecV.cells).take (nx * 7) = (marksR k 0 nx).flatMap RecV.cells) := by
            show _ = _
            rw [hqn.out, marksR_add, List.flatMap_append, List.take_left' (by rw [vflat_len rec_len, marksR_len])]
          go_wp2_with fail
          refine (HMK.out q 1 wr (by omega) (by omega)).mono ?_
          rintro r w5 ⟨M, cm, rfl, om, b5⟩
          have OM := Lib.hid om
          have B5 := Lib.hid b5
          have hs5 := Lib.hid b5.size
          clear om b5
          go_wp2_with (at_builtin; refine wpList_app2 rfl _ _ 51 rfl 100 j0 _ 7 64 Tryz.underlying51 hj0 hy0 hy1 hy2 rfl (by decide) (.slice A q c) q _ rfl base (by have := hs5.out; have := hbs.out; have := hbw.out; omega) (own_fr0 HOL.out (Fr.b0 B5.out)) M 1 cm (rcells (marksR k q 1)) rfl (Rd.of_own OM.out) (rcells_one _) ?q1 ?q2 ?_)
          case q1 => unfold maxLen; omega
          case q2 => omega
          intro A6 c6 w6 ho6 hm6 hk6
          have HO6 := Lib.hid ho6
          have HM6 := Lib.hid hm6
          have HK6 := Lib.hid hk6
          clear ho6 hm6 hk6
          go_wp2
          go_roundw
          case rel =>
            refine ⟨jj + 1, q + 1, A6, c6, by omega, by go_num, by have := hqn.out; omega, by have := hqn.out; show _ = _; omega, by go_num, ?_, ?_, (HMV.out.skip (Fr.b0 B5.out)).trans HM6.out⟩
            · rw [hmk1.out]; exact HO6.out
            · exact keep_head hhx.out (HRX.out.fr0 (Fr.b0 B5.out)) hha.out HM6.out.fr HK6.out (by have := hqn.out; omega) hpre.out
          case measure => simp [intOf]; omega
        · obtain rfl : jj = 12 := by omega
          have hmk1 : Hid ((marksR k 0 (q + 60)).flatMap RecV.cells = (marksR k 0 q).flatMap RecV.cells ++ rcells (marksR k q 60)) := by
            show _ = _
            rw [marksR_add, List.flatMap_append, Nat.zero_add]; rfl
          have hpre : Hid (((marksR k 0 q).flatMap RecV.cells).take (nx * 7) = (marksR k 0 nx).flatMap RecV.cells) := by
            show _ = _
            rw [hqn.out, marksR_add, List.flatMap_append, List.take_left' (by rw [vflat_len rec_len, marksR_len])]
          go_wp2_with fail
          refine (HMK.out q 60 wr (by omega) (by omega)).mono ?_
          rintro r w5 ⟨M, cm, rfl, om, b5⟩
          have OM := Lib.hid om
          have B5 := Lib.hid b5
          have hs5 := Lib.hid b5.size
          clear om b5
          go_wp2_with (at_builtin; refine wpList_app2 rfl (.tmp 34) (.tmp 38) 51 rfl 100 j0 _ 7 64 Tryz.underlying51 hj0 hy0 hy1 hy2 rfl (by decide) (.slice A q c) q _ rfl base (by have := hs5.out; have := hbs.out; have := hbw.out; omega) (own_fr0 HOL.out (Fr.b0 B5.out)) M 60 cm (rcells (marksR k q 60)) rfl (Rd.of_own OM.out) (rcells_one _) ?q1 ?q2 ?_)
          case q1 => unfold maxLen; omega
          case q2 => omega
          intro A7 c7 w7 ho7 hm7 hk7
          have HM7 := Lib.hid ((HMV.out.skip (Fr.b0 B5.out)).trans hm7)
          have HX7 : Hid (Rd w7 7 Ax nx ((marksR k 0 nx).flatMap RecV.cells)) := keep_head hhx.out (HRX.out.fr0 (Fr.b0 B5.out)) hha.out hm7.fr hk7 (by have := hqn.out; omega) hpre.out
          have HO7 : Hid (w7.ownsRow base 100 7 (.slice A7 (q + 60) c7) (q + 60) ((marksR k 0 (q + 60)).flatMap RecV.cells)) := by show World.ownsRow _ _ _ _ _ _ _; rw [hmk1.out]; exact ho7
          have HR7 : Hid (w7.ownsRow w.heap.size 51 1 (.slice O k co) k (gs.map HV.v)) := (Off.row HOX.out (ts := [51]) (by decide)).own HO2.out (by decide) HM7.out.fr
          have hs7 := Lib.hid HM7.out.size
          have hw0 := Lib.hid HF2.out.size
          have HG7 : Hid (Grown RecV.cells w7 base 100 7 (fun i n => marksR i 0 n) w.heap.size hs (gs ++ [⟨.slice A7 (q + 60) c7, marksR k 0 (q + 60)⟩])) := by
            refine HG.out.step HX.out hgl.out HLs.out.apart (fun i hi => ?_) hw0.out HM7.out ?_ ?_ ?_ ?_
            · exact own_lt (HLs.out.own _ (mem_of_get HX.out)) i hi
            · refine ⟨Ax, cx, ?_, ?_, hhx.out⟩
              · simp only [marksR_len]
              · simp only [marksR_len]; exact HX7.out
            · simp only [marksR_len]; exact HO7.out
            · simp only [marksR_len]; have := hqn.out; omega
            · simp only [marksR_len]
          clear ho7 hm7 hk7
          go_wp2_with (at_builtin; refine wpList_app2 rfl (.tmp 33) (.tmp 40) 42 rfl 51 i0 _ 1 24 Tryz.underlying42 hi0 hz0 hz1 hz2 rfl (by decide) (.slice O k co) k _ rfl w.heap.size (by have := hs7.out; have := hw0.out; simp; omega) (own_fr0 HR7.out (Fr.none_alloc _ _)) (some ⟨w7.heap.size, 0, none⟩) 1 1 [.slice A7 (q + 60) c7] rfl (Rd.newS (by simp) _ _ _ _ rfl) (by simp [Value.oneCell']) ?q1 ?q2 ?_)
          case q1 => unfold maxLen; omega
          case q2 => omega
          intro O8 c8 w8 ho8 hm8 _
          have HO8 := Lib.hid ho8
          have F8 : Fr (rowF (.slice O k co)) w7 w8 := ((Fr.none_alloc w7 (.cells #[.slice A7 (q + 60) c7] 51)).mono (fun _ h => h.elim)).trans hm8.fr (fun i hi => .inl hi)
          have HG8 : Hid (Grown RecV.cells w8 base 100 7 (fun i n => marksR i 0 n) w.heap.size hs (gs ++ [⟨.slice A7 (q + 60) c7, marksR k 0 (q + 60)⟩])) := by
            refine HG7.out.fr F8 (Off.row HR7.out (by decide)) (fun i hi => (HR7.out.lt i hi).1) (fun i ⟨x, hx, hi⟩ => own_lt (HLs.out.own x hx) i hi)
          have HF8 : Hid (Fr (listsF hs) w w8) := (HF2.out.trans HM7.out.fr (fun i hi => .inl ⟨_, mem_of_get HX.out, hi⟩)).trans F8 (fun i hi => .inr (HR7.out.lt i hi).1)
          have HW8 : Hid (∀ (i : Nat) (h : HV RecV), k + 1 ≤ i → hs[i]? = some h → w8.ownsRow base 100 7 h.v h.l.length (h.l.flatMap RecV.cells)) := fun i h hik hi => by
            refine (Off.row HR7.out (ts := [100]) (by decide)).own ?_ (by decide) F8
            exact own_fr (hown.out i h (by omega) hi) HM7.out.fr (apart_ne HLs.out.apart hi HX.out (by omega))
          have hgl2 : Hid ((gs ++ [(⟨.slice A7 (q + 60) c7, marksR k 0 (q + 60)⟩ : HV RecV)]).length = k + 1) := by show _ = _; rw [List.length_append, hgl.out]; rfl
          clear ho8 hm8 F8
          go_wp2
          go_roundw
          case rel =>
            refine ⟨k + 1, O8, c8, gs ++ [⟨.slice A7 (q + 60) c7, marksR k 0 (q + 60)⟩], by omega, by go_num, by go_num, hgl2, ?_, HG8.out, HW8.out, HF8.out⟩
            simpa using HO8.out
          case measure => simp [intOf]; omega
    · obtain rfl : k = m := by omega
      go_wp2_with fail
      go_ret
      exact ⟨O, co, gs, rfl, HO2.out, by rw [hgl.out], fun h hh => Reads.of_own (HG.out.2.1 h hh), HG.out.1, HG.out.2.2.1 (fun h hh => HL.out h hh), HG.out.2.2.2.1, HG.out.whence (by rw [hgl.out, HLen.out]), HF2.out⟩
end Go.Proofs.YtbblmmneeafhgaaGreat
namespace Go.Proofs.YtbblmmneeafhgaaGreat
set_option linter.all false
open Go.RowKit

set_option maxRecDepth 100000 in
set_option maxHeartbeats 16000000 in
theorem apart_any (g : Nat) (cs : Array Value) (base : Nat) (VR UR : Value) (hR uR : List (HV RecV)) (VS US : Value) (hS uS : List (HV SampV)) (w : World) (hb : Blk w g 49 cs) (hbase : base ≤ w.heap.size)
    (cTexts : cs[0]? = some (.slice none 0 0)) (cInts : cs[2]? = some (.slice none 0 0)) (cR : cs[4]? = some VR) (dR : cs[5]? = some UR) (kR : Kind RecV.cells w base 51 100 7 VR UR hR uR) (nR : hR.length ≤ 250) (lR : ∀ h ∈ hR, h.l.length ≤ 100000) (cS : cs[6]? = some VS) (dS : cs[7]? = some US) (kS : Kind SampV.cells w base 50 95 3 VS US hS uS) (nS : hS.length ≤ 250) (lS : ∀ h ∈ hS, h.l.length ≤ 100000) (cTiers : cs[8]? = some (.slice none 0 0)) (cErrnos : cs[10]? = some (.slice none 0 0)) (cWords : cs[12]? = some (.slice none 0 0)) (cSteps : cs[14]? = some (.slice none 0 0)) :
    Calls Tryz.prog 30 #[.pointer (some ⟨g, 0, none⟩)] w fun r w' => r = .returned (.bool true) ∧ Fr (fun k => listsF hR k ∨ listsF hS k) w w' := by
  have HB0 := Lib.hid hb
  have F0 := Lib.hid (Fr.refl (fun k => listsF hR k ∨ listsF hS k) w)
  have HBs := Lib.hid hbase
  obtain ⟨RR, rR, rfl, _, _, _⟩ := own_slice kR.row
  have HKR0 := Lib.hid kR
  have HCR := Lib.hid cR
  have HDR := Lib.hid dR
  have HNR := Lib.hid nR
  have HLR := Lib.hid lR
  have HMR := Lib.hid (fun i n => marksR_len i 0 n)
  obtain ⟨RS, rS, rfl, _, _, _⟩ := own_slice kS.row
  have HKS0 := Lib.hid kS
  have HCS := Lib.hid cS
  have HDS := Lib.hid dS
  have HNS := Lib.hid nS
  have HLS := Lib.hid lS
  have HMS := Lib.hid (fun i n => marksS_len i 0 n)
  have HCTexts := Lib.hid cTexts
  have HCInts := Lib.hid cInts
  have HCTiers := Lib.hid cTiers
  have HCErrnos := Lib.hid cErrnos
  have HCWords := Lib.hid cWords
  have HCSteps := Lib.hid cSteps
  clear hb hbase cTexts cInts cR dR kR nR lR cS dS kS nS lS cTiers cErrnos cWords cSteps
  go_enter Tryz.func30, Tryz.ntmps30
  go_wp2_with fail
  refine (stillTexts_none g cs w HB0.out HCTexts.out).mono ?_
  rintro r w' ⟨rfl, rfl⟩
  go_wp2_with fail
  refine (stillInts_none g cs w HB0.out HCInts.out).mono ?_
  rintro r w' ⟨rfl, rfl⟩
  go_wp2_with fail
  refine (stillR_any g cs base _ UR hR uR w HB0.out HCR.out HDR.out HKR0.out (by have := HNR.out; omega) (fun h hh => by have := HLR.out h hh; omega)).mono ?_
  rintro r w1 ⟨rfl, b1⟩
  have HB1 := Lib.hid (HB0.out.below b1)
  have F1 := Lib.hid (F0.out.trans (Fr.b0 b1) (fun _ h => h.elim))
  have HKR1 := Lib.hid (HKR0.out.fr0 (Fr.b0 b1))
  have HKS1 := Lib.hid (HKS0.out.fr0 (Fr.b0 b1))
  clear b1 HB0 HKR0 HKS0
  go_wp2_with fail
  refine (stillS_any g cs base _ US hS uS w1 HB1.out HCS.out HDS.out HKS1.out (by have := HNS.out; omega) (fun h hh => by have := HLS.out h hh; omega)).mono ?_
  rintro r w2 ⟨rfl, b2⟩
  have HB2 := Lib.hid (HB1.out.below b2)
  have F2 := Lib.hid (F1.out.trans (Fr.b0 b2) (fun _ h => h.elim))
  have HKR2 := Lib.hid (HKR1.out.fr0 (Fr.b0 b2))
  have HKS2 := Lib.hid (HKS1.out.fr0 (Fr.b0 b2))
  clear b2 HB1 HKR1 HKS1
  go_wp2_with fail
  refine (stillTiers_none g cs w2 HB2.out HCTiers.out).mono ?_
  rintro r w' ⟨rfl, rfl⟩
  go_wp2_with fail
  refine (stillErrnos_none g cs w2 HB2.out HCErrnos.out).mono ?_
  rintro r w' ⟨rfl, rfl⟩
  go_wp2_with fail
  refine (stillWords_none g cs w2 HB2.out HCWords.out).mono ?_
  rintro r w' ⟨rfl, rfl⟩
  go_wp2_with fail
  refine (stillSteps_none g cs w2 HB2.out HCSteps.out).mono ?_
  rintro r w' ⟨rfl, rfl⟩
  have HSR2 := Lib.hid HKR2.out.lists
  have HRR2 := Lib.hid HKR2.out.row
  clear HKR2
  have HbR := Lib.hid (show base ≤ w2.heap.size by have := F2.out.size; have := HBs.out; omega)
  have HSS2 := Lib.hid HKS2.out.lists
  have HRS2 := Lib.hid HKS2.out.row
  clear HKS2
  have HbS := Lib.hid (show base ≤ w2.heap.size by have := F2.out.size; have := HBs.out; omega)
  go_wp2_with fail
  refine (putSteps_none g cs w2 HB2.out HCSteps.out).mono ?_
  rintro r w' ⟨rfl, rfl⟩
  go_wp2_with fail
  refine (putTexts_none g cs w2 HB2.out HCTexts.out).mono ?_
  rintro r w' ⟨rfl, rfl⟩
  go_wp2_with fail
  refine (putInts_none g cs w2 HB2.out HCInts.out).mono ?_
  rintro r w' ⟨rfl, rfl⟩
  go_wp2_with fail
  refine (putR_any g cs base _ hR w2 HB2.out HCR.out (by have := F2.out.size; have := HBs.out; omega) HSR2.out HRR2.out (by have := HNR.out; omega) (fun h hh => by have := HLR.out h hh; omega)).mono ?_
  rintro r w3 ⟨rfl, m3, f3⟩
  have HB3 := Lib.hid ((Off.lists HSR2.out (ts := [49]) (by decide)).blkf HB2.out (by decide) f3)
  have F3 := Lib.hid (F2.out.trans f3 (fun i hi => .inl (by first | exact hi | exact .inl hi | exact .inr hi | exact .inr (.inl hi))))
  have HRR3 := Lib.hid ((Off.lists HSR2.out (ts := [51]) (by decide)).own HRR2.out (by decide) f3)
  have HSR3 := Lib.hid m3
  have HRS3 := Lib.hid ((Off.lists HSR2.out (ts := [50]) (by decide)).own HRS2.out (by decide) f3)
  have HSS3 := Lib.hid (HSS2.out.fr f3 (Off.lists HSR2.out (ts := [95]) (by decide)) (by decide))
  clear m3 f3 HB2 HRR2 HSR2 HRS2 HSS2
  go_wp2_with fail
  refine (putS_any g cs base _ hS w3 HB3.out HCS.out (by have := F3.out.size; have := HBs.out; omega) HSS3.out HRS3.out (by have := HNS.out; omega) (fun h hh => by have := HLS.out h hh; omega)).mono ?_
  rintro r w4 ⟨rfl, m4, f4⟩
  have HB4 := Lib.hid ((Off.lists HSS3.out (ts := [49]) (by decide)).blkf HB3.out (by decide) f4)
  have F4 := Lib.hid (F3.out.trans f4 (fun i hi => .inl (by first | exact hi | exact .inl hi | exact .inr hi | exact .inr (.inl hi))))
  have HRR4 := Lib.hid ((Off.lists HSS3.out (ts := [51]) (by decide)).own HRR3.out (by decide) f4)
  have HSR4 := Lib.hid (HSR3.out.fr f4 (Off.lists HSS3.out (ts := [100]) (by decide)) (by decide))
  have HRS4 := Lib.hid ((Off.lists HSS3.out (ts := [50]) (by decide)).own HRS3.out (by decide) f4)
  have HSS4 := Lib.hid m4
  clear m4 f4 HB3 HRR3 HSR3 HRS3 HSS3
  go_wp2_with fail
  refine (putTiers_none g cs w4 HB4.out HCTiers.out).mono ?_
  rintro r w' ⟨rfl, rfl⟩
  go_wp2_with fail
  refine (putErrnos_none g cs w4 HB4.out HCErrnos.out).mono ?_
  rintro r w' ⟨rfl, rfl⟩
  go_wp2_with fail
  refine (putWords_none g cs w4 HB4.out HCWords.out).mono ?_
  rintro r w' ⟨rfl, rfl⟩
  obtain ⟨mR, hmR⟩ : ∃ m, markedTo (fun i n => marksR i 0 n) hR.length hR = m := ⟨_, rfl⟩
  have E1R : Hid (mR.length = hR.length) := by show _ = _; rw [← hmR, markedTo_len]
  have E2R : Hid (∀ h ∈ mR, h.l.length ≤ 100000) := by rw [← hmR]; exact marked_mem (P := fun n => n ≤ 100000) HMR.out HLR.out
  have E3R : Hid (∀ (i : Nat) (h : HV RecV), mR[i]? = some h → h.l = marksR i 0 h.l.length) := by rw [← hmR]; exact marked_at HMR.out
  have E4R : Hid (∀ k, listsF mR k → listsF hR k) := by rw [← hmR]; exact listsF_marked _
  have E5R : Hid (mR.map HV.v = hR.map HV.v) := by show _ = _; rw [← hmR, markedTo_vs]
  rw [hmR] at HSR4
  have HVR4 : Hid (w4.ownsRow base 51 1 (.slice RR hR.length rR) hR.length (mR.map HV.v)) := by show World.ownsRow _ _ _ _ _ _ _; rw [E5R.out]; exact HRR4.out
  clear hmR HRR4
  obtain ⟨mS, hmS⟩ : ∃ m, markedTo (fun i n => marksS i 0 n) hS.length hS = m := ⟨_, rfl⟩
  have E1S : Hid (mS.length = hS.length) := by show _ = _; rw [← hmS, markedTo_len]
  have E2S : Hid (∀ h ∈ mS, h.l.length ≤ 100000) := by rw [← hmS]; exact marked_mem (P := fun n => n ≤ 100000) HMS.out HLS.out
  have E3S : Hid (∀ (i : Nat) (h : HV SampV), mS[i]? = some h → h.l = marksS i 0 h.l.length) := by rw [← hmS]; exact marked_at HMS.out
  have E4S : Hid (∀ k, listsF mS k → listsF hS k) := by rw [← hmS]; exact listsF_marked _
  have E5S : Hid (mS.map HV.v = hS.map HV.v) := by show _ = _; rw [← hmS, markedTo_vs]
  rw [hmS] at HSS4
  have HVS4 : Hid (w4.ownsRow base 50 1 (.slice RS hS.length rS) hS.length (mS.map HV.v)) := by show World.ownsRow _ _ _ _ _ _ _; rw [E5S.out]; exact HRS4.out
  clear hmS HRS4
  have SepRS := Lib.hid (Off.apart (Off.lists HSS4.out (ts := [100]) (by decide)) HSR4.out.ty)
  go_wp2_with fail
  refine (growTexts_none g cs w4 HB4.out HCTexts.out).mono ?_
  rintro r w' ⟨rfl, rfl⟩
  go_wp2_with fail
  refine (growInts_none g cs w4 HB4.out HCInts.out).mono ?_
  rintro r w' ⟨rfl, rfl⟩
  go_wp2_with fail
  refine (growR_any g cs base _ mR w4 HB4.out HCR.out (by have := F4.out.size; have := HBs.out; omega) HSR4.out (by rw [E1R.out]; exact HVR4.out) (by have := HNR.out; have := E1R.out; omega) (fun h hh => by have := E2R.out h hh; omega) E3R.out).mono ?_
  rintro r w5 ⟨OR, oR, gR, rfl, r5, q5, x5, y5, z5, t5, v5, f5⟩
  have HB5 := Lib.hid ((Off.lists HSR4.out (ts := [49]) (by decide)).blkf HB4.out (by decide) f5)
  have F5 := Lib.hid (F4.out.trans f5 (fun i hi => .inl (by have hi := E4R.out i hi; first | exact hi | exact .inl hi | exact .inr hi | exact .inr (.inl hi))))
  have HVR5 := Lib.hid ((Off.lists HSR4.out (ts := [51]) (by decide)).own HVR4.out (by decide) f5)
  have HXR5 := Lib.hid y5
  have HGR5 := Lib.hid x5
  have HOR5 := Lib.hid r5
  have HqR := Lib.hid q5
  have HzR := Lib.hid z5
  have HtR := Lib.hid t5
  have HwR5 : Hid (∀ h ∈ gR, ∀ b, rowF h.v b → listsF mR b ∨ w4.heap.size ≤ b) := v5
  have HVS5 := Lib.hid ((Off.lists HSR4.out (ts := [50]) (by decide)).own HVS4.out (by decide) f5)
  have HSS5 := Lib.hid (HSS4.out.fr f5 (Off.lists HSR4.out (ts := [95]) (by decide)) (by decide))
  have HLtSR := Lib.hid HSS4.out.lt
  clear r5 q5 x5 y5 z5 t5 v5 HB4 HVR4 HVS4
  clear f5
  go_wp2_with fail
  refine (growS_any g cs base _ mS w5 HB5.out HCS.out (by have := F5.out.size; have := HBs.out; omega) HSS5.out (by rw [E1S.out]; exact HVS5.out) (by have := HNS.out; have := E1S.out; omega) (fun h hh => by have := E2S.out h hh; omega) E3S.out).mono ?_
  rintro r w6 ⟨OS, oS, gS, rfl, r6, q6, x6, y6, z6, t6, v6, f6⟩
  have HB6 := Lib.hid ((Off.lists HSS5.out (ts := [49]) (by decide)).blkf HB5.out (by decide) f6)
  have F6 := Lib.hid (F5.out.trans f6 (fun i hi => .inl (by have hi := E4S.out i hi; first | exact hi | exact .inl hi | exact .inr hi | exact .inr (.inl hi))))
  have HVR6 := Lib.hid ((Off.lists HSS5.out (ts := [51]) (by decide)).own HVR5.out (by decide) f6)
  have HOR6 := Lib.hid ((Off.lists HSS5.out (ts := [51]) (by decide)).own HOR5.out (by decide) f6)
  have HXR6 := Lib.hid (fun h hh => (HXR5.out h hh).fr f6 (fun k hk => SepRS.out k ⟨h, hh, hk⟩))
  have HGR6 := Lib.hid (fun h hh => (HGR5.out h hh).fr f6 (fun k hk hF => (HwR5.out h hh k hk).elim (fun h2 => SepRS.out k h2 hF) (fun h2 => by have := HLtSR.out k hF; omega)))
  have HwR6 := HwR5
  clear HwR5 HOR5 HXR5 HGR5
  have HVS6 := Lib.hid ((Off.lists HSS5.out (ts := [50]) (by decide)).own HVS5.out (by decide) f6)
  have HXS6 := Lib.hid y6
  have HGS6 := Lib.hid x6
  have HOS6 := Lib.hid r6
  have HqS := Lib.hid q6
  have HzS := Lib.hid z6
  have HtS := Lib.hid t6
  have HwS6 : Hid (∀ h ∈ gS, ∀ b, rowF h.v b → listsF mS b ∨ w5.heap.size ≤ b) := v6
  clear r6 q6 x6 y6 z6 t6 v6 HB5 HVR5 HVS5
  clear f6
  go_wp2_with fail
  refine (growTiers_none g cs w6 HB6.out HCTiers.out).mono ?_
  rintro r w' ⟨rfl, rfl⟩
  go_wp2_with fail
  refine (growErrnos_none g cs w6 HB6.out HCErrnos.out).mono ?_
  rintro r w' ⟨rfl, rfl⟩
  go_wp2_with fail
  refine (growWords_none g cs w6 HB6.out HCWords.out).mono ?_
  rintro r w' ⟨rfl, rfl⟩
  go_wp2_with fail
  refine (growSteps_none g cs w6 HB6.out HCSteps.out).mono ?_
  rintro r w' ⟨rfl, rfl⟩
  go_wp2_with fail
  refine (markedTexts_none _).mono ?_
  rintro r w' ⟨rfl, rfl⟩
  have e0 := HB6.out.cell 0
  rw [HCTexts.out] at e0
  go_wp2_with fail
  clear e0
  refine (markedTexts_none _).mono ?_
  rintro r w' ⟨rfl, rfl⟩
  go_wp2_with fail
  refine (markedInts_none _).mono ?_
  rintro r w' ⟨rfl, rfl⟩
  have e0 := HB6.out.cell 2
  rw [HCInts.out] at e0
  go_wp2_with fail
  clear e0
  refine (markedInts_none _).mono ?_
  rintro r w' ⟨rfl, rfl⟩
  go_wp2_with fail
  refine (markedR_any OR oR mR.length gR w6 (Rd.of_own HOR6.out) (by have := HNR.out; have := E1R.out; omega) HGR6.out (fun h hh => by have := HzR.out h hh; omega) HtR.out).mono ?_
  rintro r w7 ⟨rfl, b7⟩
  have HB7 := Lib.hid (HB6.out.below b7)
  have F7 := Lib.hid (F6.out.trans (Fr.b0 b7) (fun _ h => h.elim))
  have HVR7 := Lib.hid (own_fr0 HVR6.out (Fr.b0 b7))
  have HOR7 := Lib.hid (own_fr0 HOR6.out (Fr.b0 b7))
  have HXR7 := Lib.hid (fun h hh => (HXR6.out h hh).fr0 (Fr.b0 b7))
  have HGR7 := Lib.hid (fun h hh => (HGR6.out h hh).fr0 (Fr.b0 b7))
  have HVS7 := Lib.hid (own_fr0 HVS6.out (Fr.b0 b7))
  have HOS7 := Lib.hid (own_fr0 HOS6.out (Fr.b0 b7))
  have HXS7 := Lib.hid (fun h hh => (HXS6.out h hh).fr0 (Fr.b0 b7))
  have HGS7 := Lib.hid (fun h hh => (HGS6.out h hh).fr0 (Fr.b0 b7))
  clear b7 HB6 F6 HVR6 HOR6 HXR6 HGR6 HVS6 HOS6 HXS6 HGS6
  have e0 := HB7.out.cell 4
  rw [HCR.out] at e0
  go_wp2_with fail
  clear e0
  refine (markedR_any RR rR hR.length mR w7 (Rd.of_own HVR7.out) (by have := HNR.out; have := E1R.out; omega) HXR7.out (fun h hh => by have := E2R.out h hh; omega) E3R.out).mono ?_
  rintro r w8 ⟨rfl, b8⟩
  have HB8 := Lib.hid (HB7.out.below b8)
  have F8 := Lib.hid (F7.out.trans (Fr.b0 b8) (fun _ h => h.elim))
  have HVR8 := Lib.hid (own_fr0 HVR7.out (Fr.b0 b8))
  have HOR8 := Lib.hid (own_fr0 HOR7.out (Fr.b0 b8))
  have HXR8 := Lib.hid (fun h hh => (HXR7.out h hh).fr0 (Fr.b0 b8))
  have HGR8 := Lib.hid (fun h hh => (HGR7.out h hh).fr0 (Fr.b0 b8))
  have HVS8 := Lib.hid (own_fr0 HVS7.out (Fr.b0 b8))
  have HOS8 := Lib.hid (own_fr0 HOS7.out (Fr.b0 b8))
  have HXS8 := Lib.hid (fun h hh => (HXS7.out h hh).fr0 (Fr.b0 b8))
  have HGS8 := Lib.hid (fun h hh => (HGS7.out h hh).fr0 (Fr.b0 b8))
  clear b8 HB7 F7 HVR7 HOR7 HXR7 HGR7 HVS7 HOS7 HXS7 HGS7
  go_wp2_with fail
  refine (markedS_any OS oS mS.length gS w8 (Rd.of_own HOS8.out) (by have := HNS.out; have := E1S.out; omega) HGS8.out (fun h hh => by have := HzS.out h hh; omega) HtS.out).mono ?_
  rintro r w9 ⟨rfl, b9⟩
  have HB9 := Lib.hid (HB8.out.below b9)
  have F9 := Lib.hid (F8.out.trans (Fr.b0 b9) (fun _ h => h.elim))
  have HVR9 := Lib.hid (own_fr0 HVR8.out (Fr.b0 b9))
  have HOR9 := Lib.hid (own_fr0 HOR8.out (Fr.b0 b9))
  have HXR9 := Lib.hid (fun h hh => (HXR8.out h hh).fr0 (Fr.b0 b9))
  have HGR9 := Lib.hid (fun h hh => (HGR8.out h hh).fr0 (Fr.b0 b9))
  have HVS9 := Lib.hid (own_fr0 HVS8.out (Fr.b0 b9))
  have HOS9 := Lib.hid (own_fr0 HOS8.out (Fr.b0 b9))
  have HXS9 := Lib.hid (fun h hh => (HXS8.out h hh).fr0 (Fr.b0 b9))
  have HGS9 := Lib.hid (fun h hh => (HGS8.out h hh).fr0 (Fr.b0 b9))
  clear b9 HB8 F8 HVR8 HOR8 HXR8 HGR8 HVS8 HOS8 HXS8 HGS8
  have e0 := HB9.out.cell 6
  rw [HCS.out] at e0
  go_wp2_with fail
  clear e0
  refine (markedS_any RS rS hS.length mS w9 (Rd.of_own HVS9.out) (by have := HNS.out; have := E1S.out; omega) HXS9.out (fun h hh => by have := E2S.out h hh; omega) E3S.out).mono ?_
  rintro r w10 ⟨rfl, b10⟩
  have HB10 := Lib.hid (HB9.out.below b10)
  have F10 := Lib.hid (F9.out.trans (Fr.b0 b10) (fun _ h => h.elim))
  have HVR10 := Lib.hid (own_fr0 HVR9.out (Fr.b0 b10))
  have HOR10 := Lib.hid (own_fr0 HOR9.out (Fr.b0 b10))
  have HXR10 := Lib.hid (fun h hh => (HXR9.out h hh).fr0 (Fr.b0 b10))
  have HGR10 := Lib.hid (fun h hh => (HGR9.out h hh).fr0 (Fr.b0 b10))
  have HVS10 := Lib.hid (own_fr0 HVS9.out (Fr.b0 b10))
  have HOS10 := Lib.hid (own_fr0 HOS9.out (Fr.b0 b10))
  have HXS10 := Lib.hid (fun h hh => (HXS9.out h hh).fr0 (Fr.b0 b10))
  have HGS10 := Lib.hid (fun h hh => (HGS9.out h hh).fr0 (Fr.b0 b10))
  clear b10 HB9 F9 HVR9 HOR9 HXR9 HGR9 HVS9 HOS9 HXS9 HGS9
  go_wp2_with fail
  refine (markedTiers_none _).mono ?_
  rintro r w' ⟨rfl, rfl⟩
  have e0 := HB10.out.cell 8
  rw [HCTiers.out] at e0
  go_wp2_with fail
  clear e0
  refine (markedTiers_none _).mono ?_
  rintro r w' ⟨rfl, rfl⟩
  go_wp2_with fail
  refine (markedErrnos_none _).mono ?_
  rintro r w' ⟨rfl, rfl⟩
  have e0 := HB10.out.cell 10
  rw [HCErrnos.out] at e0
  go_wp2_with fail
  clear e0
  refine (markedErrnos_none _).mono ?_
  rintro r w' ⟨rfl, rfl⟩
  go_wp2_with fail
  refine (markedWords_none _).mono ?_
  rintro r w' ⟨rfl, rfl⟩
  have e0 := HB10.out.cell 12
  rw [HCWords.out] at e0
  go_wp2_with fail
  clear e0
  refine (markedWords_none _).mono ?_
  rintro r w' ⟨rfl, rfl⟩
  go_wp2_with fail
  refine (markedSteps_none _).mono ?_
  rintro r w' ⟨rfl, rfl⟩
  have e0 := HB10.out.cell 14
  rw [HCSteps.out] at e0
  go_wp2_with fail
  clear e0
  refine (markedSteps_none _).mono ?_
  rintro r w' ⟨rfl, rfl⟩
  go_wp2_with fail
  go_ret
  exact ⟨rfl, F10.out⟩
end Go.Proofs.YtbblmmneeafhgaaGreat
namespace Go.Proofs.YtbblmmneeafhgaaGreat
set_option linter.all false
open Go.RowKit

def BookR (w : World) (g base k : Nat) : Prop :=
  ∃ (cs : Array Value) (V U : Value) (hs us : List (HV RecV)), Blk w g 49 cs ∧ cs[4]? = some V ∧ cs[5]? = some U ∧ (∀ j, j < 16 → j ≠ 4 → j ≠ 5 → cs[j]? = some (.slice none 0 0)) ∧
    Kind RecV.cells w base 51 100 7 V U hs us ∧ hs.length = k ∧ (∀ h ∈ hs, h.l.length ≤ 100000) ∧ base ≤ g ∧ base ≤ w.heap.size
theorem BookR.fr {w w' : World} {g base k : Nat} (h : BookR w g base k) (hb : Below w.heap.size w w') : BookR w' g base k := by
  obtain ⟨cs, V, U, hs, us, h1, h2, h3, h4, h5, h6, h7, h8, h9⟩ := h
  exact ⟨cs, V, U, hs, us, h1.below hb, h2, h3, h4, h5.fr0 (Fr.b0 hb), h6, h7, h8, Nat.le_trans h9 hb.size⟩
theorem BookR.new (w : World) : BookR (w.alloc (.cells #[.slice none 0 0, .slice none 0 0, .slice none 0 0, .slice none 0 0, .slice none 0 0, .slice none 0 0, .slice none 0 0, .slice none 0 0, .slice none 0 0, .slice none 0 0, .slice none 0 0, .slice none 0 0, .slice none 0 0, .slice none 0 0, .slice none 0 0, .slice none 0 0] 49)) w.heap.size w.heap.size 0 := by
  refine ⟨_, .slice none 0 0, .slice none 0 0, [], [], Blk.new _ _ _, rfl, rfl, fun j hj _ _ => ?_, Kind.nil, rfl, fun x hx => (by cases hx), Nat.le_refl _, by simp⟩
  have : j = 0 ∨ j = 1 ∨ j = 2 ∨ j = 3 ∨ j = 4 ∨ j = 5 ∨ j = 6 ∨ j = 7 ∨ j = 8 ∨ j = 9 ∨ j = 10 ∨ j = 11 ∨ j = 12 ∨ j = 13 ∨ j = 14 ∨ j = 15 := by omega
  rcases this with rfl | rfl | rfl | rfl | rfl | rfl | rfl | rfl | rfl | rfl | rfl | rfl | rfl | rfl | rfl | rfl <;> rfl
end Go.Proofs.YtbblmmneeafhgaaGreat
