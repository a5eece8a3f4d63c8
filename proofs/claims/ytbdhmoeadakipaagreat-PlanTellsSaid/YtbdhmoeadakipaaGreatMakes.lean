/- plan.Make and the document's Make side by side: one plan, or none of both. -/
import Derived.Test.YtbdhmoeadakipaaGreatRefMake
namespace Go.Proofs.YtbdhmoeadakipaaGreat
open Go.RowKit

theorem makes_any (nmf : ByteArray) (lf : List TierV) (nf : Nat) (nmt : ByteArray) (lt : List TierV) (nt : Nat) (now : Int) (fl : List Int) (m : Nat) (hnow : i64 now)
    (hwf : ∀ t ∈ lf, t.wf) (hwt : ∀ t ∈ lt, t.wf) (hnf : nmf.size ≤ maxLen) (hnt : nmt.size ≤ maxLen) (hf10 : nf ≤ 10) (ht10 : nt ≤ 10) (hlt : lt.length = nt) (hlf : lf.length = nf) :
    ∃ (nmP : ByteArray) (lP : List TierV) (sP : List Int) (nP : Nat) (eP : Int), nP ≤ 10 ∧ lP.length = nP ∧ (∀ t ∈ lP, t.wf) ∧ (∀ t ∈ lP, 1 ≤ t.shards ∧ t.shards ≤ 8) ∧
      (∀ Af cf nmr Ar cr B d At ct w, Rd w 4 Af nf (tcells lf) → nf ≤ cf → Rd w 4 Ar nf (tcells lf) → Rd w 1 B m (ints fl) → Rd w 4 At nt (tcells lt) → nt ≤ ct →
        Calls Tryz.prog 8 #[polV nmf Af nf cf, reachV now nmr Ar nf cr B m d, polV nmt At nt ct] w
          fun r w' => (∃ A' c' S cs, r = .returned (.tuple #[planV nmP A' nP c' S nP cs, .int .i64 eP]) ∧ w'.ownsRow w.heap.size 69 4 (.slice A' nP c') nP (tcells lP) ∧ w'.ownsRow w.heap.size 3 1 (.slice S nP cs) nP (ints sP)) ∧ Below w.heap.size w w') ∧
      (∀ Af cf nmr Ar cr B d At ct w, Rd w 4 Af nf (tcells lf) → Rd w 4 Ar nf (tcells lf) → Rd w 1 B m (ints fl) → Rd w 4 At nt (tcells lt) →
        Calls Tryz.prog 6 #[polV nmf Af nf cf, reachV now nmr Ar nf cr B m d, polV nmt At nt ct] w
          fun r w' => (∃ A' c' S cs, r = .returned (.tuple #[planV nmP A' nP c' S nP cs, .int .i64 eP]) ∧ Rd w' 4 A' nP (tcells lP) ∧ Rd w' 1 S nP (ints sP)) ∧ Below w.heap.size w w') := by
  cases hc : (checkB nmf lf && checkB nmt lt)
  · refine ⟨{ data := #[] }, [], [], 0, 23, by omega, rfl, fun t h => (by cases h), fun t h => (by cases h), ?_, ?_⟩
    · intro Af cf nmr Ar cr B d At ct w h1 h2 h3 h4 h5 h6
      refine (make_bad nmf lf Af nf cf now nmr Ar nf cr B m d nmt lt At nt ct w h1 h2 h5 h6 hwf hwt hnf hnt hc).mono ?_
      rintro r w' ⟨e, hb⟩
      exact ⟨⟨none, 0, none, 0, e, World.ownsRow_nil _ _ _ _, World.ownsRow_nil _ _ _ _⟩, hb⟩
    · intro Af cf nmr Ar cr B d At ct w h1 h3 h4 h5
      refine (ref_make_bad nmf lf Af nf cf now nmr Ar nf cr B m d nmt lt At nt ct w h1 (by omega) h5 (by omega) hwf hwt hnf hnt hc).mono ?_
      rintro r w' ⟨e, hb⟩
      exact ⟨⟨none, 0, none, 0, e, Rd.nil_, Rd.nil_⟩, hb⟩
  · rw [Bool.and_eq_true] at hc
    obtain ⟨ha, hb⟩ := hc
    refine ⟨nmt, lt, srcs now lf fl lt, nt, 0, ht10, hlt, hwt, fun t h => ⟨(check_mem hb h).2.2.2.2.1, (check_mem hb h).2.2.2.2.2⟩, ?_, ?_⟩
    · intro Af cf nmr Ar cr B d At ct w h1 h2 h3 h4 h5 h6
      exact make_own nmf lf Af nf cf now hnow nmr Ar cr fl B m d nmt lt At nt ct w h1 h2 h3 h4 h5 h6 hwf hwt hnf hnt (by omega) (by omega) ha hb
    · intro Af cf nmr Ar cr B d At ct w h1 h3 h4 h5
      refine (ref_make_good nmf lf Af nf cf now hnow nmr Ar cr fl B m d nmt lt At nt ct w h1 h3 h4 h5 hwf hwt hnf hnt (by omega) (by omega) ha hb).mono ?_
      rintro r w' ⟨⟨S, cs, e, _, hs, _⟩, hbl⟩
      exact ⟨⟨At, ct, S, cs, e, h5.below hbl, hs⟩, hbl⟩
end Go.Proofs.YtbdhmoeadakipaaGreat
