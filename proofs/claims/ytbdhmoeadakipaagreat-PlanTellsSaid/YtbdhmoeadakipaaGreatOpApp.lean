/- append as one operation of a drawn region. -/
import Derived.Test.YtbdhmoeadakipaaGreatBook
namespace Go.Proofs.YtbdhmoeadakipaaGreat
open Go.RowKit

section
variable {P : Program} {w : World}
theorem op_app3 {o : Oper} {a : Act} {next : Act → World → Prop} {Q : Exit → Act → World → Prop} (s x : Operand) (t : TypeId)
    (ho : o.op = .call { callee := .builtin .append, args := #[s, x], argTypes := #[t, t] })
    (e : TypeId) (i : TypeInfo) (z : Value) (size bytes : Nat) (ht : P.underlying t = some (.slice e)) (hi : P.info? e = some i) (hz : i.zero = some z)
    (hsize : i.size = size) (hby : i.bytes = bytes) (hzs : z.cells.size = size) (hsz : 0 < size)
    (v : Value) (n : Nat) (xs : List Value) (hs : a.eval s = v) (base : Nat) (hbase : base ≤ w.heap.size) (hown : w.ownsRow base e size v n xs)
    (A : Option Addr) (m c : Nat) (news : List Value) (hx : a.eval x = .slice A m c) (hr : Rd w size A m news) (h1 : ∀ u ∈ news, u.oneCell' = true)
    (h63 : n + m ≤ maxLen) (hbytes : (n + m) * bytes ≤ 140737488355328)
    (h : ∀ A' c' w', w'.ownsRow base e size (.slice A' (n + m) c') (n + m) (xs ++ news) → Mv (rowF v) (rowF (.slice A' (n + m) c')) w w' → (∀ A0 c0, v = .slice A0 n c0 → Rd w' size A0 n xs) → next (a.put o.dst (.slice A' (n + m) c')) w') : Oper.wp P o a w next Q := by
  obtain ⟨v', w', hrun, h2, h3, h4⟩ := run_app2 (P := P) t o.type e i z size bytes ht hi hz hsize hby hzs hsz v n xs base hbase hown A m c news hr h1 h63 hbytes
  obtain ⟨A', c', rfl, _⟩ := own_slice h2
  unfold Oper.wp execOp
  simp only [ho, resolve, invoke, builtin, Sem.run_bind, Sem.run_pure, Result.andThen_ok, List.map_toArray, List.map_cons, List.map_nil, hs, hx, hrun]
  exact h A' c' w' h2 h3 h4
end
end Go.Proofs.YtbdhmoeadakipaaGreat
