/- The examples work; a text in a row. -/
import Derived.Test.YtpfmoolpeecobaaS8
namespace Go.Proofs.Ytpfmoolpeecobaa
open Go Go.Proofs Go.Proofs.Ytpfmoolpeecobaa.Ev
set_option linter.unusedVariables false
set_option linter.unusedSimpArgs false
set_option maxRecDepth 1000000
set_option maxHeartbeats 4000000

theorem works_ran : isT (ev Try.prog 10000 (.call 22 [] ⟨.leaf, 0⟩)) = true := by decide +kernel
theorem works_ok (L : Heap) : ACall Try.prog 22 [] L (.bool true) L := by
  obtain ⟨L1, h⟩ := isT_iff works_ran
  exact (ACall.of_ev names_ok mix h).lift rfl rfl L
theorem str_len (s : List Nat) (L : Heap) : Ev.builtinQ Try.prog .len #[9] [.str s] L = some (.int .i64 (s.length : Int)) := by
  simp [Ev.builtinQ, str9, guardO]

/-- the heap with one text in a row, and what Decode makes of it -/
noncomputable def txtH (L : Heap) (s : List Nat) : Heap := ⟨L.t.set L.next (.cells (T.set .leaf 0 [.str s]) 1 1 false false), L.next + 1⟩
theorem decode_one {L : Heap} {s : List Nat} (hs : ∀ b ∈ s, b < 256) (hsize : s.length ≤ 7000000) :
    ACall Try.prog 21 [.slice L.next 0 1 1 false] (txtH L s) (rowsV (txtH L s) (decodeP s)) (rowsH (txtH L s) (decodeP s)) := by
  have := decode_ok (sv := .slice L.next 0 1 1 false) (parts := [s]) (L := txtH L s) (.inr ⟨L.next, 0, 1, false, rfl, Nat.lt_succ_self _, ?_⟩) ?_ ?_ ?_
  · simpa using this
  · intro i x hx
    cases i with
    | zero =>
      simp only [List.getElem?_cons_zero, Option.some.injEq] at hx
      subst hx
      simp [Heap.load, Heap.elem, T.get_set, Ev.part, a9, txtH]
    | succ i => simp at hx
  · simpa using hs
  · simp; omega
  · simp
theorem txtH_keep (L : Heap) (s : List Nat) : Keep L (txtH L s) := ⟨Nat.le_succ _, fun n hn => T.get_set_ne _ _ (by omega)⟩
theorem z9 : zeroV Try.prog 9 = some (.str []) := by kernel_rfl

theorem ts38 : tySlice Try.prog 38 = some 5 := by kernel_rfl
theorem ts9 : tySlice Try.prog 9 = none := by kernel_rfl
theorem z5 : zeroV Try.prog 5 = some (.int .u8 0) := by kernel_rfl
end Go.Proofs.Ytpfmoolpeecobaa
