/- What a byte to a decoder makes of a heap. -/
import Derived.Test.YtpfmoolpeecobaaS34
import Derived.Test.YtpfmoolpeecobaaS35
namespace Go.Proofs.Ytpfmoolpeecobaa
open Go Go.Proofs Go.Proofs.Ytpfmoolpeecobaa.Ev
set_option linter.unusedVariables false
set_option linter.unusedSimpArgs false
set_option maxRecDepth 100000
set_option maxHeartbeats 4000000

def strV (s : List Nat) : V := .str s
theorem append_strs {lo : Nat} {L : Heap} {v x : V} {l new : List (List Nat)} (h : OwnG strV lo L v l) (hlo : lo ≤ L.next) (hx : srcElems L 1 x = some (new.map fun x => [strV x])) (hs : l.length + new.length ≤ 16777216) :
    ∃ v' L', Ev.append Try.prog 39 v x L = some (v', L') ∧ OwnG strV lo L' v' (l ++ new) ∧ L.next ≤ L'.next ∧ (∀ n, n < L.next → nm v ≠ some n → L'.t.get n = L.t.get n) ∧ (nm v' = nm v ∨ nm v' = some L.next) :=
  append_ownX (fun _ => rfl) ts39 s9 b39 (by decide) z9 rfl h hlo hx hs
theorem strs_own {lo : Nat} {L : Heap} {v : V} {l : List (List Nat)} (h : OwnG strV lo L v l) : Strs L v l := by
  rcases h with h | ⟨hne, m, rfl, h1, h2, h3⟩
  · exact .inl h
  · refine .inr ⟨m, 0, 0, true, rfl, h2, fun i s hx => ?_⟩
    simp [Heap.load, Heap.elem, h3, rowFrom_get, Nat.mod_one, hx, strV, Ev.part, s9, a9]

/-- two rows that are apart -/
def Dj (a b : V) : Prop := ∀ m, nm a = some m → nm b ≠ some m
theorem Dj.symm {a b : V} (h : Dj a b) : Dj b a := fun m hb ha => h m ha hb
theorem Dj.new {a b b' : V} {N : Nat} (h : Dj a b) (hn : nm b' = nm b ∨ nm b' = some N) (ha : ∀ m, nm a = some m → m < N) : Dj a b' := by
  intro m hm
  rcases hn with hn | hn
  · rw [hn]; exact h m hm
  · rw [hn]; have := ha m hm; simp; omega
theorem Dj.nils (a : V) : Dj a .nils := fun m _ => by simp [nm]

noncomputable def newD (A : Heap) : Heap := ⟨A.t.set A.next (decB .zero), A.next + 1⟩
noncomputable def pushH (A : Heap) (q : Dec) (b : Int) : Heap := ⟨(rowH (newD A) (pushD q b).2).t.set A.next (decB (pushD q b).1), (rowH (newD A) (pushD q b).2).next⟩
noncomputable def pushRow (A : Heap) (q : Dec) (b : Int) : V := rowV (newD A) (pushD q b).2
theorem newD_keep (A : Heap) : Keep A (newD A) := ⟨Nat.le_succ _, fun n hn => T.get_set_ne _ _ (by omega)⟩
theorem pushH_next (A : Heap) (q : Dec) (b : Int) : A.next + 1 ≤ (pushH A q b).next := (rowH_keep (newD A) _).1
theorem pushH_old (A : Heap) (q : Dec) (b : Int) {n : Nat} (hn : n < A.next) : (pushH A q b).t.get n = A.t.get n := by
  show T.get (T.set _ _ _) n = _
  rw [T.get_set_ne _ _ (by omega), (rowH_keep (newD A) _).2 n (Nat.lt_succ_of_lt hn), (newD_keep A).2 n hn]
theorem pushH_cell (A : Heap) (q : Dec) (b : Int) : (pushH A q b).t.get A.next = some (decB (pushD q b).1) := T.get_set_same _ _ _
theorem rowH_more {L : Heap} {l : List Int} (h : l ≠ []) : (rowH L l).next = L.next + 1 := by
  match l, h with
  | [x], _ => rfl
  | x :: y :: r, _ => rfl
theorem push_src (A : Heap) (q : Dec) (b : Int) {A3 : Heap} (hn : (pushH A q b).next ≤ A3.next) (hk : ∀ n, A.next < n → n < (pushH A q b).next → A3.t.get n = (pushH A q b).t.get n) : srcElems A3 1 (pushRow A q b) = some ((pushD q b).2.map i32c) := by
  refine row_src2 hn (fun hne => ?_)
  have h := rowH_more (L := newD A) hne
  have e : (newD A).next = A.next + 1 := rfl
  rw [hk _ (by rw [e]; omega) (by show _ < (rowH (newD A) _).next; omega)]
  exact T.get_set_ne _ _ (by rw [e]; omega)
theorem pushRow_nm {A : Heap} {q : Dec} {b : Int} {m : Nat} (h : nm (pushRow A q b) = some m) : m = A.next + 1 := rowV_nm h

noncomputable def endH (A : Heap) (q : Dec) : Heap := ⟨(rowH A (endD q).2).t.set (rowH A (endD q).2).next (decB (endD q).1), (rowH A (endD q).2).next + 1⟩
noncomputable def endRow (A : Heap) (q : Dec) : V := rowV A (endD q).2
noncomputable def endN (A : Heap) (q : Dec) : Nat := (rowH A (endD q).2).next
theorem endN_le (A : Heap) (q : Dec) : A.next ≤ endN A q := (rowH_keep A _).1
theorem endH_next (A : Heap) (q : Dec) : (endH A q).next = endN A q + 1 := rfl
theorem endH_old (A : Heap) (q : Dec) {n : Nat} (hn : n < A.next) : (endH A q).t.get n = A.t.get n := by
  have := endN_le A q
  show T.get (T.set _ _ _) n = _
  unfold endN at this
  rw [T.get_set_ne _ _ (by omega), (rowH_keep A _).2 n hn]
theorem endD_fst (q : Dec) : (endD q).1 = .zero := by unfold endD; split <;> rfl
theorem endH_cell (A : Heap) (q : Dec) : (endH A q).t.get (endN A q) = some (decB .zero) := by
  rw [← endD_fst q]; exact T.get_set_same _ _ _
theorem end_src (A : Heap) (q : Dec) {A3 : Heap} (hn : (endH A q).next ≤ A3.next) (hk : ∀ n, A.next ≤ n → n < endN A q → A3.t.get n = (endH A q).t.get n) : srcElems A3 1 (endRow A q) = some ((endD q).2.map i32c) := by
  have hh := endH_next A q
  refine row_src2 (by unfold endN at hh; omega) (fun hne => ?_)
  have h := rowH_more (L := A) hne
  rw [hk _ (Nat.le_refl _) (by unfold endN; omega)]
  exact T.get_set_ne _ _ (by omega)
theorem endRow_nm {A : Heap} {q : Dec} {m : Nat} (h : nm (endRow A q) = some m) : m = A.next ∧ A.next < endN A q := by
  have h1 := rowV_nm h
  refine ⟨h1, ?_⟩
  unfold endN
  by_cases hne : (endD q).2 = []
  · rw [endRow, hne] at h; cases h
  · rw [rowH_more hne]; omega
theorem endRow_len (A : Heap) (q : Dec) (L' : Heap) : Ev.builtinQ Try.prog .len #[27] [endRow A q] L' = some (.int .i64 ((endD q).2.length : Int)) := rowV_len _ _ _
end Go.Proofs.Ytpfmoolpeecobaa
