/- Rows, wherever they come from. -/
import Derived.Test.YtpfmoolpeecobaaS15
namespace Go.Proofs.Ytpfmoolpeecobaa
open Go Go.Proofs Go.Proofs.Ytpfmoolpeecobaa.Ev
set_option linter.unusedVariables false
set_option linter.unusedSimpArgs false
set_option maxRecDepth 100000
set_option maxHeartbeats 4000000

/-- a row of one-celled things, wherever it comes from -/
def Sl {α : Type} (eT : TypeId) (f : α → V) (L : Heap) (v : V) (l : List α) : Prop :=
  (v = .nils ∧ l = []) ∨ ∃ n o cap q, v = .slice n o l.length cap q ∧ n < L.next ∧ (q = false → l.length ≤ cap) ∧ ∀ (i : Nat) (x : α), l[i]? = some x → Heap.load Try.prog L eT n (o + i) = some (f x)
section
variable {α : Type} {eT sT : TypeId} {f : α → V} {L L' : Heap} {v : V} {l : List α}
theorem Sl.keep (h : Sl eT f L v l) (hk : Keep L L') : Sl eT f L' v l := by
  rcases h with h | ⟨n, o, cap, q, rfl, hn, hc, hx⟩
  · exact .inl h
  · exact .inr ⟨n, o, cap, q, rfl, Nat.lt_of_lt_of_le hn hk.1, hc, fun i x h => by rw [load_keep (hk.2 n hn)]; exact hx i x h⟩
theorem Sl.len (hts : tySlice Try.prog sT = some eT) (h : Sl eT f L v l) (L' : Heap) : Ev.builtinQ Try.prog .len #[sT] [v] L' = some (.int .i64 (l.length : Int)) := by
  rcases h with ⟨rfl, rfl⟩ | ⟨n, o, cap, q, rfl, hn, hc, hx⟩ <;> simp [Ev.builtinQ, hts]
theorem Sl.at' (hts : tySlice Try.prog sT = some eT) (hs : sizeT Try.prog eT = some 1) (h : Sl eT f L v l) {i : Nat} {x : α} (hi : l[i]? = some x) :
    ∃ n off, n < L.next ∧ Ev.indexAddr Try.prog sT v (.int .i64 (i : Int)) = some (.ptr n off) ∧ Heap.load Try.prog L eT n off = some (f x) := by
  rcases h with ⟨rfl, rfl⟩ | ⟨n, o, cap, q, rfl, hn, hc, hx⟩
  · simp at hi
  · refine ⟨n, o + i, hn, ?_, hx i x hi⟩
    have := (List.getElem?_eq_some_iff.1 hi).1
    simp [Ev.indexAddr, hts, hs, idx_nat, blt_dec, this, guardO]
theorem Sl.sub (hts : tySlice Try.prog sT = some eT) (hs : sizeT Try.prog eT = some 1) (h : Sl eT f L v l) {i j : Nat} (hij : i ≤ j) (hj : j ≤ l.length) :
    ∃ v', Ev.sliceOp Try.prog sT v (some (.int .i64 (i : Int))) (some (.int .i64 (j : Int))) none = some v' ∧ Sl eT f L v' ((l.drop i).take (j - i)) := by
  have e1 : Nat.blt i (j + 1) = true := by rw [blt_dec]; simp; omega
  rcases h with ⟨rfl, rfl⟩ | ⟨n, o, cap, q, rfl, hn, hc, hx⟩
  · simp at hj
    subst hj
    obtain rfl : i = 0 := by omega
    exact ⟨.nils, by simp only [Ev.sliceOp, hts, hs, Option.bind_some]; rfl, .inl ⟨rfl, by simp⟩⟩
  · have hl : ((l.drop i).take (j - i)).length = j - i := by simp; omega
    have hg : ∀ (off : Nat), (off = o + i ∨ j - i = 0) → ∀ (k : Nat) (x : α), ((l.drop i).take (j - i))[k]? = some x → Heap.load Try.prog L eT n (off + k) = some (f x) := by
      intro off ho k x hk
      have hlt := (List.getElem?_eq_some_iff.1 hk).1
      rw [hl] at hlt
      rcases ho with rfl | ho
      · rw [List.getElem?_take_of_lt hlt, List.getElem?_drop] at hk
        have := hx _ _ hk
        rw [Nat.add_assoc]
        exact this
      · omega
    cases q with
    | true =>
      have e2 : Nat.blt j (l.length + 1) = true := by rw [blt_dec]; simp; omega
      refine ⟨.slice n (o + i) (j - i) (cap + i) true, by simp [Ev.sliceOp, hts, hs, guardO, Ev.bound, idx_nat, e1, e2], .inr ⟨n, o + i, cap + i, true, by rw [hl], hn, fun h => (by cases h), hg _ (.inl rfl)⟩⟩
    | false =>
      have hc := hc rfl
      have e2 : Nat.blt j (cap + 1) = true := by rw [blt_dec]; simp; omega
      refine ⟨.slice n (if cap = i then o else o + i) (j - i) (cap - i) false, by simp [Ev.sliceOp, hts, hs, guardO, Ev.bound, idx_nat, e1, e2], .inr ⟨n, _, cap - i, false, by rw [hl], hn, fun _ => by rw [hl]; omega, hg _ ?_⟩⟩
      split
      · right; omega
      · exact .inl rfl
theorem Sl.take (hts : tySlice Try.prog sT = some eT) (hs : sizeT Try.prog eT = some 1) (h : Sl eT f L v l) {j : Nat} (hj : j ≤ l.length) :
    ∃ v', Ev.sliceOp Try.prog sT v none (some (.int .i64 (j : Int))) none = some v' ∧ Sl eT f L v' (l.take j) := by
  obtain ⟨v', h1, h2⟩ := Sl.sub hts hs h (Nat.zero_le j) hj
  refine ⟨v', ?_, by simpa using h2⟩
  rw [← h1]
  have hb : ∀ h, Ev.bound none 0 h = Ev.bound (some (.int .i64 ((0 : Nat) : Int))) 0 h := fun _ => rfl
  rcases h with ⟨rfl, rfl⟩ | ⟨n, o, cap, q, rfl, hn, hc, hx⟩
  · simp only [Ev.sliceOp, hb]
  · cases q <;> simp only [Ev.sliceOp, hb]
end
def i32v (x : Int) : V := .int .i32 x
theorem Sl.rows {L : Heap} {v : V} {l : List Int} (h : Sl 21 i32v L v l) : Rows L v l := ⟨fun L' => Sl.len ts27 h L', fun i x hx => Sl.at' ts27 s21 h hx⟩
theorem Own.sl {lo : Nat} {L : Heap} {v : V} {l : List Int} (h : Own lo L v l) : Sl 21 i32v L v l := by
  rcases h with h | ⟨hne, m, rfl, h1, h2, h3⟩
  · exact .inl h
  · refine .inr ⟨m, 0, 0, true, rfl, h2, fun h => (by cases h), fun i x hx => ?_⟩
    simp [Heap.load, Heap.elem, h3, rowFrom_get, Nat.mod_one, hx, i32c, Ev.part, s21, a21, i32v]
end Go.Proofs.Ytpfmoolpeecobaa
