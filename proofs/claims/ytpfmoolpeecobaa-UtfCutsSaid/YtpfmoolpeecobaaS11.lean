/- Appends to full rows. -/
import Derived.Test.YtpfmoolpeecobaaS10
namespace Go.Proofs.Ytpfmoolpeecobaa
open Go Go.Proofs Go.Proofs.Ytpfmoolpeecobaa.Ev
set_option linter.unusedVariables false
set_option linter.unusedSimpArgs false
set_option maxRecDepth 100000
set_option maxHeartbeats 4000000

theorem own_src {lo : Nat} {L : Heap} {v : V} {l : List Int} (h : Own lo L v l) : srcElems L 1 v = some (l.map i32c) := by
  rcases h with ⟨rfl, rfl⟩ | ⟨hne, m, rfl, h1, h2, h3⟩
  · rfl
  · have := elems_row h3 l.length 0 (by simp)
    simpa [srcElems] using this
theorem Own.keep {lo : Nat} {L L' : Heap} {v : V} {l : List Int} (h : Own lo L v l) (hk : Keep L L') : Own lo L' v l := by
  rcases h with h | ⟨hne, m, rfl, h1, h2, h3⟩
  · exact .inl h
  · exact .inr ⟨hne, m, rfl, h1, Nat.lt_of_lt_of_le h2 hk.1, by rw [hk.2 m h2, h3]⟩

/-- what is appended to: full, or a row of the call's own -/
def Base (lo : Nat) (L : Heap) (v : V) (l : List Int) : Prop :=
  (∃ n, v = .slice n 0 l.length l.length false ∧ lo ≤ n ∧ n < L.next ∧ L.elems n 0 1 l.length = some (l.map i32c)) ∨ Own lo L v l

theorem elems_get {L : Heap} {n : Nat} {l : List Int} : ∀ (k o : Nat), o + k = l.length → L.elems n o 1 k = some ((l.drop o).map i32c) → ∀ (i : Nat) (x : Int), o ≤ i → l[i]? = some x → Heap.load Try.prog L 21 n i = some (.int .i32 x) := by
  intro k
  induction k with
  | zero => intro o h _ i x hi hx; have := (List.getElem?_eq_some_iff.1 hx).1; omega
  | succ k ih =>
    intro o h he i x hi hx
    have hlt : o < l.length := by omega
    simp only [Heap.elems, Option.bind_eq_some_iff, Option.map_eq_some_iff] at he
    obtain ⟨p, hp, y, hy, r, hr, e⟩ := he
    rw [List.drop_eq_getElem_cons hlt, List.map_cons] at e
    injection e with e1 e2
    subst e2
    by_cases hio : i = o
    · subst hio
      rw [List.getElem?_eq_getElem hlt] at hx
      injection hx with hx
      subst hx
      have hy' : (p.1.drop p.2)[0]? = some (.int .i32 l[i]) := by
        cases hd : p.1.drop p.2 with
        | nil => rw [hd] at hy; simp [takeN] at hy
        | cons a b =>
          rw [hd] at hy
          simp [takeN] at hy
          subst hy
          simp [i32c] at e1
          simp [e1]
      rw [List.getElem?_drop] at hy'
      simp only [Heap.load, hp, Option.bind_some, Ev.part, a21]
      simpa using hy'
    · exact ih (o + 1) (by omega) hr i x (by omega) hx
theorem Base.rows {lo : Nat} {L : Heap} {v : V} {l : List Int} (h : Base lo L v l) : Rows L v l := by
  rcases h with ⟨n, rfl, h1, h2, h3⟩ | h
  · exact Rows.slice rfl h2 fun i x hx => by
      rw [Nat.zero_add]
      exact elems_get l.length 0 (by simp) (by simpa using h3) i x (Nat.zero_le _) hx
  · exact h.rows

theorem append_base {lo : Nat} {L : Heap} {v x : V} {l new : List Int} (h : Base lo L v l) (hlo : lo ≤ L.next) (hx : srcElems L 1 x = some (new.map i32c)) (hs : l.length + new.length ≤ 16777216) :
    ∃ v' L', Ev.append Try.prog 27 v x L = some (v', L') ∧ Base lo L' v' (l ++ new) ∧ L.next ≤ L'.next ∧ ∀ n, n < lo → L'.t.get n = L.t.get n := by
  rcases h with ⟨n, rfl, h1, h2, h3⟩ | h
  · have hsm : ∀ k, k ≤ 16777216 → small k 4 = true := fun k hk => by simp [small, ble_dec, hk]
    unfold Ev.append
    simp only [ts27, s21, b27, z21, Option.bind_some, hx]
    cases new with
    | nil =>
      refine ⟨.slice n 0 l.length l.length false, L, ?_, .inl ⟨n, by simp, h1, h2, by simpa using h3⟩, Nat.le_refl _, fun _ _ => rfl⟩
      simp [V.cells, guardO, ble_dec, Heap.storeElems]
    | cons a r =>
      refine ⟨_, _, ?_, .inr (new_open (L := L) (T0 := L.t) (all := l ++ a :: r) (by simp) hlo), Nat.le_succ _, fun m hm => T.get_set_ne _ _ (by omega)⟩
      have hb2 : (l.length + (r.length + 1)).ble l.length = false := by
        rw [ble_dec]; simp
      simp only [h3, Option.map_some, List.length_map]
      rw [hsm _ hs]
      simp [guardO, V.cells, hb2]
  · obtain ⟨v', L', h1, h2, h3, h4⟩ := append_own h hlo hx hs
    exact ⟨v', L', h1, .inr h2, h3, h4⟩
end Go.Proofs.Ytpfmoolpeecobaa
