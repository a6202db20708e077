/- Plain laws of scripts of bytes. -/
import Derived.Test.YtpfmoolpeecobaaP13
namespace Go.Proofs.Ytpfmoolpeecobaa
open Go Go.Proofs Go.Proofs.Ytpfmoolpeecobaa.Ev
set_option linter.unusedVariables false
set_option linter.unusedSimpArgs false
set_option maxRecDepth 100000
set_option maxHeartbeats 4000000

theorem hd0_app {xs : List Int} (h : 1 ≤ xs.length) (zs : List Int) : hd0 (xs ++ zs) = hd0 xs := by
  cases xs with
  | nil => simp at h
  | cons a t => rfl
theorem tail_app {xs : List Int} (h : 1 ≤ xs.length) (zs : List Int) : (xs ++ zs).tail = xs.tail ++ zs := by
  cases xs with
  | nil => simp at h
  | cons a t => rfl
theorem takeZ_app {xs : List Int} {k : Nat} (h : k ≤ xs.length) (zs : List Int) : takeZ k (xs ++ zs) = takeZ k xs := by
  unfold takeZ
  refine List.map_congr_left fun j hj => ?_
  have hj : j < xs.length := by have := List.mem_range.1 hj; omega
  simp [List.getD, List.getElem?_append_left hj]
theorem text_app {xs : List Int} (h : 1 + tlen xs ≤ xs.length ∨ 1 ≤ xs.length ∧ 1 + tlen (xs) ≤ xs.length) (zs : List Int) : tlen (xs ++ zs) = tlen xs ∧ textP (xs ++ zs) = textP xs := by
  have h1 : 1 + tlen xs ≤ xs.length := by rcases h with h | h; exact h; exact h.2
  have e1 : tlen (xs ++ zs) = tlen xs := by unfold tlen; rw [hd0_app (by omega)]
  refine ⟨e1, ?_⟩
  unfold textP
  rw [e1, tail_app (by omega), takeZ_app (by rw [List.length_tail]; omega)]
theorem tlen_app {xs : List Int} (h : 1 ≤ xs.length) (zs : List Int) : tlen (xs ++ zs) = tlen xs := by unfold tlen; rw [hd0_app h]
theorem evP_pos (bs : List Int) : 1 ≤ (evP bs).2 := by
  unfold evP
  repeat (first | (simp only; omega) | split)
/-- an event hangs on its own bytes alone -/
theorem ev_app {xs : List Int} (zs : List Int) (h : (evP xs).2 ≤ xs.length ∧ 1 ≤ xs.length ∨ (evP (xs ++ zs)).2 ≤ xs.length) : evE (xs ++ zs) = evE xs ∧ (evP (xs ++ zs)).2 = (evP xs).2 := by
  have hx : 1 ≤ xs.length := by rcases h with h | h; exact h.2; have := evP_pos (xs ++ zs); omega
  have e0 := hd0_app hx zs
  have t1 := tail_app hx zs
  unfold evP at h
  unfold evP evE
  simp only [e0, t1] at h ⊢
  by_cases k0 : hd0 xs % 9 = 0 ∨ hd0 xs % 9 = 4
  · simp only [k0, if_true] at h ⊢
    have h2 : 1 ≤ xs.tail.length := by rw [List.length_tail]; omega
    have e1 := tlen_app h2 zs
    rw [e1] at h ⊢
    have := text_app (xs := xs.tail) (.inl (by rw [List.length_tail]; omega)) zs
    rw [this.2]
    exact ⟨rfl, rfl⟩
  simp only [k0, if_false] at h ⊢
  by_cases k3 : hd0 xs % 9 = 3
  · simp only [k3, if_true] at h ⊢
    have h2 : 1 ≤ xs.tail.length := by rw [List.length_tail]; omega
    have t2 := tail_app h2 zs
    rw [t2] at h ⊢
    have h3 : 1 ≤ xs.tail.tail.length := by rw [List.length_tail, List.length_tail]; omega
    have e1 := tlen_app h3 zs
    rw [e1] at h ⊢
    have := text_app (xs := xs.tail.tail) (.inl (by rw [List.length_tail, List.length_tail]; omega)) zs
    rw [this.2, hd0_app h2]
    exact ⟨rfl, rfl⟩
  simp only [k3, if_false] at h ⊢
  by_cases k5 : hd0 xs % 9 = 5
  · simp only [k5, if_true] at h ⊢
    have hl : 5 ≤ xs.length := by omega
    have h2 : 1 ≤ xs.tail.length := by rw [List.length_tail]; omega
    rw [tail_app h2 zs, hd0_app h2, hd0_app (xs := xs.tail.tail) (by rw [List.length_tail, List.length_tail]; omega), List.drop_append_of_le_length (by rw [List.length_tail]; omega), List.drop_append_of_le_length (by rw [List.length_tail]; omega),
      hd0_app (by rw [List.length_drop, List.length_tail]; omega), hd0_app (by rw [List.length_drop, List.length_tail]; omega)]
    exact ⟨rfl, trivial⟩
  simp only [k5, if_false] at h ⊢
  by_cases k6 : hd0 xs % 9 = 6
  · simp only [k6, if_true] at h ⊢
    have hl : 3 ≤ xs.length := by omega
    have h2 : 1 ≤ xs.tail.length := by rw [List.length_tail]; omega
    rw [tail_app h2 zs, hd0_app h2, hd0_app (xs := xs.tail.tail) (by rw [List.length_tail, List.length_tail]; omega)]
    exact ⟨rfl, trivial⟩
  simp only [k6, if_false] at h ⊢
  by_cases k7 : hd0 xs % 9 = 7
  · simp only [k7, if_true] at h ⊢
    have hl : 2 ≤ xs.length := by omega
    have h2 : 1 ≤ xs.tail.length := by rw [List.length_tail]; omega
    rw [hd0_app h2]
    exact ⟨rfl, trivial⟩
  simp only [k7, if_false] at h ⊢
  exact ⟨trivial, trivial⟩
/-- events of a beginning: all but the last one are those of the whole -/
theorem evs_app : ∀ (m : Nat) (xs zs : List Int), (evsP m xs).1.length ≤ (evsP m (xs ++ zs)).1.length ∧ (evsP m xs).1.take ((evsP m xs).1.length - 1) = (evsP m (xs ++ zs)).1.take ((evsP m xs).1.length - 1)
  | 0, xs, zs => by simp [evsP]
  | m + 1, [], zs => by simp [evsP]
  | m + 1, b :: t, zs => by
    by_cases hj : (evP (b :: t)).2 ≤ (b :: t).length
    · obtain ⟨h1, h2⟩ := ev_app zs (.inl ⟨hj, by simp⟩)
      obtain ⟨g1, g2⟩ := evs_app m ((b :: t).drop (evP (b :: t)).2) zs
      have hd : (b :: t ++ zs).drop (evP (b :: t)).2 = (b :: t).drop (evP (b :: t)).2 ++ zs := List.drop_append_of_le_length hj
      have e1 : evsP (m + 1) (b :: t) = (evE (b :: t) :: (evsP m ((b :: t).drop (evP (b :: t)).2)).1, (evP (b :: t)).2 + (evsP m ((b :: t).drop (evP (b :: t)).2)).2) := rfl
      have e2 : evsP (m + 1) (b :: t ++ zs) = (evE (b :: t ++ zs) :: (evsP m ((b :: t ++ zs).drop (evP (b :: t ++ zs)).2)).1, (evP (b :: t ++ zs)).2 + (evsP m ((b :: t ++ zs).drop (evP (b :: t ++ zs)).2)).2) := rfl
      rw [e1, e2, h1, h2, hd]
      simp only [List.length_cons, Nat.add_sub_cancel]
      refine ⟨by omega, ?_⟩
      generalize (evsP m ((b :: t).drop (evP (b :: t)).2)).1 = A at *
      generalize (evsP m ((b :: t).drop (evP (b :: t)).2 ++ zs)).1 = B at *
      cases A with
      | nil => simp
      | cons a A => simpa using g2
    · have hnil : (b :: t).drop (evP (b :: t)).2 = [] := List.drop_of_length_le (by omega)
      have e1 : evsP (m + 1) (b :: t) = (evE (b :: t) :: (evsP m ((b :: t).drop (evP (b :: t)).2)).1, (evP (b :: t)).2 + (evsP m ((b :: t).drop (evP (b :: t)).2)).2) := rfl
      have e3 : evsP m ([] : List Int) = ([], 0) := by cases m <;> rfl
      rw [e1, hnil, e3]
      have e2 : (evsP (m + 1) (b :: t ++ zs)).1 = evE (b :: t ++ zs) :: (evsP m ((b :: t ++ zs).drop (evP (b :: t ++ zs)).2)).1 := rfl
      rw [e2]
      simp
/-- bytes are left: there are as many events as there may be -/
theorem evs_full : ∀ (m : Nat) (ys : List Int), (evsP m ys).2 < ys.length → (evsP m ys).1.length = m
  | 0, ys, h => rfl
  | m + 1, [], h => by simp at h
  | m + 1, b :: t, h => by
    have e1 : evsP (m + 1) (b :: t) = (evE (b :: t) :: (evsP m ((b :: t).drop (evP (b :: t)).2)).1, (evP (b :: t)).2 + (evsP m ((b :: t).drop (evP (b :: t)).2)).2) := rfl
    rw [e1] at h ⊢
    simp only at h ⊢
    rw [List.length_cons, evs_full m _ (by rw [List.length_drop]; omega)]
/-- what counts alone counts -/
theorem evs_exact : ∀ (m : Nat) (ys zs : List Int), (evsP m ys).2 ≤ ys.length → (evsP m ys).1.length = m → evsP m (ys.take (evsP m ys).2 ++ zs) = evsP m ys
  | 0, ys, zs, h, hl => rfl
  | m + 1, [], zs, h, hl => by simp [evsP] at hl
  | m + 1, b :: t, zs, h, hl => by
    have e1 : evsP (m + 1) (b :: t) = (evE (b :: t) :: (evsP m ((b :: t).drop (evP (b :: t)).2)).1, (evP (b :: t)).2 + (evsP m ((b :: t).drop (evP (b :: t)).2)).2) := rfl
    rw [e1] at h hl ⊢
    simp only [List.length_cons, Nat.add_right_cancel_iff] at h hl ⊢
    have ih := evs_exact m ((b :: t).drop (evP (b :: t)).2) zs (by rw [List.length_drop]; simp only [List.length_cons]; omega) hl
    have hp := evP_pos (b :: t)
    generalize hc : (evsP m ((b :: t).drop (evP (b :: t)).2)).2 = c' at *
    generalize hj : (evP (b :: t)).2 = j at *
    have htk : (b :: t).take (j + c') = (b :: t).take j ++ ((b :: t).drop j).take c' := List.take_add
    have hlen : ((b :: t).take j).length = j := by rw [List.length_take]; simp only [List.length_cons]; omega
    have hev := ev_app (xs := (b :: t).take j) ((b :: t).drop j) (.inr (by rw [List.take_append_drop, hj, hlen]; exact Nat.le_refl _))
    rw [List.take_append_drop, hj] at hev
    have hev2 := ev_app (xs := (b :: t).take j) (((b :: t).drop j).take c' ++ zs) (.inl ⟨by rw [← hev.2, hlen]; exact Nat.le_refl _, by omega⟩)
    rw [htk, List.append_assoc]
    obtain ⟨b', t', hbt⟩ : ∃ b' t', (b :: t).take j ++ (((b :: t).drop j).take c' ++ zs) = b' :: t' := by
      obtain ⟨j', rfl⟩ : ∃ j', j = j' + 1 := ⟨j - 1, by omega⟩
      exact ⟨b, _, rfl⟩
    have e2 : evsP (m + 1) (b' :: t') = (evE (b' :: t') :: (evsP m ((b' :: t').drop (evP (b' :: t')).2)).1, (evP (b' :: t')).2 + (evsP m ((b' :: t').drop (evP (b' :: t')).2)).2) := rfl
    rw [hbt, e2, ← hbt, hev2.1, hev2.2, ← hev.1, ← hev.2]
    have hdr : ((b :: t).take j ++ (((b :: t).drop j).take c' ++ zs)).drop j = ((b :: t).drop j).take c' ++ zs := by
      have := List.drop_left' (l₁ := (b :: t).take j) (l₂ := ((b :: t).drop j).take c' ++ zs) hlen
      exact this
    rw [hdr, ih]
    simp only [hc]
/-- a setup hangs on its own bytes alone -/
theorem su_app {xs : List Int} (zs : List Int) (h : 5 ≤ xs.length) : suRows (xs ++ zs) = suRows xs ∧ suCols (xs ++ zs) = suCols xs ∧ suN (xs ++ zs) = suN xs ∧ suBits (xs ++ zs) = suBits xs ∧ suRing (xs ++ zs) = suRing xs := by
  match xs, h with
  | a :: b :: c :: d :: e :: r, _ => exact ⟨rfl, rfl, rfl, rfl, rfl⟩
theorem srcs_app {xs : List Int} (zs : List Int) (h : 5 + suN xs ≤ xs.length) : suSrcs (xs ++ zs) = suSrcs xs := by
  obtain ⟨h1, h2, h3, _, _⟩ := su_app zs (show 5 ≤ xs.length by omega)
  unfold suSrcs
  rw [h1, h2, h3]
  obtain ⟨a, b, c, d, e, r, rfl⟩ : ∃ a b c d e r, xs = a :: b :: c :: d :: e :: r := by
    match xs, (show 5 ≤ xs.length by omega) with
    | a :: b :: c :: d :: e :: r, _ => exact ⟨a, b, c, d, e, r, rfl⟩
  simp only [List.length_cons] at h
  show srcsP _ (r ++ zs) _ = srcsP _ r _
  unfold srcsP
  refine List.map_congr_left fun i hi => ?_
  have hi := List.mem_range.1 hi
  rw [List.drop_append_of_le_length (by omega), hd0_app (by rw [List.length_drop]; omega)]
end Go.Proofs.Ytpfmoolpeecobaa
