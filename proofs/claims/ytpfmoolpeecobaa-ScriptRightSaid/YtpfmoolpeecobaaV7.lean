/- Plain laws of scripts of bytes. Rows of bytes, cut and joined. -/
import Derived.Test.YtpfmoolpeecobaaV6
import Derived.Test.YtpfmoolpeecobaaV0
namespace Go.Proofs.Ytpfmoolpeecobaa
open Go Go.Proofs Go.Proofs.Ytpfmoolpeecobaa.Ev
set_option linter.unusedVariables false
set_option linter.unusedSimpArgs false
set_option maxRecDepth 100000
set_option maxHeartbeats 4000000

theorem hd0_app {xs : List Int} (h : 1 ≤ xs.length) (zs : List Int) : hd0 (xs ++ zs) = hd0 xs := by
  cases xs with
  | nil => simp at h
  | cons a t => rfl
theorem tail_app {xs : List Int} (h : 1 ≤ xs.length) (zs : List Int) : (xs ++ zs).tail = xs.tail ++ zs := by
  cases xs with
  | nil => simp at h
  | cons a t => rfl
theorem takeZ_app {xs : List Int} {k : Nat} (h : k ≤ xs.length) (zs : List Int) : takeZ k (xs ++ zs) = takeZ k xs := by
  unfold takeZ
  refine List.map_congr_left fun j hj => ?_
  have hj : j < xs.length := by have := List.mem_range.1 hj; omega
  simp [List.getD, List.getElem?_append_left hj]
theorem text_app {xs : List Int} (h : 1 + tlen xs ≤ xs.length ∨ 1 ≤ xs.length ∧ 1 + tlen (xs) ≤ xs.length) (zs : List Int) : tlen (xs ++ zs) = tlen xs ∧ textP (xs ++ zs) = textP xs := by
  have h1 : 1 + tlen xs ≤ xs.length := by rcases h with h | h; exact h; exact h.2
  have e1 : tlen (xs ++ zs) = tlen xs := by unfold tlen; rw [hd0_app (by omega)]
  refine ⟨e1, ?_⟩
  unfold textP
  rw [e1, tail_app (by omega), takeZ_app (by rw [List.length_tail]; omega)]
theorem tlen_app {xs : List Int} (h : 1 ≤ xs.length) (zs : List Int) : tlen (xs ++ zs) = tlen xs := by unfold tlen; rw [hd0_app h]
theorem evP_pos (bs : List Int) : 1 ≤ (evP bs).2 := by
  unfold evP
  repeat (first | (simp only; omega) | split)
/-- an event hangs on its own bytes alone -/
theorem ev_app {xs : List Int} (zs : List Int) (h : (evP xs).2 ≤ xs.length ∧ 1 ≤ xs.length ∨ (evP (xs ++ zs)).2 ≤ xs.length) : evE (xs ++ zs) = evE xs ∧ (evP (xs ++ zs)).2 = (evP xs).2 := by
  have hx : 1 ≤ xs.length := by rcases h with h | h; exact h.2; have := evP_pos (xs ++ zs); omega
  have e0 := hd0_app hx zs
  have t1 := tail_app hx zs
  unfold evP at h
  unfold evP evE
  simp only [e0, t1] at h ⊢
  by_cases k0 : hd0 xs % 9 = 0 ∨ hd0 xs % 9 = 4
  · simp only [k0, if_true] at h ⊢
    have h2 : 1 ≤ xs.tail.length := by rw [List.length_tail]; omega
    have e1 := tlen_app h2 zs
    rw [e1] at h ⊢
    have := text_app (xs := xs.tail) (.inl (by rw [List.length_tail]; omega)) zs
    rw [this.2]
    exact ⟨rfl, rfl⟩
  simp only [k0, if_false] at h ⊢
  by_cases k3 : hd0 xs % 9 = 3
  · simp only [k3, if_true] at h ⊢
    have h2 : 1 ≤ xs.tail.length := by rw [List.length_tail]; omega
    have t2 := tail_app h2 zs
    rw [t2] at h ⊢
    have h3 : 1 ≤ xs.tail.tail.length := by rw [List.length_tail, List.length_tail]; omega
    have e1 := tlen_app h3 zs
    rw [e1] at h ⊢
    have := text_app (xs := xs.tail.tail) (.inl (by rw [List.length_tail, List.length_tail]; omega)) zs
    rw [this.2, hd0_app h2]
    exact ⟨rfl, rfl⟩
  simp only [k3, if_false] at h ⊢
  by_cases k5 : hd0 xs % 9 = 5
  · simp only [k5, if_true] at h ⊢
    have hl : 5 ≤ xs.length := by omega
    have h2 : 1 ≤ xs.tail.length := by rw [List.length_tail]; omega
    rw [tail_app h2 zs, hd0_app h2, hd0_app (xs := xs.tail.tail) (by rw [List.length_tail, List.length_tail]; omega), List.drop_append_of_le_length (by rw [List.length_tail]; omega), List.drop_append_of_le_length (by rw [List.length_tail]; omega),
      hd0_app (by rw [List.length_drop, List.length_tail]; omega), hd0_app (by rw [List.length_drop, List.length_tail]; omega)]
    exact ⟨rfl, trivial⟩
  simp only [k5, if_false] at h ⊢
  by_cases k6 : hd0 xs % 9 = 6
  · simp only [k6, if_true] at h ⊢
    have hl : 3 ≤ xs.length := by omega
    have h2 : 1 ≤ xs.tail.length := by rw [List.length_tail]; omega
    rw [tail_app h2 zs, hd0_app h2, hd0_app (xs := xs.tail.tail) (by rw [List.length_tail, List.length_tail]; omega)]
    exact ⟨rfl, trivial⟩
  simp only [k6, if_false] at h ⊢
  by_cases k7 : hd0 xs % 9 = 7
  · simp only [k7, if_true] at h ⊢
    have hl : 2 ≤ xs.length := by omega
    have h2 : 1 ≤ xs.tail.length := by rw [List.length_tail]; omega
    rw [hd0_app h2]
    exact ⟨rfl, trivial⟩
  simp only [k7, if_false] at h ⊢
  exact ⟨trivial, trivial⟩
/-- events of a beginning: all but the last one are those of the whole -/
theorem evs_app : ∀ (m : Nat) (xs zs : List Int), (evsP m xs).1.length ≤ (evsP m (xs ++ zs)).1.length ∧ (evsP m xs).1.take ((evsP m xs).1.length - 1) = (evsP m (xs ++ zs)).1.take ((evsP m xs).1.length - 1)
  | 0, xs, zs => by simp [evsP]
  | m + 1, [], zs => by simp [evsP]
  | m + 1, b :: t, zs => by
    by_cases hj : (evP (b :: t)).2 ≤ (b :: t).length
    · obtain ⟨h1, h2⟩ := ev_app zs (.inl ⟨hj, by simp⟩)
      obtain ⟨g1, g2⟩ := evs_app m ((b :: t).drop (evP (b :: t)).2) zs
      have hd : (b :: t ++ zs).drop (evP (b :: t)).2 = (b :: t).drop (evP (b :: t)).2 ++ zs := List.drop_append_of_le_length hj
      have e1 : evsP (m + 1) (b :: t) = (evE (b :: t) :: (evsP m ((b :: t).drop (evP (b :: t)).2)).1, (evP (b :: t)).2 + (evsP m ((b :: t).drop (evP (b :: t)).2)).2) := rfl
      have e2 : evsP (m + 1) (b :: t ++ zs) = (evE (b :: t ++ zs) :: (evsP m ((b :: t ++ zs).drop (evP (b :: t ++ zs)).2)).1, (evP (b :: t ++ zs)).2 + (evsP m ((b :: t ++ zs).drop (evP (b :: t ++ zs)).2)).2) := rfl
      rw [e1, e2, h1, h2, hd]
      simp only [List.length_cons, Nat.add_sub_cancel]
      refine ⟨by omega, ?_⟩
      generalize (evsP m ((b :: t).drop (evP (b :: t)).2)).1 = A at *
      generalize (evsP m ((b :: t).drop (evP (b :: t)).2 ++ zs)).1 = B at *
      cases A with
      | nil => simp
      | cons a A => simpa using g2
    · have hnil : (b :: t).drop (evP (b :: t)).2 = [] := List.drop_of_length_le (by omega)
      have e1 : evsP (m + 1) (b :: t) = (evE (b :: t) :: (evsP m ((b :: t).drop (evP (b :: t)).2)).1, (evP (b :: t)).2 + (evsP m ((b :: t).drop (evP (b :: t)).2)).2) := rfl
      have e3 : evsP m ([] : List Int) = ([], 0) := by cases m <;> rfl
      rw [e1, hnil, e3]
      have e2 : (evsP (m + 1) (b :: t ++ zs)).1 = evE (b :: t ++ zs) :: (evsP m ((b :: t ++ zs).drop (evP (b :: t ++ zs)).2)).1 := rfl
      rw [e2]
      simp
/-- bytes are left: there are as many events as there may be -/
theorem evs_full : ∀ (m : Nat) (ys : List Int), (evsP m ys).2 < ys.length → (evsP m ys).1.length = m
  | 0, ys, h => rfl
  | m + 1, [], h => by simp at h
  | m + 1, b :: t, h => by
    have e1 : evsP (m + 1) (b :: t) = (evE (b :: t) :: (evsP m ((b :: t).drop (evP (b :: t)).2)).1, (evP (b :: t)).2 + (evsP m ((b :: t).drop (evP (b :: t)).2)).2) := rfl
    rw [e1] at h ⊢
    simp only at h ⊢
    rw [List.length_cons, evs_full m _ (by rw [List.length_drop]; omega)]
/-- what counts alone counts -/
theorem evs_exact : ∀ (m : Nat) (ys zs : List Int), (evsP m ys).2 ≤ ys.length → (evsP m ys).1.length = m → evsP m (ys.take (evsP m ys).2 ++ zs) = evsP m ys
  | 0, ys, zs, h, hl => rfl
  | m + 1, [], zs, h, hl => by simp [evsP] at hl
  | m + 1, b :: t, zs, h, hl => by
    have e1 : evsP (m + 1) (b :: t) = (evE (b :: t) :: (evsP m ((b :: t).drop (evP (b :: t)).2)).1, (evP (b :: t)).2 + (evsP m ((b :: t).drop (evP (b :: t)).2)).2) := rfl
    rw [e1] at h hl ⊢
    simp only [List.length_cons, Nat.add_right_cancel_iff] at h hl ⊢
    have ih := evs_exact m ((b :: t).drop (evP (b :: t)).2) zs (by rw [List.length_drop]; simp only [List.length_cons]; omega) hl
    have hp := evP_pos (b :: t)
    generalize hc : (evsP m ((b :: t).drop (evP (b :: t)).2)).2 = c' at *
    generalize hj : (evP (b :: t)).2 = j at *
    have htk : (b :: t).take (j + c') = (b :: t).take j ++ ((b :: t).drop j).take c' := List.take_add
    have hlen : ((b :: t).take j).length = j := by rw [List.length_take]; simp only [List.length_cons]; omega
    have hev := ev_app (xs := (b :: t).take j) ((b :: t).drop j) (.inr (by rw [List.take_append_drop, hj, hlen]; exact Nat.le_refl _))
    rw [List.take_append_drop, hj] at hev
    have hev2 := ev_app (xs := (b :: t).take j) (((b :: t).drop j).take c' ++ zs) (.inl ⟨by rw [← hev.2, hlen]; exact Nat.le_refl _, by omega⟩)
    rw [htk, List.append_assoc]
    obtain ⟨b', t', hbt⟩ : ∃ b' t', (b :: t).take j ++ (((b :: t).drop j).take c' ++ zs) = b' :: t' := by
      obtain ⟨j', rfl⟩ : ∃ j', j = j' + 1 := ⟨j - 1, by omega⟩
      exact ⟨b, _, rfl⟩
    have e2 : evsP (m + 1) (b' :: t') = (evE (b' :: t') :: (evsP m ((b' :: t').drop (evP (b' :: t')).2)).1, (evP (b' :: t')).2 + (evsP m ((b' :: t').drop (evP (b' :: t')).2)).2) := rfl
    rw [hbt, e2, ← hbt, hev2.1, hev2.2, ← hev.1, ← hev.2]
    have hdr : ((b :: t).take j ++ (((b :: t).drop j).take c' ++ zs)).drop j = ((b :: t).drop j).take c' ++ zs := by
      have := List.drop_left' (l₁ := (b :: t).take j) (l₂ := ((b :: t).drop j).take c' ++ zs) hlen
      exact this
    rw [hdr, ih]
    simp only [hc]
/-- a setup hangs on its own bytes alone -/
theorem su_app {xs : List Int} (zs : List Int) (h : 5 ≤ xs.length) : suRows (xs ++ zs) = suRows xs ∧ suCols (xs ++ zs) = suCols xs ∧ suN (xs ++ zs) = suN xs ∧ suBits (xs ++ zs) = suBits xs ∧ suRing (xs ++ zs) = suRing xs := by
  match xs, h with
  | a :: b :: c :: d :: e :: r, _ => exact ⟨rfl, rfl, rfl, rfl, rfl⟩
theorem srcs_app {xs : List Int} (zs : List Int) (h : 5 + suN xs ≤ xs.length) : suSrcs (xs ++ zs) = suSrcs xs := by
  obtain ⟨h1, h2, h3, _, _⟩ := su_app zs (show 5 ≤ xs.length by omega)
  unfold suSrcs
  rw [h1, h2, h3]
  obtain ⟨a, b, c, d, e, r, rfl⟩ : ∃ a b c d e r, xs = a :: b :: c :: d :: e :: r := by
    match xs, (show 5 ≤ xs.length by omega) with
    | a :: b :: c :: d :: e :: r, _ => exact ⟨a, b, c, d, e, r, rfl⟩
  simp only [List.length_cons] at h
  show srcsP _ (r ++ zs) _ = srcsP _ r _
  unfold srcsP
  refine List.map_congr_left fun i hi => ?_
  have hi := List.mem_range.1 hi
  rw [List.drop_append_of_le_length (by omega), hd0_app (by rw [List.length_drop]; omega)]
end Go.Proofs.Ytpfmoolpeecobaa
namespace Go.Proofs.Ytpfmoolpeecobaa
open Go Go.Proofs Go.Proofs.Ytpfmoolpeecobaa.Ev
set_option linter.unusedVariables false
set_option linter.unusedSimpArgs false
set_option maxRecDepth 100000
set_option maxHeartbeats 4000000

theorem Bs.take {c : Nat} {L : Heap} {v : V} {bs : List Int} (h : Bs c L v bs) {j : Nat} (hj : j ≤ bs.length) :
    ∃ v', Ev.sliceOp Try.prog 38 v none (some (.int .i64 (j : Int))) none = some v' ∧ Bs c L v' (bs.take j) := by
  rcases h with ⟨rfl, rfl⟩ | ⟨n, o, cap, q, rfl, hn, hnc, hc, hx⟩
  · simp at hj
    subst hj
    exact ⟨.nils, by simp only [Ev.sliceOp, pt38, ps5, Option.bind_some]; rfl, .inl ⟨rfl, by simp⟩⟩
  · have hl : (bs.take j).length = j := by rw [List.length_take]; omega
    have hg : ∀ (i : Nat) (x : Int), (bs.take j)[i]? = some x → Heap.load Try.prog L 5 n (o + i) = some (.int .u8 x) := by
      intro i x hi
      have hlt := (List.getElem?_eq_some_iff.1 hi).1
      rw [hl] at hlt
      rw [List.getElem?_take_of_lt hlt] at hi
      exact hx i x hi
    cases q with
    | true =>
      have e2 : Nat.blt j (bs.length + 1) = true := by rw [blt_dec]; simp; omega
      refine ⟨.slice n o j cap true, by simp [Ev.sliceOp, pt38, ps5, guardO, Ev.bound, idx_nat, e2], .inr ⟨n, o, cap, true, by rw [hl], hn, hnc, fun h => (by cases h), hg⟩⟩
    | false =>
      have hc := hc rfl
      have e2 : Nat.blt j (cap + 1) = true := by rw [blt_dec]; simp; omega
      refine ⟨.slice n o j cap false, by simp [Ev.sliceOp, pt38, ps5, guardO, Ev.bound, idx_nat, e2], .inr ⟨n, o, cap, false, by rw [hl], hn, hnc, fun _ => by rw [hl]; omega, hg⟩⟩
theorem Bs.src {c : Nat} {L : Heap} {v : V} {bs : List Int} (h : Bs c L v bs) : srcElems L 1 v = some (bs.map u8c) := by
  rcases h with ⟨rfl, rfl⟩ | ⟨n, o, cap, q, rfl, hn, hnc, hc, hx⟩
  · rfl
  · have key : ∀ (k i : Nat), i + k = bs.length → L.elems n (o + i) 1 k = some ((bs.drop i).map u8c) := by
      intro k
      induction k with
      | zero => intro i hi; simp [Heap.elems, List.drop_of_length_le (show bs.length ≤ i by omega)]
      | succ k ih =>
        intro i hi
        have hlt : i < bs.length := by omega
        have hl := hx i bs[i] (by simp [hlt])
        simp only [Heap.load, Option.bind_eq_some_iff] at hl
        obtain ⟨p, hp, hl⟩ := hl
        simp only [Ev.part, pa5, ps5] at hl
        have ht : takeN 1 (p.1.drop p.2) = some [.int .u8 bs[i]] := by
          have h2 : p.1[p.2]? = some (.int .u8 bs[i]) := by simpa using hl
          have hlt2 := (List.getElem?_eq_some_iff.1 h2)
          rw [List.drop_eq_getElem_cons hlt2.1, hlt2.2]
          rfl
        simp only [Heap.elems, hp, Option.bind_some, ht, Option.map_some]
        rw [Nat.add_assoc, ih (i + 1) (by omega), List.drop_eq_getElem_cons hlt]
        rfl
    have := key bs.length 0 (by omega)
    simpa [srcElems] using this
theorem fewS_ok {L : Heap} {c : Nat} {v : V} {bs : List Int} (h : Bs c L v bs) (m : Nat) : ∃ v', ACall Try.prog 29 [v, .int .i64 (m : Int)] L v' L ∧ Bs c L v' (bs.take m) := by
  obtain ⟨v', hs, hb⟩ := h.take (j := min m bs.length) (by omega)
  have htk : bs.take (min m bs.length) = bs.take m := List.take_eq_take_min.symm
  rw [htk] at hb
  have hlen := h.len
  have hmin : ∀ L, Ev.builtinQ Try.prog .min #[3, 3] [.int .i64 (bs.length : Int), .int .i64 (m : Int)] L = some (.int .i64 ((min m bs.length : Nat) : Int)) := by
    intro L
    have : (if (m : Int) < (bs.length : Int) then (m : Int) else (bs.length : Int)) = ((min m bs.length : Nat) : Int) := by split <;> omega
    simp only [Ev.builtinQ, Ev.V.asInt, Ev.minL, Option.bind_some, Option.map_some, this]
  refine ⟨v', ?_, hb⟩
  refine ACall.of_body_same Try.func29 rfl ?_
  refine ACode.seq (ACode.regS noT_ok names_ok mix (t' := ?_) (L' := ?_) [0] (by rfl) ?_ ?_)
  rotate_left 2
  · refine sq rfl rfl rfl (by simp [go_sem, X, Try.f29]; rfl) ?_
    rfl
  refine ACode.seq (ACode.regS noT_ok names_ok mix (t' := ?_) (L' := ?_) [0, 1, 2, 3, 4, 5, 6] (by rfl) ?_ ?_)
  rotate_left 2
  · iterate 7 (refine sq rfl rfl rfl (by simp [go_sem, xl, xs, xe, xa, xi, xb, xv, xc, xk, hlen, hmin, hs, Try.f29]; rfl) ?_)
    rfl
  exact ACode.ret ⟨.inr rfl, [v'], rfl, by simp [Try.f29, resVals, tget_set], rfl⟩

theorem srcs_slP (L : Heap) (bs : List Int) : SlP 6 83 srcF (rowsHP 6 srcF L (suSrcs bs)) (rowsVP L (suSrcs bs)) (suSrcs bs) := rows_slP (z := .nils) ps83 pa83 (by decide) (fun _ => rfl) _
theorem rowsHP_next {α : Type} (sz : Nat) (f : α → List V) (L : Heap) (l : List α) : L.next ≤ (rowsHP sz f L l).next := (rowsHP_keep 0 sz f L l).1
theorem rowsHP_old {α : Type} (sz : Nat) (f : α → List V) (L : Heap) (l : List α) {n : Nat} (hn : n < L.next) : (rowsHP sz f L l).t.get n = L.t.get n := by
  match l with
  | [] => rfl
  | x :: r => exact T.get_set_ne _ _ (by omega)
/-- the events of a script of bytes -/
def scEvs (bs : List Int) : List Evt := (evsP 40 (bs.drop (5 + suN bs))).1
theorem evs_le : ∀ (m : Nat) (bs : List Int), (evsP m bs).1.length ≤ m
  | 0, _ => Nat.le_refl _
  | m + 1, [] => Nat.zero_le _
  | m + 1, b :: t => by
    have := evs_le m ((b :: t).drop (evP (b :: t)).2)
    simp only [evsP, List.length_cons]
    omega
/-- Parse, as the laws use it -/
theorem parse_at {L : Heap} {v : V} {bs : List Int} (h : Bs L.next L v bs) (hr : ∀ x ∈ bs, 0 ≤ x ∧ x ≤ 255) (hlen : bs.length ≤ 1000000) :
    ∃ A sv ev, ACall Try.prog 30 [v] L (.tuple [.agg (scL (suRows bs) (suCols bs) sv (suBits bs % 2) (suBits bs / 2 % 2) (suBits bs / 4 % 2) (suBits bs / 8 % 2) (suBits bs / 16 % 2) (suRing bs) ev), .int .i64 ((min (scN bs) bs.length : Nat) : Int)]) A ∧
      L.next ≤ A.next ∧ (∀ n, n < L.next → A.t.get n = L.t.get n) ∧ SlP 6 83 srcF A sv (suSrcs bs) ∧ SlP 9 86 evF A ev (scEvs bs) := by
  have hp := parse_ok h hr hlen
  have hn : (bs.length : Int) - (((bs.drop (scN bs)).length : Nat) : Int) = ((min (scN bs) bs.length : Nat) : Int) := by rw [List.length_drop]; omega
  rw [hn] at hp
  refine ⟨_, _, _, hp, ?_, ?_, ?_, ?_⟩
  · exact Nat.le_trans (rowsHP_next 6 srcF L _) (rowsHP_next 9 evF _ _)
  · intro n hlt
    have h1 : (scH L bs).t.get n = (rowsHP 6 srcF L (suSrcs bs)).t.get n := rowsHP_old 9 evF _ _ (Nat.lt_of_lt_of_le hlt (rowsHP_next 6 srcF L _))
    rw [h1]
    exact rowsHP_old 6 srcF L _ hlt
  · exact (srcs_slP L bs).keep (rowsHP_next 9 evF _ _) (fun n hlt => rowsHP_old 9 evF _ _ hlt)
  · exact rows_slP (z := .nils) ps86 pa86 (by decide) (fun _ => rfl) _
/-- bytes, as a new row -/
theorem append_new {L : Heap} {m : Nat} {x : V} {new : List Int} (hx : srcElems L 1 x = some (new.map u8c)) (hne : new ≠ []) (hs : new.length ≤ 16777216) :
    Ev.append Try.prog 38 (.slice m 0 0 0 false) x L = some (.slice L.next 0 new.length 0 true, ⟨L.t.set L.next (.cells (rowFrom (new.map u8c) 0) new.length 1 true false), L.next + 1⟩) := by
  have hsm : small (0 + new.length) 1 = true := by simp [small, ble_dec]; omega
  have hb : Nat.ble (0 + new.length) 0 = false := by
    rw [ble_dec]; cases new with
    | nil => exact absurd rfl hne
    | cons a r => simp
  unfold Ev.append
  simp only [pt38, ps5, pb5, pz5, Option.bind_some, hx]
  rw [show (1 != 0 && (V.int IntKind.u8 0).cells.length == 1) = true from rfl]
  simp only [guardO_true, List.length_map, hb, hsm, Heap.elems, Option.map_some, List.nil_append, newOpen]
end Go.Proofs.Ytpfmoolpeecobaa
