/- Stripes of a screen. A source of a setup. The sources of a setup. -/
import Derived.Test.YtpfmoolpeecobaaV2
namespace Go.Proofs.Ytpfmoolpeecobaa
open Go Go.Proofs Go.Proofs.Ytpfmoolpeecobaa.Ev
set_option linter.unusedVariables false
set_option linter.unusedSimpArgs false
set_option maxRecDepth 100000
set_option maxHeartbeats 4000000

theorem screen_ok (r c : Int) (hr : 2 ≤ r ∧ r ≤ 12) (hc : 1 ≤ c ∧ c ≤ 40) (L : Heap) : ACall Try.prog 58 [.int .i64 r, .int .i64 c] L (.bool true) L := by
  have h1 : r ≤ 512 := by omega
  have h2 : c ≤ 512 := by omega
  refine ACall.of_body_same Try.func58 rfl ?_
  refine ACode.seq (ACode.regS noT_ok names_ok mix (t' := ?_) (L' := ?_) [0] (by rfl) ?_ ?_)
  rotate_left 2
  · refine sq rfl rfl rfl (by simp [go_sem, X, Try.f58]; rfl) ?_
    rfl
  refine ACode.seq (ACode.regS noT_ok names_ok mix (t' := ?_) (L' := ?_) [0, 1, 2, 3, 4, 5, 6, 7, 8, 9, 10, 11, 12, 13, 14] (by rfl) ?_ ?_)
  rotate_left 2
  · iterate 3 (refine sq rfl rfl rfl (by simp [go_sem, X, hr, hc, h1, h2, Try.f58]; rfl) ?_)
    iterate 2 (refine sq rfl rfl (by simp [go_sem, X, hr, hc, h1, h2, Try.f58]) (by simp [go_sem, X, hr, hc, h1, h2, Try.f58]; rfl) ?_)
    iterate 2 (refine sq rfl rfl rfl (by simp [go_sem, X, hr, hc, h1, h2, Try.f58]; rfl) ?_)
    iterate 2 (refine sq rfl rfl (by simp [go_sem, X, hr, hc, h1, h2, Try.f58]) (by simp [go_sem, X, hr, hc, h1, h2, Try.f58]; rfl) ?_)
    iterate 2 (refine sq rfl rfl rfl (by simp [go_sem, X, hr, hc, h1, h2, Try.f58]; rfl) ?_)
    iterate 2 (refine sq rfl rfl (by simp [go_sem, X, hr, hc, h1, h2, Try.f58]) (by simp [go_sem, X, hr, hc, h1, h2, Try.f58]; rfl) ?_)
    iterate 2 (refine sq rfl rfl rfl (by simp [go_sem, X, hr, hc, h1, h2, Try.f58]; rfl) ?_)
    rfl
  exact ACode.ret ⟨.inr rfl, [.bool true], rfl, by simp [Try.f58, resVals, tget_set], rfl⟩
def rectV (q : Int × Int × Int × Int) : List V := [.int .i64 q.1, .int .i64 q.2.1, .int .i64 q.2.2.1, .int .i64 q.2.2.2]
/-- stripes of a screen -/
def stripesP : Nat → Int → Int → Int → List (Int × Int × Int × Int)
  | 0, _, _, _ => []
  | n + 1, top, left, cols => (top, 0, (left + n) / (n + 1), cols) :: stripesP n (top + (left + n) / (n + 1)) (left - (left + n) / (n + 1)) cols
theorem stripes_len : ∀ (n : Nat) (t l c : Int), (stripesP n t l c).length = n
  | 0, _, _, _ => rfl
  | n + 1, t, l, c => by simp [stripesP, stripes_len n]
theorem height_le (left : Int) (j : Nat) (h : 0 ≤ left) (hj : j < 4) : 0 ≤ (left + j) / (j + 1) ∧ (left + j) / (j + 1) ≤ left := by
  rcases (show j = 0 ∨ j = 1 ∨ j = 2 ∨ j = 3 by omega) with rfl | rfl | rfl | rfl
  · rw [show ((0 : Nat) : Int) + 1 = 1 from rfl]; omega
  · rw [show ((1 : Nat) : Int) + 1 = 2 from rfl]; omega
  · rw [show ((2 : Nat) : Int) + 1 = 3 from rfl]; omega
  · rw [show ((3 : Nat) : Int) + 1 = 4 from rfl]; omega
/-- a row of a call's own is all that it leaves -/
theorem end_rows0 {α : Type} {f : α → List V} {sz : Nat} {L L1 : Heap} {v' : V} {l : List α} (hf : ∀ x, V.lows L.next (f x) = true) (hk : ∀ n, n < L.next → L1.t.get n = L.t.get n) (hO : OwnP sz f L.next L1 v' l) :
    ∃ ms, Tidy2 L L1 (rowsHP sz f L l) ms ∧ ∀ (κ1 : KM) (z : Value), VR κ1 v' z → VR (tidyK κ1 L.next ms) (rowsVP L l) z := by
  have hc : ∀ n b, n < L.next → L1.t.get n = some b → L.t.get n = some b ∨ b.low L.next := fun n b hn hb => by rw [hk n hn] at hb; exact .inl hb
  rcases hO with ⟨rfl, rfl⟩ | ⟨hne, m, rfl, h2, h3, h4⟩
  · exact ⟨[], Tidy2.zero (T0 := L.t) (fun n hn => (hk n hn).symm) hc (fun _ _ => rfl), fun κ1 z hz => VR_plain (κ := κ1) _ _ rfl hz⟩
  · cases l with
    | nil => exact absurd rfl hne
    | cons x r => exact ⟨[m], Tidy2.one (T0 := L.t) (fun n hn => (hk n hn).symm) hc (fun _ _ => rfl) h2 h4 (rows_low hf _ _ _ _), fun κ1 z hz => VR_slice_newP hz⟩
theorem stripes_ok (r c : Int) (n : Nat) (hr : 2 ≤ r ∧ r ≤ 12) (hc : 1 ≤ c ∧ c ≤ 40) (hn : 1 ≤ n ∧ n ≤ 4) (hnr : (n : Int) < r) (L : Heap) :
    ACall Try.prog 68 [.int .i64 r, .int .i64 c, .int .i64 (n : Int)] L (rowsVP L (stripesP n 1 (r - 1) c)) (rowsHP 4 rectV L (stripesP n 1 (r - 1) c)) := by
  have hs := screen_ok r c hr hc L
  have h1 : ¬ (n : Int) < 1 := by omega
  have h2 : ¬ r ≤ (n : Int) := by omega
  have h1' : ¬ n = 0 := by omega
  have hwr : IntKind.i64.wrap (r - 1) = r - 1 := Go.IntWalk.i64_in _ (by omega)
  refine ACall.of_body2 Try.func68 rfl ?_
  refine ACode.seq (ACode.regS noT_ok names_ok mix (t' := ?_) (L' := ?_) [0] (by rfl) ?_ ?_)
  rotate_left 2
  · refine sq rfl rfl rfl (by simp [go_sem, X, Try.f68]; rfl) ?_
    rfl
  refine ACode.seq ?_
  refine ACode.seq (ACode.regS (oneT_okP hs) names_ok mix (t' := ?_) (L' := ?_) [0, 1, 2, 3, 4, 5, 6, 7, 8, 9, 10, 11, 12] (by rfl) ?_ ?_)
  rotate_left 2
  · iterate 5 (refine sq rfl rfl rfl (by simp [go_sem, X, oneT_sameP, h1, h1', h2, Try.f68]; rfl) ?_)
    iterate 2 (refine sq rfl rfl (by simp [go_sem, X, oneT_sameP, h1, h1', h2, Try.f68]) (by simp [go_sem, X, oneT_sameP, h1, h1', h2, Try.f68]; rfl) ?_)
    iterate 2 (refine sq rfl rfl rfl (by simp [go_sem, X, oneT_sameP, h1, h1', h2, Try.f68]; rfl) ?_)
    iterate 3 (refine sq rfl rfl (by simp [go_sem, X, oneT_sameP, h1, h1', h2, Try.f68]) (by simp [go_sem, X, oneT_sameP, h1, h1', h2, Try.f68]; rfl) ?_)
    refine sq rfl rfl rfl (by simp [go_sem, X, oneT_sameP, h1, h1', h2, Try.f68]; rfl) ?_
    rfl
  refine ACode.condF (by simp [tget_set, opd]) (ACode.skip ?_)
  refine ACode.seq (ACode.regS noT_ok names_ok mix (t' := ?_) (L' := ?_) [0, 1, 2, 3] (by rfl) ?_ ?_)
  rotate_left 2
  · iterate 4 (refine sq rfl rfl rfl (by simp [go_sem, X, hwr, Try.f68]; rfl) ?_)
    rfl
  refine ACode.seq (ACode.block (ACode.loop (fun t d A N => d = [] ∧ ∃ (m : Nat) (top left : Int) (out : List (Int × Int × Int × Int)), m ≤ 4 ∧ N = m ∧ 1 ≤ top ∧ 0 ≤ left ∧ top + left = r ∧ tget t 1 = .int .i64 c ∧ tget t 2 = .int .i64 (m : Int) ∧ tget t 7 = .int .i64 top ∧ tget t 8 = .int .i64 left ∧
    OwnP 4 rectV L.next A (tget t 6) out ∧ out.length + m = n ∧ out ++ stripesP m top left c = stripesP n 1 (r - 1) c ∧ L.next ≤ A.next ∧ ∀ k, k < L.next → A.t.get k = L.t.get k) (N := n)
    ⟨rfl, n, 1, r - 1, [], by omega, rfl, by omega, by omega, by omega, by simp [tget_set, argsT], by simp [tget_set, argsT], by simp [tget_set], by simp [tget_set], .inl ⟨by simp [tget_set], rfl⟩, by simp, rfl, Nat.le_refl _, fun _ _ => rfl⟩ ?_))
  rintro t d A N ⟨rfl, m, top, left, out, hm4, rfl, htop, hleft, hsum, t1, t2, t7, t8, hO, hol, hout, hnx, hkp⟩
  refine ACode.seq ?_
  refine ACode.seq (ACode.regS noT_ok names_ok mix (t' := ?_) (L' := ?_) [0, 1] (by rfl) ?_ ?_)
  rotate_left 2
  · iterate 2 (refine sq rfl rfl rfl (by simp [go_sem, X, t2, Try.f68]; rfl) ?_)
    rfl
  refine ACode.cond (p := (0 : Int) < (N : Int)) (by simp [tget_set, opd]) (fun hmp => ACode.skip ?_) (fun hge => ACode.exit ?_)
  rotate_left 1
  ·
    show ACode _ _ _ _ _ _ _
    obtain rfl : N = 0 := by omega
    simp only [stripesP, List.append_nil] at hout
    subst hout
    refine ACode.seq (ACode.regS noT_ok names_ok mix (t' := ?_) (L' := ?_) [0, 1] (by rfl) ?_ ?_)
    rotate_left 2
    · iterate 2 (refine sq rfl rfl rfl (by simp [go_sem, X, Try.f68]; rfl) ?_)
      rfl
    obtain ⟨ms, hT, hV⟩ := end_rows0 (sz := 4) (f := rectV) (fun _ => rfl) hkp hO
    exact ACode.ret ⟨.inr rfl, _, [tget t 6], ms, rfl, by simp [Try.f68, resVals, tget_set], hT, hV⟩
  obtain ⟨j, rfl⟩ : ∃ j, N = j + 1 := ⟨N - 1, by omega⟩
  have hh := height_le left j hleft (by omega)
  have hw1 : IntKind.i64.wrap (left + ((j : Int) + 1)) = left + ((j : Int) + 1) := Go.IntWalk.i64_in _ (by omega)
  have hw2 : IntKind.i64.wrap (left + ((j : Int) + 1) - 1) = left + (j : Int) := by rw [Go.IntWalk.i64_in _ (by omega)]; omega
  have hq : (left + (j : Int)).tdiv ((j : Int) + 1) = (left + j) / (j + 1) := Int.tdiv_eq_ediv_of_nonneg (by omega)
  have hj0 : ¬ ((j : Int) + 1 = 0) := by omega
  simp only [stripesP] at hout
  push_cast at t2
  generalize hhd : (left + (j : Int)) / ((j : Int) + 1) = hgt at *
  have hw3 : IntKind.i64.wrap hgt = hgt := Go.IntWalk.i64_in _ (by omega)
  have hw4 : IntKind.i64.wrap (top + hgt) = top + hgt := Go.IntWalk.i64_in _ (by omega)
  have hw5 : IntKind.i64.wrap (left - hgt) = left - hgt := Go.IntWalk.i64_in _ (by omega)
  have hw6 : IntKind.i64.wrap (j : Int) = (j : Int) := Go.IntWalk.i64_in _ (by omega)
  refine ACode.seq (ACode.block ?_)
  refine ACode.seq (ACode.regS noT_ok names_ok mix (t' := ?_) (L' := ?_) [0, 1, 2, 3, 4, 5, 6, 7, 8, 9, 10] (by rfl) ?_ ?_)
  rotate_left 2
  · iterate 11 (refine sq rfl rfl rfl (by simp [go_sem, X, t1, t2, t7, t8, hw1, hw2, hq, hw3, hj0, Try.f68]; rfl) ?_)
    rfl
  change ACode _ _ _ _ _ ⟨A.t.set A.next (.cells (T.set .leaf 0 (rectV (top, 0, hgt, c))) 1 4 false false), A.next + 1⟩ _
  have hb1 : (T.set A.t A.next (.cells (T.set .leaf 0 (rectV (top, 0, hgt, c))) 1 4 false false)).get A.next = some (.cells (T.set .leaf 0 [.int .i64 top, .int .i64 0, .int .i64 hgt, .int .i64 c]) 1 4 false false) := T.get_set_same _ _ _
  have hk1 : ∀ k, k < A.next → (T.set A.t A.next (.cells (T.set .leaf 0 (rectV (top, 0, hgt, c))) 1 4 false false)).get k = A.t.get k := fun k hk => T.get_set_ne _ _ (by omega)
  generalize hA1 : (⟨A.t.set A.next (.cells (T.set .leaf 0 (rectV (top, 0, hgt, c))) 1 4 false false), A.next + 1⟩ : Heap) = A1 at *
  have e1 : A.t.set A.next (.cells (T.set .leaf 0 (rectV (top, 0, hgt, c))) 1 4 false false) = A1.t := by rw [← hA1]
  have e2 : A.next + 1 = A1.next := by rw [← hA1]
  rw [e1] at hb1 hk1
  refine ACode.seq (ACode.regD noT_ok names_ok mix (t' := ?_) (L' := ?_) [0,0,2,7,0,0,32,112,15,511] [0,1,2,3,4,5,6,7,8,9] (by decide +kernel) (by decide +kernel) (by decide +kernel) ?_ ?_)
  rotate_left 2
  · iterate 2 (refine dq rfl rfl rfl rfl (by simp [go_sem, X, t7, t8, hb1, hw4, hw5, Try.f68]; rfl) ?_)
    refine dr rfl rfl rfl rfl (by simp [go_sem, X, t7, t8, hb1, hw4, hw5, Try.f68]; rfl) ?_
    iterate 3 (refine dq rfl rfl rfl rfl (by simp [go_sem, X, t7, t8, hb1, hw4, hw5, Try.f68]; rfl) ?_)
    refine dr rfl rfl rfl rfl (by simp [go_sem, X, t7, t8, hb1, hw4, hw5, Try.f68]; rfl) ?_
    iterate 3 (refine dq rfl rfl rfl rfl (by simp [go_sem, X, t7, t8, hb1, hw4, hw5, Try.f68]; rfl) ?_)
    rfl
  have hO1 : OwnP 4 rectV L.next A1 (tget t 6) out := hO.still (by omega) (fun m hm => hk1 m (hO.nm_lt hm).2)
  have hO2 : OwnP 4 rectV L.next ⟨A1.t.set A1.next (.cells (T.set .leaf 0 (rectV (top, 0, hgt, c))) 1 4 false false), A1.next + 1⟩ (tget t 6) out := hO1.still (Nat.le_succ _) (fun m hm => T.get_set_ne _ _ (by have := (hO1.nm_lt hm).2; omega))
  have hsrc : srcElems ⟨A1.t.set A1.next (.cells (T.set .leaf 0 (rectV (top, 0, hgt, c))) 1 4 false false), A1.next + 1⟩ 4 (.slice A1.next 0 1 1 false) = some ([(top, (0 : Int), hgt, c)].map rectV) := by
    simp [srcElems, Heap.elems, Heap.elem, T.get_set, takeN, rectV]
  obtain ⟨v6, A3, ha, hO3, hn3, hk3, _⟩ := append_P (sz := 4) (f := rectV) (by decide) (fun _ => rfl) (fun _ => rfl) pt79 ps81 b_81 (by decide) pz81 rfl hO2 (by simp only; omega) hsrc (by simp only [List.length_cons, List.length_nil]; omega)
  simp only [rectV] at ha
  refine ACode.regS noT_ok names_ok mix (t' := ?_) (L' := ?_) [0, 1, 2, 3, 4] (by rfl) ?_ ?_
  rotate_left 2
  · iterate 5 (refine sq rfl rfl rfl (by simp [go_sem, X, hb1, ha, pi79, Try.f68]; rfl) ?_)
    rfl
  show ACode _ _ _ _ _ _ _
  refine ACode.regS noT_ok names_ok mix (t' := ?_) (L' := ?_) [0, 1, 2] (by rfl) ?_ ?_
  rotate_left 2
  · iterate 3 (refine sq rfl rfl rfl (by simp [go_sem, X, t2, hw6, Try.f68]; rfl) ?_)
    rfl
  refine ⟨j, Nat.lt_succ_self _, rfl, j, top + hgt, left - hgt, out ++ [(top, 0, hgt, c)], by omega, rfl, by omega, by omega, by omega, by simp [tget_set, t1], by simp [tget_set], by simp [tget_set], by simp [tget_set], by simpa [tget_set] using hO3, by simp; omega, by rw [List.append_assoc]; exact hout, by simp only at hn3; omega, ?_⟩
  intro k hk
  rw [hk3 k (by simp only; omega) (fun e => by have := (hO.nm_lt e).1; omega)]
  show T.get (T.set _ _ _) _ = _
  rw [T.get_set_ne _ _ (by omega), hk1 k (by omega), hkp k hk]
end Go.Proofs.Ytpfmoolpeecobaa
namespace Go.Proofs.Ytpfmoolpeecobaa
open Go Go.Proofs Go.Proofs.Ytpfmoolpeecobaa.Ev
set_option linter.unusedVariables false
set_option linter.unusedSimpArgs false
set_option maxRecDepth 100000
set_option maxHeartbeats 4000000

theorem tidy2c {L L1 : Heap} {c e : Nat} {b1 b2 : Blk} (hc : c < L.next) (he : e < L.next) (hne : e ≠ c) (hv : b1.low L.next) (hcs : b2.low L.next) (h1 : L1.t.get c = some b1) (h2 : L1.t.get e = some b2) (hk : ∀ n, n < L.next → n ≠ c → n ≠ e → L1.t.get n = L.t.get n) : Tidy2 L L1 ⟨(L.t.set c b1).set e b2, L.next⟩ [] := by
  refine Tidy2.zero (T0 := (L.t.set c b1).set e b2) ?_ ?_ ?_
  · intro n hn
    rw [T.get_set]
    split
    · rename_i h; subst h; exact h2.symm
    · rename_i h
      rw [T.get_set]
      split
      · rename_i h; subst h; exact h1.symm
      · rename_i h'; exact (hk n hn h' h).symm
  · intro n b hn hb
    by_cases h : n = c
    · subst h; rw [h1] at hb; injection hb with hb; subst hb; exact .inr hv
    · by_cases h' : n = e
      · subst h'; rw [h2] at hb; injection hb with hb; subst hb; exact .inr hcs
      · rw [hk n hn h h'] at hb; exact .inl hb
  · intro n hn
    rw [T.get_set_ne _ _ (by omega)]; exact T.get_set_ne _ _ (by omega)
/-- panes, so many of them taken -/
def pvAt (m n i : Nat) : V := .slice m (0 + 4 * i) (n - i) i true
def srcF (q : Int × Int × Int × Int × Int) : List V := [.int .u8 (q.1 % 2), .bool (decide (q.1 / 2 % 2 = 1)), .int .i64 q.2.1, .int .i64 q.2.2.1, .int .i64 q.2.2.2.1, .int .i64 q.2.2.2.2]
theorem bits256 : ∀ n : Fin 256, iand .i64 (n.val : Int) 1 = (n.val : Int) % 2 ∧ ishr .i64 (n.val : Int) 1 = (n.val : Int) / 2 ∧ iand .i64 ((n.val : Int) / 2) 1 = (n.val : Int) / 2 % 2 := by decide +kernel
theorem bitsk (k : Int) (h : 0 ≤ k ∧ k ≤ 255) : iand .i64 k 1 = k % 2 ∧ ishr .i64 k 1 = k / 2 ∧ iand .i64 (k / 2) 1 = k / 2 % 2 := by
  have := bits256 ⟨k.toNat, by omega⟩
  have h2 : ((k.toNat : Nat) : Int) = k := by omega
  simp only [h2] at this
  exact this
noncomputable def setCP (L : Heap) (c : Nat) (v : V) (p : Nat) (pv : V) : Heap := ⟨(L.t.set c (rcell v)).set p (rcell pv), L.next⟩
theorem setupOne_ok {L : Heap} {c r p m n i : Nat} {v : V} {bs : List Int} {ps : List (Int × Int × Int × Int)} (h : Rd L c v bs) (hr : L.t.get r = some (boxB c)) (hp : L.t.get p = some (rcell (pvAt m n i)))
    (hm : L.t.get m = some (.cells (rowFrom (ps.map rectV) 0) n 4 true false)) (hpl : ps.length = n) (hi : i < n) (hrn : r < L.next) (hpn : p < L.next) (hmn : m < L.next) (hrc : r ≠ c) (hpc : p ≠ c) (hmc : m ≠ c) (hmp : m ≠ p) (q : Int × Int × Int × Int) (hq : ps[i]? = some q) :
    ACall Try.prog 70 [.ptr r 0, .ptr p 0] L (.agg (srcF (hd0 bs, q))) (setCP L c (nextV v) p (pvAt m n (i + 1))) := by
  have hhd := h.head
  obtain ⟨hb1, hb2, hb3⟩ := bitsk (hd0 bs) hhd
  have hw : IntKind.u8.wrap (hd0 bs % 2) = hd0 bs % 2 := Go.IntWalk.u8_in _ (by omega)
  obtain ⟨q1, q2, q3, q4⟩ := q
  refine ACall.of_body2 Try.func70 rfl ?_
  refine ACode.seq (ACode.regS noT_ok names_ok mix (t' := ?_) (L' := ?_) [0] (by rfl) ?_ ?_)
  rotate_left 2
  · refine sq rfl rfl rfl (by simp [go_sem, X, Try.f70]; rfl) ?_
    rfl
  have hk0 := KX.new c L (.cells (T.set .leaf 0 [.int .u8 0, .bool false, .int .i64 0, .int .i64 0, .int .i64 0, .int .i64 0]) 1 6 false false)
  have hr0 := h.new (.cells (T.set .leaf 0 [.int .u8 0, .bool false, .int .i64 0, .int .i64 0, .int .i64 0, .int .i64 0]) 1 6 false false)
  have hs0 : (T.set L.t L.next (.cells (T.set .leaf 0 [.int .u8 0, .bool false, .int .i64 0, .int .i64 0, .int .i64 0, .int .i64 0]) 1 6 false false)).get L.next = some (.cells (T.set .leaf 0 [.int .u8 0, .bool false, .int .i64 0, .int .i64 0, .int .i64 0, .int .i64 0]) 1 6 false false) := T.get_set_same _ _ _
  generalize hA : (⟨L.t.set L.next (.cells (T.set .leaf 0 [.int .u8 0, .bool false, .int .i64 0, .int .i64 0, .int .i64 0, .int .i64 0]) 1 6 false false), L.next + 1⟩ : Heap) = A at *
  have e1 : L.t.set L.next (.cells (T.set .leaf 0 [.int .u8 0, .bool false, .int .i64 0, .int .i64 0, .int .i64 0, .int .i64 0]) 1 6 false false) = A.t := by rw [← hA]
  have e2 : L.next + 1 = A.next := by rw [← hA]
  rw [e1] at hs0
  have c1 := next_ok hr0
  have hR1 := hr0.next
  have hk1 := KX.setRd c A (nextV v)
  have hn1 : (setRd A c (nextV v)).next = A.next := rfl
  have hbx : A.t.get r = some (boxB c) := by rw [hk0.2 r hrn hrc]; exact hr
  generalize setRd A c (nextV v) = A1 at *
  have hp1 : A1.t.get p = some (rcell (pvAt m n i)) := by rw [hk1.2 p (by omega) hpc, hk0.2 p hpn hpc]; exact hp
  have hm1 : A1.t.get m = some (.cells (rowFrom (ps.map rectV) 0) n 4 true false) := by rw [hk1.2 m (by omega) hmc, hk0.2 m hmn hmc]; exact hm
  have hs1 : A1.t.get L.next = some (.cells (T.set .leaf 0 [.int .u8 0, .bool false, .int .i64 0, .int .i64 0, .int .i64 0, .int .i64 0]) 1 6 false false) := by rw [hk1.2 _ (by omega) (by have := h.lt; omega)]; exact hs0
  have hko : ∀ k, k < L.next → k ≠ c → A1.t.get k = L.t.get k := fun k hk hc => by rw [hk1.2 k (by omega) hc, hk0.2 k hk hc]
  have hpx : ¬ p = L.next := by omega
  have hmx : ¬ m = L.next := by omega
  have hlx : ¬ L.next = p := by omega
  have hld : Heap.load Try.prog A1 81 m (4 * i) = some (.agg [.int .i64 q1, .int .i64 q2, .int .i64 q3, .int .i64 q4]) := by
    simp [Heap.load, Heap.elem, hm1, rowFrom_getP, Nat.mul_div_cancel_left i (show 0 < 4 by decide), hq, Ev.part, ps81, pa81, takeN, rectV]
  have hidx : Ev.indexAddr Try.prog 79 (pvAt m n i) (.int .i64 0) = some (.ptr m (4 * i)) := by
    have : 0 < n - i := by omega
    simp [pvAt, Ev.indexAddr, pt79, ps81, idx_0, blt_dec, this, guardO]
  have hsl : Ev.sliceOp Try.prog 79 (pvAt m n i) (some (.int .i64 1)) none none = some (pvAt m n (i + 1)) := by
    have h1 : 0 < n - i := by omega
    have h2 : 1 < n - i + 1 := by omega
    simp [pvAt, Ev.sliceOp, pt79, ps81, guardO, Ev.bound, idx_1, blt_dec, h1]
    omega
  unfold boxB at hbx
  refine ACode.seq (ACode.regS (oneT_okP c1) names_ok mix (t' := ?_) (L' := ?_) [0, 1, 2, 3] (by rfl) ?_ ?_)
  rotate_left 2
  · iterate 4 (refine sq rfl rfl rfl (by simp [go_sem, X, hbx, oneT_sameP, Try.f70]; rfl) ?_)
    rfl
  refine ACode.seq (ACode.regS noT_ok names_ok mix (t' := ?_) (L' := ?_) [0, 1, 2, 3, 4, 5, 6, 7, 8, 9, 10] (by rfl) ?_ ?_)
  rotate_left 2
  · iterate 11 (refine sq rfl rfl rfl (by simp [go_sem, X, hs1, hb1, hb2, hb3, hw, Try.f70]; rfl) ?_)
    rfl
  have hsc : (pvAt m n (i + 1)).scalar = true := rfl
  have hcs : (pvAt m n (i + 1)).cells = [pvAt m n (i + 1)] := rfl
  have hov : Ev.over [pvAt m n (i + 1)] [pvAt m n i] = some [pvAt m n (i + 1)] := rfl
  change ACode _ _ _ _ _ ⟨A1.t.set L.next (.cells (T.set .leaf 0 [.int .u8 (hd0 bs % 2), .bool (decide (hd0 bs / 2 % 2 = 1)), .int .i64 0, .int .i64 0, .int .i64 0, .int .i64 0]) 1 6 false false), A1.next⟩ _
  have hs2 : (T.set A1.t L.next (.cells (T.set .leaf 0 [.int .u8 (hd0 bs % 2), .bool (decide (hd0 bs / 2 % 2 = 1)), .int .i64 0, .int .i64 0, .int .i64 0, .int .i64 0]) 1 6 false false)).get L.next = some (.cells (T.set .leaf 0 [.int .u8 (hd0 bs % 2), .bool (decide (hd0 bs / 2 % 2 = 1)), .int .i64 0, .int .i64 0, .int .i64 0, .int .i64 0]) 1 6 false false) := T.get_set_same _ _ _
  have hp2 : (T.set A1.t L.next (.cells (T.set .leaf 0 [.int .u8 (hd0 bs % 2), .bool (decide (hd0 bs / 2 % 2 = 1)), .int .i64 0, .int .i64 0, .int .i64 0, .int .i64 0]) 1 6 false false)).get p = some (.cells (T.set .leaf 0 [pvAt m n i]) 1 1 false false) := by rw [T.get_set_ne _ _ hpx]; exact hp1
  have hc2 : (T.set A1.t L.next (.cells (T.set .leaf 0 [.int .u8 (hd0 bs % 2), .bool (decide (hd0 bs / 2 % 2 = 1)), .int .i64 0, .int .i64 0, .int .i64 0, .int .i64 0]) 1 6 false false)).get c = some (rcell (nextV v)) := by rw [T.get_set_ne _ _ (by have := h.lt; omega)]; exact hR1.cell
  have hld2 : Heap.load Try.prog ⟨A1.t.set L.next (.cells (T.set .leaf 0 [.int .u8 (hd0 bs % 2), .bool (decide (hd0 bs / 2 % 2 = 1)), .int .i64 0, .int .i64 0, .int .i64 0, .int .i64 0]) 1 6 false false), A1.next⟩ 81 m (4 * i) = some (.agg [.int .i64 q1, .int .i64 q2, .int .i64 q3, .int .i64 q4]) := by rw [load_same (T.get_set_ne _ _ hmx)]; exact hld
  have hko2 : ∀ k, k < L.next → k ≠ c → (T.set A1.t L.next (.cells (T.set .leaf 0 [.int .u8 (hd0 bs % 2), .bool (decide (hd0 bs / 2 % 2 = 1)), .int .i64 0, .int .i64 0, .int .i64 0, .int .i64 0]) 1 6 false false)).get k = L.t.get k := fun k hk hc => by rw [T.get_set_ne _ _ (by omega)]; exact hko k hk hc
  generalize hA2 : (⟨A1.t.set L.next (.cells (T.set .leaf 0 [.int .u8 (hd0 bs % 2), .bool (decide (hd0 bs / 2 % 2 = 1)), .int .i64 0, .int .i64 0, .int .i64 0, .int .i64 0]) 1 6 false false), A1.next⟩ : Heap) = A2 at *
  have e3 : A1.t.set L.next (.cells (T.set .leaf 0 [.int .u8 (hd0 bs % 2), .bool (decide (hd0 bs / 2 % 2 = 1)), .int .i64 0, .int .i64 0, .int .i64 0, .int .i64 0]) 1 6 false false) = A2.t := by rw [← hA2]
  rw [e3] at hs2 hp2 hc2 hko2
  have hldp : Heap.load Try.prog A2 79 p 0 = some (pvAt m n i) := by simp [Heap.load, Heap.elem, hp2, T.get_set, Ev.part, ps79, pa79]
  have hldp2 : ∀ X nx, Heap.load Try.prog ⟨A2.t.set L.next X, nx⟩ 79 p 0 = some (pvAt m n i) := fun X nx => by rw [load_same (L := A2) (T.get_set_ne _ _ hpx)]; exact hldp
  refine ACode.seq (ACode.regD noT_ok names_ok mix (t' := ?_) (L' := ?_) [0,1,3,0,8,7,39,127] [0,1,2,3,4,5,6,7] (by decide +kernel) (by decide +kernel) (by decide +kernel) ?_ ?_)
  rotate_left 2
  · refine dr rfl rfl rfl rfl (by simp [go_sem, xs, xi, xb, xq, xv, xc, xk, hldp, hldp2, hld2, hidx, hsl, hs2, hp2, hpx, hsc, hcs, hov, Try.f70]; rfl) ?_
    refine dq rfl rfl rfl rfl (by simp [go_sem, xs, xi, xb, xq, xv, xc, xk, hldp, hldp2, hld2, hidx, hsl, hs2, hp2, hpx, hsc, hcs, hov, Try.f70]; rfl) ?_
    iterate 2 (refine dr rfl rfl rfl rfl (by simp [go_sem, xs, xi, xb, xq, xv, xc, xk, hldp, hldp2, hld2, hidx, hsl, hs2, hp2, hpx, hsc, hcs, hov, Try.f70]; rfl) ?_)
    iterate 2 (refine dq rfl rfl rfl rfl (by simp [go_sem, xs, xi, xb, xq, xv, xc, xk, hldp, hldp2, hld2, hidx, hsl, hs2, hp2, hpx, hsc, hcs, hov, Try.f70]; rfl) ?_)
    iterate 2 (refine dl rfl rfl rfl rfl (by simp [go_sem, xs, xi, xb, xq, xv, xc, xk, hldp, hldp2, hld2, hidx, hsl, hs2, hp2, hpx, hsc, hcs, hov, Try.f70]; rfl) (by rfl) (by simp [go_sem, xs, xi, xb, xq, xv, xc, xk, hldp, hldp2, hld2, hidx, hsl, hs2, hp2, hpx, hsc, hcs, hov, Try.f70]) ?_)
    rfl
  show ACode _ _ _ _ _ _ _
  change ACode _ _ _ _ _ ⟨(A2.t.set L.next (.cells (T.set .leaf 0 [.int .u8 (hd0 bs % 2), .bool (decide (hd0 bs / 2 % 2 = 1)), .int .i64 q1, .int .i64 q2, .int .i64 q3, .int .i64 q4]) 1 6 false false)).set p (rcell (pvAt m n (i + 1))), A2.next⟩ _
  have hs3 : (T.set (T.set A2.t L.next (.cells (T.set .leaf 0 [.int .u8 (hd0 bs % 2), .bool (decide (hd0 bs / 2 % 2 = 1)), .int .i64 q1, .int .i64 q2, .int .i64 q3, .int .i64 q4]) 1 6 false false)) p (rcell (pvAt m n (i + 1)))).get L.next = some (.cells (T.set .leaf 0 [.int .u8 (hd0 bs % 2), .bool (decide (hd0 bs / 2 % 2 = 1)), .int .i64 q1, .int .i64 q2, .int .i64 q3, .int .i64 q4]) 1 6 false false) := by rw [T.get_set_ne _ _ hlx]; exact T.get_set_same _ _ _
  have hp3 : (T.set (T.set A2.t L.next (.cells (T.set .leaf 0 [.int .u8 (hd0 bs % 2), .bool (decide (hd0 bs / 2 % 2 = 1)), .int .i64 q1, .int .i64 q2, .int .i64 q3, .int .i64 q4]) 1 6 false false)) p (rcell (pvAt m n (i + 1)))).get p = some (rcell (pvAt m n (i + 1))) := T.get_set_same _ _ _
  have hc3 : (T.set (T.set A2.t L.next (.cells (T.set .leaf 0 [.int .u8 (hd0 bs % 2), .bool (decide (hd0 bs / 2 % 2 = 1)), .int .i64 q1, .int .i64 q2, .int .i64 q3, .int .i64 q4]) 1 6 false false)) p (rcell (pvAt m n (i + 1)))).get c = some (rcell (nextV v)) := by rw [T.get_set_ne _ _ (fun h => hpc h.symm), T.get_set_ne _ _ (by have := h.lt; omega)]; exact hc2
  have hko3 : ∀ k, k < L.next → k ≠ c → k ≠ p → (T.set (T.set A2.t L.next (.cells (T.set .leaf 0 [.int .u8 (hd0 bs % 2), .bool (decide (hd0 bs / 2 % 2 = 1)), .int .i64 q1, .int .i64 q2, .int .i64 q3, .int .i64 q4]) 1 6 false false)) p (rcell (pvAt m n (i + 1)))).get k = L.t.get k := fun k hk hc hpk => by rw [T.get_set_ne _ _ hpk, T.get_set_ne _ _ (by omega)]; exact hko2 k hk hc
  generalize hA3 : (⟨(A2.t.set L.next (.cells (T.set .leaf 0 [.int .u8 (hd0 bs % 2), .bool (decide (hd0 bs / 2 % 2 = 1)), .int .i64 q1, .int .i64 q2, .int .i64 q3, .int .i64 q4]) 1 6 false false)).set p (rcell (pvAt m n (i + 1))), A2.next⟩ : Heap) = A3 at *
  have e4 : (A2.t.set L.next (.cells (T.set .leaf 0 [.int .u8 (hd0 bs % 2), .bool (decide (hd0 bs / 2 % 2 = 1)), .int .i64 q1, .int .i64 q2, .int .i64 q3, .int .i64 q4]) 1 6 false false)).set p (rcell (pvAt m n (i + 1))) = A3.t := by rw [← hA3]
  rw [e4] at hs3 hp3 hc3 hko3
  refine ACode.seq (ACode.regS noT_ok names_ok mix (t' := ?_) (L' := ?_) [0, 1] (by rfl) ?_ ?_)
  rotate_left 2
  · iterate 2 (refine sq rfl rfl rfl (by simp [go_sem, X, hs3, Try.f70]; rfl) ?_)
    rfl
  refine ACode.ret ⟨.inr rfl, ⟨A3.t.set L.next (.cells (T.set .leaf 0 [.int .u8 (hd0 bs % 2), .bool (decide (hd0 bs / 2 % 2 = 1)), .int .i64 q1, .int .i64 q2, .int .i64 q3, .int .i64 q4]) 1 6 false false), A3.next⟩, [.agg [.int .u8 (hd0 bs % 2), .bool (decide (hd0 bs / 2 % 2 = 1)), .int .i64 q1, .int .i64 q2, .int .i64 q3, .int .i64 q4]], [], rfl, by simp [Try.f70, resVals, tget_set, Heap.load, Heap.elem, T.get_set, Ev.part, ps83, pa83, takeN, Ev.V.asPtr], ?_, fun κ1 z hz => VR_plain (κ := κ1) _ _ rfl hz⟩
  refine tidy2c h.lt hpn hpc (rcell_low h.row.next_low) (rcell_low (by simp [pvAt, V.low]; exact hmn)) ?_ ?_ ?_
  · show T.get (T.set _ _ _) _ = _
    rw [T.get_set_ne _ _ (by have := h.lt; omega)]; exact hc3
  · show T.get (T.set _ _ _) _ = _
    rw [T.get_set_ne _ _ hpx]; exact hp3
  · intro k hk hc hpk
    show T.get (T.set _ _ _) _ = _
    rw [T.get_set_ne _ _ (by omega)]; exact hko3 k hk hc hpk
end Go.Proofs.Ytpfmoolpeecobaa
namespace Go.Proofs.Ytpfmoolpeecobaa
open Go Go.Proofs Go.Proofs.Ytpfmoolpeecobaa.Ev
set_option linter.unusedVariables false
set_option linter.unusedSimpArgs false
set_option maxRecDepth 100000
set_option maxHeartbeats 4000000

/-- the sources of a setup -/
def srcsP (k : Nat) (bs : List Int) (ps : List (Int × Int × Int × Int)) : List (Int × Int × Int × Int × Int) := (List.range k).map fun i => (hd0 (bs.drop i), ps.getD i (0, 0, 0, 0))
theorem srcsP_len (k : Nat) (bs : List Int) (ps : List (Int × Int × Int × Int)) : (srcsP k bs ps).length = k := by simp [srcsP]
theorem srcsP_succ (k : Nat) (bs : List Int) (ps : List (Int × Int × Int × Int)) (q : Int × Int × Int × Int) (hq : ps[k]? = some q) : srcsP (k + 1) bs ps = srcsP k bs ps ++ [(hd0 (bs.drop k), q)] := by
  simp [srcsP, List.range_succ, List.getD, hq]
theorem setCP_at {L : Heap} {c p : Nat} {v pv : V} (hne : p ≠ c) : (setCP L c v p pv).t.get c = some (rcell v) ∧ (setCP L c v p pv).t.get p = some (rcell pv) := by
  refine ⟨?_, T.get_set_same _ _ _⟩
  show T.get (T.set _ _ _) _ = _
  rw [T.get_set_ne _ _ (fun h => hne h.symm)]
  exact T.get_set_same _ _ _
theorem setCP_other {L : Heap} {c p k : Nat} {v pv : V} (hc : k ≠ c) (hp : k ≠ p) : (setCP L c v p pv).t.get k = L.t.get k := by
  show T.get (T.set _ _ _) _ = _
  rw [T.get_set_ne _ _ hp, T.get_set_ne _ _ hc]
theorem listedS_ok {L : Heap} {c r p m n : Nat} {v : V} {bs : List Int} {ps : List (Int × Int × Int × Int)} (h : Rd L c v bs) (hr : L.t.get r = some (boxB c)) (hp : L.t.get p = some (rcell (pvAt m n 0)))
    (hm : L.t.get m = some (.cells (rowFrom (ps.map rectV) 0) n 4 true false)) (hpl : ps.length = n) (hn : n ≤ 1000) (hrn : r < L.next) (hpn : p < L.next) (hmn : m < L.next) (hrc : r ≠ c) (hrp : r ≠ p) (hcp : c < p) (hmc : m ≠ c) (hmp : m ≠ p) :
    ACall Try.prog 69 [.int .i64 (n : Int), .func 70 [] [.ptr r 0, .ptr p 0]] L (rowsVP (setCP L c (advV n v) p (pvAt m n n)) (srcsP n bs ps)) (rowsHP 6 srcF (setCP L c (advV n v) p (pvAt m n n)) (srcsP n bs ps)) := by
  have hpc : p ≠ c := by omega
  refine ACall.of_body2 Try.func69 rfl ?_
  refine ACode.seq (ACode.regS noT_ok names_ok mix (t' := ?_) (L' := ?_) [0] (by rfl) ?_ ?_)
  rotate_left 2
  · refine sq rfl rfl rfl (by simp [go_sem, X, Try.f69]; rfl) ?_
    rfl
  refine ACode.seq ?_
  refine ACode.seq (ACode.regS noT_ok names_ok mix (t' := ?_) (L' := ?_) [0, 1] (by rfl) ?_ ?_)
  rotate_left 2
  · iterate 2 (refine sq rfl rfl rfl (by simp [go_sem, X, Try.f69]; rfl) ?_)
    rfl
  refine ACode.block (ACode.loop (fun t d A N => d = [] ∧ ∃ i, i ≤ n ∧ N = n - i ∧ tget t 1 = .func 70 [] [.ptr r 0, .ptr p 0] ∧ tget t 5 = .int .i64 (n : Int) ∧ tget t 6 = .int .i64 (i : Int) ∧
    A.t.get c = some (rcell (advV i v)) ∧ A.t.get p = some (rcell (pvAt m n i)) ∧ L.next ≤ A.next ∧ (∀ k, k < L.next → k ≠ c → k ≠ p → A.t.get k = L.t.get k) ∧ OwnP 6 srcF L.next A (tget t 4) (srcsP i bs ps)) (N := n)
    ⟨rfl, 0, Nat.zero_le _, by omega, by simp [tget_set, argsT], by simp [tget_set], by simp [tget_set], h.cell, hp, Nat.le_refl _, fun _ _ _ _ => rfl, .inl ⟨by simp [tget_set], rfl⟩⟩ ?_)
  rintro t d A N ⟨rfl, i, hi, rfl, t1, t5, t6, hcA, hpA, hnx, hko, hO⟩
  refine ACode.seq (ACode.regS noT_ok names_ok mix (t' := ?_) (L' := ?_) [0] (by rfl) ?_ ?_)
  rotate_left 2
  · refine sq rfl rfl rfl (by simp [go_sem, X, t5, t6, Try.f69]; rfl) ?_
    rfl
  refine ACode.seq (ACode.cond (p := (i : Int) < (n : Int)) (by simp [tget_set, opd]) (fun hil => ACode.skip ?_) (fun hge => ACode.exit ?_))
  rotate_left 1
  ·
    show ACode _ _ _ _ _ _ _
    obtain rfl : i = n := by omega
    refine ACode.seq (ACode.regS noT_ok names_ok mix (t' := ?_) (L' := ?_) [0, 1] (by rfl) ?_ ?_)
    rotate_left 2
    · iterate 2 (refine sq rfl rfl rfl (by simp [go_sem, X, Try.f69]; rfl) ?_)
      rfl
    have h0 : Tidy2 L A (setCP L c (advV i v) p (pvAt m i i)) [] := tidy2c h.lt hpn hpc (rcell_low (by rw [advV_low]; exact h.low)) (rcell_low (by simp [pvAt, V.low]; exact hmn)) hcA hpA hko
    rcases hO with ⟨ht4, hnil⟩ | ⟨hne, m2, ht4, h2, h3, h4⟩
    · rw [hnil]
      exact ACode.ret ⟨.inr rfl, _, [tget t 4], [], rfl, by simp [Try.f69, resVals, tget_set], h0, fun κ1 z hz => VR_plain (κ := κ1) _ _ rfl (by rw [ht4] at hz; exact hz)⟩
    · cases hl : srcsP i bs ps with
      | nil => exact absurd hl hne
      | cons x rr =>
        rw [hl] at h4 ht4
        refine ACode.ret ⟨.inr rfl, _, [tget t 4], [m2], rfl, by simp [Try.f69, resVals, tget_set], Tidy2.one (T0 := (setCP L c (advV i v) p (pvAt m i i)).t) h0.old h0.chg (fun k hk => ?_) h2 h4 (rows_low (fun _ => rfl) _ _ _ _), fun κ1 z hz => by rw [ht4] at hz; exact VR_slice_newP hz⟩
        show T.get (T.set _ _ _) _ = _
        rw [T.get_set_ne _ _ (by omega)]; exact T.get_set_ne _ _ (by have := h.lt; omega)
  have hil' : i < n := by omega
  have hRA : Rd A c (advV i v) (bs.drop i) := ⟨hcA, by have := h.lt; omega, (h.row.adv i).still hnx (fun k hk hkl => hko k hkl (by omega) (by omega)), fun x hx => h.range x (List.mem_of_mem_drop hx)⟩
  obtain ⟨q, hq⟩ : ∃ q, ps[i]? = some q := ⟨ps[i]'(by omega), by simp [hpl, hil']⟩
  have hcall := setupOne_ok hRA (by rw [hko r hrn hrc hrp]; exact hr) hpA (by rw [hko m hmn hmc hmp]; exact hm) hpl hil' (by omega) (by omega) (by omega) hrc hpc hmc hmp q hq
  have hat := setCP_at (L := A) (v := nextV (advV i v)) (pv := pvAt m n (i + 1)) hpc
  have hoth : ∀ k, k ≠ c → k ≠ p → (setCP A c (nextV (advV i v)) p (pvAt m n (i + 1))).t.get k = A.t.get k := fun k => setCP_other
  have hnx1 : (setCP A c (nextV (advV i v)) p (pvAt m n (i + 1))).next = A.next := rfl
  have hw6 : IntKind.i64.wrap ((i : Int) + 1) = (i : Int) + 1 := Go.IntWalk.i64_in _ (by omega)
  generalize hb : hd0 (bs.drop i) = b at *
  generalize setCP A c (nextV (advV i v)) p (pvAt m n (i + 1)) = A1 at *
  have hO1 : OwnP 6 srcF L.next A1 (tget t 4) (srcsP i bs ps) := hO.still (by omega) (fun k hk => hoth k (by have := (hO.nm_lt hk).1; have := h.lt; omega) (by have := (hO.nm_lt hk).1; omega))
  have hO2 : OwnP 6 srcF L.next ⟨A1.t.set A1.next (.cells (T.set .leaf 0 (srcF (b, q))) 1 6 false false), A1.next + 1⟩ (tget t 4) (srcsP i bs ps) := hO1.still (Nat.le_succ _) (fun k hk => T.get_set_ne _ _ (by have := (hO1.nm_lt hk).2; omega))
  have hsrc : srcElems ⟨A1.t.set A1.next (.cells (T.set .leaf 0 (srcF (b, q))) 1 6 false false), A1.next + 1⟩ 6 (.slice A1.next 0 1 1 false) = some ([(b, q)].map srcF) := by
    simp [srcElems, Heap.elems, Heap.elem, T.get_set, takeN, srcF]
  obtain ⟨v4, A3, ha, hO3, hn3, hk3, _⟩ := append_P (sz := 6) (f := srcF) (by decide) (fun _ => rfl) (fun _ => rfl) pt50 ps83 b_83 (by decide) pz83 rfl hO2 (by simp only; omega) hsrc (by rw [srcsP_len]; simp; omega)
  rw [← hb, ← srcsP_succ i bs ps q hq] at hO3
  simp only at hn3
  have hget3 : ∀ k, k < L.next → A3.t.get k = A1.t.get k := fun k hk => by
    rw [hk3 k (by simp only; omega) (fun e => by have := (hO.nm_lt e).1; omega)]
    exact T.get_set_ne _ _ (by omega)
  refine ACode.seq (ACode.block ?_)
  simp only [srcF] at ha hcall
  refine ACode.regS (oneT_okP hcall) names_ok mix (t' := ?_) (L' := ?_) [0, 1, 2, 3, 4, 5] (by rfl) ?_ ?_
  rotate_left 2
  · iterate 6 (refine sq rfl rfl rfl (by simp [go_sem, X, t1, ha, pi50, oneT_sameP, Try.f69]; rfl) ?_)
    rfl
  show ACode _ _ _ _ _ _ _
  refine ACode.regS noT_ok names_ok mix (t' := ?_) (L' := ?_) [0, 1] (by rfl) ?_ ?_
  rotate_left 2
  · iterate 2 (refine sq rfl rfl rfl (by simp [go_sem, X, t6, hw6, Try.f69]; rfl) ?_)
    rfl
  refine ⟨n - (i + 1), by omega, rfl, i + 1, by omega, rfl, by simp [tget_set, t1], by simp [tget_set, t5], by simp [tget_set], ?_, ?_, by omega, ?_, by simpa [tget_set] using hO3⟩
  · rw [hget3 c h.lt]; exact hat.1
  · rw [hget3 p hpn]; exact hat.2
  · intro k hk hc hp'
    rw [hget3 k hk, hoth k hc hp']; exact hko k hk hc hp'
end Go.Proofs.Ytpfmoolpeecobaa
