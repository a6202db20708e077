/- - - -/
import Derived.Test.YtpfmoolpeecobaaU14
namespace Go.Proofs.Ytpfmoolpeecobaa
open Go Go.Proofs Go.Proofs.Ytpfmoolpeecobaa.Ev
set_option linter.unusedVariables false
set_option linter.unusedSimpArgs false
set_option maxRecDepth 100000
set_option maxHeartbeats 4000000

theorem screenG_ok (r c : Int) (hr : r ≤ 100) (hc : c ≤ 100) (L : Heap) : ACall Try.prog 58 [.int .i64 r, .int .i64 c] L (.bool (decide (2 ≤ r) && decide (1 ≤ c))) L := by
  have h1 : r ≤ 512 := by omega
  have h2 : c ≤ 512 := by omega
  refine ACall.of_body_same Try.func58 rfl ?_
  refine ACode.seq (ACode.regS noT_ok names_ok mix (t' := ?_) (L' := ?_) [0] (by rfl) ?_ ?_)
  rotate_left 2
  · refine sq rfl rfl rfl (by simp [go_sem, X, Try.f58]; rfl) ?_
    rfl
  by_cases hr2 : 2 ≤ r
  ·
    by_cases hc1 : 1 ≤ c
    ·
      refine ACode.seq (ACode.regS noT_ok names_ok mix (t' := ?_) (L' := ?_) [0, 1, 2, 3, 4, 5, 6, 7, 8, 9, 10, 11, 12, 13, 14] (by rfl) ?_ ?_)
      rotate_left 2
      · iterate 3 (refine sq rfl rfl rfl (by simp [go_sem, X, hr2, hc1, h1, h2, Try.f58]; rfl) ?_)
        iterate 2 (refine sq rfl rfl (by simp [go_sem, X, hr2, hc1, h1, h2, Try.f58]) (by simp [go_sem, X, hr2, hc1, h1, h2, Try.f58]; rfl) ?_)
        iterate 2 (refine sq rfl rfl rfl (by simp [go_sem, X, hr2, hc1, h1, h2, Try.f58]; rfl) ?_)
        iterate 2 (refine sq rfl rfl (by simp [go_sem, X, hr2, hc1, h1, h2, Try.f58]) (by simp [go_sem, X, hr2, hc1, h1, h2, Try.f58]; rfl) ?_)
        iterate 2 (refine sq rfl rfl rfl (by simp [go_sem, X, hr2, hc1, h1, h2, Try.f58]; rfl) ?_)
        iterate 2 (refine sq rfl rfl (by simp [go_sem, X, hr2, hc1, h1, h2, Try.f58]) (by simp [go_sem, X, hr2, hc1, h1, h2, Try.f58]; rfl) ?_)
        iterate 2 (refine sq rfl rfl rfl (by simp [go_sem, X, hr2, hc1, h1, h2, Try.f58]; rfl) ?_)
        rfl
      exact ACode.ret ⟨.inr rfl, [.bool true], rfl, by simp [Try.f58, resVals, tget_set], by simp [one1, hr2, hc1]⟩
    ·
      refine ACode.seq (ACode.regS noT_ok names_ok mix (t' := ?_) (L' := ?_) [0, 1, 2, 3, 4, 5, 6, 7, 8, 9, 10, 11, 12, 13, 14] (by rfl) ?_ ?_)
      rotate_left 2
      · iterate 3 (refine sq rfl rfl rfl (by simp [go_sem, X, hr2, hc1, h1, h2, Try.f58]; rfl) ?_)
        iterate 2 (refine sq rfl rfl (by simp [go_sem, X, hr2, hc1, h1, h2, Try.f58]) (by simp [go_sem, X, hr2, hc1, h1, h2, Try.f58]; rfl) ?_)
        iterate 2 (refine sq rfl rfl rfl (by simp [go_sem, X, hr2, hc1, h1, h2, Try.f58]; rfl) ?_)
        iterate 2 (refine sq rfl rfl (by simp [go_sem, X, hr2, hc1, h1, h2, Try.f58]) (by simp [go_sem, X, hr2, hc1, h1, h2, Try.f58]; rfl) ?_)
        iterate 2 (refine sq rfl rfl rfl (by simp [go_sem, X, hr2, hc1, h1, h2, Try.f58]; rfl) ?_)
        iterate 2 (refine sk rfl rfl (by simp [go_sem, X, hr2, hc1, h1, h2, Try.f58]) ?_)
        iterate 2 (refine sq rfl rfl rfl (by simp [go_sem, X, hr2, hc1, h1, h2, Try.f58]; rfl) ?_)
        rfl
      exact ACode.ret ⟨.inr rfl, [.bool false], rfl, by simp [Try.f58, resVals, tget_set], by simp [one1, hr2, hc1]⟩
  ·
    refine ACode.seq (ACode.regS noT_ok names_ok mix (t' := ?_) (L' := ?_) [0, 1, 2, 3, 4, 5, 6, 7, 8, 9, 10, 11, 12, 13, 14] (by rfl) ?_ ?_)
    rotate_left 2
    · iterate 3 (refine sq rfl rfl rfl (by simp [go_sem, X, hr2, h1, h2, Try.f58]; rfl) ?_)
      iterate 2 (refine sk rfl rfl (by simp [go_sem, X, hr2, h1, h2, Try.f58]) ?_)
      iterate 2 (refine sq rfl rfl rfl (by simp [go_sem, X, hr2, h1, h2, Try.f58]; rfl) ?_)
      iterate 2 (refine sk rfl rfl (by simp [go_sem, X, hr2, h1, h2, Try.f58]) ?_)
      iterate 2 (refine sq rfl rfl rfl (by simp [go_sem, X, hr2, h1, h2, Try.f58]; rfl) ?_)
      iterate 2 (refine sk rfl rfl (by simp [go_sem, X, hr2, h1, h2, Try.f58]) ?_)
      iterate 2 (refine sq rfl rfl rfl (by simp [go_sem, X, hr2, h1, h2, Try.f58]; rfl) ?_)
      rfl
    exact ACode.ret ⟨.inr rfl, [.bool false], rfl, by simp [Try.f58, resVals, tget_set], by simp [one1, hr2]⟩
theorem rscreenG_ok (r c : Int) (hr : r ≤ 100) (hc : c ≤ 100) (L : Heap) : ACall Try.prog 77 [.int .i64 r, .int .i64 c] L (.bool (decide (2 ≤ r) && decide (1 ≤ c))) L := by
  have h1 : r ≤ 512 := by omega
  have h2 : c ≤ 512 := by omega
  refine ACall.of_body_same Try.func77 rfl ?_
  refine ACode.seq (ACode.regS noT_ok names_ok mix (t' := ?_) (L' := ?_) [0] (by rfl) ?_ ?_)
  rotate_left 2
  · refine sq rfl rfl rfl (by simp [go_sem, X, Try.f77]; rfl) ?_
    rfl
  by_cases hr2 : 2 ≤ r
  ·
    by_cases hc1 : 1 ≤ c
    ·
      refine ACode.seq (ACode.regS noT_ok names_ok mix (t' := ?_) (L' := ?_) [0, 1, 2, 3, 4, 5, 6, 7, 8, 9, 10, 11, 12, 13, 14] (by rfl) ?_ ?_)
      rotate_left 2
      · iterate 3 (refine sq rfl rfl rfl (by simp [go_sem, X, hr2, hc1, h1, h2, Try.f77]; rfl) ?_)
        iterate 2 (refine sq rfl rfl (by simp [go_sem, X, hr2, hc1, h1, h2, Try.f77]) (by simp [go_sem, X, hr2, hc1, h1, h2, Try.f77]; rfl) ?_)
        iterate 2 (refine sq rfl rfl rfl (by simp [go_sem, X, hr2, hc1, h1, h2, Try.f77]; rfl) ?_)
        iterate 2 (refine sq rfl rfl (by simp [go_sem, X, hr2, hc1, h1, h2, Try.f77]) (by simp [go_sem, X, hr2, hc1, h1, h2, Try.f77]; rfl) ?_)
        iterate 2 (refine sq rfl rfl rfl (by simp [go_sem, X, hr2, hc1, h1, h2, Try.f77]; rfl) ?_)
        iterate 2 (refine sq rfl rfl (by simp [go_sem, X, hr2, hc1, h1, h2, Try.f77]) (by simp [go_sem, X, hr2, hc1, h1, h2, Try.f77]; rfl) ?_)
        iterate 2 (refine sq rfl rfl rfl (by simp [go_sem, X, hr2, hc1, h1, h2, Try.f77]; rfl) ?_)
        rfl
      exact ACode.ret ⟨.inr rfl, [.bool true], rfl, by simp [Try.f77, resVals, tget_set], by simp [one1, hr2, hc1]⟩
    ·
      refine ACode.seq (ACode.regS noT_ok names_ok mix (t' := ?_) (L' := ?_) [0, 1, 2, 3, 4, 5, 6, 7, 8, 9, 10, 11, 12, 13, 14] (by rfl) ?_ ?_)
      rotate_left 2
      · iterate 3 (refine sq rfl rfl rfl (by simp [go_sem, X, hr2, hc1, h1, h2, Try.f77]; rfl) ?_)
        iterate 2 (refine sq rfl rfl (by simp [go_sem, X, hr2, hc1, h1, h2, Try.f77]) (by simp [go_sem, X, hr2, hc1, h1, h2, Try.f77]; rfl) ?_)
        iterate 2 (refine sq rfl rfl rfl (by simp [go_sem, X, hr2, hc1, h1, h2, Try.f77]; rfl) ?_)
        iterate 2 (refine sq rfl rfl (by simp [go_sem, X, hr2, hc1, h1, h2, Try.f77]) (by simp [go_sem, X, hr2, hc1, h1, h2, Try.f77]; rfl) ?_)
        iterate 2 (refine sq rfl rfl rfl (by simp [go_sem, X, hr2, hc1, h1, h2, Try.f77]; rfl) ?_)
        iterate 2 (refine sk rfl rfl (by simp [go_sem, X, hr2, hc1, h1, h2, Try.f77]) ?_)
        iterate 2 (refine sq rfl rfl rfl (by simp [go_sem, X, hr2, hc1, h1, h2, Try.f77]; rfl) ?_)
        rfl
      exact ACode.ret ⟨.inr rfl, [.bool false], rfl, by simp [Try.f77, resVals, tget_set], by simp [one1, hr2, hc1]⟩
  ·
    refine ACode.seq (ACode.regS noT_ok names_ok mix (t' := ?_) (L' := ?_) [0, 1, 2, 3, 4, 5, 6, 7, 8, 9, 10, 11, 12, 13, 14] (by rfl) ?_ ?_)
    rotate_left 2
    · iterate 3 (refine sq rfl rfl rfl (by simp [go_sem, X, hr2, h1, h2, Try.f77]; rfl) ?_)
      iterate 2 (refine sk rfl rfl (by simp [go_sem, X, hr2, h1, h2, Try.f77]) ?_)
      iterate 2 (refine sq rfl rfl rfl (by simp [go_sem, X, hr2, h1, h2, Try.f77]; rfl) ?_)
      iterate 2 (refine sk rfl rfl (by simp [go_sem, X, hr2, h1, h2, Try.f77]) ?_)
      iterate 2 (refine sq rfl rfl rfl (by simp [go_sem, X, hr2, h1, h2, Try.f77]; rfl) ?_)
      iterate 2 (refine sk rfl rfl (by simp [go_sem, X, hr2, h1, h2, Try.f77]) ?_)
      iterate 2 (refine sq rfl rfl rfl (by simp [go_sem, X, hr2, h1, h2, Try.f77]; rfl) ?_)
      rfl
    exact ACode.ret ⟨.inr rfl, [.bool false], rfl, by simp [Try.f77, resVals, tget_set], by simp [one1, hr2]⟩
theorem screenW_ok (r c : Int) (hr : 2 ≤ r ∧ r ≤ 100) (hc : 1 ≤ c ∧ c ≤ 100) (L : Heap) : ACall Try.prog 58 [.int .i64 r, .int .i64 c] L (.bool true) L := by
  have h1 : r ≤ 512 := by omega
  have h2 : c ≤ 512 := by omega
  refine ACall.of_body_same Try.func58 rfl ?_
  refine ACode.seq (ACode.regS noT_ok names_ok mix (t' := ?_) (L' := ?_) [0] (by rfl) ?_ ?_)
  rotate_left 2
  · refine sq rfl rfl rfl (by simp [go_sem, X, Try.f58]; rfl) ?_
    rfl
  refine ACode.seq (ACode.regS noT_ok names_ok mix (t' := ?_) (L' := ?_) [0, 1, 2, 3, 4, 5, 6, 7, 8, 9, 10, 11, 12, 13, 14] (by rfl) ?_ ?_)
  rotate_left 2
  · iterate 3 (refine sq rfl rfl rfl (by simp [go_sem, X, hr, hc, h1, h2, Try.f58]; rfl) ?_)
    iterate 2 (refine sq rfl rfl (by simp [go_sem, X, hr, hc, h1, h2, Try.f58]) (by simp [go_sem, X, hr, hc, h1, h2, Try.f58]; rfl) ?_)
    iterate 2 (refine sq rfl rfl rfl (by simp [go_sem, X, hr, hc, h1, h2, Try.f58]; rfl) ?_)
    iterate 2 (refine sq rfl rfl (by simp [go_sem, X, hr, hc, h1, h2, Try.f58]) (by simp [go_sem, X, hr, hc, h1, h2, Try.f58]; rfl) ?_)
    iterate 2 (refine sq rfl rfl rfl (by simp [go_sem, X, hr, hc, h1, h2, Try.f58]; rfl) ?_)
    iterate 2 (refine sq rfl rfl (by simp [go_sem, X, hr, hc, h1, h2, Try.f58]) (by simp [go_sem, X, hr, hc, h1, h2, Try.f58]; rfl) ?_)
    iterate 2 (refine sq rfl rfl rfl (by simp [go_sem, X, hr, hc, h1, h2, Try.f58]; rfl) ?_)
    rfl
  exact ACode.ret ⟨.inr rfl, [.bool true], rfl, by simp [Try.f58, resVals, tget_set], rfl⟩
theorem stripesW_ok (r c : Int) (n : Nat) (hr : 2 ≤ r ∧ r ≤ 100) (hc : 1 ≤ c ∧ c ≤ 100) (hn : 1 ≤ n ∧ n ≤ 4) (hnr : (n : Int) < r) (L : Heap) :
    ACall Try.prog 68 [.int .i64 r, .int .i64 c, .int .i64 (n : Int)] L (rowsVP L (stripesP n 1 (r - 1) c)) (rowsHP 4 rectV L (stripesP n 1 (r - 1) c)) := by
  have hs := screenW_ok r c hr hc L
  have h1 : ¬ (n : Int) < 1 := by omega
  have h2 : ¬ r ≤ (n : Int) := by omega
  have h1' : ¬ n = 0 := by omega
  have hwr : IntKind.i64.wrap (r - 1) = r - 1 := Go.IntWalk.i64_in _ (by omega)
  refine ACall.of_body2 Try.func68 rfl ?_
  refine ACode.seq (ACode.regS noT_ok names_ok mix (t' := ?_) (L' := ?_) [0] (by rfl) ?_ ?_)
  rotate_left 2
  · refine sq rfl rfl rfl (by simp [go_sem, X, Try.f68]; rfl) ?_
    rfl
  refine ACode.seq ?_
  refine ACode.seq (ACode.regS (oneT_okP hs) names_ok mix (t' := ?_) (L' := ?_) [0, 1, 2, 3, 4, 5, 6, 7, 8, 9, 10, 11, 12] (by rfl) ?_ ?_)
  rotate_left 2
  · iterate 5 (refine sq rfl rfl rfl (by simp [go_sem, X, oneT_sameP, h1, h1', h2, Try.f68]; rfl) ?_)
    iterate 2 (refine sq rfl rfl (by simp [go_sem, X, oneT_sameP, h1, h1', h2, Try.f68]) (by simp [go_sem, X, oneT_sameP, h1, h1', h2, Try.f68]; rfl) ?_)
    iterate 2 (refine sq rfl rfl rfl (by simp [go_sem, X, oneT_sameP, h1, h1', h2, Try.f68]; rfl) ?_)
    iterate 3 (refine sq rfl rfl (by simp [go_sem, X, oneT_sameP, h1, h1', h2, Try.f68]) (by simp [go_sem, X, oneT_sameP, h1, h1', h2, Try.f68]; rfl) ?_)
    refine sq rfl rfl rfl (by simp [go_sem, X, oneT_sameP, h1, h1', h2, Try.f68]; rfl) ?_
    rfl
  refine ACode.condF (by simp [tget_set, opd]) (ACode.skip ?_)
  refine ACode.seq (ACode.regS noT_ok names_ok mix (t' := ?_) (L' := ?_) [0, 1, 2, 3] (by rfl) ?_ ?_)
  rotate_left 2
  · iterate 4 (refine sq rfl rfl rfl (by simp [go_sem, X, hwr, Try.f68]; rfl) ?_)
    rfl
  refine ACode.seq (ACode.block (ACode.loop (fun t d A N => d = [] ∧ ∃ (m : Nat) (top left : Int) (out : List (Int × Int × Int × Int)), m ≤ 4 ∧ N = m ∧ 1 ≤ top ∧ 0 ≤ left ∧ top + left = r ∧ tget t 1 = .int .i64 c ∧ tget t 2 = .int .i64 (m : Int) ∧ tget t 7 = .int .i64 top ∧ tget t 8 = .int .i64 left ∧
    OwnP 4 rectV L.next A (tget t 6) out ∧ out.length + m = n ∧ out ++ stripesP m top left c = stripesP n 1 (r - 1) c ∧ L.next ≤ A.next ∧ ∀ k, k < L.next → A.t.get k = L.t.get k) (N := n)
    ⟨rfl, n, 1, r - 1, [], by omega, rfl, by omega, by omega, by omega, by simp [tget_set, argsT], by simp [tget_set, argsT], by simp [tget_set], by simp [tget_set], .inl ⟨by simp [tget_set], rfl⟩, by simp, rfl, Nat.le_refl _, fun _ _ => rfl⟩ ?_))
  rintro t d A N ⟨rfl, m, top, left, out, hm4, rfl, htop, hleft, hsum, t1, t2, t7, t8, hO, hol, hout, hnx, hkp⟩
  refine ACode.seq ?_
  refine ACode.seq (ACode.regS noT_ok names_ok mix (t' := ?_) (L' := ?_) [0, 1] (by rfl) ?_ ?_)
  rotate_left 2
  · iterate 2 (refine sq rfl rfl rfl (by simp [go_sem, X, t2, Try.f68]; rfl) ?_)
    rfl
  refine ACode.cond (p := (0 : Int) < (N : Int)) (by simp [tget_set, opd]) (fun hmp => ACode.skip ?_) (fun hge => ACode.exit ?_)
  rotate_left 1
  ·
    show ACode _ _ _ _ _ _ _
    obtain rfl : N = 0 := by omega
    simp only [stripesP, List.append_nil] at hout
    subst hout
    refine ACode.seq (ACode.regS noT_ok names_ok mix (t' := ?_) (L' := ?_) [0, 1] (by rfl) ?_ ?_)
    rotate_left 2
    · iterate 2 (refine sq rfl rfl rfl (by simp [go_sem, X, Try.f68]; rfl) ?_)
      rfl
    obtain ⟨ms, hT, hV⟩ := end_rows0 (sz := 4) (f := rectV) (fun _ => rfl) hkp hO
    exact ACode.ret ⟨.inr rfl, _, [tget t 6], ms, rfl, by simp [Try.f68, resVals, tget_set], hT, hV⟩
  obtain ⟨j, rfl⟩ : ∃ j, N = j + 1 := ⟨N - 1, by omega⟩
  have hh := height_le left j hleft (by omega)
  have hw1 : IntKind.i64.wrap (left + ((j : Int) + 1)) = left + ((j : Int) + 1) := Go.IntWalk.i64_in _ (by omega)
  have hw2 : IntKind.i64.wrap (left + ((j : Int) + 1) - 1) = left + (j : Int) := by rw [Go.IntWalk.i64_in _ (by omega)]; omega
  have hq : (left + (j : Int)).tdiv ((j : Int) + 1) = (left + j) / (j + 1) := Int.tdiv_eq_ediv_of_nonneg (by omega)
  have hj0 : ¬ ((j : Int) + 1 = 0) := by omega
  simp only [stripesP] at hout
  push_cast at t2
  generalize hhd : (left + (j : Int)) / ((j : Int) + 1) = hgt at *
  have hw3 : IntKind.i64.wrap hgt = hgt := Go.IntWalk.i64_in _ (by omega)
  have hw4 : IntKind.i64.wrap (top + hgt) = top + hgt := Go.IntWalk.i64_in _ (by omega)
  have hw5 : IntKind.i64.wrap (left - hgt) = left - hgt := Go.IntWalk.i64_in _ (by omega)
  have hw6 : IntKind.i64.wrap (j : Int) = (j : Int) := Go.IntWalk.i64_in _ (by omega)
  refine ACode.seq (ACode.block ?_)
  refine ACode.seq (ACode.regS noT_ok names_ok mix (t' := ?_) (L' := ?_) [0, 1, 2, 3, 4, 5, 6, 7, 8, 9, 10] (by rfl) ?_ ?_)
  rotate_left 2
  · iterate 11 (refine sq rfl rfl rfl (by simp [go_sem, X, t1, t2, t7, t8, hw1, hw2, hq, hw3, hj0, Try.f68]; rfl) ?_)
    rfl
  change ACode _ _ _ _ _ ⟨A.t.set A.next (.cells (T.set .leaf 0 (rectV (top, 0, hgt, c))) 1 4 false false), A.next + 1⟩ _
  have hb1 : (T.set A.t A.next (.cells (T.set .leaf 0 (rectV (top, 0, hgt, c))) 1 4 false false)).get A.next = some (.cells (T.set .leaf 0 [.int .i64 top, .int .i64 0, .int .i64 hgt, .int .i64 c]) 1 4 false false) := T.get_set_same _ _ _
  have hk1 : ∀ k, k < A.next → (T.set A.t A.next (.cells (T.set .leaf 0 (rectV (top, 0, hgt, c))) 1 4 false false)).get k = A.t.get k := fun k hk => T.get_set_ne _ _ (by omega)
  generalize hA1 : (⟨A.t.set A.next (.cells (T.set .leaf 0 (rectV (top, 0, hgt, c))) 1 4 false false), A.next + 1⟩ : Heap) = A1 at *
  have e1 : A.t.set A.next (.cells (T.set .leaf 0 (rectV (top, 0, hgt, c))) 1 4 false false) = A1.t := by rw [← hA1]
  have e2 : A.next + 1 = A1.next := by rw [← hA1]
  rw [e1] at hb1 hk1
  refine ACode.seq (ACode.regD noT_ok names_ok mix (t' := ?_) (L' := ?_) [0,0,2,7,0,0,32,112,15,511] [0,1,2,3,4,5,6,7,8,9] (by decide +kernel) (by decide +kernel) (by decide +kernel) ?_ ?_)
  rotate_left 2
  · iterate 2 (refine dq rfl rfl rfl rfl (by simp [go_sem, X, t7, t8, hb1, hw4, hw5, Try.f68]; rfl) ?_)
    refine dr rfl rfl rfl rfl (by simp [go_sem, X, t7, t8, hb1, hw4, hw5, Try.f68]; rfl) ?_
    iterate 3 (refine dq rfl rfl rfl rfl (by simp [go_sem, X, t7, t8, hb1, hw4, hw5, Try.f68]; rfl) ?_)
    refine dr rfl rfl rfl rfl (by simp [go_sem, X, t7, t8, hb1, hw4, hw5, Try.f68]; rfl) ?_
    iterate 3 (refine dq rfl rfl rfl rfl (by simp [go_sem, X, t7, t8, hb1, hw4, hw5, Try.f68]; rfl) ?_)
    rfl
  have hO1 : OwnP 4 rectV L.next A1 (tget t 6) out := hO.still (by omega) (fun m hm => hk1 m (hO.nm_lt hm).2)
  have hO2 : OwnP 4 rectV L.next ⟨A1.t.set A1.next (.cells (T.set .leaf 0 (rectV (top, 0, hgt, c))) 1 4 false false), A1.next + 1⟩ (tget t 6) out := hO1.still (Nat.le_succ _) (fun m hm => T.get_set_ne _ _ (by have := (hO1.nm_lt hm).2; omega))
  have hsrc : srcElems ⟨A1.t.set A1.next (.cells (T.set .leaf 0 (rectV (top, 0, hgt, c))) 1 4 false false), A1.next + 1⟩ 4 (.slice A1.next 0 1 1 false) = some ([(top, (0 : Int), hgt, c)].map rectV) := by
    simp [srcElems, Heap.elems, Heap.elem, T.get_set, takeN, rectV]
  obtain ⟨v6, A3, ha, hO3, hn3, hk3, _⟩ := append_P (sz := 4) (f := rectV) (by decide) (fun _ => rfl) (fun _ => rfl) pt79 ps81 b_81 (by decide) pz81 rfl hO2 (by simp only; omega) hsrc (by simp only [List.length_cons, List.length_nil]; omega)
  simp only [rectV] at ha
  refine ACode.regS noT_ok names_ok mix (t' := ?_) (L' := ?_) [0, 1, 2, 3, 4] (by rfl) ?_ ?_
  rotate_left 2
  · iterate 5 (refine sq rfl rfl rfl (by simp [go_sem, X, hb1, ha, pi79, Try.f68]; rfl) ?_)
    rfl
  show ACode _ _ _ _ _ _ _
  refine ACode.regS noT_ok names_ok mix (t' := ?_) (L' := ?_) [0, 1, 2] (by rfl) ?_ ?_
  rotate_left 2
  · iterate 3 (refine sq rfl rfl rfl (by simp [go_sem, X, t2, hw6, Try.f68]; rfl) ?_)
    rfl
  refine ⟨j, Nat.lt_succ_self _, rfl, j, top + hgt, left - hgt, out ++ [(top, 0, hgt, c)], by omega, rfl, by omega, by omega, by omega, by simp [tget_set, t1], by simp [tget_set], by simp [tget_set], by simp [tget_set], by simpa [tget_set] using hO3, by simp; omega, by rw [List.append_assoc]; exact hout, by simp only at hn3; omega, ?_⟩
  intro k hk
  rw [hk3 k (by simp only; omega) (fun e => by have := (hO.nm_lt e).1; omega)]
  show T.get (T.set _ _ _) _ = _
  rw [T.get_set_ne _ _ (by omega), hk1 k (by omega), hkp k hk]
/-- stripes, of whatever sizes -/
def stG (r c : Int) (n : Nat) : List (Int × Int × Int × Int) := if 2 ≤ r ∧ 1 ≤ c ∧ 1 ≤ n ∧ (n : Int) < r then stripesP n 1 (r - 1) c else []
theorem stG_len (r c : Int) (n : Nat) : (stG r c n).length ≤ n := by
  unfold stG
  split
  · rw [stripes_len]; exact Nat.le_refl _
  · simp
theorem stripesA_ok (r c : Int) (n : Nat) (hr : r ≤ 100) (hc : c ≤ 100) (hn : n ≤ 4) (B : Heap) :
    ∃ pv B', ACall Try.prog 68 [.int .i64 r, .int .i64 c, .int .i64 (n : Int)] B pv B' ∧ SlP 4 81 rectV B' pv (stG r c n) ∧ B.next ≤ B'.next ∧ (∀ n, n < B.next → B'.t.get n = B.t.get n) ∧ ∀ m, nmP pv = some m → B.next ≤ m := by
  by_cases hg : 2 ≤ r ∧ 1 ≤ c ∧ 1 ≤ n ∧ (n : Int) < r
  · refine ⟨_, _, stripesW_ok r c n ⟨hg.1, hr⟩ ⟨hg.2.1, hc⟩ ⟨hg.2.2.1, hn⟩ hg.2.2.2 B, ?_, rowsHP_next _ _ _ _, fun k hk => rowsHP_old _ _ _ _ hk, ?_⟩
    · unfold stG
      rw [if_pos hg]
      exact rows_slP (z := .nils) ps81 pa81 (by decide) (fun _ => rfl) _
    · intro m hm
      generalize stripesP n 1 (r - 1) c = l at hm
      cases l with
      | nil => cases hm
      | cons a t => simp only [rowsVP, nmP, Option.some.injEq] at hm; omega
  · refine ⟨.nils, B, ?_, .inl ⟨rfl, by unfold stG; rw [if_neg hg]⟩, Nat.le_refl _, fun _ _ => rfl, fun m hm => by cases hm⟩
    have hs := screenG_ok r c hr hc B
    refine ACall.of_body_same Try.func68 rfl ?_
    refine ACode.seq (ACode.regS noT_ok names_ok mix (t' := ?_) (L' := ?_) [0] (by rfl) ?_ ?_)
    rotate_left 2
    · refine sq rfl rfl rfl (by simp [go_sem, X, Try.f68]; rfl) ?_
      rfl
    refine ACode.seq ?_
    by_cases h0 : (decide (2 ≤ r) && decide (1 ≤ c)) = true
    ·
      have h0' := h0
      simp only [Bool.and_eq_true, decide_eq_true_eq] at h0'
      rw [h0] at hs
      by_cases h1 : (n : Int) < 1
      ·
        have h1' : n = 0 := by omega
        refine ACode.seq (ACode.regS (oneT_okP hs) names_ok mix (t' := ?_) (L' := ?_) [0, 1, 2, 3, 4, 5, 6, 7, 8, 9, 10, 11, 12] (by rfl) ?_ ?_)
        rotate_left 2
        · iterate 5 (refine sq rfl rfl rfl (by simp [go_sem, X, oneT_sameP, h1, h1', Try.f68]; rfl) ?_)
          iterate 2 (refine sq rfl rfl (by simp [go_sem, X, oneT_sameP, h1, h1', Try.f68]) (by simp [go_sem, X, oneT_sameP, h1, h1', Try.f68]; rfl) ?_)
          iterate 2 (refine sq rfl rfl rfl (by simp [go_sem, X, oneT_sameP, h1, h1', Try.f68]; rfl) ?_)
          iterate 3 (refine sk rfl rfl (by simp [go_sem, X, oneT_sameP, h1, h1', Try.f68]) ?_)
          refine sq rfl rfl rfl (by simp [go_sem, X, oneT_sameP, h1, h1', Try.f68]; rfl) ?_
          rfl
        refine ACode.condT (by simp [tget_set, opd]) ?_
        refine ACode.seq (ACode.regS noT_ok names_ok mix (t' := ?_) (L' := ?_) [0] (by rfl) ?_ ?_)
        rotate_left 2
        · refine sq rfl rfl rfl (by simp [go_sem, X, Try.f68]; rfl) ?_
          rfl
        exact ACode.ret ⟨.inr rfl, [.nils], rfl, by simp [Try.f68, resVals, tget_set], rfl⟩
      ·
        have h2 : r ≤ (n : Int) := by omega
        have h1' : ¬ n = 0 := by omega
        refine ACode.seq (ACode.regS (oneT_okP hs) names_ok mix (t' := ?_) (L' := ?_) [0, 1, 2, 3, 4, 5, 6, 7, 8, 9, 10, 11, 12] (by rfl) ?_ ?_)
        rotate_left 2
        · iterate 5 (refine sq rfl rfl rfl (by simp [go_sem, X, oneT_sameP, h1, h1', h2, Try.f68]; rfl) ?_)
          iterate 2 (refine sq rfl rfl (by simp [go_sem, X, oneT_sameP, h1, h1', h2, Try.f68]) (by simp [go_sem, X, oneT_sameP, h1, h1', h2, Try.f68]; rfl) ?_)
          iterate 2 (refine sq rfl rfl rfl (by simp [go_sem, X, oneT_sameP, h1, h1', h2, Try.f68]; rfl) ?_)
          iterate 3 (refine sq rfl rfl (by simp [go_sem, X, oneT_sameP, h1, h1', h2, Try.f68]) (by simp [go_sem, X, oneT_sameP, h1, h1', h2, Try.f68]; rfl) ?_)
          refine sq rfl rfl rfl (by simp [go_sem, X, oneT_sameP, h1, h1', h2, Try.f68]; rfl) ?_
          rfl
        refine ACode.condT (by simp [tget_set, opd]) ?_
        refine ACode.seq (ACode.regS noT_ok names_ok mix (t' := ?_) (L' := ?_) [0] (by rfl) ?_ ?_)
        rotate_left 2
        · refine sq rfl rfl rfl (by simp [go_sem, X, Try.f68]; rfl) ?_
          rfl
        exact ACode.ret ⟨.inr rfl, [.nils], rfl, by simp [Try.f68, resVals, tget_set], rfl⟩
    ·
      have h0' : (decide (2 ≤ r) && decide (1 ≤ c)) = false := by simpa using h0
      rw [h0'] at hs
      refine ACode.seq (ACode.regS (oneT_okP hs) names_ok mix (t' := ?_) (L' := ?_) [0, 1, 2, 3, 4, 5, 6, 7, 8, 9, 10, 11, 12] (by rfl) ?_ ?_)
      rotate_left 2
      · iterate 5 (refine sq rfl rfl rfl (by simp [go_sem, X, oneT_sameP, Try.f68]; rfl) ?_)
        iterate 2 (refine sk rfl rfl (by simp [go_sem, X, oneT_sameP, Try.f68]) ?_)
        iterate 2 (refine sq rfl rfl rfl (by simp [go_sem, X, oneT_sameP, Try.f68]; rfl) ?_)
        iterate 3 (refine sk rfl rfl (by simp [go_sem, X, oneT_sameP, Try.f68]) ?_)
        refine sq rfl rfl rfl (by simp [go_sem, X, oneT_sameP, Try.f68]; rfl) ?_
        rfl
      refine ACode.condT (by simp [tget_set, opd]) ?_
      refine ACode.seq (ACode.regS noT_ok names_ok mix (t' := ?_) (L' := ?_) [0] (by rfl) ?_ ?_)
      rotate_left 2
      · refine sq rfl rfl rfl (by simp [go_sem, X, Try.f68]; rfl) ?_
        rfl
      exact ACode.ret ⟨.inr rfl, [.nils], rfl, by simp [Try.f68, resVals, tget_set], rfl⟩
end Go.Proofs.Ytpfmoolpeecobaa
namespace Go.Proofs.Ytpfmoolpeecobaa
open Go Go.Proofs Go.Proofs.Ytpfmoolpeecobaa.Ev
set_option linter.unusedVariables false
set_option linter.unusedSimpArgs false
set_option maxRecDepth 100000
set_option maxHeartbeats 4000000

/-- the document's heights and tops -/
def hR (r : Int) (n i : Nat) : Int := (r - 1) / n + (if (i : Int) < (r - 1) % n then 1 else 0)
def topR (r : Int) (n : Nat) : Nat → Int
  | 0 => 1
  | i + 1 => topR r n i + hR r n i
theorem st_fin : ∀ r : Fin 21, ∀ n : Fin 5, ∀ i : Fin 4, 2 ≤ r.val → n.val < r.val → i.val < n.val → (stripesP n.val 1 ((r.val : Int) - 1) 0)[i.val]? = some (topR (r.val : Int) n.val i.val, 0, hR (r.val : Int) n.val i.val, 0) := by decide +kernel
theorem st_cols : ∀ (n : Nat) (t l c : Int), stripesP n t l c = (stripesP n t l 0).map fun q => (q.1, q.2.1, q.2.2.1, c)
  | 0, t, l, c => rfl
  | n + 1, t, l, c => by simp [stripesP, ← st_cols n]
theorem st_at (r c : Int) (n i : Nat) (hr : 2 ≤ r ∧ r ≤ 20) (hn : n ≤ 4) (hnr : (n : Int) < r) (hi : i < n) : (stripesP n 1 (r - 1) c)[i]? = some (topR r n i, 0, hR r n i, c) := by
  have := st_fin ⟨r.toNat, by omega⟩ ⟨n, by omega⟩ ⟨i, by omega⟩ (by simp only; omega) (by simp only; omega) hi
  simp only at this
  rw [show ((r.toNat : Nat) : Int) = r by omega] at this
  rw [st_cols, List.getElem?_map, this]
  rfl
theorem top_fin : ∀ r : Fin 21, ∀ n : Fin 5, ∀ i : Fin 5, 2 ≤ r.val → 1 ≤ n.val → 0 ≤ topR (r.val : Int) n.val i.val ∧ topR (r.val : Int) n.val i.val ≤ 1000 ∧ 0 ≤ hR (r.val : Int) n.val i.val ∧ hR (r.val : Int) n.val i.val ≤ 1000 := by decide +kernel
theorem top_le (r : Int) (n i : Nat) (hr : 2 ≤ r ∧ r ≤ 20) (hn : 1 ≤ n ∧ n ≤ 4) (hi : i ≤ 4) : 0 ≤ topR r n i ∧ topR r n i ≤ 1000 ∧ 0 ≤ hR r n i ∧ hR r n i ≤ 1000 := by
  have := top_fin ⟨r.toNat, by omega⟩ ⟨n, by omega⟩ ⟨i, by omega⟩ (by simp only; omega) (by simp only; omega)
  simp only at this
  rwa [show ((r.toNat : Nat) : Int) = r by omega] at this
theorem rstripes_ok (r c : Int) (n : Nat) (hr : r ≤ 20) (hr1 : -1000 ≤ r) (hc : c ≤ 100) (hn : n ≤ 4) (L : Heap) :
    ACall Try.prog 51 [.int .i64 r, .int .i64 c, .int .i64 (n : Int)] L (rowsVP L (stG r c n)) (rowsHP 4 rectV L (stG r c n)) := by
  have hs := rscreenG_ok r c (by omega) hc L
  have hwr : IntKind.i64.wrap (r - 1) = r - 1 := Go.IntWalk.i64_in _ (by omega)
  refine ACall.of_body2 Try.func51 rfl ?_
  refine ACode.seq (ACode.regS noT_ok names_ok mix (t' := ?_) (L' := ?_) [0] (by rfl) ?_ ?_)
  rotate_left 2
  · refine sq rfl rfl rfl (by simp [go_sem, X, Try.f51]; rfl) ?_
    rfl
  refine ACode.seq (ACode.regS noT_ok names_ok mix (t' := ?_) (L' := ?_) [0] (by rfl) ?_ ?_)
  rotate_left 2
  · refine sq rfl rfl rfl (by simp [go_sem, X, Try.f51]; rfl) ?_
    rfl
  refine ACode.seq ?_
  refine ACode.seq ?_
  by_cases hg : 2 ≤ r ∧ 1 ≤ c ∧ 1 ≤ n ∧ (n : Int) < r
  rotate_left 1
  ·
    have hst : stG r c n = [] := by unfold stG; rw [if_neg hg]
    rw [hst]
    have fin : ∀ t : T V, tget t 6 = .nils → EndK2 Try.prog Try.f51 L (rowsVP L ([] : List (Int × Int × Int × Int))) (rowsHP 4 rectV L ([] : List (Int × Int × Int × Int))) .ret t [] L := fun t h6 =>
      ⟨.inr rfl, L, [.nils], [], rfl, by simp [Try.f51, resVals, h6], Tidy2.zero (T0 := L.t) (fun _ _ => rfl) (fun _ _ _ h => .inl h) (fun _ _ => rfl), fun κ1 z hz => VR_plain (κ := κ1) _ _ rfl hz⟩
    by_cases h0 : (decide (2 ≤ r) && decide (1 ≤ c)) = true
    ·
      have h0' := h0
      simp only [Bool.and_eq_true, decide_eq_true_eq] at h0'
      rw [h0] at hs
      by_cases h1 : (n : Int) < 1
      ·
        have h1' : n = 0 := by omega
        refine ACode.regS (oneT_okP hs) names_ok mix (t' := ?_) (L' := ?_) [0, 1, 2, 3, 4, 5, 6, 7, 8, 9, 10, 11, 12, 13] (by rfl) ?_ ?_
        rotate_left 2
        · iterate 5 (refine sq rfl rfl rfl (by simp [go_sem, X, oneT_sameP, h1, h1', Try.f51]; rfl) ?_)
          iterate 2 (refine sq rfl rfl (by simp [go_sem, X, oneT_sameP, h1, h1', Try.f51]) (by simp [go_sem, X, oneT_sameP, h1, h1', Try.f51]; rfl) ?_)
          iterate 2 (refine sq rfl rfl rfl (by simp [go_sem, X, oneT_sameP, h1, h1', Try.f51]; rfl) ?_)
          iterate 4 (refine sk rfl rfl (by simp [go_sem, X, oneT_sameP, h1, h1', Try.f51]) ?_)
          refine sq rfl rfl rfl (by simp [go_sem, X, oneT_sameP, h1, h1', Try.f51]; rfl) ?_
          rfl
        refine ACode.condT (by simp [tget_set, opd]) ?_
        refine ACode.seq (ACode.regS noT_ok names_ok mix (t' := ?_) (L' := ?_) [0] (by rfl) ?_ ?_)
        rotate_left 2
        · refine sq rfl rfl rfl (by simp [go_sem, X, Try.f51]; rfl) ?_
          rfl
        exact ACode.ret (fin _ (by simp [tget_set]))
      ·
        have h2 : r - 1 < (n : Int) := by omega
        have h1' : ¬ n = 0 := by omega
        refine ACode.regS (oneT_okP hs) names_ok mix (t' := ?_) (L' := ?_) [0, 1, 2, 3, 4, 5, 6, 7, 8, 9, 10, 11, 12, 13] (by rfl) ?_ ?_
        rotate_left 2
        · iterate 5 (refine sq rfl rfl rfl (by simp [go_sem, X, oneT_sameP, h1, h1', h2, hwr, Try.f51]; rfl) ?_)
          iterate 2 (refine sq rfl rfl (by simp [go_sem, X, oneT_sameP, h1, h1', h2, hwr, Try.f51]) (by simp [go_sem, X, oneT_sameP, h1, h1', h2, hwr, Try.f51]; rfl) ?_)
          iterate 2 (refine sq rfl rfl rfl (by simp [go_sem, X, oneT_sameP, h1, h1', h2, hwr, Try.f51]; rfl) ?_)
          iterate 4 (refine sq rfl rfl (by simp [go_sem, X, oneT_sameP, h1, h1', h2, hwr, Try.f51]) (by simp [go_sem, X, oneT_sameP, h1, h1', h2, hwr, Try.f51]; rfl) ?_)
          refine sq rfl rfl rfl (by simp [go_sem, X, oneT_sameP, h1, h1', h2, hwr, Try.f51]; rfl) ?_
          rfl
        refine ACode.condT (by simp [tget_set, opd]) ?_
        refine ACode.seq (ACode.regS noT_ok names_ok mix (t' := ?_) (L' := ?_) [0] (by rfl) ?_ ?_)
        rotate_left 2
        · refine sq rfl rfl rfl (by simp [go_sem, X, Try.f51]; rfl) ?_
          rfl
        exact ACode.ret (fin _ (by simp [tget_set]))
    ·
      have h0' : (decide (2 ≤ r) && decide (1 ≤ c)) = false := by simpa using h0
      rw [h0'] at hs
      refine ACode.regS (oneT_okP hs) names_ok mix (t' := ?_) (L' := ?_) [0, 1, 2, 3, 4, 5, 6, 7, 8, 9, 10, 11, 12, 13] (by rfl) ?_ ?_
      rotate_left 2
      · iterate 5 (refine sq rfl rfl rfl (by simp [go_sem, X, oneT_sameP, Try.f51]; rfl) ?_)
        iterate 2 (refine sk rfl rfl (by simp [go_sem, X, oneT_sameP, Try.f51]) ?_)
        iterate 2 (refine sq rfl rfl rfl (by simp [go_sem, X, oneT_sameP, Try.f51]; rfl) ?_)
        iterate 4 (refine sk rfl rfl (by simp [go_sem, X, oneT_sameP, Try.f51]) ?_)
        refine sq rfl rfl rfl (by simp [go_sem, X, oneT_sameP, Try.f51]; rfl) ?_
        rfl
      refine ACode.condT (by simp [tget_set, opd]) ?_
      refine ACode.seq (ACode.regS noT_ok names_ok mix (t' := ?_) (L' := ?_) [0] (by rfl) ?_ ?_)
      rotate_left 2
      · refine sq rfl rfl rfl (by simp [go_sem, X, Try.f51]; rfl) ?_
        rfl
      exact ACode.ret (fin _ (by simp [tget_set]))
  have hst : stG r c n = stripesP n 1 (r - 1) c := by unfold stG; rw [if_pos hg]
  rw [hst]
  rw [show (decide (2 ≤ r) && decide (1 ≤ c)) = true by simp [hg.1, hg.2.1]] at hs
  have h1 : ¬ (n : Int) < 1 := by omega
  have h1' : ¬ n = 0 := by omega
  have h2 : ¬ r - 1 < (n : Int) := by omega
  refine ACode.regS (oneT_okP hs) names_ok mix (t' := ?_) (L' := ?_) [0, 1, 2, 3, 4, 5, 6, 7, 8, 9, 10, 11, 12, 13] (by rfl) ?_ ?_
  rotate_left 2
  · iterate 5 (refine sq rfl rfl rfl (by simp [go_sem, X, oneT_sameP, h1, h1', h2, hwr, Try.f51]; rfl) ?_)
    iterate 2 (refine sq rfl rfl (by simp [go_sem, X, oneT_sameP, h1, h1', h2, hwr, Try.f51]) (by simp [go_sem, X, oneT_sameP, h1, h1', h2, hwr, Try.f51]; rfl) ?_)
    iterate 2 (refine sq rfl rfl rfl (by simp [go_sem, X, oneT_sameP, h1, h1', h2, hwr, Try.f51]; rfl) ?_)
    iterate 4 (refine sq rfl rfl (by simp [go_sem, X, oneT_sameP, h1, h1', h2, hwr, Try.f51]) (by simp [go_sem, X, oneT_sameP, h1, h1', h2, hwr, Try.f51]; rfl) ?_)
    refine sq rfl rfl rfl (by simp [go_sem, X, oneT_sameP, h1, h1', h2, hwr, Try.f51]; rfl) ?_
    rfl
  refine ACode.condF (by simp [tget_set, opd]) (ACode.skip ?_)
  show ACode _ _ _ _ _ _ _
  refine ACode.seq (ACode.regS noT_ok names_ok mix (t' := ?_) (L' := ?_) [0] (by rfl) ?_ ?_)
  rotate_left 2
  · refine sq rfl rfl rfl (by simp [go_sem, X, Try.f51]; rfl) ?_
    rfl
  refine ACode.seq ?_
  refine ACode.seq (ACode.regS noT_ok names_ok mix (t' := ?_) (L' := ?_) [0] (by rfl) ?_ ?_)
  rotate_left 2
  · refine sq rfl rfl rfl (by simp [go_sem, X, Try.f51]; rfl) ?_
    rfl
  have hsl := stripes_len n 1 (r - 1) c
  have hat := fun i hi => st_at r c n i ⟨hg.1, hr⟩ hn hg.2.2.2 hi
  generalize stripesP n 1 (r - 1) c = st at *
  refine ACode.block (ACode.loop (fun t d A N => d = [] ∧ ∃ i, i ≤ n ∧ N = n - i ∧ tget t 0 = .int .i64 r ∧ tget t 1 = .int .i64 c ∧ tget t 2 = .int .i64 (n : Int) ∧ tget t 8 = .int .i64 (topR r n i) ∧ tget t 9 = .int .i64 (i : Int) ∧
    OwnP 4 rectV L.next A (tget t 7) (st.take i) ∧ L.next ≤ A.next ∧ ∀ k, k < L.next → A.t.get k = L.t.get k) (N := n)
    ⟨rfl, 0, Nat.zero_le _, by omega, by simp [tget_set, argsT], by simp [tget_set, argsT], by simp [tget_set, argsT], by simp [tget_set, topR], by simp [tget_set], .inl ⟨by simp [tget_set], by simp⟩, Nat.le_refl _, fun _ _ => rfl⟩ ?_)
  rintro t d A N ⟨rfl, i, hi, rfl, t0, t1, t2, t8, t9, hO, hnx, hkp⟩
  refine ACode.seq ?_
  refine ACode.seq (ACode.regS noT_ok names_ok mix (t' := ?_) (L' := ?_) [0, 1, 2] (by rfl) ?_ ?_)
  rotate_left 2
  · iterate 3 (refine sq rfl rfl rfl (by simp [go_sem, X, t2, t9, Try.f51]; rfl) ?_)
    rfl
  refine ACode.cond (p := (i : Int) < (n : Int)) (by simp [tget_set, opd]) (fun hil => ACode.skip ?_) (fun hge => ACode.exit ?_)
  rotate_left 1
  ·
    show ACode _ _ _ _ _ _ _
    obtain rfl : i = n := by omega
    rw [List.take_of_length_le (by omega)] at hO
    refine ACode.seq (ACode.regS noT_ok names_ok mix (t' := ?_) (L' := ?_) [0, 1] (by rfl) ?_ ?_)
    rotate_left 2
    · iterate 2 (refine sq rfl rfl rfl (by simp [go_sem, X, Try.f51]; rfl) ?_)
      rfl
    obtain ⟨ms, hT, hV⟩ := end_rows0 (sz := 4) (f := rectV) (fun _ => rfl) hkp hO
    exact ACode.ret ⟨.inr rfl, _, [tget t 7], ms, rfl, by simp [Try.f51, resVals, tget_set], hT, hV⟩
  have hin : i < n := by omega
  have hti := hat i hin
  obtain ⟨b1, b2, b3, b4⟩ := top_le r n i ⟨hg.1, hr⟩ ⟨by omega, hn⟩ (by omega)
  have hq0 : (r - 1).tdiv (n : Int) = (r - 1) / n := Int.tdiv_eq_ediv_of_nonneg (by omega)
  have hm0 : (r - 1).tmod (n : Int) = (r - 1) % n := Int.tmod_eq_emod_of_nonneg (by omega)
  have hd0 : 0 ≤ (r - 1) / (n : Int) := Int.ediv_nonneg (by omega) (by omega)
  have hhR : hR r n i = (r - 1) / n + (if (i : Int) < (r - 1) % n then 1 else 0) := rfl
  have hn0 : ¬ (n : Int) = 0 := by omega
  have htop : topR r n (i + 1) = topR r n i + hR r n i := rfl
  generalize topR r n i = top at *
  generalize hhv : hR r n i = hgt at *
  generalize (r - 1) / (n : Int) = q at *
  generalize (r - 1) % (n : Int) = m at *
  have hq1 : q ≤ hgt := by rw [hhR]; split <;> omega
  have hw1 : IntKind.i64.wrap q = q := Go.IntWalk.i64_in _ (by omega)
  have hw2 : IntKind.i64.wrap (q + 1) = q + 1 := Go.IntWalk.i64_in _ (by omega)
  have hw3 : IntKind.i64.wrap (top + hgt) = top + hgt := Go.IntWalk.i64_in _ (by omega)
  have hw4 : IntKind.i64.wrap ((i : Int) + 1) = ((i + 1 : Nat) : Int) := by rw [Go.IntWalk.i64_in _ (by omega)]; omega
  refine ACode.seq (ACode.block ?_)
  refine ACode.seq (ACode.regS noT_ok names_ok mix (t' := ?_) (L' := ?_) [0, 1, 2, 3, 4, 5, 6, 7, 8] (by rfl) ?_ ?_)
  rotate_left 2
  · iterate 9 (refine sq rfl rfl rfl (by simp [go_sem, X, t0, t1, t2, t8, hwr, hq0, hw1, hn0, h1', Try.f51]; rfl) ?_)
    rfl
  refine ACode.at (fun t' => tget t' 0 = .int .i64 r ∧ tget t' 1 = .int .i64 c ∧ tget t' 2 = .int .i64 (n : Int) ∧ tget t' 7 = tget t 7 ∧ tget t' 8 = .int .i64 top ∧ tget t' 9 = .int .i64 (i : Int) ∧ tget t' 10 = .ptr A.next 0) (by simp [tget_set, t0, t1, t2, t8, t9]) ?_
  generalize ht7 : tget t 7 = v7 at *
  clear t0 t1 t2 t8 t9 ht7
  rintro t ⟨t0, t1, t2, t7, t8, t9, t10⟩
  refine ACode.seq (ACode.mono (K := fun x t' d' A' => x = .normal ∧ d' = [] ∧ A' = ⟨A.t.set A.next (.cells (T.set .leaf 0 [.int .i64 top, .int .i64 0, .int .i64 hgt, .int .i64 c]) 1 4 false false), A.next + 1⟩ ∧ tget t' 0 = .int .i64 r ∧ tget t' 1 = .int .i64 c ∧ tget t' 2 = .int .i64 (n : Int) ∧ tget t' 7 = v7 ∧ tget t' 8 = .int .i64 top ∧ tget t' 9 = .int .i64 (i : Int) ∧ tget t' 10 = .ptr A.next 0) ?_ ?_)
  ·
    show ACode _ _ (Code.seq (Code.region _ _ _) _) _ _ _ _
    refine ACode.seq (ACode.regS noT_ok names_ok mix (t' := ?_) (L' := ?_) [0, 1, 2, 3, 4, 5] (by rfl) ?_ ?_)
    rotate_left 2
    · iterate 6 (refine sq rfl rfl rfl (by simp [go_sem, X, t0, t2, t9, hwr, hm0, hn0, h1', Try.f51]; rfl) ?_)
      rfl
    refine ACode.cond (p := (i : Int) < m) (by simp [tget_set, opd]) (fun him => ?_) (fun him => ACode.skip ?_)
    ·
      have hh : hgt = q + 1 := by rw [hhR, if_pos him]
      refine ACode.regS noT_ok names_ok mix (t' := ?_) (L' := ?_) [0, 1, 2, 3, 4] (by rfl) ?_ ?_
      rotate_left 2
      · iterate 5 (refine sq rfl rfl rfl (by simp [go_sem, X, t10, hw2, Try.f51]; rfl) ?_)
        rfl
      exact ⟨rfl, rfl, by rw [hh], by simp [tget_set, t0], by simp [tget_set, t1], by simp [tget_set, t2], by simp [tget_set, t7], by simp [tget_set, t8], by simp [tget_set, t9], by simp [tget_set, t10]⟩
    ·
      have hh : hgt = q := by rw [hhR, if_neg him]; omega
      exact ⟨rfl, rfl, by rw [hh], by simp [tget_set, t0], by simp [tget_set, t1], by simp [tget_set, t2], by simp [tget_set, t7], by simp [tget_set, t8], by simp [tget_set, t9], by simp [tget_set, t10]⟩
  clear t0 t1 t2 t7 t8 t9 t10
  rintro x t d' A' ⟨rfl, rfl, hA', t0, t1, t2, t7, t8, t9, t10⟩
  show ACode _ _ (Code.seq (Code.region _ _ _) _) _ _ _ _
  have hb1 : A'.t.get A.next = some (.cells (T.set .leaf 0 [.int .i64 top, .int .i64 0, .int .i64 hgt, .int .i64 c]) 1 4 false false) := by rw [hA']; exact T.get_set_same _ _ _
  have hk1 : ∀ k, k < A.next → A'.t.get k = A.t.get k := fun k hk => by rw [hA']; exact T.get_set_ne _ _ (by omega)
  have e2 : A.next + 1 = A'.next := by rw [hA']
  clear hA'
  have hO1 : OwnP 4 rectV L.next A' v7 (st.take i) := hO.still (by omega) (fun m hm => hk1 m (hO.nm_lt hm).2)
  have hO2 : OwnP 4 rectV L.next ⟨A'.t.set A'.next (.cells (T.set .leaf 0 (rectV (top, 0, hgt, c))) 1 4 false false), A'.next + 1⟩ v7 (st.take i) := hO1.still (Nat.le_succ _) (fun m hm => T.get_set_ne _ _ (by have := (hO1.nm_lt hm).2; omega))
  have hsrc : srcElems ⟨A'.t.set A'.next (.cells (T.set .leaf 0 (rectV (top, 0, hgt, c))) 1 4 false false), A'.next + 1⟩ 4 (.slice A'.next 0 1 1 false) = some ([(top, (0 : Int), hgt, c)].map rectV) := by
    simp [srcElems, Heap.elems, Heap.elem, T.get_set, takeN, rectV]
  obtain ⟨v6, A3, ha, hO3, hn3, hk3, hnm3⟩ := append_P (sz := 4) (f := rectV) (by decide) (fun _ => rfl) (fun _ => rfl) pt79 ps81 b_81 (by decide) pz81 rfl hO2 (by simp only; omega) hsrc (by simp only [List.length_cons, List.length_nil, List.length_take]; omega)
  have hb3 : A3.t.get A.next = some (.cells (T.set .leaf 0 [.int .i64 top, .int .i64 0, .int .i64 hgt, .int .i64 c]) 1 4 false false) := by
    rw [hk3 A.next (by simp only; omega) (fun e => by have := (hO.nm_lt e).2; omega)]
    show T.get (T.set _ _ _) _ = _
    rw [T.get_set_ne _ _ (by omega)]; exact hb1
  simp only [rectV] at ha
  refine ACode.seq (ACode.regS noT_ok names_ok mix (t' := ?_) (L' := ?_) [0, 1, 2, 3, 4] (by rfl) ?_ ?_)
  rotate_left 2
  · iterate 5 (refine sq rfl rfl rfl (by simp [go_sem, X, t7, t10, hb1, ha, pi79, Try.f51]; rfl) ?_)
    rfl
  refine ACode.regS noT_ok names_ok mix (t' := ?_) (L' := ?_) [0, 1, 2, 3, 4] (by rfl) ?_ ?_
  rotate_left 2
  · iterate 5 (refine sq rfl rfl rfl (by simp [go_sem, X, t8, t10, hb3, hw3, Try.f51]; rfl) ?_)
    rfl
  show ACode _ _ _ _ _ _ _
  refine ACode.regS noT_ok names_ok mix (t' := ?_) (L' := ?_) [0, 1, 2] (by rfl) ?_ ?_
  rotate_left 2
  · iterate 3 (refine sq rfl rfl rfl (by simp [go_sem, X, t9, hw4, Try.f51]; rfl) ?_)
    rfl
  refine ⟨n - (i + 1), by omega, rfl, i + 1, by omega, rfl, by simp [tget_set, t0], by simp [tget_set, t1], by simp [tget_set, t2], by simp [tget_set, htop], by simp [tget_set], ?_, by simp only at hn3; omega, ?_⟩
  · rw [List.take_add_one, hti]
    simpa [tget_set] using hO3
  · intro k hk
    rw [hk3 k (by simp only; omega) (fun e => by have := (hO.nm_lt e).1; omega)]
    show T.get (T.set _ _ _) _ = _
    rw [T.get_set_ne _ _ (by omega), hk1 k (by omega), hkp k hk]
end Go.Proofs.Ytpfmoolpeecobaa
