/- - -/
import Derived.Test.YtpfmoolpeecobaaU20
namespace Go.Proofs.Ytpfmoolpeecobaa
open Go Go.Proofs Go.Proofs.Ytpfmoolpeecobaa.Ev
set_option linter.unusedVariables false
set_option linter.unusedSimpArgs false
set_option maxRecDepth 100000
set_option maxHeartbeats 4000000


instance : DecidableEq SrcG := fun a b => decidable_of_iff (a.lv = b.lv ∧ a.tr = b.tr ∧ a.q = b.q) (by cases a; cases b; simp)
theorem en4g (f : Nat) (x y : Bool) : equalN Try.prog (f + 1) 4 (.bool x) (.bool y) = some (decide (x = y)) := by
  simp only [equalN, pu4]; cases x <;> cases y <;> rfl
theorem ev83g (cst : Bool) (x y : SrcG) : equalV Try.prog 83 cst (.agg (srcG x)) (.agg (srcG y)) = some (decide (x = y)) := by
  unfold equalV
  simp only [Try.underlying83, pg83, Ev.guardO_true]
  rw [show (20 : Nat) = 19 + 1 from rfl, equalN_struct Try.underlying83]
  obtain ⟨l, tr, a, b, c, d⟩ := x
  obtain ⟨l', tr', a', b', c', d'⟩ := y
  rw [show decide (SrcG.mk l tr (a, b, c, d) = SrcG.mk l' tr' (a', b', c', d')) = decide (l = l' ∧ tr = tr' ∧ (a = a' ∧ b = b' ∧ c = c' ∧ d = d')) from decide_eq_decide.2 (by simp)]
  simp [ph83, guardO, allR, eqPart, Ev.part, pa3, pa51, pa4, pa81, ps81, takeN, en51g, en4g, en81g, srcG]
  by_cases h1 : l = l' <;> by_cases h2 : tr = tr' <;> by_cases h3 : (a = a' ∧ b = b' ∧ c = c' ∧ d = d') <;> simp [h1, h2, h3] <;> (generalize (decide (a = a') && (decide (b = b') && (decide (c = c') && decide (d = d')))) = q; cases q <;> rfl)
theorem ev52g (cst : Bool) (a b c d e a' b' c' d' e' : Int) : equalV Try.prog 52 cst (.agg [.int .u8 a, .int .u8 b, .int .u8 c, .int .u8 d, .int .u8 e]) (.agg [.int .u8 a', .int .u8 b', .int .u8 c', .int .u8 d', .int .u8 e']) = some (decide (a = a' ∧ b = b' ∧ c = c' ∧ d = d' ∧ e = e')) := by
  unfold equalV
  simp only [Try.underlying52, pg52, Ev.guardO_true]
  rw [show (20 : Nat) = 19 + 1 from rfl]
  unfold equalN
  simp [Try.underlying52, allR, eqPart, Ev.part, ps51, pa51, en51g, List.range_succ]
  by_cases h1 : a = a' <;> by_cases h2 : b = b' <;> by_cases h3 : c = c' <;> by_cases h4 : d = d' <;> by_cases h5 : e = e' <;> simp [h1, h2, h3, h4, h5]
theorem take_succ_eq {α : Type} {la lb : List α} {i : Nat} {x : α} (h : la.take i = lb.take i) (ha : la[i]? = some x) (hb : lb[i]? = some x) : la.take (i + 1) = lb.take (i + 1) := by
  rw [List.take_add_one, List.take_add_one, h, ha, hb]
theorem eq48_ok {L : Heap} {va vb : V} {la lb : List SrcG} (ha : SlP 6 83 srcG L va la) (hb : SlP 6 83 srcG L vb lb) (hl : la.length ≤ 1000000) : ACall Try.prog 48 [va, vb] L (.bool (decide (la = lb))) L := by
  have la_ := ha.len pt50
  have lb_ := hb.len pt50
  refine ACall.of_body_same Try.func48 rfl ?_
  refine ACode.seq (ACode.regS noT_ok names_ok mix (t' := ?_) (L' := ?_) [0] (by rfl) ?_ ?_)
  rotate_left 2
  · refine sq rfl rfl rfl (by simp [go_sem, X, Try.f48]; rfl) ?_
    rfl
  refine ACode.seq ?_
  by_cases hll : la.length = lb.length
  rotate_left 1
  ·
    have hll' : ¬ (la.length : Int) = (lb.length : Int) := by omega
    have hne : la ≠ lb := fun e => hll (by rw [e])
    refine ACode.seq (ACode.regS noT_ok names_ok mix (t' := ?_) (L' := ?_) [0, 1, 2, 3, 4] (by rfl) ?_ ?_)
    rotate_left 2
    · iterate 5 (refine sq rfl rfl rfl (by simp [go_sem, xl, xs, xe, xa, xi, xo, xb, xv, xc, xk, la_, lb_, hll', Try.f48]; rfl) ?_)
      rfl
    refine ACode.condT (by simp [tget_set, opd]) ?_
    refine ACode.seq (ACode.regS noT_ok names_ok mix (t' := ?_) (L' := ?_) [0] (by rfl) ?_ ?_)
    rotate_left 2
    · refine sq rfl rfl rfl (by simp [go_sem, X, Try.f48]; rfl) ?_
      rfl
    exact ACode.ret ⟨.inr rfl, [.bool false], rfl, by simp [Try.f48, resVals, tget_set], by simp [one1, hne]⟩
  rw [← hll] at lb_
  refine ACode.seq (ACode.regS noT_ok names_ok mix (t' := ?_) (L' := ?_) [0, 1, 2, 3, 4] (by rfl) ?_ ?_)
  rotate_left 2
  · iterate 5 (refine sq rfl rfl rfl (by simp [go_sem, xl, xs, xe, xa, xi, xo, xb, xv, xc, xk, la_, lb_, Try.f48]; rfl) ?_)
    rfl
  refine ACode.condF (by simp [tget_set, opd]) (ACode.skip ?_)
  refine ACode.seq ?_
  refine ACode.seq (ACode.regS noT_ok names_ok mix (t' := ?_) (L' := ?_) [0, 1, 2] (by rfl) ?_ ?_)
  rotate_left 2
  · iterate 3 (refine sq rfl rfl rfl (by simp [go_sem, xl, xs, xe, xa, xi, xo, xb, xv, xc, xk, la_, Try.f48]; rfl) ?_)
    rfl
  refine ACode.block (ACode.loop (fun t d A N => d = [] ∧ A = L ∧ ∃ i, i ≤ la.length ∧ N = la.length - i ∧ la.take i = lb.take i ∧ tget t 0 = va ∧ tget t 1 = vb ∧ tget t 12 = .int .i64 (la.length : Int) ∧ tget t 13 = .int .i64 (i : Int)) (N := la.length)
    ⟨rfl, rfl, 0, Nat.zero_le _, by omega, rfl, by simp [tget_set, argsT], by simp [tget_set, argsT], by simp [tget_set], by simp [tget_set]⟩ ?_)
  rintro t d A N ⟨rfl, rfl, i, hi, rfl, htk, t0, t1, t12, t13⟩
  refine ACode.seq (ACode.regS noT_ok names_ok mix (t' := ?_) (L' := ?_) [0] (by rfl) ?_ ?_)
  rotate_left 2
  · refine sq rfl rfl rfl (by simp [go_sem, X, t12, t13, Try.f48]; rfl) ?_
    rfl
  refine ACode.seq (ACode.cond (p := (i : Int) < (la.length : Int)) (by simp [tget_set, opd]) (fun hil => ACode.skip ?_) (fun hge => ACode.exit ?_))
  rotate_left 1
  ·
    have heq : la = lb := by
      have hi2 : i = la.length := by omega
      rw [hi2, List.take_length, hll, List.take_length] at htk
      exact htk
    show ACode _ _ _ _ _ _ _
    refine ACode.seq (ACode.regS noT_ok names_ok mix (t' := ?_) (L' := ?_) [0] (by rfl) ?_ ?_)
    rotate_left 2
    · refine sq rfl rfl rfl (by simp [go_sem, X, Try.f48]; rfl) ?_
      rfl
    exact ACode.ret ⟨.inr rfl, [.bool true], rfl, by simp [Try.f48, resVals, tget_set], by simp [one1, heq]⟩
  have hil' : i < la.length := by omega
  have hxa : la[i]? = some la[i] := by simp [hil']
  have hxb : lb[i]? = some lb[i] := by simp
  obtain ⟨n1, o1, _, hx1, hy1⟩ := ha.at' pt50 ps83 hxa
  obtain ⟨n2, o2, _, hx2, hy2⟩ := hb.at' pt50 ps83 hxb
  have hw : IntKind.i64.wrap ((i : Int) + 1) = (i : Int) + 1 := Go.IntWalk.i64_in _ (by omega)
  have hev := ev83g false la[i] lb[i]
  refine ACode.seq (ACode.block ?_)
  refine ACode.seq (ACode.regS noT_ok names_ok mix (t' := ?_) (L' := ?_) [0, 1] (by rfl) ?_ ?_)
  rotate_left 2
  · iterate 2 (refine sq rfl rfl rfl (by simp [go_sem, X, t13, Try.f48]; rfl) ?_)
    rfl
  by_cases hq : la[i] = lb[i]
  rotate_left 1
  ·
    have hne : la ≠ lb := by
      rintro rfl
      exact hq rfl
    rw [decide_eq_false hq] at hev
    generalize srcG la[i] = cs1 at *
    generalize srcG lb[i] = cs2 at *
    refine ACode.seq (ACode.regD noT_ok names_ok mix (t' := ?_) (L' := ?_) [0,0,3,7,0,0,48,112,255] [0,1,2,3,4,5,6,7,8] (by decide +kernel) (by decide +kernel) (by decide +kernel) ?_ ?_)
    rotate_left 2
    · iterate 3 (refine dq rfl rfl rfl rfl (by simp [go_sem, xs, xi, xo, xb, xq, xv, xc, xk, t0, t1, hx1, hx2, hy1, hy2, hev, Try.f48]; rfl) ?_)
      refine dr rfl rfl rfl rfl (by simp [go_sem, xs, xi, xo, xb, xq, xv, xc, xk, t0, t1, hx1, hx2, hy1, hy2, hev, Try.f48]; rfl) ?_
      iterate 3 (refine dq rfl rfl rfl rfl (by simp [go_sem, xs, xi, xo, xb, xq, xv, xc, xk, t0, t1, hx1, hx2, hy1, hy2, hev, Try.f48]; rfl) ?_)
      refine dr rfl rfl rfl rfl (by simp [go_sem, xs, xi, xo, xb, xq, xv, xc, xk, t0, t1, hx1, hx2, hy1, hy2, hev, Try.f48]; rfl) ?_
      refine dq rfl rfl rfl rfl (by simp [go_sem, xs, xi, xo, xb, xq, xv, xc, xk, t0, t1, hx1, hx2, hy1, hy2, hev, Try.f48]; rfl) ?_
      rfl
    refine ACode.condT (by simp [tget_set, opd]) ?_
    refine ACode.seq (ACode.regS noT_ok names_ok mix (t' := ?_) (L' := ?_) [0] (by rfl) ?_ ?_)
    rotate_left 2
    · refine sq rfl rfl rfl (by simp [go_sem, X, Try.f48]; rfl) ?_
      rfl
    exact ACode.ret ⟨.inr rfl, [.bool false], rfl, by simp [Try.f48, resVals, tget_set], by simp [one1, hne]⟩
  have htk2 := take_succ_eq htk hxa (by rw [hxb, hq])
  rw [decide_eq_true hq] at hev
  generalize srcG la[i] = cs1 at *
  generalize srcG lb[i] = cs2 at *
  refine ACode.seq (ACode.regD noT_ok names_ok mix (t' := ?_) (L' := ?_) [0,0,3,7,0,0,48,112,255] [0,1,2,3,4,5,6,7,8] (by decide +kernel) (by decide +kernel) (by decide +kernel) ?_ ?_)
  rotate_left 2
  · iterate 3 (refine dq rfl rfl rfl rfl (by simp [go_sem, xs, xi, xo, xb, xq, xv, xc, xk, t0, t1, hx1, hx2, hy1, hy2, hev, Try.f48]; rfl) ?_)
    refine dr rfl rfl rfl rfl (by simp [go_sem, xs, xi, xo, xb, xq, xv, xc, xk, t0, t1, hx1, hx2, hy1, hy2, hev, Try.f48]; rfl) ?_
    iterate 3 (refine dq rfl rfl rfl rfl (by simp [go_sem, xs, xi, xo, xb, xq, xv, xc, xk, t0, t1, hx1, hx2, hy1, hy2, hev, Try.f48]; rfl) ?_)
    refine dr rfl rfl rfl rfl (by simp [go_sem, xs, xi, xo, xb, xq, xv, xc, xk, t0, t1, hx1, hx2, hy1, hy2, hev, Try.f48]; rfl) ?_
    refine dq rfl rfl rfl rfl (by simp [go_sem, xs, xi, xo, xb, xq, xv, xc, xk, t0, t1, hx1, hx2, hy1, hy2, hev, Try.f48]; rfl) ?_
    rfl
  refine ACode.condF (by simp [tget_set, opd]) (ACode.skip ?_)
  show ACode _ _ _ _ _ _ _
  refine ACode.regS noT_ok names_ok mix (t' := ?_) (L' := ?_) [0, 1] (by rfl) ?_ ?_
  rotate_left 2
  · iterate 2 (refine sq rfl rfl rfl (by simp [go_sem, X, t13, hw, Try.f48]; rfl) ?_)
    rfl
  exact ⟨la.length - (i + 1), by omega, rfl, rfl, i + 1, by omega, rfl, htk2, by simp [tget_set, t0], by simp [tget_set, t1], by simp [tget_set, t12], by simp [tget_set]⟩
theorem eq49_ok {L : Heap} {va vb : V} {la lb : List Evt} (ha : SlP 9 86 evF L va la) (hb : SlP 9 86 evF L vb lb) (hl : la.length ≤ 1000000) : ACall Try.prog 49 [va, vb] L (.bool (decide (la = lb))) L := by
  have la_ := ha.len pt55
  have lb_ := hb.len pt55
  refine ACall.of_body_same Try.func49 rfl ?_
  refine ACode.seq (ACode.regS noT_ok names_ok mix (t' := ?_) (L' := ?_) [0] (by rfl) ?_ ?_)
  rotate_left 2
  · refine sq rfl rfl rfl (by simp [go_sem, X, Try.f49]; rfl) ?_
    rfl
  refine ACode.seq ?_
  by_cases hll : la.length = lb.length
  rotate_left 1
  ·
    have hll' : ¬ (la.length : Int) = (lb.length : Int) := by omega
    have hne : la ≠ lb := fun e => hll (by rw [e])
    refine ACode.seq (ACode.regS noT_ok names_ok mix (t' := ?_) (L' := ?_) [0, 1, 2, 3, 4] (by rfl) ?_ ?_)
    rotate_left 2
    · iterate 5 (refine sq rfl rfl rfl (by simp [go_sem, xl, xs, xe, xa, xi, xo, xb, xv, xc, xk, la_, lb_, hll', Try.f49]; rfl) ?_)
      rfl
    refine ACode.condT (by simp [tget_set, opd]) ?_
    refine ACode.seq (ACode.regS noT_ok names_ok mix (t' := ?_) (L' := ?_) [0] (by rfl) ?_ ?_)
    rotate_left 2
    · refine sq rfl rfl rfl (by simp [go_sem, X, Try.f49]; rfl) ?_
      rfl
    exact ACode.ret ⟨.inr rfl, [.bool false], rfl, by simp [Try.f49, resVals, tget_set], by simp [one1, hne]⟩
  rw [← hll] at lb_
  refine ACode.seq (ACode.regS noT_ok names_ok mix (t' := ?_) (L' := ?_) [0, 1, 2, 3, 4] (by rfl) ?_ ?_)
  rotate_left 2
  · iterate 5 (refine sq rfl rfl rfl (by simp [go_sem, xl, xs, xe, xa, xi, xo, xb, xv, xc, xk, la_, lb_, Try.f49]; rfl) ?_)
    rfl
  refine ACode.condF (by simp [tget_set, opd]) (ACode.skip ?_)
  refine ACode.seq ?_
  refine ACode.seq (ACode.regS noT_ok names_ok mix (t' := ?_) (L' := ?_) [0, 1, 2] (by rfl) ?_ ?_)
  rotate_left 2
  · iterate 3 (refine sq rfl rfl rfl (by simp [go_sem, xl, xs, xe, xa, xi, xo, xb, xv, xc, xk, la_, Try.f49]; rfl) ?_)
    rfl
  refine ACode.block (ACode.loop (fun t d A N => d = [] ∧ A = L ∧ ∃ i, i ≤ la.length ∧ N = la.length - i ∧ la.take i = lb.take i ∧ tget t 0 = va ∧ tget t 1 = vb ∧ tget t 12 = .int .i64 (la.length : Int) ∧ tget t 13 = .int .i64 (i : Int)) (N := la.length)
    ⟨rfl, rfl, 0, Nat.zero_le _, by omega, rfl, by simp [tget_set, argsT], by simp [tget_set, argsT], by simp [tget_set], by simp [tget_set]⟩ ?_)
  rintro t d A N ⟨rfl, rfl, i, hi, rfl, htk, t0, t1, t12, t13⟩
  refine ACode.seq (ACode.regS noT_ok names_ok mix (t' := ?_) (L' := ?_) [0] (by rfl) ?_ ?_)
  rotate_left 2
  · refine sq rfl rfl rfl (by simp [go_sem, X, t12, t13, Try.f49]; rfl) ?_
    rfl
  refine ACode.seq (ACode.cond (p := (i : Int) < (la.length : Int)) (by simp [tget_set, opd]) (fun hil => ACode.skip ?_) (fun hge => ACode.exit ?_))
  rotate_left 1
  ·
    have heq : la = lb := by
      have hi2 : i = la.length := by omega
      rw [hi2, List.take_length, hll, List.take_length] at htk
      exact htk
    show ACode _ _ _ _ _ _ _
    refine ACode.seq (ACode.regS noT_ok names_ok mix (t' := ?_) (L' := ?_) [0] (by rfl) ?_ ?_)
    rotate_left 2
    · refine sq rfl rfl rfl (by simp [go_sem, X, Try.f49]; rfl) ?_
      rfl
    exact ACode.ret ⟨.inr rfl, [.bool true], rfl, by simp [Try.f49, resVals, tget_set], by simp [one1, heq]⟩
  have hil' : i < la.length := by omega
  have hxa : la[i]? = some la[i] := by simp [hil']
  have hxb : lb[i]? = some lb[i] := by simp
  obtain ⟨n1, o1, _, hx1, hy1⟩ := ha.at' pt55 ps86 hxa
  obtain ⟨n2, o2, _, hx2, hy2⟩ := hb.at' pt55 ps86 hxb
  have hw : IntKind.i64.wrap ((i : Int) + 1) = (i : Int) + 1 := Go.IntWalk.i64_in _ (by omega)
  have hev := ev86g false la[i] lb[i]
  refine ACode.seq (ACode.block ?_)
  refine ACode.seq (ACode.regS noT_ok names_ok mix (t' := ?_) (L' := ?_) [0, 1] (by rfl) ?_ ?_)
  rotate_left 2
  · iterate 2 (refine sq rfl rfl rfl (by simp [go_sem, X, t13, Try.f49]; rfl) ?_)
    rfl
  by_cases hq : la[i] = lb[i]
  rotate_left 1
  ·
    have hne : la ≠ lb := by
      rintro rfl
      exact hq rfl
    rw [decide_eq_false hq] at hev
    generalize evF la[i] = cs1 at *
    generalize evF lb[i] = cs2 at *
    refine ACode.seq (ACode.regD noT_ok names_ok mix (t' := ?_) (L' := ?_) [0,0,3,7,0,0,48,112,255] [0,1,2,3,4,5,6,7,8] (by decide +kernel) (by decide +kernel) (by decide +kernel) ?_ ?_)
    rotate_left 2
    · iterate 3 (refine dq rfl rfl rfl rfl (by simp [go_sem, xs, xi, xo, xb, xq, xv, xc, xk, t0, t1, hx1, hx2, hy1, hy2, hev, Try.f49]; rfl) ?_)
      refine dr rfl rfl rfl rfl (by simp [go_sem, xs, xi, xo, xb, xq, xv, xc, xk, t0, t1, hx1, hx2, hy1, hy2, hev, Try.f49]; rfl) ?_
      iterate 3 (refine dq rfl rfl rfl rfl (by simp [go_sem, xs, xi, xo, xb, xq, xv, xc, xk, t0, t1, hx1, hx2, hy1, hy2, hev, Try.f49]; rfl) ?_)
      refine dr rfl rfl rfl rfl (by simp [go_sem, xs, xi, xo, xb, xq, xv, xc, xk, t0, t1, hx1, hx2, hy1, hy2, hev, Try.f49]; rfl) ?_
      refine dq rfl rfl rfl rfl (by simp [go_sem, xs, xi, xo, xb, xq, xv, xc, xk, t0, t1, hx1, hx2, hy1, hy2, hev, Try.f49]; rfl) ?_
      rfl
    refine ACode.condT (by simp [tget_set, opd]) ?_
    refine ACode.seq (ACode.regS noT_ok names_ok mix (t' := ?_) (L' := ?_) [0] (by rfl) ?_ ?_)
    rotate_left 2
    · refine sq rfl rfl rfl (by simp [go_sem, X, Try.f49]; rfl) ?_
      rfl
    exact ACode.ret ⟨.inr rfl, [.bool false], rfl, by simp [Try.f49, resVals, tget_set], by simp [one1, hne]⟩
  have htk2 := take_succ_eq htk hxa (by rw [hxb, hq])
  rw [decide_eq_true hq] at hev
  generalize evF la[i] = cs1 at *
  generalize evF lb[i] = cs2 at *
  refine ACode.seq (ACode.regD noT_ok names_ok mix (t' := ?_) (L' := ?_) [0,0,3,7,0,0,48,112,255] [0,1,2,3,4,5,6,7,8] (by decide +kernel) (by decide +kernel) (by decide +kernel) ?_ ?_)
  rotate_left 2
  · iterate 3 (refine dq rfl rfl rfl rfl (by simp [go_sem, xs, xi, xo, xb, xq, xv, xc, xk, t0, t1, hx1, hx2, hy1, hy2, hev, Try.f49]; rfl) ?_)
    refine dr rfl rfl rfl rfl (by simp [go_sem, xs, xi, xo, xb, xq, xv, xc, xk, t0, t1, hx1, hx2, hy1, hy2, hev, Try.f49]; rfl) ?_
    iterate 3 (refine dq rfl rfl rfl rfl (by simp [go_sem, xs, xi, xo, xb, xq, xv, xc, xk, t0, t1, hx1, hx2, hy1, hy2, hev, Try.f49]; rfl) ?_)
    refine dr rfl rfl rfl rfl (by simp [go_sem, xs, xi, xo, xb, xq, xv, xc, xk, t0, t1, hx1, hx2, hy1, hy2, hev, Try.f49]; rfl) ?_
    refine dq rfl rfl rfl rfl (by simp [go_sem, xs, xi, xo, xb, xq, xv, xc, xk, t0, t1, hx1, hx2, hy1, hy2, hev, Try.f49]; rfl) ?_
    rfl
  refine ACode.condF (by simp [tget_set, opd]) (ACode.skip ?_)
  show ACode _ _ _ _ _ _ _
  refine ACode.regS noT_ok names_ok mix (t' := ?_) (L' := ?_) [0, 1] (by rfl) ?_ ?_
  rotate_left 2
  · iterate 2 (refine sq rfl rfl rfl (by simp [go_sem, X, t13, hw, Try.f49]; rfl) ?_)
    rfl
  exact ⟨la.length - (i + 1), by omega, rfl, rfl, i + 1, by omega, rfl, htk2, by simp [tget_set, t0], by simp [tget_set, t1], by simp [tget_set, t12], by simp [tget_set]⟩
/-- a script -/
structure Scr where
  r : Int
  c : Int
  g0 : Int
  g1 : Int
  g2 : Int
  g3 : Int
  g4 : Int
  ring : Int
  srcs : List SrcG
  evs : List Evt
instance : DecidableEq Scr := fun a b => decidable_of_iff (a.r = b.r ∧ a.c = b.c ∧ (a.g0 = b.g0 ∧ a.g1 = b.g1 ∧ a.g2 = b.g2 ∧ a.g3 = b.g3 ∧ a.g4 = b.g4) ∧ a.ring = b.ring ∧ a.srcs = b.srcs ∧ a.evs = b.evs) (by cases a; cases b; simp [and_assoc])
theorem Scr.dec (a b : Scr) : decide (a = b) = decide (a.r = b.r ∧ a.c = b.c ∧ (a.g0 = b.g0 ∧ a.g1 = b.g1 ∧ a.g2 = b.g2 ∧ a.g3 = b.g3 ∧ a.g4 = b.g4) ∧ a.ring = b.ring ∧ a.srcs = b.srcs ∧ a.evs = b.evs) := decide_eq_decide.2 (by cases a; cases b; simp [and_assoc])
/-- its cells -/
def Scr.cs (s : Scr) (sv ev : V) : List V := scL s.r s.c sv s.g0 s.g1 s.g2 s.g3 s.g4 s.ring ev
def Scr.su (s : Scr) (sv : V) : List V := suCs s.r s.c sv s.g0 s.g1 s.g2 s.g3 s.g4 s.ring
/-- a script stands -/
structure ScS (L : Heap) (s : Scr) (sv ev : V) : Prop where
  hs : SlP 6 83 srcG L sv s.srcs
  he : SlP 9 86 evF L ev s.evs
  ls : s.srcs.length ≤ 1000
  le : s.evs.length ≤ 1000
theorem ScS.keep {L L' : Heap} {s : Scr} {sv ev : V} (h : ScS L s sv ev) (hn : L.next ≤ L'.next) (hk : ∀ n, n < L.next → L'.t.get n = L.t.get n) : ScS L' s sv ev := ⟨h.hs.keep hn hk, h.he.keep hn hk, h.ls, h.le⟩
noncomputable def smA (L : Heap) (c1 c2 s1 s2 : List V) : Heap := ⟨((((((L.t.set L.next (scB c1)).set (L.next + 1) (scB c2)).set (L.next + 2) (evB [.int .i64 0, .int .i64 0, .nils, .int .u8 0, .int .u8 0, .int .u8 0, .int .u8 0, .int .u8 0, .int .i64 0])).set (L.next + 3) (evB [.int .i64 0, .int .i64 0, .nils, .int .u8 0, .int .u8 0, .int .u8 0, .int .u8 0, .int .u8 0, .int .i64 0])).set (L.next + 2) (evB s1)).set (L.next + 3) (evB s2)), L.next + 4⟩
theorem smA_get (L : Heap) (c1 c2 s1 s2 : List V) : (smA L c1 c2 s1 s2).t.get L.next = some (scB c1) ∧ (smA L c1 c2 s1 s2).t.get (L.next + 1) = some (scB c2) ∧ (smA L c1 c2 s1 s2).t.get (L.next + 2) = some (evB s1) ∧ (smA L c1 c2 s1 s2).t.get (L.next + 3) = some (evB s2) ∧ ∀ n, n < L.next → (smA L c1 c2 s1 s2).t.get n = L.t.get n := by
  unfold smA
  refine ⟨?_, ?_, ?_, T.get_set_same _ _ _, ?_⟩
  · repeat rw [T.get_set_ne _ _ (show L.next ≠ _ by omega)]
    exact T.get_set_same _ _ _
  · rw [T.get_set_ne _ _ (by omega), T.get_set_ne _ _ (by omega), T.get_set_ne _ _ (by omega), T.get_set_ne _ _ (by omega)]
    exact T.get_set_same _ _ _
  · rw [T.get_set_ne _ _ (by omega)]
    exact T.get_set_same _ _ _
  · intro n hn
    rw [T.get_set_ne _ _ (by omega), T.get_set_ne _ _ (by omega), T.get_set_ne _ _ (by omega), T.get_set_ne _ _ (by omega), T.get_set_ne _ _ (by omega), T.get_set_ne _ _ (by omega)]
theorem same_ok {L : Heap} {a b : Scr} {s1 s2 e1 e2 : V} (ha : ScS L a s1 e1) (hb : ScS L b s2 e2) : ACall Try.prog 31 [.agg (a.cs s1 e1), .agg (b.cs s2 e2)] L (.bool (decide (a = b))) L := by
  have hdec := Scr.dec a b
  have q1 := ha.hs.scal
  have q2 := hb.hs.scal
  have qe1 := ha.he.scal
  have qe2 := hb.he.scal
  refine ACall.of_body Try.func31 rfl ?_
  unfold Scr.cs scL
  refine ACode.seq (ACode.regS noT_ok names_ok mix (t' := ?_) (L' := ?_) [0, 1, 2] (by rfl) ?_ ?_)
  rotate_left 2
  · iterate 3 (refine sq rfl rfl rfl (by simp [go_sem, X, Try.f31]; rfl) ?_)
    rfl
  refine ACode.seq (ACode.regD noT_ok names_ok mix (t' := ?_) (L' := ?_) [0,1,0,4,0,0,51,127] [0,1,2,3,4,5,6,7] (by decide +kernel) (by decide +kernel) (by decide +kernel) ?_ ?_)
  rotate_left 2
  · refine dq rfl rfl rfl rfl (by simp [go_sem, xl, xs, xe, xa, xi, xo, xb, xq, xv, xc, q1, q2, scal1, scal2, scal3, Try.f31]; rfl) ?_
    refine dr rfl rfl rfl rfl (by simp [go_sem, xl, xs, xe, xa, xi, xo, xb, xq, xv, xc, q1, q2, scal1, scal2, scal3, Try.f31]; rfl) ?_
    refine dq rfl rfl rfl rfl (by simp [go_sem, xl, xs, xe, xa, xi, xo, xb, xq, xv, xc, q1, q2, scal1, scal2, scal3, Try.f31]; rfl) ?_
    refine dr rfl rfl rfl rfl (by simp [go_sem, xl, xs, xe, xa, xi, xo, xb, xq, xv, xc, q1, q2, scal1, scal2, scal3, Try.f31]; rfl) ?_
    iterate 2 (refine dm rfl rfl rfl rfl (by simp [go_sem, xl, xs, xe, xa, xi, xo, xb, xq, xv, xc, q1, q2, scal1, scal2, scal3, Try.f31]; rfl) ?_)
    iterate 2 (refine dl rfl rfl rfl rfl (by simp [go_sem, xl, xs, xe, xa, xi, xo, xb, xq, xv, xc, q1, q2, scal1, scal2, scal3, Try.f31]; rfl) (by rfl) (by simp [go_sem, xl, xs, xe, xa, xi, xo, xb, xq, xv, xc, q1, q2, scal1, scal2, scal3, Try.f31]) ?_)
    rfl
  change ACode _ _ _ _ _ (smA L (a.cs s1 e1) (b.cs s2 e2) (a.su s1) (b.su s2)) _
  obtain ⟨b1, b2, b3, b4, old⟩ := smA_get L (a.cs s1 e1) (b.cs s2 e2) (a.su s1) (b.su s2)
  have nA : L.next + 4 = (smA L (a.cs s1 e1) (b.cs s2 e2) (a.su s1) (b.su s2)).next := rfl
  generalize smA L (a.cs s1 e1) (b.cs s2 e2) (a.su s1) (b.su s2) = A at *
  have ha2 := ha.keep (by omega) old
  have hb2 := hb.keep (by omega) old
  unfold scB Scr.cs scL at b1 b2
  unfold evB Scr.su suCs at b3 b4
  have hl0 : Heap.load Try.prog A 3 (L.next + 2) 0 = some (.int .i64 a.r) := by simp [Heap.load, Heap.elem, b3, T.get_set, Ev.part, pa3]
  have hl1 : Heap.load Try.prog A 3 (L.next + 2) 1 = some (.int .i64 a.c) := by simp [Heap.load, Heap.elem, b3, T.get_set, Ev.part, pa3]
  have hl2 : Heap.load Try.prog A 50 (L.next + 2) 2 = some s1 := by simp [Heap.load, Heap.elem, b3, T.get_set, Ev.part, pa50]
  have hl3 : Heap.load Try.prog A 52 (L.next + 2) 3 = some (.agg [.int .u8 a.g0, .int .u8 a.g1, .int .u8 a.g2, .int .u8 a.g3, .int .u8 a.g4]) := by simp [Heap.load, Heap.elem, b3, T.get_set, Ev.part, pa52, ps52, takeN]
  have hl4 : Heap.load Try.prog A 3 (L.next + 2) 8 = some (.int .i64 a.ring) := by simp [Heap.load, Heap.elem, b3, T.get_set, Ev.part, pa3]
  have hr0 : Heap.load Try.prog A 3 (L.next + 3) 0 = some (.int .i64 b.r) := by simp [Heap.load, Heap.elem, b4, T.get_set, Ev.part, pa3]
  have hr1 : Heap.load Try.prog A 3 (L.next + 3) 1 = some (.int .i64 b.c) := by simp [Heap.load, Heap.elem, b4, T.get_set, Ev.part, pa3]
  have hr2 : Heap.load Try.prog A 50 (L.next + 3) 2 = some s2 := by simp [Heap.load, Heap.elem, b4, T.get_set, Ev.part, pa50]
  have hr3 : Heap.load Try.prog A 52 (L.next + 3) 3 = some (.agg [.int .u8 b.g0, .int .u8 b.g1, .int .u8 b.g2, .int .u8 b.g3, .int .u8 b.g4]) := by simp [Heap.load, Heap.elem, b4, T.get_set, Ev.part, pa52, ps52, takeN]
  have hr4 : Heap.load Try.prog A 3 (L.next + 3) 8 = some (.int .i64 b.ring) := by simp [Heap.load, Heap.elem, b4, T.get_set, Ev.part, pa3]
  have hle : Heap.load Try.prog A 55 L.next 9 = some e1 := by simp [Heap.load, Heap.elem, b1, T.get_set, Ev.part, pa55]
  have hre : Heap.load Try.prog A 55 (L.next + 1) 9 = some e2 := by simp [Heap.load, Heap.elem, b2, T.get_set, Ev.part, pa55]
  have hev := ev52g false a.g0 a.g1 a.g2 a.g3 a.g4 b.g0 b.g1 b.g2 b.g3 b.g4
  generalize [V.int .u8 a.g0, .int .u8 a.g1, .int .u8 a.g2, .int .u8 a.g3, .int .u8 a.g4] = ga at *
  generalize [V.int .u8 b.g0, .int .u8 b.g1, .int .u8 b.g2, .int .u8 b.g3, .int .u8 b.g4] = gb at *
  by_cases c0 : a.r = b.r
  rotate_left 1
  ·
    have hno : decide (a.r = b.r ∧ a.c = b.c ∧ (a.g0 = b.g0 ∧ a.g1 = b.g1 ∧ a.g2 = b.g2 ∧ a.g3 = b.g3 ∧ a.g4 = b.g4) ∧ a.ring = b.ring ∧ a.srcs = b.srcs ∧ a.evs = b.evs) = false := decide_eq_false fun h => c0 h.1
    refine ACode.seq (ACode.regS noT_ok names_ok mix (t' := ?_) (L' := ?_) [0, 1, 2, 3, 4, 5, 6, 7, 8, 9, 10, 11, 12, 13, 14, 15, 16, 17, 18, 19, 20, 21, 22, 23, 24, 25, 26] (by rfl) ?_ ?_)
    rotate_left 2
    · iterate 6 (refine sq rfl rfl rfl (by simp [go_sem, xs, xe, xa, xi, xo, xb, xq, xv, xc, xk, hl0, hl1, hl2, hl3, hl4, hr0, hr1, hr2, hr3, hr4, hle, hre, c0, hev, Try.f31]; rfl) ?_)
      iterate 5 (refine sk rfl rfl (by simp [go_sem, xs, xe, xa, xi, xo, xb, xq, xv, xc, xk, hl0, hl1, hl2, hl3, hl4, hr0, hr1, hr2, hr3, hr4, hle, hre, c0, hev, Try.f31]) ?_)
      iterate 2 (refine sq rfl rfl rfl (by simp [go_sem, xs, xe, xa, xi, xo, xb, xq, xv, xc, xk, hl0, hl1, hl2, hl3, hl4, hr0, hr1, hr2, hr3, hr4, hle, hre, c0, hev, Try.f31]; rfl) ?_)
      iterate 5 (refine sk rfl rfl (by simp [go_sem, xs, xe, xa, xi, xo, xb, xq, xv, xc, xk, hl0, hl1, hl2, hl3, hl4, hr0, hr1, hr2, hr3, hr4, hle, hre, c0, hev, Try.f31]) ?_)
      iterate 2 (refine sq rfl rfl rfl (by simp [go_sem, xs, xe, xa, xi, xo, xb, xq, xv, xc, xk, hl0, hl1, hl2, hl3, hl4, hr0, hr1, hr2, hr3, hr4, hle, hre, c0, hev, Try.f31]; rfl) ?_)
      iterate 5 (refine sk rfl rfl (by simp [go_sem, xs, xe, xa, xi, xo, xb, xq, xv, xc, xk, hl0, hl1, hl2, hl3, hl4, hr0, hr1, hr2, hr3, hr4, hle, hre, c0, hev, Try.f31]) ?_)
      iterate 2 (refine sq rfl rfl rfl (by simp [go_sem, xs, xe, xa, xi, xo, xb, xq, xv, xc, xk, hl0, hl1, hl2, hl3, hl4, hr0, hr1, hr2, hr3, hr4, hle, hre, c0, hev, Try.f31]; rfl) ?_)
      rfl
    refine ACode.seq (ACode.regS noT_ok names_ok mix (t' := ?_) (L' := ?_) [0, 1, 2, 3, 4, 5, 6, 7, 8, 9, 10, 11, 12, 13, 14, 15] (by rfl) ?_ ?_)
    rotate_left 2
    · iterate 2 (refine sq rfl rfl rfl (by simp [go_sem, xs, xe, xa, xi, xo, xb, xq, xv, xc, xk, Try.f31]; rfl) ?_)
      iterate 5 (refine sk rfl rfl (by simp [go_sem, xs, xe, xa, xi, xo, xb, xq, xv, xc, xk, Try.f31]) ?_)
      iterate 2 (refine sq rfl rfl rfl (by simp [go_sem, xs, xe, xa, xi, xo, xb, xq, xv, xc, xk, Try.f31]; rfl) ?_)
      iterate 5 (refine sk rfl rfl (by simp [go_sem, xs, xe, xa, xi, xo, xb, xq, xv, xc, xk, Try.f31]) ?_)
      iterate 2 (refine sq rfl rfl rfl (by simp [go_sem, xs, xe, xa, xi, xo, xb, xq, xv, xc, xk, Try.f31]; rfl) ?_)
      rfl
    refine ACode.ret ⟨.inr rfl, _, [.bool false], [], rfl, by simp [Try.f31, resVals, tget_set], Tidy.zero old, fun κ1 z hz => ?_⟩
    rw [hdec, hno]
    exact VR_plain (κ := κ1) _ _ rfl hz
  by_cases c1 : a.c = b.c
  rotate_left 1
  ·
    have hno : decide (a.r = b.r ∧ a.c = b.c ∧ (a.g0 = b.g0 ∧ a.g1 = b.g1 ∧ a.g2 = b.g2 ∧ a.g3 = b.g3 ∧ a.g4 = b.g4) ∧ a.ring = b.ring ∧ a.srcs = b.srcs ∧ a.evs = b.evs) = false := decide_eq_false fun h => c1 h.2.1
    refine ACode.seq (ACode.regS noT_ok names_ok mix (t' := ?_) (L' := ?_) [0, 1, 2, 3, 4, 5, 6, 7, 8, 9, 10, 11, 12, 13, 14, 15, 16, 17, 18, 19, 20, 21, 22, 23, 24, 25, 26] (by rfl) ?_ ?_)
    rotate_left 2
    · iterate 6 (refine sq rfl rfl rfl (by simp [go_sem, xs, xe, xa, xi, xo, xb, xq, xv, xc, xk, hl0, hl1, hl2, hl3, hl4, hr0, hr1, hr2, hr3, hr4, hle, hre, c0, c1, hev, Try.f31]; rfl) ?_)
      iterate 5 (refine sq rfl rfl (by simp [go_sem, xs, xe, xa, xi, xo, xb, xq, xv, xc, xk, hl0, hl1, hl2, hl3, hl4, hr0, hr1, hr2, hr3, hr4, hle, hre, c0, c1, hev, Try.f31]) (by simp [go_sem, xs, xe, xa, xi, xo, xb, xq, xv, xc, xk, hl0, hl1, hl2, hl3, hl4, hr0, hr1, hr2, hr3, hr4, hle, hre, c0, c1, hev, Try.f31]; rfl) ?_)
      iterate 2 (refine sq rfl rfl rfl (by simp [go_sem, xs, xe, xa, xi, xo, xb, xq, xv, xc, xk, hl0, hl1, hl2, hl3, hl4, hr0, hr1, hr2, hr3, hr4, hle, hre, c0, c1, hev, Try.f31]; rfl) ?_)
      iterate 5 (refine sk rfl rfl (by simp [go_sem, xs, xe, xa, xi, xo, xb, xq, xv, xc, xk, hl0, hl1, hl2, hl3, hl4, hr0, hr1, hr2, hr3, hr4, hle, hre, c0, c1, hev, Try.f31]) ?_)
      iterate 2 (refine sq rfl rfl rfl (by simp [go_sem, xs, xe, xa, xi, xo, xb, xq, xv, xc, xk, hl0, hl1, hl2, hl3, hl4, hr0, hr1, hr2, hr3, hr4, hle, hre, c0, c1, hev, Try.f31]; rfl) ?_)
      iterate 5 (refine sk rfl rfl (by simp [go_sem, xs, xe, xa, xi, xo, xb, xq, xv, xc, xk, hl0, hl1, hl2, hl3, hl4, hr0, hr1, hr2, hr3, hr4, hle, hre, c0, c1, hev, Try.f31]) ?_)
      iterate 2 (refine sq rfl rfl rfl (by simp [go_sem, xs, xe, xa, xi, xo, xb, xq, xv, xc, xk, hl0, hl1, hl2, hl3, hl4, hr0, hr1, hr2, hr3, hr4, hle, hre, c0, c1, hev, Try.f31]; rfl) ?_)
      rfl
    refine ACode.seq (ACode.regS noT_ok names_ok mix (t' := ?_) (L' := ?_) [0, 1, 2, 3, 4, 5, 6, 7, 8, 9, 10, 11, 12, 13, 14, 15] (by rfl) ?_ ?_)
    rotate_left 2
    · iterate 2 (refine sq rfl rfl rfl (by simp [go_sem, xs, xe, xa, xi, xo, xb, xq, xv, xc, xk, Try.f31]; rfl) ?_)
      iterate 5 (refine sk rfl rfl (by simp [go_sem, xs, xe, xa, xi, xo, xb, xq, xv, xc, xk, Try.f31]) ?_)
      iterate 2 (refine sq rfl rfl rfl (by simp [go_sem, xs, xe, xa, xi, xo, xb, xq, xv, xc, xk, Try.f31]; rfl) ?_)
      iterate 5 (refine sk rfl rfl (by simp [go_sem, xs, xe, xa, xi, xo, xb, xq, xv, xc, xk, Try.f31]) ?_)
      iterate 2 (refine sq rfl rfl rfl (by simp [go_sem, xs, xe, xa, xi, xo, xb, xq, xv, xc, xk, Try.f31]; rfl) ?_)
      rfl
    refine ACode.ret ⟨.inr rfl, _, [.bool false], [], rfl, by simp [Try.f31, resVals, tget_set], Tidy.zero old, fun κ1 z hz => ?_⟩
    rw [hdec, hno]
    exact VR_plain (κ := κ1) _ _ rfl hz
  by_cases c2 : (a.g0 = b.g0 ∧ a.g1 = b.g1 ∧ a.g2 = b.g2 ∧ a.g3 = b.g3 ∧ a.g4 = b.g4)
  rotate_left 1
  ·
    have hno : decide (a.r = b.r ∧ a.c = b.c ∧ (a.g0 = b.g0 ∧ a.g1 = b.g1 ∧ a.g2 = b.g2 ∧ a.g3 = b.g3 ∧ a.g4 = b.g4) ∧ a.ring = b.ring ∧ a.srcs = b.srcs ∧ a.evs = b.evs) = false := decide_eq_false fun h => c2 h.2.2.1
    rw [decide_eq_false c2] at hev
    refine ACode.seq (ACode.regS noT_ok names_ok mix (t' := ?_) (L' := ?_) [0, 1, 2, 3, 4, 5, 6, 7, 8, 9, 10, 11, 12, 13, 14, 15, 16, 17, 18, 19, 20, 21, 22, 23, 24, 25, 26] (by rfl) ?_ ?_)
    rotate_left 2
    · iterate 6 (refine sq rfl rfl rfl (by simp [go_sem, xs, xe, xa, xi, xo, xb, xq, xv, xc, xk, hl0, hl1, hl2, hl3, hl4, hr0, hr1, hr2, hr3, hr4, hle, hre, c0, c1, hev, Try.f31]; rfl) ?_)
      iterate 5 (refine sq rfl rfl (by simp [go_sem, xs, xe, xa, xi, xo, xb, xq, xv, xc, xk, hl0, hl1, hl2, hl3, hl4, hr0, hr1, hr2, hr3, hr4, hle, hre, c0, c1, hev, Try.f31]) (by simp [go_sem, xs, xe, xa, xi, xo, xb, xq, xv, xc, xk, hl0, hl1, hl2, hl3, hl4, hr0, hr1, hr2, hr3, hr4, hle, hre, c0, c1, hev, Try.f31]; rfl) ?_)
      iterate 2 (refine sq rfl rfl rfl (by simp [go_sem, xs, xe, xa, xi, xo, xb, xq, xv, xc, xk, hl0, hl1, hl2, hl3, hl4, hr0, hr1, hr2, hr3, hr4, hle, hre, c0, c1, hev, Try.f31]; rfl) ?_)
      iterate 5 (refine sq rfl rfl (by simp [go_sem, xs, xe, xa, xi, xo, xb, xq, xv, xc, xk, hl0, hl1, hl2, hl3, hl4, hr0, hr1, hr2, hr3, hr4, hle, hre, c0, c1, hev, Try.f31]) (by simp [go_sem, xs, xe, xa, xi, xo, xb, xq, xv, xc, xk, hl0, hl1, hl2, hl3, hl4, hr0, hr1, hr2, hr3, hr4, hle, hre, c0, c1, hev, Try.f31]; rfl) ?_)
      iterate 2 (refine sq rfl rfl rfl (by simp [go_sem, xs, xe, xa, xi, xo, xb, xq, xv, xc, xk, hl0, hl1, hl2, hl3, hl4, hr0, hr1, hr2, hr3, hr4, hle, hre, c0, c1, hev, Try.f31]; rfl) ?_)
      iterate 5 (refine sk rfl rfl (by simp [go_sem, xs, xe, xa, xi, xo, xb, xq, xv, xc, xk, hl0, hl1, hl2, hl3, hl4, hr0, hr1, hr2, hr3, hr4, hle, hre, c0, c1, hev, Try.f31]) ?_)
      iterate 2 (refine sq rfl rfl rfl (by simp [go_sem, xs, xe, xa, xi, xo, xb, xq, xv, xc, xk, hl0, hl1, hl2, hl3, hl4, hr0, hr1, hr2, hr3, hr4, hle, hre, c0, c1, hev, Try.f31]; rfl) ?_)
      rfl
    refine ACode.seq (ACode.regS noT_ok names_ok mix (t' := ?_) (L' := ?_) [0, 1, 2, 3, 4, 5, 6, 7, 8, 9, 10, 11, 12, 13, 14, 15] (by rfl) ?_ ?_)
    rotate_left 2
    · iterate 2 (refine sq rfl rfl rfl (by simp [go_sem, xs, xe, xa, xi, xo, xb, xq, xv, xc, xk, Try.f31]; rfl) ?_)
      iterate 5 (refine sk rfl rfl (by simp [go_sem, xs, xe, xa, xi, xo, xb, xq, xv, xc, xk, Try.f31]) ?_)
      iterate 2 (refine sq rfl rfl rfl (by simp [go_sem, xs, xe, xa, xi, xo, xb, xq, xv, xc, xk, Try.f31]; rfl) ?_)
      iterate 5 (refine sk rfl rfl (by simp [go_sem, xs, xe, xa, xi, xo, xb, xq, xv, xc, xk, Try.f31]) ?_)
      iterate 2 (refine sq rfl rfl rfl (by simp [go_sem, xs, xe, xa, xi, xo, xb, xq, xv, xc, xk, Try.f31]; rfl) ?_)
      rfl
    refine ACode.ret ⟨.inr rfl, _, [.bool false], [], rfl, by simp [Try.f31, resVals, tget_set], Tidy.zero old, fun κ1 z hz => ?_⟩
    rw [hdec, hno]
    exact VR_plain (κ := κ1) _ _ rfl hz
  by_cases c3 : a.ring = b.ring
  rotate_left 1
  ·
    have hno : decide (a.r = b.r ∧ a.c = b.c ∧ (a.g0 = b.g0 ∧ a.g1 = b.g1 ∧ a.g2 = b.g2 ∧ a.g3 = b.g3 ∧ a.g4 = b.g4) ∧ a.ring = b.ring ∧ a.srcs = b.srcs ∧ a.evs = b.evs) = false := decide_eq_false fun h => c3 h.2.2.2.1
    rw [decide_eq_true c2] at hev
    refine ACode.seq (ACode.regS noT_ok names_ok mix (t' := ?_) (L' := ?_) [0, 1, 2, 3, 4, 5, 6, 7, 8, 9, 10, 11, 12, 13, 14, 15, 16, 17, 18, 19, 20, 21, 22, 23, 24, 25, 26] (by rfl) ?_ ?_)
    rotate_left 2
    · iterate 6 (refine sq rfl rfl rfl (by simp [go_sem, xs, xe, xa, xi, xo, xb, xq, xv, xc, xk, hl0, hl1, hl2, hl3, hl4, hr0, hr1, hr2, hr3, hr4, hle, hre, c0, c1, c3, hev, Try.f31]; rfl) ?_)
      iterate 5 (refine sq rfl rfl (by simp [go_sem, xs, xe, xa, xi, xo, xb, xq, xv, xc, xk, hl0, hl1, hl2, hl3, hl4, hr0, hr1, hr2, hr3, hr4, hle, hre, c0, c1, c3, hev, Try.f31]) (by simp [go_sem, xs, xe, xa, xi, xo, xb, xq, xv, xc, xk, hl0, hl1, hl2, hl3, hl4, hr0, hr1, hr2, hr3, hr4, hle, hre, c0, c1, c3, hev, Try.f31]; rfl) ?_)
      iterate 2 (refine sq rfl rfl rfl (by simp [go_sem, xs, xe, xa, xi, xo, xb, xq, xv, xc, xk, hl0, hl1, hl2, hl3, hl4, hr0, hr1, hr2, hr3, hr4, hle, hre, c0, c1, c3, hev, Try.f31]; rfl) ?_)
      iterate 5 (refine sq rfl rfl (by simp [go_sem, xs, xe, xa, xi, xo, xb, xq, xv, xc, xk, hl0, hl1, hl2, hl3, hl4, hr0, hr1, hr2, hr3, hr4, hle, hre, c0, c1, c3, hev, Try.f31]) (by simp [go_sem, xs, xe, xa, xi, xo, xb, xq, xv, xc, xk, hl0, hl1, hl2, hl3, hl4, hr0, hr1, hr2, hr3, hr4, hle, hre, c0, c1, c3, hev, Try.f31]; rfl) ?_)
      iterate 2 (refine sq rfl rfl rfl (by simp [go_sem, xs, xe, xa, xi, xo, xb, xq, xv, xc, xk, hl0, hl1, hl2, hl3, hl4, hr0, hr1, hr2, hr3, hr4, hle, hre, c0, c1, c3, hev, Try.f31]; rfl) ?_)
      iterate 5 (refine sq rfl rfl (by simp [go_sem, xs, xe, xa, xi, xo, xb, xq, xv, xc, xk, hl0, hl1, hl2, hl3, hl4, hr0, hr1, hr2, hr3, hr4, hle, hre, c0, c1, c3, hev, Try.f31]) (by simp [go_sem, xs, xe, xa, xi, xo, xb, xq, xv, xc, xk, hl0, hl1, hl2, hl3, hl4, hr0, hr1, hr2, hr3, hr4, hle, hre, c0, c1, c3, hev, Try.f31]; rfl) ?_)
      iterate 2 (refine sq rfl rfl rfl (by simp [go_sem, xs, xe, xa, xi, xo, xb, xq, xv, xc, xk, hl0, hl1, hl2, hl3, hl4, hr0, hr1, hr2, hr3, hr4, hle, hre, c0, c1, c3, hev, Try.f31]; rfl) ?_)
      rfl
    refine ACode.seq (ACode.regS noT_ok names_ok mix (t' := ?_) (L' := ?_) [0, 1, 2, 3, 4, 5, 6, 7, 8, 9, 10, 11, 12, 13, 14, 15] (by rfl) ?_ ?_)
    rotate_left 2
    · iterate 2 (refine sq rfl rfl rfl (by simp [go_sem, xs, xe, xa, xi, xo, xb, xq, xv, xc, xk, Try.f31]; rfl) ?_)
      iterate 5 (refine sk rfl rfl (by simp [go_sem, xs, xe, xa, xi, xo, xb, xq, xv, xc, xk, Try.f31]) ?_)
      iterate 2 (refine sq rfl rfl rfl (by simp [go_sem, xs, xe, xa, xi, xo, xb, xq, xv, xc, xk, Try.f31]; rfl) ?_)
      iterate 5 (refine sk rfl rfl (by simp [go_sem, xs, xe, xa, xi, xo, xb, xq, xv, xc, xk, Try.f31]) ?_)
      iterate 2 (refine sq rfl rfl rfl (by simp [go_sem, xs, xe, xa, xi, xo, xb, xq, xv, xc, xk, Try.f31]; rfl) ?_)
      rfl
    refine ACode.ret ⟨.inr rfl, _, [.bool false], [], rfl, by simp [Try.f31, resVals, tget_set], Tidy.zero old, fun κ1 z hz => ?_⟩
    rw [hdec, hno]
    exact VR_plain (κ := κ1) _ _ rfl hz
  rw [decide_eq_true c2] at hev
  refine ACode.seq (ACode.regS noT_ok names_ok mix (t' := ?_) (L' := ?_) [0, 1, 2, 3, 4, 5, 6, 7, 8, 9, 10, 11, 12, 13, 14, 15, 16, 17, 18, 19, 20, 21, 22, 23, 24, 25, 26] (by rfl) ?_ ?_)
  rotate_left 2
  · iterate 6 (refine sq rfl rfl rfl (by simp [go_sem, xs, xe, xa, xi, xo, xb, xq, xv, xc, xk, hl0, hl1, hl2, hl3, hl4, hr0, hr1, hr2, hr3, hr4, hle, hre, c0, c1, c3, hev, Try.f31]; rfl) ?_)
    iterate 5 (refine sq rfl rfl (by simp [go_sem, xs, xe, xa, xi, xo, xb, xq, xv, xc, xk, hl0, hl1, hl2, hl3, hl4, hr0, hr1, hr2, hr3, hr4, hle, hre, c0, c1, c3, hev, Try.f31]) (by simp [go_sem, xs, xe, xa, xi, xo, xb, xq, xv, xc, xk, hl0, hl1, hl2, hl3, hl4, hr0, hr1, hr2, hr3, hr4, hle, hre, c0, c1, c3, hev, Try.f31]; rfl) ?_)
    iterate 2 (refine sq rfl rfl rfl (by simp [go_sem, xs, xe, xa, xi, xo, xb, xq, xv, xc, xk, hl0, hl1, hl2, hl3, hl4, hr0, hr1, hr2, hr3, hr4, hle, hre, c0, c1, c3, hev, Try.f31]; rfl) ?_)
    iterate 5 (refine sq rfl rfl (by simp [go_sem, xs, xe, xa, xi, xo, xb, xq, xv, xc, xk, hl0, hl1, hl2, hl3, hl4, hr0, hr1, hr2, hr3, hr4, hle, hre, c0, c1, c3, hev, Try.f31]) (by simp [go_sem, xs, xe, xa, xi, xo, xb, xq, xv, xc, xk, hl0, hl1, hl2, hl3, hl4, hr0, hr1, hr2, hr3, hr4, hle, hre, c0, c1, c3, hev, Try.f31]; rfl) ?_)
    iterate 2 (refine sq rfl rfl rfl (by simp [go_sem, xs, xe, xa, xi, xo, xb, xq, xv, xc, xk, hl0, hl1, hl2, hl3, hl4, hr0, hr1, hr2, hr3, hr4, hle, hre, c0, c1, c3, hev, Try.f31]; rfl) ?_)
    iterate 5 (refine sq rfl rfl (by simp [go_sem, xs, xe, xa, xi, xo, xb, xq, xv, xc, xk, hl0, hl1, hl2, hl3, hl4, hr0, hr1, hr2, hr3, hr4, hle, hre, c0, c1, c3, hev, Try.f31]) (by simp [go_sem, xs, xe, xa, xi, xo, xb, xq, xv, xc, xk, hl0, hl1, hl2, hl3, hl4, hr0, hr1, hr2, hr3, hr4, hle, hre, c0, c1, c3, hev, Try.f31]; rfl) ?_)
    iterate 2 (refine sq rfl rfl rfl (by simp [go_sem, xs, xe, xa, xi, xo, xb, xq, xv, xc, xk, hl0, hl1, hl2, hl3, hl4, hr0, hr1, hr2, hr3, hr4, hle, hre, c0, c1, c3, hev, Try.f31]; rfl) ?_)
    rfl
  have k1 := eq48_ok ha2.hs hb2.hs (by have := ha2.ls; omega)
  have k2 := eq49_ok ha2.he hb2.he (by have := ha2.le; omega)
  have hd2 : decide (a.r = b.r ∧ a.c = b.c ∧ (a.g0 = b.g0 ∧ a.g1 = b.g1 ∧ a.g2 = b.g2 ∧ a.g3 = b.g3 ∧ a.g4 = b.g4) ∧ a.ring = b.ring ∧ a.srcs = b.srcs ∧ a.evs = b.evs) = (decide (a.srcs = b.srcs) && decide (a.evs = b.evs)) := by
    rw [Bool.eq_iff_iff]; simp only [decide_eq_true_eq, Bool.and_eq_true]; exact ⟨fun h => h.2.2.2.2, fun h => ⟨c0, c1, c2, c3, h⟩⟩
  rw [hd2] at hdec
  cases hs : decide (a.srcs = b.srcs) with
  | false =>
    rw [hs] at k1 hdec
    refine ACode.seq (ACode.regS (oneT_okP k1) names_ok mix (t' := ?_) (L' := ?_) [0, 1, 2, 3, 4, 5, 6, 7, 8, 9, 10, 11, 12, 13, 14, 15] (by rfl) ?_ ?_)
    rotate_left 2
    · iterate 2 (refine sq rfl rfl rfl (by simp [go_sem, xs, xe, xa, xi, xo, xb, xq, xv, xc, xk, hl0, hl1, hl2, hl3, hl4, hr0, hr1, hr2, hr3, hr4, hle, hre, oneT_sameP, Try.f31]; rfl) ?_)
      iterate 5 (refine sq rfl rfl (by simp [go_sem, xs, xe, xa, xi, xo, xb, xq, xv, xc, xk, hl0, hl1, hl2, hl3, hl4, hr0, hr1, hr2, hr3, hr4, hle, hre, oneT_sameP, Try.f31]) (by simp [go_sem, xs, xe, xa, xi, xo, xb, xq, xv, xc, xk, hl0, hl1, hl2, hl3, hl4, hr0, hr1, hr2, hr3, hr4, hle, hre, oneT_sameP, Try.f31]; rfl) ?_)
      iterate 2 (refine sq rfl rfl rfl (by simp [go_sem, xs, xe, xa, xi, xo, xb, xq, xv, xc, xk, hl0, hl1, hl2, hl3, hl4, hr0, hr1, hr2, hr3, hr4, hle, hre, oneT_sameP, Try.f31]; rfl) ?_)
      iterate 5 (refine sk rfl rfl (by simp [go_sem, xs, xe, xa, xi, xo, xb, xq, xv, xc, xk, hl0, hl1, hl2, hl3, hl4, hr0, hr1, hr2, hr3, hr4, hle, hre, oneT_sameP, Try.f31]) ?_)
      iterate 2 (refine sq rfl rfl rfl (by simp [go_sem, xs, xe, xa, xi, xo, xb, xq, xv, xc, xk, hl0, hl1, hl2, hl3, hl4, hr0, hr1, hr2, hr3, hr4, hle, hre, oneT_sameP, Try.f31]; rfl) ?_)
      rfl
    refine ACode.ret ⟨.inr rfl, _, [.bool false], [], rfl, by simp [Try.f31, resVals, tget_set], Tidy.zero old, fun κ1 z hz => ?_⟩
    rw [hdec, Bool.false_and]
    exact VR_plain (κ := κ1) _ _ rfl hz
  | true =>
    rw [hs] at k1 hdec
    cases he : decide (a.evs = b.evs) with
    | false =>
      rw [he] at k2 hdec
      refine ACode.seq (ACode.regS ((oneT_okP k1).or (oneT_okP k2)) names_ok mix (t' := ?_) (L' := ?_) [0, 1, 2, 3, 4, 5, 6, 7, 8, 9, 10, 11, 12, 13, 14, 15] (by rfl) ?_ ?_)
      rotate_left 2
      · iterate 2 (refine sq rfl rfl rfl (by simp [go_sem, xs, xe, xa, xi, xo, xb, xq, xv, xc, xk, hl0, hl1, hl2, hl3, hl4, hr0, hr1, hr2, hr3, hr4, hle, hre, orT, oneT_sameP, oneT_neP, Try.f31]; rfl) ?_)
        iterate 5 (refine sq rfl rfl (by simp [go_sem, xs, xe, xa, xi, xo, xb, xq, xv, xc, xk, hl0, hl1, hl2, hl3, hl4, hr0, hr1, hr2, hr3, hr4, hle, hre, orT, oneT_sameP, oneT_neP, Try.f31]) (by simp [go_sem, xs, xe, xa, xi, xo, xb, xq, xv, xc, xk, hl0, hl1, hl2, hl3, hl4, hr0, hr1, hr2, hr3, hr4, hle, hre, orT, oneT_sameP, oneT_neP, Try.f31]; rfl) ?_)
        iterate 2 (refine sq rfl rfl rfl (by simp [go_sem, xs, xe, xa, xi, xo, xb, xq, xv, xc, xk, hl0, hl1, hl2, hl3, hl4, hr0, hr1, hr2, hr3, hr4, hle, hre, orT, oneT_sameP, oneT_neP, Try.f31]; rfl) ?_)
        iterate 5 (refine sq rfl rfl (by simp [go_sem, xs, xe, xa, xi, xo, xb, xq, xv, xc, xk, hl0, hl1, hl2, hl3, hl4, hr0, hr1, hr2, hr3, hr4, hle, hre, orT, oneT_sameP, oneT_neP, Try.f31]) (by simp [go_sem, xs, xe, xa, xi, xo, xb, xq, xv, xc, xk, hl0, hl1, hl2, hl3, hl4, hr0, hr1, hr2, hr3, hr4, hle, hre, orT, oneT_sameP, oneT_neP, Try.f31]; rfl) ?_)
        iterate 2 (refine sq rfl rfl rfl (by simp [go_sem, xs, xe, xa, xi, xo, xb, xq, xv, xc, xk, hl0, hl1, hl2, hl3, hl4, hr0, hr1, hr2, hr3, hr4, hle, hre, orT, oneT_sameP, oneT_neP, Try.f31]; rfl) ?_)
        rfl
      refine ACode.ret ⟨.inr rfl, _, [.bool false], [], rfl, by simp [Try.f31, resVals, tget_set], Tidy.zero old, fun κ1 z hz => ?_⟩
      rw [hdec, Bool.true_and]
      exact VR_plain (κ := κ1) _ _ rfl hz
    | true =>
      rw [he] at k2 hdec
      refine ACode.seq (ACode.regS ((oneT_okP k1).or (oneT_okP k2)) names_ok mix (t' := ?_) (L' := ?_) [0, 1, 2, 3, 4, 5, 6, 7, 8, 9, 10, 11, 12, 13, 14, 15] (by rfl) ?_ ?_)
      rotate_left 2
      · iterate 2 (refine sq rfl rfl rfl (by simp [go_sem, xs, xe, xa, xi, xo, xb, xq, xv, xc, xk, hl0, hl1, hl2, hl3, hl4, hr0, hr1, hr2, hr3, hr4, hle, hre, orT, oneT_sameP, oneT_neP, Try.f31]; rfl) ?_)
        iterate 5 (refine sq rfl rfl (by simp [go_sem, xs, xe, xa, xi, xo, xb, xq, xv, xc, xk, hl0, hl1, hl2, hl3, hl4, hr0, hr1, hr2, hr3, hr4, hle, hre, orT, oneT_sameP, oneT_neP, Try.f31]) (by simp [go_sem, xs, xe, xa, xi, xo, xb, xq, xv, xc, xk, hl0, hl1, hl2, hl3, hl4, hr0, hr1, hr2, hr3, hr4, hle, hre, orT, oneT_sameP, oneT_neP, Try.f31]; rfl) ?_)
        iterate 2 (refine sq rfl rfl rfl (by simp [go_sem, xs, xe, xa, xi, xo, xb, xq, xv, xc, xk, hl0, hl1, hl2, hl3, hl4, hr0, hr1, hr2, hr3, hr4, hle, hre, orT, oneT_sameP, oneT_neP, Try.f31]; rfl) ?_)
        iterate 5 (refine sq rfl rfl (by simp [go_sem, xs, xe, xa, xi, xo, xb, xq, xv, xc, xk, hl0, hl1, hl2, hl3, hl4, hr0, hr1, hr2, hr3, hr4, hle, hre, orT, oneT_sameP, oneT_neP, Try.f31]) (by simp [go_sem, xs, xe, xa, xi, xo, xb, xq, xv, xc, xk, hl0, hl1, hl2, hl3, hl4, hr0, hr1, hr2, hr3, hr4, hle, hre, orT, oneT_sameP, oneT_neP, Try.f31]; rfl) ?_)
        iterate 2 (refine sq rfl rfl rfl (by simp [go_sem, xs, xe, xa, xi, xo, xb, xq, xv, xc, xk, hl0, hl1, hl2, hl3, hl4, hr0, hr1, hr2, hr3, hr4, hle, hre, orT, oneT_sameP, oneT_neP, Try.f31]; rfl) ?_)
        rfl
      refine ACode.ret ⟨.inr rfl, _, [.bool true], [], rfl, by simp [Try.f31, resVals, tget_set], Tidy.zero old, fun κ1 z hz => ?_⟩
      rw [hdec, Bool.true_and]
      exact VR_plain (κ := κ1) _ _ rfl hz
end Go.Proofs.Ytpfmoolpeecobaa
