/- Rows of sources, of events, that are alike. Scripts that are alike. -/
import Derived.Test.YtpfmoolpeecobaaV5
namespace Go.Proofs.Ytpfmoolpeecobaa
open Go Go.Proofs Go.Proofs.Ytpfmoolpeecobaa.Ev
set_option linter.unusedVariables false
set_option linter.unusedSimpArgs false
set_option maxRecDepth 100000
set_option maxHeartbeats 4000000

theorem ph81 : (!Try.prog.stoodInHeld 81) = true := by decide +kernel
theorem ph83 : (!Try.prog.stoodInHeld 83) = true := by decide +kernel
theorem ph86 : (!Try.prog.stoodInHeld 86) = true := by decide +kernel
theorem pg83 : (!Try.prog.eqGuardType Try.prog.depth 83) = true := by decide +kernel
theorem pg86 : (!Try.prog.eqGuardType Try.prog.depth 86) = true := by decide +kernel
theorem pg52 : (!Try.prog.eqGuardType Try.prog.depth 52) = true := by decide +kernel
theorem en3 (f : Nat) (x : Int) : equalN Try.prog (f + 1) 3 (.int .i64 x) (.int .i64 x) = some true := by
  simp only [equalN, pu3]; simp [guardO]
theorem en51 (f : Nat) (x : Int) : equalN Try.prog (f + 1) 51 (.int .u8 x) (.int .u8 x) = some true := by
  simp only [equalN, Try.underlying51]; simp [guardO]
theorem en4 (f : Nat) (x : Bool) : equalN Try.prog (f + 1) 4 (.bool x) (.bool x) = some true := by
  simp only [equalN, pu4]; simp
theorem en9 (f : Nat) (x : List Nat) : equalN Try.prog (f + 1) 9 (.str x) (.str x) = some true := by
  simp only [equalN, Try.underlying9]; rw [Ev.strEq_iff.2 rfl]
theorem en81 (f : Nat) (a b c d : Int) : equalN Try.prog (f + 2) 81 (.agg [.int .i64 a, .int .i64 b, .int .i64 c, .int .i64 d]) (.agg [.int .i64 a, .int .i64 b, .int .i64 c, .int .i64 d]) = some true := by
  rw [show f + 2 = (f + 1) + 1 from rfl, equalN_struct Try.underlying81]
  simp [ph81, guardO, allR, eqPart, Ev.part, pa3, ps3, en3]
theorem ev83 (cst : Bool) (x : Int × Int × Int × Int × Int) : equalV Try.prog 83 cst (.agg (srcF x)) (.agg (srcF x)) = some true := by
  unfold equalV
  simp only [Try.underlying83, pg83, Ev.guardO_true]
  rw [show (20 : Nat) = 19 + 1 from rfl, equalN_struct Try.underlying83]
  simp [ph83, guardO, allR, eqPart, Ev.part, pa3, pa51, pa4, pa81, ps81, takeN, en51, en4, en81, srcF]
theorem ev86 (cst : Bool) (x : Evt) : equalV Try.prog 86 cst (.agg (evF x)) (.agg (evF x)) = some true := by
  unfold equalV
  simp only [Try.underlying86, pg86, Ev.guardO_true]
  rw [show (20 : Nat) = 19 + 1 from rfl, equalN_struct Try.underlying86]
  simp [ph86, guardO, allR, eqPart, Ev.part, pa3, pa51, pa9, pa81, ps81, takeN, en3, en51, en9, en81, evF]
theorem ev52 (cst : Bool) (a b c d e : Int) : equalV Try.prog 52 cst (.agg [.int .u8 a, .int .u8 b, .int .u8 c, .int .u8 d, .int .u8 e]) (.agg [.int .u8 a, .int .u8 b, .int .u8 c, .int .u8 d, .int .u8 e]) = some true := by
  unfold equalV
  simp only [Try.underlying52, pg52, Ev.guardO_true]
  rw [show (20 : Nat) = 19 + 1 from rfl]
  unfold equalN
  simp [Try.underlying52, allR, eqPart, Ev.part, ps51, pa51, en51, List.range_succ]

/-- a row of things of many cells, wherever it comes from -/
def SlP {α : Type} (sz : Nat) (eT : TypeId) (f : α → List V) (L : Heap) (v : V) (l : List α) : Prop :=
  (v = .nils ∧ l = []) ∨ ∃ n o cap q, v = .slice n o l.length cap q ∧ n < L.next ∧ (q = false → l.length ≤ cap) ∧ ∀ (i : Nat) (x : α), l[i]? = some x → Heap.load Try.prog L eT n (o + i * sz) = some (.agg (f x))
section
variable {α : Type} {sz : Nat} {eT sT : TypeId} {f : α → List V} {L L' : Heap} {v : V} {l : List α}
theorem SlP.keep (h : SlP sz eT f L v l) (hn : L.next ≤ L'.next) (hk : ∀ n, n < L.next → L'.t.get n = L.t.get n) : SlP sz eT f L' v l := by
  rcases h with h | ⟨n, o, cap, q, rfl, hlt, hc, hx⟩
  · exact .inl h
  · exact .inr ⟨n, o, cap, q, rfl, Nat.lt_of_lt_of_le hlt hn, hc, fun i x hi => by rw [load_same (hk n hlt)]; exact hx i x hi⟩
theorem SlP.len (hts : tySlice Try.prog sT = some eT) (h : SlP sz eT f L v l) (L' : Heap) : Ev.builtinQ Try.prog .len #[sT] [v] L' = some (.int .i64 (l.length : Int)) := by
  rcases h with ⟨rfl, rfl⟩ | ⟨n, o, cap, q, rfl, hn, hc, hx⟩ <;> simp [Ev.builtinQ, hts]
theorem SlP.at' (hts : tySlice Try.prog sT = some eT) (hs : sizeT Try.prog eT = some sz) (h : SlP sz eT f L v l) {i : Nat} {x : α} (hi : l[i]? = some x) :
    ∃ n off, n < L.next ∧ Ev.indexAddr Try.prog sT v (.int .i64 (i : Int)) = some (.ptr n off) ∧ Heap.load Try.prog L eT n off = some (.agg (f x)) := by
  rcases h with ⟨rfl, rfl⟩ | ⟨n, o, cap, q, rfl, hn, hc, hx⟩
  · simp at hi
  · refine ⟨n, o + i * sz, hn, ?_, hx i x hi⟩
    have := (List.getElem?_eq_some_iff.1 hi).1
    simp [Ev.indexAddr, hts, hs, idx_nat, blt_dec, this, guardO]
theorem SlP.take (hts : tySlice Try.prog sT = some eT) (hs : sizeT Try.prog eT = some sz) (h : SlP sz eT f L v l) {j : Nat} (hj : j ≤ l.length) :
    ∃ v', Ev.sliceOp Try.prog sT v none (some (.int .i64 (j : Int))) none = some v' ∧ SlP sz eT f L v' (l.take j) := by
  have hb : ∀ h, Ev.bound none 0 h = some 0 := fun _ => rfl
  rcases h with ⟨rfl, rfl⟩ | ⟨n, o, cap, q, rfl, hn, hc, hx⟩
  · simp at hj
    subst hj
    exact ⟨.nils, by simp only [Ev.sliceOp, hts, hs, Option.bind_some]; rfl, .inl ⟨rfl, by simp⟩⟩
  · have hl : (l.take j).length = j := by rw [List.length_take]; omega
    have hg : ∀ (i : Nat) (x : α), (l.take j)[i]? = some x → Heap.load Try.prog L eT n (o + i * sz) = some (.agg (f x)) := by
      intro i x hi
      have hlt := (List.getElem?_eq_some_iff.1 hi).1
      rw [hl] at hlt
      rw [List.getElem?_take_of_lt hlt] at hi
      exact hx i x hi
    cases q with
    | true =>
      have e2 : Nat.blt j (l.length + 1) = true := by rw [blt_dec]; simp; omega
      refine ⟨.slice n o j cap true, by simp [Ev.sliceOp, hts, hs, guardO, Ev.bound, idx_nat, e2], .inr ⟨n, o, cap, true, by rw [hl], hn, fun h => (by cases h), hg⟩⟩
    | false =>
      have hc := hc rfl
      have e2 : Nat.blt j (cap + 1) = true := by rw [blt_dec]; simp; omega
      refine ⟨.slice n o j cap false, by simp [Ev.sliceOp, hts, hs, guardO, Ev.bound, idx_nat, e2], .inr ⟨n, o, cap, false, by rw [hl], hn, fun _ => by rw [hl]; omega, hg⟩⟩
end
theorem rows_slP {α : Type} {sz : Nat} {eT : TypeId} {f : α → List V} {z : V} {L : Heap} (hs : sizeT Try.prog eT = some sz) (ha : isAggT Try.prog eT = some true) (hsz : 0 < sz) (hf : ∀ x, (f x).length = sz) (l : List α) : SlP sz eT f (rowsHP sz f L l) (rowsVP L l) l := by
  match l with
  | [] => exact .inl ⟨rfl, rfl⟩
  | x :: r =>
    refine .inr ⟨L.next, 0, 0, true, rfl, Nat.lt_succ_self _, fun h => (by cases h), ?_⟩
    intro i y hi
    have hg : (rowsHP sz f L (x :: r)).t.get L.next = some (.cells (rowFrom ((x :: r).map f) 0) (x :: r).length sz true false) := T.get_set_same _ _ _
    have ht : takeN sz ((f y).drop 0) = some (f y) := by
      rw [List.drop_zero]; conv => lhs; rw [← hf y]
      exact takeN_all _
    have hc : (rowFrom ((x :: r).map f) 0).get i = some (f y) := by rw [rowFrom_getP]; simp only [Nat.zero_le, if_true, Nat.sub_zero, List.getElem?_map, hi, Option.map_some]
    simp only [Heap.load, Heap.elem, hg, Nat.zero_add, Nat.mul_div_cancel _ hsz, Nat.mul_mod_left, Option.bind_some, hc, Option.map_some, Ev.part, ha, hs, ht]
theorem equal48_ok {L : Heap} {va vb : V} {l : List (Int × Int × Int × Int × Int)} (ha : SlP 6 83 srcF L va l) (hb : SlP 6 83 srcF L vb l) (hl : l.length ≤ 1000000) : ACall Try.prog 48 [va, vb] L (.bool true) L := by
  have la := ha.len pt50
  have lb := hb.len pt50
  refine ACall.of_body_same Try.func48 rfl ?_
  refine ACode.seq (ACode.regS noT_ok names_ok mix (t' := ?_) (L' := ?_) [0] (by rfl) ?_ ?_)
  rotate_left 2
  · refine sq rfl rfl rfl (by simp [go_sem, X, Try.f48]; rfl) ?_
    rfl
  refine ACode.seq ?_
  refine ACode.seq (ACode.regS noT_ok names_ok mix (t' := ?_) (L' := ?_) [0, 1, 2, 3, 4] (by rfl) ?_ ?_)
  rotate_left 2
  · iterate 5 (refine sq rfl rfl rfl (by simp [go_sem, xl, xs, xe, xa, xi, xo, xb, xv, xc, xk, la, lb, Try.f48]; rfl) ?_)
    rfl
  refine ACode.condF (by simp [tget_set, opd]) (ACode.skip ?_)
  refine ACode.seq ?_
  refine ACode.seq (ACode.regS noT_ok names_ok mix (t' := ?_) (L' := ?_) [0, 1, 2] (by rfl) ?_ ?_)
  rotate_left 2
  · iterate 3 (refine sq rfl rfl rfl (by simp [go_sem, xl, xs, xe, xa, xi, xo, xb, xv, xc, xk, la, Try.f48]; rfl) ?_)
    rfl
  refine ACode.block (ACode.loop (fun t d A N => d = [] ∧ A = L ∧ ∃ i, i ≤ l.length ∧ N = l.length - i ∧ tget t 0 = va ∧ tget t 1 = vb ∧ tget t 12 = .int .i64 (l.length : Int) ∧ tget t 13 = .int .i64 (i : Int)) (N := l.length)
    ⟨rfl, rfl, 0, Nat.zero_le _, by omega, by simp [tget_set, argsT], by simp [tget_set, argsT], by simp [tget_set], by simp [tget_set]⟩ ?_)
  rintro t d A N ⟨rfl, rfl, i, hi, rfl, t0, t1, t12, t13⟩
  refine ACode.seq (ACode.regS noT_ok names_ok mix (t' := ?_) (L' := ?_) [0] (by rfl) ?_ ?_)
  rotate_left 2
  · refine sq rfl rfl rfl (by simp [go_sem, X, t12, t13, Try.f48]; rfl) ?_
    rfl
  refine ACode.seq (ACode.cond (p := (i : Int) < (l.length : Int)) (by simp [tget_set, opd]) (fun hil => ACode.skip ?_) (fun hge => ACode.exit ?_))
  rotate_left 1
  ·
    show ACode _ _ _ _ _ _ _
    refine ACode.seq (ACode.regS noT_ok names_ok mix (t' := ?_) (L' := ?_) [0] (by rfl) ?_ ?_)
    rotate_left 2
    · refine sq rfl rfl rfl (by simp [go_sem, X, Try.f48]; rfl) ?_
      rfl
    exact ACode.ret ⟨.inr rfl, [.bool true], rfl, by simp [Try.f48, resVals, tget_set], rfl⟩
  have hil' : i < l.length := by omega
  obtain ⟨n1, o1, _, hx1, hy1⟩ := ha.at' pt50 ps83 (i := i) (x := l[i]) (by simp [hil'])
  obtain ⟨n2, o2, _, hx2, hy2⟩ := hb.at' pt50 ps83 (i := i) (x := l[i]) (by simp [hil'])
  have hw : IntKind.i64.wrap ((i : Int) + 1) = (i : Int) + 1 := Go.IntWalk.i64_in _ (by omega)
  have hev := ev83 false (x := l[i])
  generalize srcF l[i] = cs at *
  refine ACode.seq (ACode.block ?_)
  refine ACode.seq (ACode.regS noT_ok names_ok mix (t' := ?_) (L' := ?_) [0, 1] (by rfl) ?_ ?_)
  rotate_left 2
  · iterate 2 (refine sq rfl rfl rfl (by simp [go_sem, X, t13, Try.f48]; rfl) ?_)
    rfl
  refine ACode.seq (ACode.regD noT_ok names_ok mix (t' := ?_) (L' := ?_) [0,0,3,7,0,0,48,112,255] [0,1,2,3,4,5,6,7,8] (by decide +kernel) (by decide +kernel) (by decide +kernel) ?_ ?_)
  rotate_left 2
  · iterate 3 (refine dq rfl rfl rfl rfl (by simp [go_sem, xs, xi, xo, xb, xq, xv, xc, xk, t0, t1, hx1, hx2, hy1, hy2, hev, Try.f48]; rfl) ?_)
    refine dr rfl rfl rfl rfl (by simp [go_sem, xs, xi, xo, xb, xq, xv, xc, xk, t0, t1, hx1, hx2, hy1, hy2, hev, Try.f48]; rfl) ?_
    iterate 3 (refine dq rfl rfl rfl rfl (by simp [go_sem, xs, xi, xo, xb, xq, xv, xc, xk, t0, t1, hx1, hx2, hy1, hy2, hev, Try.f48]; rfl) ?_)
    refine dr rfl rfl rfl rfl (by simp [go_sem, xs, xi, xo, xb, xq, xv, xc, xk, t0, t1, hx1, hx2, hy1, hy2, hev, Try.f48]; rfl) ?_
    refine dq rfl rfl rfl rfl (by simp [go_sem, xs, xi, xo, xb, xq, xv, xc, xk, t0, t1, hx1, hx2, hy1, hy2, hev, Try.f48]; rfl) ?_
    rfl
  refine ACode.condF (by simp [tget_set, opd]) (ACode.skip ?_)
  show ACode _ _ _ _ _ _ _
  refine ACode.regS noT_ok names_ok mix (t' := ?_) (L' := ?_) [0, 1] (by rfl) ?_ ?_
  rotate_left 2
  · iterate 2 (refine sq rfl rfl rfl (by simp [go_sem, X, t13, hw, Try.f48]; rfl) ?_)
    rfl
  exact ⟨l.length - (i + 1), by omega, rfl, rfl, i + 1, by omega, rfl, by simp [tget_set, t0], by simp [tget_set, t1], by simp [tget_set, t12], by simp [tget_set]⟩
theorem equal49_ok {L : Heap} {va vb : V} {l : List Evt} (ha : SlP 9 86 evF L va l) (hb : SlP 9 86 evF L vb l) (hl : l.length ≤ 1000000) : ACall Try.prog 49 [va, vb] L (.bool true) L := by
  have la := ha.len pt55
  have lb := hb.len pt55
  refine ACall.of_body_same Try.func49 rfl ?_
  refine ACode.seq (ACode.regS noT_ok names_ok mix (t' := ?_) (L' := ?_) [0] (by rfl) ?_ ?_)
  rotate_left 2
  · refine sq rfl rfl rfl (by simp [go_sem, X, Try.f49]; rfl) ?_
    rfl
  refine ACode.seq ?_
  refine ACode.seq (ACode.regS noT_ok names_ok mix (t' := ?_) (L' := ?_) [0, 1, 2, 3, 4] (by rfl) ?_ ?_)
  rotate_left 2
  · iterate 5 (refine sq rfl rfl rfl (by simp [go_sem, xl, xs, xe, xa, xi, xo, xb, xv, xc, xk, la, lb, Try.f49]; rfl) ?_)
    rfl
  refine ACode.condF (by simp [tget_set, opd]) (ACode.skip ?_)
  refine ACode.seq ?_
  refine ACode.seq (ACode.regS noT_ok names_ok mix (t' := ?_) (L' := ?_) [0, 1, 2] (by rfl) ?_ ?_)
  rotate_left 2
  · iterate 3 (refine sq rfl rfl rfl (by simp [go_sem, xl, xs, xe, xa, xi, xo, xb, xv, xc, xk, la, Try.f49]; rfl) ?_)
    rfl
  refine ACode.block (ACode.loop (fun t d A N => d = [] ∧ A = L ∧ ∃ i, i ≤ l.length ∧ N = l.length - i ∧ tget t 0 = va ∧ tget t 1 = vb ∧ tget t 12 = .int .i64 (l.length : Int) ∧ tget t 13 = .int .i64 (i : Int)) (N := l.length)
    ⟨rfl, rfl, 0, Nat.zero_le _, by omega, by simp [tget_set, argsT], by simp [tget_set, argsT], by simp [tget_set], by simp [tget_set]⟩ ?_)
  rintro t d A N ⟨rfl, rfl, i, hi, rfl, t0, t1, t12, t13⟩
  refine ACode.seq (ACode.regS noT_ok names_ok mix (t' := ?_) (L' := ?_) [0] (by rfl) ?_ ?_)
  rotate_left 2
  · refine sq rfl rfl rfl (by simp [go_sem, X, t12, t13, Try.f49]; rfl) ?_
    rfl
  refine ACode.seq (ACode.cond (p := (i : Int) < (l.length : Int)) (by simp [tget_set, opd]) (fun hil => ACode.skip ?_) (fun hge => ACode.exit ?_))
  rotate_left 1
  ·
    show ACode _ _ _ _ _ _ _
    refine ACode.seq (ACode.regS noT_ok names_ok mix (t' := ?_) (L' := ?_) [0] (by rfl) ?_ ?_)
    rotate_left 2
    · refine sq rfl rfl rfl (by simp [go_sem, X, Try.f49]; rfl) ?_
      rfl
    exact ACode.ret ⟨.inr rfl, [.bool true], rfl, by simp [Try.f49, resVals, tget_set], rfl⟩
  have hil' : i < l.length := by omega
  obtain ⟨n1, o1, _, hx1, hy1⟩ := ha.at' pt55 ps86 (i := i) (x := l[i]) (by simp [hil'])
  obtain ⟨n2, o2, _, hx2, hy2⟩ := hb.at' pt55 ps86 (i := i) (x := l[i]) (by simp [hil'])
  have hw : IntKind.i64.wrap ((i : Int) + 1) = (i : Int) + 1 := Go.IntWalk.i64_in _ (by omega)
  have hev := ev86 false (x := l[i])
  generalize evF l[i] = cs at *
  refine ACode.seq (ACode.block ?_)
  refine ACode.seq (ACode.regS noT_ok names_ok mix (t' := ?_) (L' := ?_) [0, 1] (by rfl) ?_ ?_)
  rotate_left 2
  · iterate 2 (refine sq rfl rfl rfl (by simp [go_sem, X, t13, Try.f49]; rfl) ?_)
    rfl
  refine ACode.seq (ACode.regD noT_ok names_ok mix (t' := ?_) (L' := ?_) [0,0,3,7,0,0,48,112,255] [0,1,2,3,4,5,6,7,8] (by decide +kernel) (by decide +kernel) (by decide +kernel) ?_ ?_)
  rotate_left 2
  · iterate 3 (refine dq rfl rfl rfl rfl (by simp [go_sem, xs, xi, xo, xb, xq, xv, xc, xk, t0, t1, hx1, hx2, hy1, hy2, hev, Try.f49]; rfl) ?_)
    refine dr rfl rfl rfl rfl (by simp [go_sem, xs, xi, xo, xb, xq, xv, xc, xk, t0, t1, hx1, hx2, hy1, hy2, hev, Try.f49]; rfl) ?_
    iterate 3 (refine dq rfl rfl rfl rfl (by simp [go_sem, xs, xi, xo, xb, xq, xv, xc, xk, t0, t1, hx1, hx2, hy1, hy2, hev, Try.f49]; rfl) ?_)
    refine dr rfl rfl rfl rfl (by simp [go_sem, xs, xi, xo, xb, xq, xv, xc, xk, t0, t1, hx1, hx2, hy1, hy2, hev, Try.f49]; rfl) ?_
    refine dq rfl rfl rfl rfl (by simp [go_sem, xs, xi, xo, xb, xq, xv, xc, xk, t0, t1, hx1, hx2, hy1, hy2, hev, Try.f49]; rfl) ?_
    rfl
  refine ACode.condF (by simp [tget_set, opd]) (ACode.skip ?_)
  show ACode _ _ _ _ _ _ _
  refine ACode.regS noT_ok names_ok mix (t' := ?_) (L' := ?_) [0, 1] (by rfl) ?_ ?_
  rotate_left 2
  · iterate 2 (refine sq rfl rfl rfl (by simp [go_sem, X, t13, hw, Try.f49]; rfl) ?_)
    rfl
  exact ⟨l.length - (i + 1), by omega, rfl, rfl, i + 1, by omega, rfl, by simp [tget_set, t0], by simp [tget_set, t1], by simp [tget_set, t12], by simp [tget_set]⟩
end Go.Proofs.Ytpfmoolpeecobaa
namespace Go.Proofs.Ytpfmoolpeecobaa
open Go Go.Proofs Go.Proofs.Ytpfmoolpeecobaa.Ev
set_option linter.unusedVariables false
set_option linter.unusedSimpArgs false
set_option maxRecDepth 100000
set_option maxHeartbeats 4000000

/-- the cells of a script -/
def scL (r c : Int) (sv : V) (g0 g1 g2 g3 g4 ring : Int) (ev : V) : List V := [.int .i64 r, .int .i64 c, sv, .int .u8 g0, .int .u8 g1, .int .u8 g2, .int .u8 g3, .int .u8 g4, .int .i64 ring, ev]
theorem sameS_ok {L : Heap} {r c g0 g1 g2 g3 g4 ring : Int} {s1 s2 e1 e2 : V} {ls : List (Int × Int × Int × Int × Int)} {le : List Evt} (hs1 : SlP 6 83 srcF L s1 ls) (hs2 : SlP 6 83 srcF L s2 ls) (he1 : SlP 9 86 evF L e1 le) (he2 : SlP 9 86 evF L e2 le) (hls : ls.length ≤ 1000) (hle : le.length ≤ 1000) :
    ACall Try.prog 31 [.agg (scL r c s1 g0 g1 g2 g3 g4 ring e1), .agg (scL r c s2 g0 g1 g2 g3 g4 ring e2)] L (.bool true) L := by
  have hsc : ∀ {v : V} {α : Type} {sz : Nat} {eT : TypeId} {f : α → List V} {l : List α}, SlP sz eT f L v l → v.scalar = true := by
    rintro v α sz eT f l (⟨rfl, _⟩ | ⟨n, o, cap, q, rfl, _⟩) <;> rfl
  have q1 := hsc hs1
  have q2 := hsc hs2
  refine ACall.of_body Try.func31 rfl ?_
  unfold scL
  refine ACode.seq (ACode.regS noT_ok names_ok mix (t' := ?_) (L' := ?_) [0, 1, 2] (by rfl) ?_ ?_)
  rotate_left 2
  · iterate 3 (refine sq rfl rfl rfl (by simp [go_sem, X, Try.f31]; rfl) ?_)
    rfl
  refine ACode.seq (ACode.regD noT_ok names_ok mix (t' := ?_) (L' := ?_) [0,1,0,4,0,0,51,127] [0,1,2,3,4,5,6,7] (by decide +kernel) (by decide +kernel) (by decide +kernel) ?_ ?_)
  rotate_left 2
  · refine dq rfl rfl rfl rfl (by simp [go_sem, xl, xs, xe, xa, xi, xo, xb, xq, xv, xc, q1, q2, scal1, scal2, scal3, Try.f31]; rfl) ?_
    refine dr rfl rfl rfl rfl (by simp [go_sem, xl, xs, xe, xa, xi, xo, xb, xq, xv, xc, q1, q2, scal1, scal2, scal3, Try.f31]; rfl) ?_
    refine dq rfl rfl rfl rfl (by simp [go_sem, xl, xs, xe, xa, xi, xo, xb, xq, xv, xc, q1, q2, scal1, scal2, scal3, Try.f31]; rfl) ?_
    refine dr rfl rfl rfl rfl (by simp [go_sem, xl, xs, xe, xa, xi, xo, xb, xq, xv, xc, q1, q2, scal1, scal2, scal3, Try.f31]; rfl) ?_
    iterate 2 (refine dm rfl rfl rfl rfl (by simp [go_sem, xl, xs, xe, xa, xi, xo, xb, xq, xv, xc, q1, q2, scal1, scal2, scal3, Try.f31]; rfl) ?_)
    iterate 2 (refine dl rfl rfl rfl rfl (by simp [go_sem, xl, xs, xe, xa, xi, xo, xb, xq, xv, xc, q1, q2, scal1, scal2, scal3, Try.f31]; rfl) (by rfl) (by simp [go_sem, xl, xs, xe, xa, xi, xo, xb, xq, xv, xc, q1, q2, scal1, scal2, scal3, Try.f31]) ?_)
    rfl
  change ACode _ _ _ _ _ ⟨((((((L.t.set L.next (scB (scL r c s1 g0 g1 g2 g3 g4 ring e1))).set (L.next + 1) (scB (scL r c s2 g0 g1 g2 g3 g4 ring e2))).set (L.next + 2) (evB [.int .i64 0, .int .i64 0, .nils, .int .u8 0, .int .u8 0, .int .u8 0, .int .u8 0, .int .u8 0, .int .i64 0])).set (L.next + 3) (evB [.int .i64 0, .int .i64 0, .nils, .int .u8 0, .int .u8 0, .int .u8 0, .int .u8 0, .int .u8 0, .int .i64 0])).set (L.next + 2) (evB [.int .i64 r, .int .i64 c, s1, .int .u8 g0, .int .u8 g1, .int .u8 g2, .int .u8 g3, .int .u8 g4, .int .i64 ring])).set (L.next + 3) (evB [.int .i64 r, .int .i64 c, s2, .int .u8 g0, .int .u8 g1, .int .u8 g2, .int .u8 g3, .int .u8 g4, .int .i64 ring])), L.next + 4⟩ _
  have b1 : (((((((L.t.set L.next (scB (scL r c s1 g0 g1 g2 g3 g4 ring e1))).set (L.next + 1) (scB (scL r c s2 g0 g1 g2 g3 g4 ring e2))).set (L.next + 2) (evB [.int .i64 0, .int .i64 0, .nils, .int .u8 0, .int .u8 0, .int .u8 0, .int .u8 0, .int .u8 0, .int .i64 0])).set (L.next + 3) (evB [.int .i64 0, .int .i64 0, .nils, .int .u8 0, .int .u8 0, .int .u8 0, .int .u8 0, .int .u8 0, .int .i64 0])).set (L.next + 2) (evB [.int .i64 r, .int .i64 c, s1, .int .u8 g0, .int .u8 g1, .int .u8 g2, .int .u8 g3, .int .u8 g4, .int .i64 ring])).set (L.next + 3) (evB [.int .i64 r, .int .i64 c, s2, .int .u8 g0, .int .u8 g1, .int .u8 g2, .int .u8 g3, .int .u8 g4, .int .i64 ring]))).get L.next = some (scB (scL r c s1 g0 g1 g2 g3 g4 ring e1)) := by
    repeat rw [T.get_set_ne _ _ (show L.next ≠ _ by omega)]
    exact T.get_set_same _ _ _
  have b2 : (((((((L.t.set L.next (scB (scL r c s1 g0 g1 g2 g3 g4 ring e1))).set (L.next + 1) (scB (scL r c s2 g0 g1 g2 g3 g4 ring e2))).set (L.next + 2) (evB [.int .i64 0, .int .i64 0, .nils, .int .u8 0, .int .u8 0, .int .u8 0, .int .u8 0, .int .u8 0, .int .i64 0])).set (L.next + 3) (evB [.int .i64 0, .int .i64 0, .nils, .int .u8 0, .int .u8 0, .int .u8 0, .int .u8 0, .int .u8 0, .int .i64 0])).set (L.next + 2) (evB [.int .i64 r, .int .i64 c, s1, .int .u8 g0, .int .u8 g1, .int .u8 g2, .int .u8 g3, .int .u8 g4, .int .i64 ring])).set (L.next + 3) (evB [.int .i64 r, .int .i64 c, s2, .int .u8 g0, .int .u8 g1, .int .u8 g2, .int .u8 g3, .int .u8 g4, .int .i64 ring]))).get (L.next + 1) = some (scB (scL r c s2 g0 g1 g2 g3 g4 ring e2)) := by
    rw [T.get_set_ne _ _ (by omega), T.get_set_ne _ _ (by omega), T.get_set_ne _ _ (by omega), T.get_set_ne _ _ (by omega)]
    exact T.get_set_same _ _ _
  have b3 : (((((((L.t.set L.next (scB (scL r c s1 g0 g1 g2 g3 g4 ring e1))).set (L.next + 1) (scB (scL r c s2 g0 g1 g2 g3 g4 ring e2))).set (L.next + 2) (evB [.int .i64 0, .int .i64 0, .nils, .int .u8 0, .int .u8 0, .int .u8 0, .int .u8 0, .int .u8 0, .int .i64 0])).set (L.next + 3) (evB [.int .i64 0, .int .i64 0, .nils, .int .u8 0, .int .u8 0, .int .u8 0, .int .u8 0, .int .u8 0, .int .i64 0])).set (L.next + 2) (evB [.int .i64 r, .int .i64 c, s1, .int .u8 g0, .int .u8 g1, .int .u8 g2, .int .u8 g3, .int .u8 g4, .int .i64 ring])).set (L.next + 3) (evB [.int .i64 r, .int .i64 c, s2, .int .u8 g0, .int .u8 g1, .int .u8 g2, .int .u8 g3, .int .u8 g4, .int .i64 ring]))).get (L.next + 2) = some (evB [.int .i64 r, .int .i64 c, s1, .int .u8 g0, .int .u8 g1, .int .u8 g2, .int .u8 g3, .int .u8 g4, .int .i64 ring]) := by
    rw [T.get_set_ne _ _ (by omega)]
    exact T.get_set_same _ _ _
  have b4 : (((((((L.t.set L.next (scB (scL r c s1 g0 g1 g2 g3 g4 ring e1))).set (L.next + 1) (scB (scL r c s2 g0 g1 g2 g3 g4 ring e2))).set (L.next + 2) (evB [.int .i64 0, .int .i64 0, .nils, .int .u8 0, .int .u8 0, .int .u8 0, .int .u8 0, .int .u8 0, .int .i64 0])).set (L.next + 3) (evB [.int .i64 0, .int .i64 0, .nils, .int .u8 0, .int .u8 0, .int .u8 0, .int .u8 0, .int .u8 0, .int .i64 0])).set (L.next + 2) (evB [.int .i64 r, .int .i64 c, s1, .int .u8 g0, .int .u8 g1, .int .u8 g2, .int .u8 g3, .int .u8 g4, .int .i64 ring])).set (L.next + 3) (evB [.int .i64 r, .int .i64 c, s2, .int .u8 g0, .int .u8 g1, .int .u8 g2, .int .u8 g3, .int .u8 g4, .int .i64 ring]))).get (L.next + 3) = some (evB [.int .i64 r, .int .i64 c, s2, .int .u8 g0, .int .u8 g1, .int .u8 g2, .int .u8 g3, .int .u8 g4, .int .i64 ring]) := T.get_set_same _ _ _
  have old : ∀ n, n < L.next → (((((((L.t.set L.next (scB (scL r c s1 g0 g1 g2 g3 g4 ring e1))).set (L.next + 1) (scB (scL r c s2 g0 g1 g2 g3 g4 ring e2))).set (L.next + 2) (evB [.int .i64 0, .int .i64 0, .nils, .int .u8 0, .int .u8 0, .int .u8 0, .int .u8 0, .int .u8 0, .int .i64 0])).set (L.next + 3) (evB [.int .i64 0, .int .i64 0, .nils, .int .u8 0, .int .u8 0, .int .u8 0, .int .u8 0, .int .u8 0, .int .i64 0])).set (L.next + 2) (evB [.int .i64 r, .int .i64 c, s1, .int .u8 g0, .int .u8 g1, .int .u8 g2, .int .u8 g3, .int .u8 g4, .int .i64 ring])).set (L.next + 3) (evB [.int .i64 r, .int .i64 c, s2, .int .u8 g0, .int .u8 g1, .int .u8 g2, .int .u8 g3, .int .u8 g4, .int .i64 ring]))).get n = L.t.get n := by
    intro n hn
    rw [T.get_set_ne _ _ (by omega), T.get_set_ne _ _ (by omega), T.get_set_ne _ _ (by omega), T.get_set_ne _ _ (by omega), T.get_set_ne _ _ (by omega), T.get_set_ne _ _ (by omega)]
  generalize hA : (⟨((((((L.t.set L.next (scB (scL r c s1 g0 g1 g2 g3 g4 ring e1))).set (L.next + 1) (scB (scL r c s2 g0 g1 g2 g3 g4 ring e2))).set (L.next + 2) (evB [.int .i64 0, .int .i64 0, .nils, .int .u8 0, .int .u8 0, .int .u8 0, .int .u8 0, .int .u8 0, .int .i64 0])).set (L.next + 3) (evB [.int .i64 0, .int .i64 0, .nils, .int .u8 0, .int .u8 0, .int .u8 0, .int .u8 0, .int .u8 0, .int .i64 0])).set (L.next + 2) (evB [.int .i64 r, .int .i64 c, s1, .int .u8 g0, .int .u8 g1, .int .u8 g2, .int .u8 g3, .int .u8 g4, .int .i64 ring])).set (L.next + 3) (evB [.int .i64 r, .int .i64 c, s2, .int .u8 g0, .int .u8 g1, .int .u8 g2, .int .u8 g3, .int .u8 g4, .int .i64 ring])), L.next + 4⟩ : Heap) = A at *
  have eA : ((((((L.t.set L.next (scB (scL r c s1 g0 g1 g2 g3 g4 ring e1))).set (L.next + 1) (scB (scL r c s2 g0 g1 g2 g3 g4 ring e2))).set (L.next + 2) (evB [.int .i64 0, .int .i64 0, .nils, .int .u8 0, .int .u8 0, .int .u8 0, .int .u8 0, .int .u8 0, .int .i64 0])).set (L.next + 3) (evB [.int .i64 0, .int .i64 0, .nils, .int .u8 0, .int .u8 0, .int .u8 0, .int .u8 0, .int .u8 0, .int .i64 0])).set (L.next + 2) (evB [.int .i64 r, .int .i64 c, s1, .int .u8 g0, .int .u8 g1, .int .u8 g2, .int .u8 g3, .int .u8 g4, .int .i64 ring])).set (L.next + 3) (evB [.int .i64 r, .int .i64 c, s2, .int .u8 g0, .int .u8 g1, .int .u8 g2, .int .u8 g3, .int .u8 g4, .int .i64 ring])) = A.t := by rw [← hA]
  have nA : L.next + 4 = A.next := by rw [← hA]
  rw [eA] at b1 b2 b3 b4 old
  clear hA eA
  have k1 := equal48_ok (hs1.keep (by omega) old) (hs2.keep (by omega) old) (by omega)
  have k2 := equal49_ok (he1.keep (by omega) old) (he2.keep (by omega) old) (by omega)
  unfold scB scL at b1 b2
  unfold evB at b3 b4
  refine ACode.seq (ACode.regS noT_ok names_ok mix (t' := ?_) (L' := ?_) [0, 1, 2, 3, 4, 5, 6, 7, 8, 9, 10, 11, 12, 13, 14, 15, 16, 17, 18, 19, 20, 21, 22, 23, 24, 25, 26] (by rfl) ?_ ?_)
  rotate_left 2
  · iterate 6 (refine sq rfl rfl rfl (by simp [go_sem, X, b3, b4, ev52, Try.f31]; rfl) ?_)
    iterate 5 (refine sq rfl rfl (by simp [go_sem, X, b3, b4, ev52, Try.f31]) (by simp [go_sem, X, b3, b4, ev52, Try.f31]; rfl) ?_)
    iterate 2 (refine sq rfl rfl rfl (by simp [go_sem, X, b3, b4, ev52, Try.f31]; rfl) ?_)
    iterate 5 (refine sq rfl rfl (by simp [go_sem, X, b3, b4, ev52, Try.f31]) (by simp [go_sem, X, b3, b4, ev52, Try.f31]; rfl) ?_)
    iterate 2 (refine sq rfl rfl rfl (by simp [go_sem, X, b3, b4, ev52, Try.f31]; rfl) ?_)
    iterate 5 (refine sq rfl rfl (by simp [go_sem, X, b3, b4, ev52, Try.f31]) (by simp [go_sem, X, b3, b4, ev52, Try.f31]; rfl) ?_)
    iterate 2 (refine sq rfl rfl rfl (by simp [go_sem, X, b3, b4, ev52, Try.f31]; rfl) ?_)
    rfl
  refine ACode.seq (ACode.regS ((oneT_okP k1).or (oneT_okP k2)) names_ok mix (t' := ?_) (L' := ?_) [0, 1, 2, 3, 4, 5, 6, 7, 8, 9, 10, 11, 12, 13, 14, 15] (by rfl) ?_ ?_)
  rotate_left 2
  · iterate 2 (refine sq rfl rfl rfl (by simp [go_sem, X, b1, b2, b3, b4, orT, oneT_sameP, oneT_neP, Try.f31]; rfl) ?_)
    iterate 5 (refine sq rfl rfl (by simp [go_sem, X, b1, b2, b3, b4, orT, oneT_sameP, oneT_neP, Try.f31]) (by simp [go_sem, X, b1, b2, b3, b4, orT, oneT_sameP, oneT_neP, Try.f31]; rfl) ?_)
    iterate 2 (refine sq rfl rfl rfl (by simp [go_sem, X, b1, b2, b3, b4, orT, oneT_sameP, oneT_neP, Try.f31]; rfl) ?_)
    iterate 5 (refine sq rfl rfl (by simp [go_sem, X, b1, b2, b3, b4, orT, oneT_sameP, oneT_neP, Try.f31]) (by simp [go_sem, X, b1, b2, b3, b4, orT, oneT_sameP, oneT_neP, Try.f31]; rfl) ?_)
    iterate 2 (refine sq rfl rfl rfl (by simp [go_sem, X, b1, b2, b3, b4, orT, oneT_sameP, oneT_neP, Try.f31]; rfl) ?_)
    rfl
  exact ACode.ret ⟨.inr rfl, _, [.bool true], [], rfl, by simp [Try.f31, resVals, tget_set], Tidy.zero old, fun κ1 z hz => VR_plain (κ := κ1) _ _ rfl hz⟩
end Go.Proofs.Ytpfmoolpeecobaa
