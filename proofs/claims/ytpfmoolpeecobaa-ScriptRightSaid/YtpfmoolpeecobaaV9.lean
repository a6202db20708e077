/- Levels (102, 78, 107, 87). A pane that stays inside (94, 90, 59). Panes, one below the other (60, 38). -/
import Derived.Test.YtpfmoolpeecobaaV7
namespace Go.Proofs.Ytpfmoolpeecobaa
open Go Go.Proofs Go.Proofs.Ytpfmoolpeecobaa.Ev
set_option linter.unusedVariables false
set_option linter.unusedSimpArgs false
set_option maxRecDepth 100000
set_option maxHeartbeats 4000000

theorem qz36 : zeroV Try.prog 36 = some (.nilf) := by kernel_rfl
theorem qs36 : sizeT Try.prog 36 = some 1 := by kernel_rfl
theorem qa36 : isAggT Try.prog 36 = some false := by kernel_rfl
theorem qt36 : tySlice Try.prog 36 = none := by kernel_rfl
theorem qi36 : tyInt Try.prog 36 = none := by kernel_rfl
theorem qz48 : zeroV Try.prog 48 = some (.int .u16 0) := by kernel_rfl
theorem qs48 : sizeT Try.prog 48 = some 1 := by kernel_rfl
theorem qa48 : isAggT Try.prog 48 = some false := by kernel_rfl
theorem qt48 : tySlice Try.prog 48 = none := by kernel_rfl
theorem qi48 : tyInt Try.prog 48 = some .u16 := by kernel_rfl
theorem qz67 : zeroV Try.prog 67 = some (.int .i64 0) := by kernel_rfl
theorem qs67 : sizeT Try.prog 67 = some 1 := by kernel_rfl
theorem qa67 : isAggT Try.prog 67 = some false := by kernel_rfl
theorem qt67 : tySlice Try.prog 67 = none := by kernel_rfl
theorem qi67 : tyInt Try.prog 67 = some .i64 := by kernel_rfl
theorem qz87 : zeroV Try.prog 87 = some (.int .u64 0) := by kernel_rfl
theorem qs87 : sizeT Try.prog 87 = some 1 := by kernel_rfl
theorem qa87 : isAggT Try.prog 87 = some false := by kernel_rfl
theorem qt87 : tySlice Try.prog 87 = none := by kernel_rfl
theorem qi87 : tyInt Try.prog 87 = some .u64 := by kernel_rfl
theorem qz146 : zeroV Try.prog 146 = some (.nils) := by kernel_rfl
theorem qs146 : sizeT Try.prog 146 = some 1 := by kernel_rfl
theorem qa146 : isAggT Try.prog 146 = some false := by kernel_rfl
theorem qt146 : tySlice Try.prog 146 = some 51 := by kernel_rfl
theorem qi146 : tyInt Try.prog 146 = none := by kernel_rfl
theorem qz148 : zeroV Try.prog 148 = some (.nilf) := by kernel_rfl
theorem qs148 : sizeT Try.prog 148 = some 1 := by kernel_rfl
theorem qa148 : isAggT Try.prog 148 = some false := by kernel_rfl
theorem qt148 : tySlice Try.prog 148 = none := by kernel_rfl
theorem qi148 : tyInt Try.prog 148 = none := by kernel_rfl
theorem qz192 : zeroV Try.prog 192 = some (.nils) := by kernel_rfl
theorem qs192 : sizeT Try.prog 192 = some 1 := by kernel_rfl
theorem qa192 : isAggT Try.prog 192 = some false := by kernel_rfl
theorem qt192 : tySlice Try.prog 192 = some 148 := by kernel_rfl
theorem qi192 : tyInt Try.prog 192 = none := by kernel_rfl
theorem qz217 : zeroV Try.prog 217 = some (.nils) := by kernel_rfl
theorem qs217 : sizeT Try.prog 217 = some 1 := by kernel_rfl
theorem qa217 : isAggT Try.prog 217 = some false := by kernel_rfl
theorem qt217 : tySlice Try.prog 217 = some 36 := by kernel_rfl
theorem qi217 : tyInt Try.prog 217 = none := by kernel_rfl
set_option linter.defProp false in
/-- facts of types, in one -/
def TYE := And.intro @qz36 (And.intro @qs36 (And.intro @qa36 (And.intro @qt36 (And.intro @qi36 (And.intro @Try.underlying36 (And.intro @qz48 (And.intro @qs48 (And.intro @qa48 (And.intro @qt48 (And.intro @qi48 (And.intro @Try.underlying48 (And.intro @qz67 (And.intro @qs67 (And.intro @qa67 (And.intro @qt67 (And.intro @qi67 (And.intro @Try.underlying67 (And.intro @qz87 (And.intro @qs87 (And.intro @qa87 (And.intro @qt87 (And.intro @qi87 (And.intro @Try.underlying87 (And.intro @qz146 (And.intro @qs146 (And.intro @qa146 (And.intro @qt146 (And.intro @qi146 (And.intro @Try.underlying146 (And.intro @qz148 (And.intro @qs148 (And.intro @qa148 (And.intro @qt148 (And.intro @qi148 (And.intro @Try.underlying148 (And.intro @qz192 (And.intro @qs192 (And.intro @qa192 (And.intro @qt192 (And.intro @qi192 (And.intro @Try.underlying192 (And.intro @qz217 (And.intro @qs217 (And.intro @qa217 (And.intro @qt217 (And.intro @qi217 (@Try.underlying217)))))))))))))))))))))))))))))))))))))))))))))))
attribute [go_sem] TYE
theorem qb51 : bytesT Try.prog 51 = some 1 := by kernel_rfl
/-- a row of levels -/
structure Lvs (L : Heap) (v : V) (l : List Int) : Prop where
  len : ∀ L', Ev.builtinQ Try.prog .len #[146] [v] L' = some (.int .i64 (l.length : Int))
  at_ : ∀ (i : Nat) (x : Int), l[i]? = some x → ∃ n o, Ev.indexAddr Try.prog 146 v (.int .i64 (i : Int)) = some (.ptr n o) ∧ Heap.load Try.prog L 51 n o = some (.int .u8 x)
theorem lvs_one {L : Heap} {m : Nat} {x : Int} (h : L.t.get m = some (.cells (T.set .leaf 0 [.int .u8 x]) 1 1 false false)) : Lvs L (.slice m 0 1 1 false) [x] := by
  refine ⟨fun L' => by simp [Ev.builtinQ, qt146], fun i y hi => ?_⟩
  have := (List.getElem?_eq_some_iff.1 hi).1
  simp only [List.length_cons, List.length_nil] at this
  obtain rfl : i = 0 := by omega
  simp at hi
  subst hi
  exact ⟨m, 0, by simp [Ev.indexAddr, qt146, ps51, idx_0, blt_dec, guardO], by simp [Heap.load, Heap.elem, h, T.get_set, Ev.part, pa51]⟩
theorem rightL_ok (x : Int) (L : Heap) : ACall Try.prog 103 [.int .u8 x] L (.bool (decide (1 < x))) L := by
  refine ACall.of_body_same Try.func103 rfl ?_
  refine ACode.seq (ACode.regS noT_ok names_ok mix (t' := ?_) (L' := ?_) [0] (by rfl) ?_ ?_)
  rotate_left 2
  · refine sq rfl rfl rfl (by simp [go_sem, X, Try.f103]; rfl) ?_
    rfl
  refine ACode.seq (ACode.regS noT_ok names_ok mix (t' := ?_) (L' := ?_) [0, 1, 2] (by rfl) ?_ ?_)
  rotate_left 2
  · iterate 3 (refine sq rfl rfl rfl (by simp [go_sem, X, Try.f103]; rfl) ?_)
    rfl
  exact ACode.ret ⟨.inr rfl, [.bool (decide (1 < x))], rfl, by simp [Try.f103, resVals, tget_set], rfl⟩
theorem joinL_ok (x : Int) (L : Heap) : ACall Try.prog 108 [.int .u8 x] L (.bool (decide (0 < x))) L := by
  refine ACall.of_body_same Try.func108 rfl ?_
  refine ACode.seq (ACode.regS noT_ok names_ok mix (t' := ?_) (L' := ?_) [0] (by rfl) ?_ ?_)
  rotate_left 2
  · refine sq rfl rfl rfl (by simp [go_sem, X, Try.f108]; rfl) ?_
    rfl
  refine ACode.seq (ACode.regS noT_ok names_ok mix (t' := ?_) (L' := ?_) [0, 1, 2] (by rfl) ?_ ?_)
  rotate_left 2
  · iterate 3 (refine sq rfl rfl rfl (by simp [go_sem, X, Try.f108]; rfl) ?_)
    rfl
  exact ACode.ret ⟨.inr rfl, [.bool (decide (0 < x))], rfl, by simp [Try.f108, resVals, tget_set], rfl⟩
/-- label.some, of a row of levels -/
theorem some_ok {L : Heap} {v : V} {l : List Int} (h : Lvs L v l) (g : FuncId) (p : Int → Bool) (hg : ∀ x, ACall Try.prog g [.int .u8 x] L (.bool (p x)) L) (hl : l.length ≤ 1000) : ACall Try.prog 102 [v, .func g [] []] L (.bool (l.any p)) L := by
  have hlen := h.len
  refine ACall.of_body_same Try.func102 rfl ?_
  refine ACode.seq (ACode.regS noT_ok names_ok mix (t' := ?_) (L' := ?_) [0] (by rfl) ?_ ?_)
  rotate_left 2
  · refine sq rfl rfl rfl (by simp [go_sem, X, Try.f102]; rfl) ?_
    rfl
  refine ACode.seq ?_
  refine ACode.seq (ACode.regS noT_ok names_ok mix (t' := ?_) (L' := ?_) [0, 1, 2] (by rfl) ?_ ?_)
  rotate_left 2
  · iterate 3 (refine sq rfl rfl rfl (by simp [go_sem, xl, xs, xe, xa, xi, xo, xb, xv, xc, xk, hlen, Try.f102]; rfl) ?_)
    rfl
  refine ACode.block (ACode.loop (fun t d A N => d = [] ∧ A = L ∧ ∃ i, i ≤ l.length ∧ N = l.length - i ∧ (l.take i).any p = false ∧ tget t 1 = .func g [] [] ∧ tget t 7 = v ∧ tget t 8 = .int .i64 (l.length : Int) ∧ tget t 9 = .int .i64 (i : Int)) (N := l.length)
    ⟨rfl, rfl, 0, Nat.zero_le _, by omega, rfl, by simp [tget_set, argsT], by simp [tget_set, argsT], by simp [tget_set], by simp [tget_set]⟩ ?_)
  rintro t d A N ⟨rfl, rfl, i, hi, rfl, htk, t1, t7, t8, t9⟩
  refine ACode.seq (ACode.regS noT_ok names_ok mix (t' := ?_) (L' := ?_) [0] (by rfl) ?_ ?_)
  rotate_left 2
  · refine sq rfl rfl rfl (by simp [go_sem, X, t8, t9, Try.f102]; rfl) ?_
    rfl
  refine ACode.seq (ACode.cond (p := (i : Int) < (l.length : Int)) (by simp [tget_set, opd]) (fun hil => ACode.skip ?_) (fun hge => ACode.exit ?_))
  rotate_left 1
  ·
    have hall : l.any p = false := by
      have hi2 : i = l.length := by omega
      rw [hi2, List.take_length] at htk
      exact htk
    show ACode _ _ _ _ _ _ _
    refine ACode.seq (ACode.regS noT_ok names_ok mix (t' := ?_) (L' := ?_) [0] (by rfl) ?_ ?_)
    rotate_left 2
    · refine sq rfl rfl rfl (by simp [go_sem, X, Try.f102]; rfl) ?_
      rfl
    exact ACode.ret ⟨.inr rfl, [.bool false], rfl, by simp [Try.f102, resVals, tget_set], by simp [one1, hall]⟩
  have hil' : i < l.length := by omega
  have hxi : l[i]? = some l[i] := by simp [hil']
  obtain ⟨n, o, hx, hld⟩ := h.at_ i _ hxi
  have hw : IntKind.i64.wrap ((i : Int) + 1) = ((i + 1 : Nat) : Int) := by rw [Go.IntWalk.i64_in _ (by omega)]; omega
  have hc := hg l[i]
  refine ACode.seq (ACode.block ?_)
  refine ACode.seq (ACode.regS noT_ok names_ok mix (t' := ?_) (L' := ?_) [0, 1, 2] (by rfl) ?_ ?_)
  rotate_left 2
  · iterate 3 (refine sq rfl rfl rfl (by simp [go_sem, xs, xe, xi, xo, xb, xq, xv, xc, xk, t7, t9, hx, hld, Try.f102]; rfl) ?_)
    rfl
  cases hp : p l[i] with
  | true =>
    rw [hp] at hc
    refine ACode.seq (ACode.regS (oneT_okP hc) names_ok mix (t' := ?_) (L' := ?_) [0, 1, 2] (by rfl) ?_ ?_)
    rotate_left 2
    · iterate 3 (refine sq rfl rfl rfl (by simp [go_sem, X, t1, oneT_sameP, Try.f102]; rfl) ?_)
      rfl
    refine ACode.condT (by simp [tget_set, opd]) ?_
    refine ACode.seq (ACode.regS noT_ok names_ok mix (t' := ?_) (L' := ?_) [0] (by rfl) ?_ ?_)
    rotate_left 2
    · refine sq rfl rfl rfl (by simp [go_sem, X, Try.f102]; rfl) ?_
      rfl
    have : l.any p = true := List.any_eq_true.2 ⟨l[i], List.getElem_mem _, hp⟩
    exact ACode.ret ⟨.inr rfl, [.bool true], rfl, by simp [Try.f102, resVals, tget_set], by simp only [one1, this]⟩
  | false =>
    rw [hp] at hc
    refine ACode.seq (ACode.regS (oneT_okP hc) names_ok mix (t' := ?_) (L' := ?_) [0, 1, 2] (by rfl) ?_ ?_)
    rotate_left 2
    · iterate 3 (refine sq rfl rfl rfl (by simp [go_sem, X, t1, oneT_sameP, Try.f102]; rfl) ?_)
      rfl
    refine ACode.condF (by simp [tget_set, opd]) (ACode.skip ?_)
    show ACode _ _ _ _ _ _ _
    refine ACode.regS noT_ok names_ok mix (t' := ?_) (L' := ?_) [0, 1] (by rfl) ?_ ?_
    rotate_left 2
    · iterate 2 (refine sq rfl rfl rfl (by simp [go_sem, X, t9, hw, Try.f102]; rfl) ?_)
      rfl
    exact ⟨l.length - (i + 1), by omega, rfl, rfl, i + 1, by omega, rfl, by rw [List.take_add_one, hxi]; simp only [Option.toList_some, List.any_append, htk, List.any_cons, hp, List.any_nil, Bool.or_self], by simp [tget_set, t1], by simp [tget_set, t7], by simp [tget_set, t8], by simp [tget_set]⟩
theorem right_ok {L : Heap} {v : V} {l : List Int} (h : Lvs L v l) (hr : ∀ x ∈ l, 0 ≤ x ∧ x ≤ 1) (hl : l.length ≤ 1000) : ACall Try.prog 78 [v] L (.bool true) L := by
  have hs := some_ok h 103 (fun x => decide (1 < x)) (fun x => rightL_ok x L) hl
  have hany : l.any (fun x => decide (1 < x)) = false := List.any_eq_false.2 fun x hx => by have := hr x hx; simp; omega
  rw [hany] at hs
  refine ACall.of_body_same Try.func78 rfl ?_
  refine ACode.seq (ACode.regS noT_ok names_ok mix (t' := ?_) (L' := ?_) [0] (by rfl) ?_ ?_)
  rotate_left 2
  · refine sq rfl rfl rfl (by simp [go_sem, X, Try.f78]; rfl) ?_
    rfl
  refine ACode.seq (ACode.regS (oneT_okP hs) names_ok mix (t' := ?_) (L' := ?_) [0, 1, 2, 3] (by rfl) ?_ ?_)
  rotate_left 2
  · iterate 4 (refine sq rfl rfl rfl (by simp [go_sem, X, oneT_sameP, Try.f78]; rfl) ?_)
    rfl
  exact ACode.ret ⟨.inr rfl, [.bool true], rfl, by simp [Try.f78, resVals, tget_set], rfl⟩
theorem which_ok (b : Bool) (x y : Int) (L : Heap) : ACall Try.prog 107 [.bool b, .int .u8 x, .int .u8 y] L (.int .u8 (if b then x else y)) L := by
  refine ACall.of_body_same Try.func107 rfl ?_
  refine ACode.seq (ACode.regS noT_ok names_ok mix (t' := ?_) (L' := ?_) [0] (by rfl) ?_ ?_)
  rotate_left 2
  · refine sq rfl rfl rfl (by simp [go_sem, X, Try.f107]; rfl) ?_
    rfl
  refine ACode.seq ?_
  refine ACode.seq (ACode.regS noT_ok names_ok mix (t' := ?_) (L' := ?_) [0] (by rfl) ?_ ?_)
  rotate_left 2
  · refine sq rfl rfl rfl (by simp [go_sem, X, Try.f107]; rfl) ?_
    rfl
  cases b with
  | true =>
    refine ACode.condT (by simp [tget_set, opd, argsT]) ?_
    refine ACode.seq (ACode.regS noT_ok names_ok mix (t' := ?_) (L' := ?_) [0, 1] (by rfl) ?_ ?_)
    rotate_left 2
    · iterate 2 (refine sq rfl rfl rfl (by simp [go_sem, X, Try.f107]; rfl) ?_)
      rfl
    exact ACode.ret ⟨.inr rfl, [.int .u8 x], rfl, by simp [Try.f107, resVals, tget_set], rfl⟩
  | false =>
    refine ACode.condF (by simp [tget_set, opd, argsT]) (ACode.skip ?_)
    show ACode _ _ _ _ _ _ _
    refine ACode.seq (ACode.regS noT_ok names_ok mix (t' := ?_) (L' := ?_) [0, 1] (by rfl) ?_ ?_)
    rotate_left 2
    · iterate 2 (refine sq rfl rfl rfl (by simp [go_sem, X, Try.f107]; rfl) ?_)
      rfl
    exact ACode.ret ⟨.inr rfl, [.int .u8 y], rfl, by simp [Try.f107, resVals, tget_set], rfl⟩
theorem join_ok {L : Heap} {v : V} {x : Int} (h : Lvs L v [x]) : ∃ y, ACall Try.prog 87 [v] L (.int .u8 y) L := by
  have hs := some_ok h 108 (fun x => decide (0 < x)) (fun x => joinL_ok x L) (by simp)
  generalize ([x].any fun x => decide (0 < x)) = b at hs
  have hw := which_ok b 1 0 L
  generalize hy : (if b = true then (1 : Int) else 0) = y at hw
  refine ⟨y, ?_⟩
  refine ACall.of_body_same Try.func87 rfl ?_
  refine ACode.seq (ACode.regS noT_ok names_ok mix (t' := ?_) (L' := ?_) [0] (by rfl) ?_ ?_)
  rotate_left 2
  · refine sq rfl rfl rfl (by simp [go_sem, X, Try.f87]; rfl) ?_
    rfl
  refine ACode.seq (ACode.regS ((oneT_okP hs).or (oneT_okP hw)) names_ok mix (t' := ?_) (L' := ?_) [0, 1, 2, 3] (by rfl) ?_ ?_)
  rotate_left 2
  · iterate 4 (refine sq rfl rfl rfl (by simp [go_sem, X, orT, oneT_sameP, oneT_neP, Try.f87]; rfl) ?_)
    rfl
  exact ACode.ret ⟨.inr rfl, [.int .u8 y], rfl, by simp [Try.f87, resVals, tget_set], rfl⟩
end Go.Proofs.Ytpfmoolpeecobaa
namespace Go.Proofs.Ytpfmoolpeecobaa
open Go Go.Proofs Go.Proofs.Ytpfmoolpeecobaa.Ev
set_option linter.unusedVariables false
set_option linter.unusedSimpArgs false
set_option maxRecDepth 100000
set_option maxHeartbeats 4000000

theorem bmin (x y : Int) (B : Heap) : Ev.builtinQ Try.prog .min #[3, 3] [.int .i64 x, .int .i64 y] B = some (.int .i64 (if y < x then y else x)) := by
  simp only [Ev.builtinQ, Ev.V.asInt, Ev.minL, Option.bind_some, Option.map_some]
theorem bmax (x y : Int) (B : Heap) : Ev.builtinQ Try.prog .max #[3, 3] [.int .i64 x, .int .i64 y] B = some (.int .i64 (if y > x then y else x)) := by
  simp only [Ev.builtinQ, Ev.V.asInt, Ev.maxL, Option.bind_some, Option.map_some]
theorem bmin_l {x y : Int} (h : x ≤ y) (B : Heap) : Ev.builtinQ Try.prog .min #[3, 3] [.int .i64 x, .int .i64 y] B = some (.int .i64 x) := by rw [bmin, if_neg (by omega)]
theorem bmin_r {x y : Int} (h : y ≤ x) (B : Heap) : Ev.builtinQ Try.prog .min #[3, 3] [.int .i64 x, .int .i64 y] B = some (.int .i64 y) := by
  rw [bmin]; split
  · rfl
  · rw [show x = y by omega]
theorem bmax_r {x y : Int} (h : x ≤ y) (B : Heap) : Ev.builtinQ Try.prog .max #[3, 3] [.int .i64 x, .int .i64 y] B = some (.int .i64 y) := by
  rw [bmax]; split
  · rfl
  · rw [show x = y by omega]
theorem bmax_l {x y : Int} (h : y ≤ x) (B : Heap) : Ev.builtinQ Try.prog .max #[3, 3] [.int .i64 x, .int .i64 y] B = some (.int .i64 x) := by rw [bmax, if_neg (by omega)]
theorem span112_ok (a n m : Int) (ha : 0 ≤ a) (hn : 1 ≤ n) (hm : a + n ≤ m) (hb : m ≤ 1000) (L : Heap) : ACall Try.prog 112 [.int .i64 a, .int .i64 n, .int .i64 m] L (.tuple [.int .i64 a, .int .i64 (a + n)]) L := by
  have c1 : ¬ n ≤ 0 := by omega
  have c2 : ¬ m ≤ a := by omega
  have c3 : ¬ a < 0 := by omega
  have w1 : IntKind.i64.wrap (m - a) = m - a := Go.IntWalk.i64_in _ (by omega)
  have w2 : IntKind.i64.wrap (a + n) = a + n := Go.IntWalk.i64_in _ (by omega)
  have m1 := bmin_r hm
  have m2 := bmax_r ha
  have m3 := bmax_r (show 0 ≤ a + n by omega)
  have m4 := bmax_r (show 0 ≤ m by omega)
  refine ACall.of_body_same Try.func112 rfl ?_
  refine ACode.seq (ACode.regS noT_ok names_ok mix (t' := ?_) (L' := ?_) [0, 1] (by rfl) ?_ ?_)
  rotate_left 2
  · iterate 2 (refine sq rfl rfl rfl (by simp [go_sem, X, Try.f112]; rfl) ?_)
    rfl
  refine ACode.seq ?_
  refine ACode.seq (ACode.regS noT_ok names_ok mix (t' := ?_) (L' := ?_) [0, 1, 2, 3, 4, 5, 6] (by rfl) ?_ ?_)
  rotate_left 2
  · iterate 3 (refine sq rfl rfl rfl (by simp [go_sem, X, c1, c2, Try.f112]; rfl) ?_)
    iterate 3 (refine sq rfl rfl (by simp [go_sem, X, c1, c2, Try.f112]) (by simp [go_sem, X, c1, c2, Try.f112]; rfl) ?_)
    refine sq rfl rfl rfl (by simp [go_sem, X, c1, c2, Try.f112]; rfl) ?_
    rfl
  refine ACode.condF (by simp [tget_set, opd]) (ACode.skip ?_)
  refine ACode.seq (ACode.regS noT_ok names_ok mix (t' := ?_) (L' := ?_) [0, 1] (by rfl) ?_ ?_)
  rotate_left 2
  · iterate 2 (refine sq rfl rfl rfl (by simp [go_sem, X, Try.f112]; rfl) ?_)
    rfl
  refine ACode.seq ?_
  by_cases c4 : n < m - a
  ·
    refine ACode.seq (ACode.regS noT_ok names_ok mix (t' := ?_) (L' := ?_) [0, 1, 2, 3, 4, 5, 6, 7, 8] (by rfl) ?_ ?_)
    rotate_left 2
    · iterate 3 (refine sq rfl rfl rfl (by simp [go_sem, X, c3, c4, w1, Try.f112]; rfl) ?_)
      iterate 5 (refine sq rfl rfl (by simp [go_sem, X, c3, c4, w1, Try.f112]) (by simp [go_sem, X, c3, c4, w1, Try.f112]; rfl) ?_)
      refine sq rfl rfl rfl (by simp [go_sem, X, c3, c4, w1, Try.f112]; rfl) ?_
      rfl
    refine ACode.condT (by simp [tget_set, opd]) ?_
    refine ACode.regS noT_ok names_ok mix (t' := ?_) (L' := ?_) [0, 1, 2, 3, 4, 5] (by rfl) ?_ ?_
    rotate_left 2
    · iterate 6 (refine sq rfl rfl rfl (by simp [go_sem, xl, xs, xe, xa, xi, xo, xb, xv, xc, xk, w2, m1, Try.f112]; rfl) ?_)
      rfl
    show ACode _ _ _ _ _ _ _
    refine ACode.seq (ACode.regS noT_ok names_ok mix (t' := ?_) (L' := ?_) [0, 1, 2, 3, 4, 5] (by rfl) ?_ ?_)
    rotate_left 2
    · iterate 6 (refine sq rfl rfl rfl (by simp [go_sem, xl, xs, xe, xa, xi, xo, xb, xv, xc, xk, m2, m3, Try.f112]; rfl) ?_)
      rfl
    exact ACode.ret ⟨.inr rfl, [.int .i64 a, .int .i64 (a + n)], rfl, by simp [Try.f112, resVals, tget_set], rfl⟩
  ·
    have e : a + n = m := by omega
    rw [e]
    refine ACode.seq (ACode.regS noT_ok names_ok mix (t' := ?_) (L' := ?_) [0, 1, 2, 3, 4, 5, 6, 7, 8] (by rfl) ?_ ?_)
    rotate_left 2
    · iterate 3 (refine sq rfl rfl rfl (by simp [go_sem, X, c3, c4, w1, Try.f112]; rfl) ?_)
      iterate 5 (refine sq rfl rfl (by simp [go_sem, X, c3, c4, w1, Try.f112]) (by simp [go_sem, X, c3, c4, w1, Try.f112]; rfl) ?_)
      refine sq rfl rfl rfl (by simp [go_sem, X, c3, c4, w1, Try.f112]; rfl) ?_
      rfl
    refine ACode.condF (by simp [tget_set, opd]) (ACode.skip ?_)
    show ACode _ _ _ _ _ _ _
    refine ACode.seq (ACode.regS noT_ok names_ok mix (t' := ?_) (L' := ?_) [0, 1, 2, 3, 4, 5] (by rfl) ?_ ?_)
    rotate_left 2
    · iterate 6 (refine sq rfl rfl rfl (by simp [go_sem, xl, xs, xe, xa, xi, xo, xb, xv, xc, xk, m2, m4, Try.f112]; rfl) ?_)
      rfl
    exact ACode.ret ⟨.inr rfl, [.int .i64 a, .int .i64 m], rfl, by simp [Try.f112, resVals, tget_set], rfl⟩
/-- a rectangle within a screen -/
structure InR (q : Int × Int × Int × Int) (r c : Int) : Prop where
  top : 1 ≤ q.1
  left : 0 ≤ q.2.1
  rows : 1 ≤ q.2.2.1
  cols : 1 ≤ q.2.2.2
  down : q.1 + q.2.2.1 ≤ r
  right : q.2.1 + q.2.2.2 ≤ c
theorem clip_ok {q : Int × Int × Int × Int} {r c : Int} (h : InR q r c) (hr : r ≤ 1000) (hc : c ≤ 1000) (L : Heap) : ACall Try.prog 94 [.agg (rectV q), .int .i64 r, .int .i64 c] L (.agg (rectV q)) L := by
  obtain ⟨h1, h2, h3, h4, h5, h6⟩ := h
  obtain ⟨a, b, n, m⟩ := q
  simp only at h1 h2 h3 h4 h5 h6
  have s1 := fun L => span112_ok a n r (by omega) h3 h5 hr L
  have s2 := fun L => span112_ok b m c h2 h4 h6 hc L
  have c1 : ¬ a + n ≤ a := by omega
  have c2 : ¬ b + m ≤ b := by omega
  have w1 : IntKind.i64.wrap (a + n - a) = n := by rw [Go.IntWalk.i64_in _ (by omega)]; omega
  have w2 : IntKind.i64.wrap (b + m - b) = m := by rw [Go.IntWalk.i64_in _ (by omega)]; omega
  simp only [rectV]
  refine ACall.of_body Try.func94 rfl ?_
  refine ACode.seq (ACode.regS noT_ok names_ok mix (t' := ?_) (L' := ?_) [0, 1] (by rfl) ?_ ?_)
  rotate_left 2
  · iterate 2 (refine sq rfl rfl rfl (by simp [go_sem, X, Try.f94]; rfl) ?_)
    rfl
  have g0 : ((L.t.set L.next (.cells (T.set .leaf 0 [.int .i64 a, .int .i64 b, .int .i64 n, .int .i64 m]) 1 4 false false)).set (L.next + 1) (.cells (T.set .leaf 0 [.int .i64 0, .int .i64 0, .int .i64 0, .int .i64 0]) 1 4 false false)).get L.next = some (.cells (T.set .leaf 0 [.int .i64 a, .int .i64 b, .int .i64 n, .int .i64 m]) 1 4 false false) := by
    rw [T.get_set_ne _ _ (by omega)]; exact T.get_set_same _ _ _
  have g1 : ((L.t.set L.next (.cells (T.set .leaf 0 [.int .i64 a, .int .i64 b, .int .i64 n, .int .i64 m]) 1 4 false false)).set (L.next + 1) (.cells (T.set .leaf 0 [.int .i64 0, .int .i64 0, .int .i64 0, .int .i64 0]) 1 4 false false)).get (L.next + 1) = some (.cells (T.set .leaf 0 [.int .i64 0, .int .i64 0, .int .i64 0, .int .i64 0]) 1 4 false false) := T.get_set_same _ _ _
  have old : ∀ k, k < L.next → ((L.t.set L.next (.cells (T.set .leaf 0 [.int .i64 a, .int .i64 b, .int .i64 n, .int .i64 m]) 1 4 false false)).set (L.next + 1) (.cells (T.set .leaf 0 [.int .i64 0, .int .i64 0, .int .i64 0, .int .i64 0]) 1 4 false false)).get k = L.t.get k := fun k hk => by
    rw [T.get_set_ne _ _ (by omega), T.get_set_ne _ _ (by omega)]
  change ACode _ _ _ _ _ ⟨(L.t.set L.next (.cells (T.set .leaf 0 [.int .i64 a, .int .i64 b, .int .i64 n, .int .i64 m]) 1 4 false false)).set (L.next + 1) (.cells (T.set .leaf 0 [.int .i64 0, .int .i64 0, .int .i64 0, .int .i64 0]) 1 4 false false), L.next + 2⟩ _
  generalize (L.t.set L.next (.cells (T.set .leaf 0 [.int .i64 a, .int .i64 b, .int .i64 n, .int .i64 m]) 1 4 false false)).set (L.next + 1) (.cells (T.set .leaf 0 [.int .i64 0, .int .i64 0, .int .i64 0, .int .i64 0]) 1 4 false false) = T2 at *
  refine ACode.seq (ACode.regS (oneT_okP (s1 ⟨T2, L.next + 2⟩)) names_ok mix (t' := ?_) (L' := ?_) [0, 1, 2, 3, 4, 5, 6, 7, 8, 9, 10] (by rfl) ?_ ?_)
  rotate_left 2
  · iterate 11 (refine sq rfl rfl rfl (by simp [go_sem, X, g0, oneT_sameP, Try.f94]; rfl) ?_)
    rfl
  refine ACode.seq (ACode.regS (oneT_okP (s2 ⟨T2, L.next + 2⟩)) names_ok mix (t' := ?_) (L' := ?_) [0, 1, 2, 3, 4, 5, 6, 7, 8, 9, 10] (by rfl) ?_ ?_)
  rotate_left 2
  · iterate 11 (refine sq rfl rfl rfl (by simp [go_sem, X, g0, oneT_sameP, Try.f94]; rfl) ?_)
    rfl
  refine ACode.seq ?_
  refine ACode.seq (ACode.regS noT_ok names_ok mix (t' := ?_) (L' := ?_) [0, 1, 2, 3, 4, 5, 6, 7] (by rfl) ?_ ?_)
  rotate_left 2
  · iterate 4 (refine sq rfl rfl rfl (by simp [go_sem, X, c1, c2, Try.f94]; rfl) ?_)
    iterate 3 (refine sq rfl rfl (by simp [go_sem, X, c1, c2, Try.f94]) (by simp [go_sem, X, c1, c2, Try.f94]; rfl) ?_)
    refine sq rfl rfl rfl (by simp [go_sem, X, c1, c2, Try.f94]; rfl) ?_
    rfl
  refine ACode.condF (by simp [tget_set, opd]) (ACode.skip ?_)
  show ACode _ _ _ _ _ _ _
  refine ACode.seq (ACode.regS noT_ok names_ok mix (t' := ?_) (L' := ?_) [0, 1, 2, 3, 4, 5, 6, 7, 8, 9] (by rfl) ?_ ?_)
  rotate_left 2
  · iterate 10 (refine sq rfl rfl rfl (by simp [go_sem, X, g1, w1, w2, Try.f94]; rfl) ?_)
    rfl
  refine ACode.ret ⟨.inr rfl, _, [.agg [.int .i64 a, .int .i64 b, .int .i64 n, .int .i64 m]], [], rfl, ?_, Tidy.zero ?_, fun κ1 z hz => VR_plain (κ := κ1) _ _ rfl hz⟩
  · simp [Try.f94, resVals, tget_set, V.asPtr, Heap.load, Heap.elem, T.get_set, Ev.part, pa81, ps81, takeN]
  · intro k hk
    show T.get _ k = _
    rw [T.get_set_ne _ _ (by omega)]
    exact old k hk
theorem in1_ok {L : Heap} {p1 p2 : Nat} {r c : Int} (h1 : L.t.get p1 = some (.cells (T.set .leaf 0 [.int .i64 r]) 1 1 false false)) (h2 : L.t.get p2 = some (.cells (T.set .leaf 0 [.int .i64 c]) 1 1 false false)) (hr : 2 ≤ r ∧ r ≤ 12) (hc : 1 ≤ c ∧ c ≤ 40) :
    ACall Try.prog 91 [.ptr p1 0, .ptr p2 0] L (.bool true) L := by
  have hs := screen_ok r c hr hc L
  refine ACall.of_body_same Try.func91 rfl ?_
  refine ACode.seq (ACode.regS noT_ok names_ok mix (t' := ?_) (L' := ?_) [0] (by rfl) ?_ ?_)
  rotate_left 2
  · refine sq rfl rfl rfl (by simp [go_sem, X, Try.f91]; rfl) ?_
    rfl
  refine ACode.seq (ACode.regS (oneT_okP hs) names_ok mix (t' := ?_) (L' := ?_) [0, 1, 2, 3] (by rfl) ?_ ?_)
  rotate_left 2
  · iterate 4 (refine sq rfl rfl rfl (by simp [go_sem, X, h1, h2, oneT_sameP, Try.f91]; rfl) ?_)
    rfl
  exact ACode.ret ⟨.inr rfl, [.bool true], rfl, by simp [Try.f91, resVals, tget_set], rfl⟩
theorem in2_ok {L : Heap} {p : Nat} {q : Int × Int × Int × Int} (h : L.t.get p = some (.cells (T.set .leaf 0 (rectV q)) 1 4 false false)) (h1 : 0 < q.1) (h3 : 0 < q.2.2.1) (h4 : 0 < q.2.2.2) : ACall Try.prog 92 [.ptr p 0] L (.bool true) L := by
  obtain ⟨a, b, n, m⟩ := q
  simp only [rectV] at h h1 h3 h4
  refine ACall.of_body_same Try.func92 rfl ?_
  refine ACode.seq (ACode.regS noT_ok names_ok mix (t' := ?_) (L' := ?_) [0] (by rfl) ?_ ?_)
  rotate_left 2
  · refine sq rfl rfl rfl (by simp [go_sem, X, Try.f92]; rfl) ?_
    rfl
  refine ACode.seq (ACode.regS noT_ok names_ok mix (t' := ?_) (L' := ?_) [0, 1, 2, 3, 4, 5, 6, 7, 8, 9, 10, 11, 12, 13] (by rfl) ?_ ?_)
  rotate_left 2
  · iterate 4 (refine sq rfl rfl rfl (by simp [go_sem, X, h, h1, h3, h4, Try.f92]; rfl) ?_)
    iterate 3 (refine sq rfl rfl (by simp [go_sem, X, h, h1, h3, h4, Try.f92]) (by simp [go_sem, X, h, h1, h3, h4, Try.f92]; rfl) ?_)
    iterate 2 (refine sq rfl rfl rfl (by simp [go_sem, X, h, h1, h3, h4, Try.f92]; rfl) ?_)
    iterate 3 (refine sq rfl rfl (by simp [go_sem, X, h, h1, h3, h4, Try.f92]) (by simp [go_sem, X, h, h1, h3, h4, Try.f92]; rfl) ?_)
    iterate 2 (refine sq rfl rfl rfl (by simp [go_sem, X, h, h1, h3, h4, Try.f92]; rfl) ?_)
    rfl
  exact ACode.ret ⟨.inr rfl, [.bool true], rfl, by simp [Try.f92, resVals, tget_set], rfl⟩
theorem in3_ok {L : Heap} {p p1 p2 : Nat} {q : Int × Int × Int × Int} {r c : Int} (h : L.t.get p = some (.cells (T.set .leaf 0 (rectV q)) 1 4 false false)) (h1 : L.t.get p1 = some (.cells (T.set .leaf 0 [.int .i64 r]) 1 1 false false)) (h2 : L.t.get p2 = some (.cells (T.set .leaf 0 [.int .i64 c]) 1 1 false false))
    (hin : InR q r c) (hr : r ≤ 1000) (hc : c ≤ 1000) : ACall Try.prog 93 [.ptr p 0, .ptr p1 0, .ptr p2 0] L (.bool true) L := by
  have hk := clip_ok hin hr hc L
  have hld : Heap.load Try.prog L 81 p 0 = some (.agg (rectV q)) := by
    simp only [rectV] at h ⊢
    simp [Heap.load, Heap.elem, h, T.get_set, Ev.part, pa81, ps81, takeN]
  have hl1 : Heap.load Try.prog L 3 p1 0 = some (.int .i64 r) := by simp [Heap.load, Heap.elem, h1, T.get_set, Ev.part, pa3]
  have hl2 : Heap.load Try.prog L 3 p2 0 = some (.int .i64 c) := by simp [Heap.load, Heap.elem, h2, T.get_set, Ev.part, pa3]
  have hev : equalV Try.prog 81 false (.agg (rectV q)) (.agg (rectV q)) = some true := by
    unfold equalV
    have hg : (!Try.prog.eqGuardType Try.prog.depth 81) = true := by decide +kernel
    simp only [Try.underlying81, hg, Ev.guardO_true]
    rw [show (20 : Nat) = 18 + 2 from rfl]
    exact en81 18 _ _ _ _
  generalize rectV q = cs at *
  refine ACall.of_body_same Try.func93 rfl ?_
  refine ACode.seq (ACode.regS noT_ok names_ok mix (t' := ?_) (L' := ?_) [0] (by rfl) ?_ ?_)
  rotate_left 2
  · refine sq rfl rfl rfl (by simp [go_sem, X, Try.f93]; rfl) ?_
    rfl
  refine ACode.seq (ACode.regD (oneT_okP hk) names_ok mix (t' := ?_) (L' := ?_) [0,0,0,7,0,31,63] [0,1,2,4,3,5,6] (by decide +kernel) (by decide +kernel) (by decide +kernel) ?_ ?_)
  rotate_left 2
  · iterate 4 (refine dr rfl rfl rfl rfl (by simp [go_sem, xs, xe, xa, xi, xo, xb, xq, xv, xc, xk, hld, hl1, hl2, hev, oneT_sameP, Try.f93]; rfl) ?_)
    refine dl rfl rfl (by simp [go_sem, xs, xe, xa, xi, xo, xb, xq, xv, xc, xk, hld, hl1, hl2, hev, oneT_sameP, Try.f93]) rfl (by simp [go_sem, xs, xe, xa, xi, xo, xb, xq, xv, xc, xk, hld, hl1, hl2, hev, oneT_sameP, Try.f93]; rfl) (by rfl) (by simp [go_sem, xs, xe, xa, xi, xo, xb, xq, xv, xc, xk, hld, hl1, hl2, hev, oneT_sameP, Try.f93]) ?_
    iterate 2 (refine dq rfl rfl rfl rfl (by simp [go_sem, xs, xe, xa, xi, xo, xb, xq, xv, xc, xk, hld, hl1, hl2, hev, oneT_sameP, Try.f93]; rfl) ?_)
    rfl
  exact ACode.ret ⟨.inr rfl, [.bool true], rfl, by simp [Try.f93, resVals, tget_set], rfl⟩
/-- pane.all, of conditions that hold -/
theorem all_ok {L : Heap} {v : V} {n : Nat} (hlen : ∀ L', Ev.builtinQ Try.prog .len #[217] [v] L' = some (.int .i64 (n : Int))) (hn : n ≤ 1000)
    (hat : ∀ i : Nat, i < n → ∃ m o g cap, Ev.indexAddr Try.prog 217 v (.int .i64 (i : Int)) = some (.ptr m o) ∧ Heap.load Try.prog L 36 m o = some (.func g [] cap) ∧ ACall Try.prog g cap L (.bool true) L) : ACall Try.prog 90 [v] L (.bool true) L := by
  refine ACall.of_body_same Try.func90 rfl ?_
  refine ACode.seq (ACode.regS noT_ok names_ok mix (t' := ?_) (L' := ?_) [0] (by rfl) ?_ ?_)
  rotate_left 2
  · refine sq rfl rfl rfl (by simp [go_sem, X, Try.f90]; rfl) ?_
    rfl
  refine ACode.seq ?_
  refine ACode.seq (ACode.regS noT_ok names_ok mix (t' := ?_) (L' := ?_) [0, 1, 2] (by rfl) ?_ ?_)
  rotate_left 2
  · iterate 3 (refine sq rfl rfl rfl (by simp [go_sem, xl, xs, xe, xa, xi, xo, xb, xv, xc, xk, hlen, Try.f90]; rfl) ?_)
    rfl
  refine ACode.block (ACode.loop (fun t d A N => d = [] ∧ A = L ∧ ∃ i, i ≤ n ∧ N = n - i ∧ tget t 5 = v ∧ tget t 6 = .int .i64 (n : Int) ∧ tget t 7 = .int .i64 (i : Int)) (N := n)
    ⟨rfl, rfl, 0, Nat.zero_le _, by omega, by simp [tget_set, argsT], by simp [tget_set], by simp [tget_set]⟩ ?_)
  rintro t d A N ⟨rfl, rfl, i, hi, rfl, t5, t6, t7⟩
  refine ACode.seq (ACode.regS noT_ok names_ok mix (t' := ?_) (L' := ?_) [0] (by rfl) ?_ ?_)
  rotate_left 2
  · refine sq rfl rfl rfl (by simp [go_sem, X, t6, t7, Try.f90]; rfl) ?_
    rfl
  refine ACode.seq (ACode.cond (p := (i : Int) < (n : Int)) (by simp [tget_set, opd]) (fun hil => ACode.skip ?_) (fun hge => ACode.exit ?_))
  rotate_left 1
  ·
    show ACode _ _ _ _ _ _ _
    refine ACode.seq (ACode.regS noT_ok names_ok mix (t' := ?_) (L' := ?_) [0] (by rfl) ?_ ?_)
    rotate_left 2
    · refine sq rfl rfl rfl (by simp [go_sem, X, Try.f90]; rfl) ?_
      rfl
    exact ACode.ret ⟨.inr rfl, [.bool true], rfl, by simp [Try.f90, resVals, tget_set], rfl⟩
  obtain ⟨m, o, g, cap, hx, hld, hc⟩ := hat i (by omega)
  have hw : IntKind.i64.wrap ((i : Int) + 1) = ((i + 1 : Nat) : Int) := by rw [Go.IntWalk.i64_in _ (by omega)]; omega
  refine ACode.seq (ACode.block ?_)
  refine ACode.seq (ACode.regS noT_ok names_ok mix (t' := ?_) (L' := ?_) [0, 1, 2] (by rfl) ?_ ?_)
  rotate_left 2
  · iterate 3 (refine sq rfl rfl rfl (by simp [go_sem, xs, xe, xi, xo, xb, xq, xv, xc, xk, t5, t7, hx, hld, Try.f90]; rfl) ?_)
    rfl
  refine ACode.seq (ACode.regS (oneT_okP hc) names_ok mix (t' := ?_) (L' := ?_) [0, 1, 2] (by rfl) ?_ ?_)
  rotate_left 2
  · iterate 3 (refine sq rfl rfl rfl (by simp [go_sem, X, oneT_sameP, Try.f90]; rfl) ?_)
    rfl
  refine ACode.condF (by simp [tget_set, opd]) (ACode.skip ?_)
  show ACode _ _ _ _ _ _ _
  refine ACode.regS noT_ok names_ok mix (t' := ?_) (L' := ?_) [0, 1] (by rfl) ?_ ?_
  rotate_left 2
  · iterate 2 (refine sq rfl rfl rfl (by simp [go_sem, X, t7, hw, Try.f90]; rfl) ?_)
    rfl
  exact ⟨n - (i + 1), by omega, rfl, rfl, i + 1, by omega, rfl, by simp [tget_set, t5], by simp [tget_set, t6], by simp [tget_set]⟩
theorem inside_ok {q : Int × Int × Int × Int} {r c : Int} (hin : InR q r c) (hr : 2 ≤ r ∧ r ≤ 12) (hc : 1 ≤ c ∧ c ≤ 40) (L : Heap) : ACall Try.prog 59 [.int .i64 r, .int .i64 c, .agg (rectV q)] L (.bool true) L := by
  have hq : (rectV q).length = 4 := rfl
  obtain ⟨A, hA⟩ : ∃ A : Heap, A = ⟨(((L.t.set L.next (.cells (T.set .leaf 0 [.int .i64 r]) 1 1 false false)).set (L.next + 1) (.cells (T.set .leaf 0 [.int .i64 c]) 1 1 false false)).set (L.next + 2) (.cells (T.set .leaf 0 (rectV q)) 1 4 false false)).set (L.next + 3) (.cells (T.set (T.set (T.set (T.set (T.set (T.set .leaf 0 [.nilf]) 1 [.nilf]) 2 [.nilf]) 0 [.func 91 [] [.ptr L.next 0, .ptr (L.next + 1) 0]]) 1 [.func 92 [] [.ptr (L.next + 2) 0]]) 2 [.func 93 [] [.ptr (L.next + 2) 0, .ptr L.next 0, .ptr (L.next + 1) 0]]) 3 1 false false), L.next + 4⟩ := ⟨_, rfl⟩
  have g0 : A.t.get L.next = some (.cells (T.set .leaf 0 [.int .i64 r]) 1 1 false false) := by rw [hA]; show T.get (T.set _ _ _) _ = _; rw [T.get_set_ne _ _ (by omega), T.get_set_ne _ _ (by omega), T.get_set_ne _ _ (by omega)]; exact T.get_set_same _ _ _
  have g1 : A.t.get (L.next + 1) = some (.cells (T.set .leaf 0 [.int .i64 c]) 1 1 false false) := by rw [hA]; show T.get (T.set _ _ _) _ = _; rw [T.get_set_ne _ _ (by omega), T.get_set_ne _ _ (by omega)]; exact T.get_set_same _ _ _
  have g2 : A.t.get (L.next + 2) = some (.cells (T.set .leaf 0 (rectV q)) 1 4 false false) := by rw [hA]; show T.get (T.set _ _ _) _ = _; rw [T.get_set_ne _ _ (by omega)]; exact T.get_set_same _ _ _
  have g3 : A.t.get (L.next + 3) = some (.cells (T.set (T.set (T.set (T.set (T.set (T.set .leaf 0 [.nilf]) 1 [.nilf]) 2 [.nilf]) 0 [.func 91 [] [.ptr L.next 0, .ptr (L.next + 1) 0]]) 1 [.func 92 [] [.ptr (L.next + 2) 0]]) 2 [.func 93 [] [.ptr (L.next + 2) 0, .ptr L.next 0, .ptr (L.next + 1) 0]]) 3 1 false false) := by rw [hA]; exact T.get_set_same _ _ _
  have old : ∀ k, k < L.next → A.t.get k = L.t.get k := fun k hk => by
    rw [hA]; show T.get (T.set _ _ _) _ = _
    rw [T.get_set_ne _ _ (by omega), T.get_set_ne _ _ (by omega), T.get_set_ne _ _ (by omega), T.get_set_ne _ _ (by omega)]
  have hall : ACall Try.prog 90 [.slice (L.next + 3) 0 3 3 false] A (.bool true) A := by
    refine all_ok (n := 3) (fun L' => by simp [Ev.builtinQ, qt217]) (by omega) fun i hi => ?_
    have hix : Ev.indexAddr Try.prog 217 (.slice (L.next + 3) 0 3 3 false) (.int .i64 (i : Int)) = some (.ptr (L.next + 3) i) := by simp [Ev.indexAddr, qt217, qs36, idx_nat, blt_dec, hi, guardO]
    have : i = 0 ∨ i = 1 ∨ i = 2 := by omega
    rcases this with rfl | rfl | rfl
    · exact ⟨_, _, 91, _, hix, by simp [Heap.load, Heap.elem, g3, T.get_set, Ev.part, qa36], in1_ok g0 g1 hr hc⟩
    · exact ⟨_, _, 92, _, hix, by simp [Heap.load, Heap.elem, g3, T.get_set, Ev.part, qa36], in2_ok g2 (by have := hin.top; omega) (by have := hin.rows; omega) (by have := hin.cols; omega)⟩
    · exact ⟨_, _, 93, _, hix, by simp [Heap.load, Heap.elem, g3, T.get_set, Ev.part, qa36], in3_ok g2 g0 g1 hin (by omega) (by omega)⟩
  refine ACall.of_body Try.func59 rfl ?_
  generalize rectV q = cs at *
  refine ACode.seq (ACode.regS noT_ok names_ok mix (t' := ?_) (L' := ?_) [0, 1, 2, 3] (by rfl) ?_ ?_)
  rotate_left 2
  · iterate 4 (refine sq rfl rfl rfl (by simp [go_sem, X, hq, Try.f59]; rfl) ?_)
    rfl
  rw [hA] at hall
  refine ACode.seq (ACode.regS (oneT_okP hall) names_ok mix (t' := ?_) (L' := ?_) [0, 1, 2, 3, 4, 5] (by rfl) ?_ ?_)
  rotate_left 2
  · iterate 6 (refine sq rfl rfl rfl (by simp [go_sem, X, hq, oneT_sameP, Try.f59]; rfl) ?_)
    rfl
  refine ACode.ret ⟨.inr rfl, _, [.bool true], [], rfl, by simp [Try.f59, resVals, tget_set], Tidy.zero ?_, fun κ1 z hz => VR_plain (κ := κ1) _ _ rfl hz⟩
  intro k hk
  have := old k hk
  rw [hA] at this
  exact this
theorem span95_ok (a n b m : Int) (hab : b < a) (hb : 0 ≤ b) (hn : 1 ≤ n) (hm : 1 ≤ m) (hbm : b + m ≤ a) (ha : a ≤ 1000) (hm2 : m ≤ 1000) (L : Heap) : ACall Try.prog 95 [.int .i64 a, .int .i64 n, .int .i64 b, .int .i64 m] L (.bool false) L := by
  have c0 : b < a := hab
  have c1 : (0 : Int) < m := by omega
  have c2 : (0 : Int) < n := by omega
  have w1 : IntKind.u64.wrap a = a := Go.IntWalk.u64_in _ (by omega)
  have w2 : IntKind.u64.wrap b = b := Go.IntWalk.u64_in _ (by omega)
  have w3 : IntKind.u64.wrap (a - b) = a - b := Go.IntWalk.u64_in _ (by omega)
  have w4 : IntKind.u64.wrap m = m := Go.IntWalk.u64_in _ (by omega)
  have c3 : ¬ a - b < m := by omega
  refine ACall.of_body_same Try.func95 rfl ?_
  refine ACode.seq (ACode.regS noT_ok names_ok mix (t' := ?_) (L' := ?_) [0] (by rfl) ?_ ?_)
  rotate_left 2
  · refine sq rfl rfl rfl (by simp [go_sem, X, Try.f95]; rfl) ?_
    rfl
  refine ACode.seq ?_
  refine ACode.seq (ACode.regS noT_ok names_ok mix (t' := ?_) (L' := ?_) [0, 1, 2] (by rfl) ?_ ?_)
  rotate_left 2
  · iterate 3 (refine sq rfl rfl rfl (by simp [go_sem, X, c0, Try.f95]; rfl) ?_)
    rfl
  refine ACode.condT (by simp [tget_set, opd]) ?_
  refine ACode.regS noT_ok names_ok mix (t' := ?_) (L' := ?_) [0, 1, 2, 3, 4, 5, 6, 7] (by rfl) ?_ ?_
  rotate_left 2
  · iterate 8 (refine sq rfl rfl rfl (by simp [go_sem, X, Try.f95]; rfl) ?_)
    rfl
  show ACode _ _ _ _ _ _ _
  refine ACode.seq (ACode.regS noT_ok names_ok mix (t' := ?_) (L' := ?_) [0, 1, 2, 3, 4, 5, 6, 7, 8, 9, 10, 11, 12, 13, 14, 15, 16] (by rfl) ?_ ?_)
  rotate_left 2
  · iterate 3 (refine sq rfl rfl rfl (by simp [go_sem, X, c1, c2, w1, w2, w3, w4, c3, Try.f95]; rfl) ?_)
    iterate 2 (refine sq rfl rfl (by simp [go_sem, X, c1, c2, w1, w2, w3, w4, c3, Try.f95]) (by simp [go_sem, X, c1, c2, w1, w2, w3, w4, c3, Try.f95]; rfl) ?_)
    iterate 2 (refine sq rfl rfl rfl (by simp [go_sem, X, c1, c2, w1, w2, w3, w4, c3, Try.f95]; rfl) ?_)
    iterate 8 (refine sq rfl rfl (by simp [go_sem, X, c1, c2, w1, w2, w3, w4, c3, Try.f95]) (by simp [go_sem, X, c1, c2, w1, w2, w3, w4, c3, Try.f95]; rfl) ?_)
    iterate 2 (refine sq rfl rfl rfl (by simp [go_sem, X, c1, c2, w1, w2, w3, w4, c3, Try.f95]; rfl) ?_)
    rfl
  exact ACode.ret ⟨.inr rfl, [.bool false], rfl, by simp [Try.f95, resVals, tget_set], rfl⟩
end Go.Proofs.Ytpfmoolpeecobaa
namespace Go.Proofs.Ytpfmoolpeecobaa
open Go Go.Proofs Go.Proofs.Ytpfmoolpeecobaa.Ev
set_option linter.unusedVariables false
set_option linter.unusedSimpArgs false
set_option maxRecDepth 100000
set_option maxHeartbeats 4000000

/-- panes, one below the other -/
structure Below_ (ps : List (Int × Int × Int × Int)) (r c : Int) : Prop where
  inr : ∀ q ∈ ps, InR q r c
  ap : ∀ (i j : Nat) (p q : Int × Int × Int × Int), j < i → ps[i]? = some p → ps[j]? = some q → q.1 + q.2.2.1 ≤ p.1
noncomputable def b60 : Code := Try.f60.body.getD .skip
theorem apart_ok {L : Heap} {v : V} {ps : List (Int × Int × Int × Int)} {r c : Int} (h : SlP 4 81 rectV L v ps) (hb : Below_ ps r c) (hr : r ≤ 1000) (hn : ps.length ≤ 1000) : ACall Try.prog 60 [v] L (.bool true) L := by
  have hlen := h.len pt79
  refine ACall.of_body Try.func60 rfl ?_
  refine ACode.seq (ACode.regS noT_ok names_ok mix (t' := ?_) (L' := ?_) [0] (by rfl) ?_ ?_)
  rotate_left 2
  · refine sq rfl rfl rfl (by simp [go_sem, X, Try.f60]; rfl) ?_
    rfl
  refine ACode.seq ?_
  refine ACode.seq (ACode.regS noT_ok names_ok mix (t' := ?_) (L' := ?_) [0, 1, 2] (by rfl) ?_ ?_)
  rotate_left 2
  · iterate 3 (refine sq rfl rfl rfl (by simp [go_sem, xl, xs, xe, xa, xi, xo, xb, xv, xc, xk, hlen, Try.f60]; rfl) ?_)
    rfl
  refine ACode.block (ACode.loop (fun t d A N => d = [] ∧ ∃ i, i ≤ ps.length ∧ N = ps.length - i ∧ L.next ≤ A.next ∧ (∀ k, k < L.next → A.t.get k = L.t.get k) ∧ tget t 0 = v ∧ tget t 7 = v ∧ tget t 8 = .int .i64 (ps.length : Int) ∧ tget t 9 = .int .i64 (i : Int)) (N := ps.length)
    ⟨rfl, 0, Nat.zero_le _, by omega, Nat.le_refl _, fun _ _ => rfl, by simp [tget_set, argsT], by simp [tget_set, argsT], by simp [tget_set], by simp [tget_set]⟩ ?_)
  rintro t d A N ⟨rfl, i, hi, rfl, hnx, hkp, t0, t7, t8, t9⟩
  refine ACode.seq (ACode.regS noT_ok names_ok mix (t' := ?_) (L' := ?_) [0] (by rfl) ?_ ?_)
  rotate_left 2
  · refine sq rfl rfl rfl (by simp [go_sem, X, t8, t9, Try.f60]; rfl) ?_
    rfl
  refine ACode.seq (ACode.cond (p := (i : Int) < (ps.length : Int)) (by simp [tget_set, opd]) (fun hil => ACode.skip ?_) (fun hge => ACode.exit ?_))
  rotate_left 1
  ·
    show ACode _ _ _ _ _ _ _
    refine ACode.seq (ACode.regS noT_ok names_ok mix (t' := ?_) (L' := ?_) [0] (by rfl) ?_ ?_)
    rotate_left 2
    · refine sq rfl rfl rfl (by simp [go_sem, X, Try.f60]; rfl) ?_
      rfl
    exact ACode.ret ⟨.inr rfl, _, [.bool true], [], rfl, by simp [Try.f60, resVals, tget_set], Tidy.zero hkp, fun κ1 z hz => VR_plain (κ := κ1) _ _ rfl hz⟩
  have hil' : i < ps.length := by omega
  have hxi : ps[i]? = some ps[i] := by simp [hil']
  obtain ⟨n1, o1, _, hx, hld⟩ := (h.keep hnx hkp).at' pt79 ps81 hxi
  obtain ⟨v2, hsl, h2⟩ := (h.keep hnx hkp).take (j := i) pt79 ps81 hi
  have hlen2 := h2.len pt79
  have hl2 : (ps.take i).length = i := by rw [List.length_take]; omega
  rw [hl2] at hlen2
  have hia := hb.inr _ (List.getElem_mem hil')
  have hap := hb.ap i
  have hw : IntKind.i64.wrap ((i : Int) + 1) = ((i + 1 : Nat) : Int) := by rw [Go.IntWalk.i64_in _ (by omega)]; omega
  generalize hp : ps[i] = p at *
  obtain ⟨a, al, an, am⟩ := p
  simp only [rectV] at hld
  refine ACode.seq (ACode.block ?_)
  refine ACode.seq (ACode.regS noT_ok names_ok mix (t' := ?_) (L' := ?_) [0, 1, 2, 3, 4, 5] (by rfl) ?_ ?_)
  rotate_left 2
  · iterate 6 (refine sq rfl rfl rfl (by simp [go_sem, xs, xe, xi, xo, xb, xq, xv, xc, xk, t7, t9, hx, hld, Try.f60]; rfl) ?_)
    rfl
  change ACode _ _ _ _ _ ⟨A.t.set A.next (.cells (T.set .leaf 0 [.int .i64 a, .int .i64 al, .int .i64 an, .int .i64 am]) 1 4 false false), A.next + 1⟩ _
  have gA : (A.t.set A.next (.cells (T.set .leaf 0 [.int .i64 a, .int .i64 al, .int .i64 an, .int .i64 am]) 1 4 false false)).get A.next = some (.cells (T.set .leaf 0 [.int .i64 a, .int .i64 al, .int .i64 an, .int .i64 am]) 1 4 false false) := T.get_set_same _ _ _
  have kA : ∀ k, k < A.next → (A.t.set A.next (.cells (T.set .leaf 0 [.int .i64 a, .int .i64 al, .int .i64 an, .int .i64 am]) 1 4 false false)).get k = A.t.get k := fun k hk => T.get_set_ne _ _ (by omega)
  generalize A.t.set A.next (.cells (T.set .leaf 0 [.int .i64 a, .int .i64 al, .int .i64 an, .int .i64 am]) 1 4 false false) = T1 at *
  refine ACode.seq (ACode.regS noT_ok names_ok mix (t' := ?_) (L' := ?_) [0, 1, 2, 3, 4] (by rfl) ?_ ?_)
  rotate_left 2
  · iterate 5 (refine sq rfl rfl rfl (by simp [go_sem, xl, xs, xe, xa, xi, xb, xv, xc, xk, t0, hsl, hlen2, Try.f60]; rfl) ?_)
    rfl
  refine ACode.block (ACode.loop (fun t d B N => d = [] ∧ ∃ j, j ≤ i ∧ N = i - j ∧ A.next + 1 ≤ B.next ∧ (∀ k, k < A.next + 1 → B.t.get k = T1.get k) ∧ tget t 0 = v ∧ tget t 4 = .ptr A.next 0 ∧ tget t 7 = v ∧ tget t 8 = .int .i64 (ps.length : Int) ∧ tget t 9 = .int .i64 (i : Int) ∧ tget t 16 = v2 ∧ tget t 17 = .int .i64 (i : Int) ∧ tget t 18 = .int .i64 (j : Int)) (N := i)
    ⟨rfl, 0, Nat.zero_le _, by omega, Nat.le_refl _, fun _ _ => rfl, by simp [tget_set, t0], by simp [tget_set], by simp [tget_set, t7], by simp [tget_set, t8], by simp [tget_set, t9], by simp [tget_set], by simp [tget_set], by simp [tget_set]⟩ ?_)
  clear t0 t7 t8 t9
  rintro t d B N ⟨rfl, j, hj, rfl, hnB, hkB, t0, t4, t7, t8, t9, t16, t17, t18⟩
  refine ACode.seq (ACode.regS noT_ok names_ok mix (t' := ?_) (L' := ?_) [0] (by rfl) ?_ ?_)
  rotate_left 2
  · refine sq rfl rfl rfl (by simp [go_sem, X, t17, t18, Try.f60]; rfl) ?_
    rfl
  refine ACode.seq (ACode.cond (p := (j : Int) < (i : Int)) (by simp [tget_set, opd]) (fun hjl => ACode.skip ?_) (fun hge => ACode.exit ?_))
  rotate_left 1
  ·
    show ACode _ _ (Code.region _ _ _) _ _ _ _
    refine ACode.regS noT_ok names_ok mix (t' := ?_) (L' := ?_) [0, 1] (by rfl) ?_ ?_
    rotate_left 2
    · iterate 2 (refine sq rfl rfl rfl (by simp [go_sem, X, t9, hw, Try.f60]; rfl) ?_)
      rfl
    exact ⟨ps.length - (i + 1), by omega, rfl, i + 1, by omega, rfl, by omega, fun k hk => by rw [hkB k (by omega), kA k (by omega)]; exact hkp k hk, by simp [tget_set, t0], by simp [tget_set, t7], by simp [tget_set, t8], by simp [tget_set]⟩
  have hjl' : j < i := by omega
  have hxj : ps[j]? = some ps[j] := by simp
  have hxj2 : (ps.take i)[j]? = some ps[j] := by rw [List.getElem?_take_of_lt hjl']; exact hxj
  have h2B : SlP 4 81 rectV B v2 (ps.take i) := h2.keep (by omega) fun k hk => by rw [hkB k (by omega), kA k hk]
  obtain ⟨n2, o2, _, hx2, hld2⟩ := h2B.at' pt79 ps81 hxj2
  have hib := hb.inr _ (List.getElem_mem (show j < ps.length by omega))
  have hab := hap j _ _ hjl' hxi hxj
  have hgB : B.t.get A.next = some (.cells (T.set .leaf 0 [.int .i64 a, .int .i64 al, .int .i64 an, .int .i64 am]) 1 4 false false) := by rw [hkB _ (by omega)]; exact gA
  generalize ps[j] = q at *
  obtain ⟨b, bl, bn, bm⟩ := q
  obtain ⟨i1, i2, i3, i4, i5, i6⟩ := hia
  obtain ⟨j1, j2, j3, j4, j5, j6⟩ := hib
  simp only at i1 i2 i3 i4 i5 i6 j1 j2 j3 j4 j5 j6 hab
  simp only [rectV] at hld2
  have hwj : IntKind.i64.wrap ((j : Int) + 1) = ((j + 1 : Nat) : Int) := by rw [Go.IntWalk.i64_in _ (by omega)]; omega
  refine ACode.seq (ACode.block ?_)
  refine ACode.seq (ACode.regS noT_ok names_ok mix (t' := ?_) (L' := ?_) [0, 1, 2, 3] (by rfl) ?_ ?_)
  rotate_left 2
  · iterate 4 (refine sq rfl rfl rfl (by simp [go_sem, xs, xe, xi, xo, xb, xq, xv, xc, xk, t16, t18, hx2, hld2, Try.f60]; rfl) ?_)
    rfl
  change ACode _ _ _ _ _ ⟨B.t.set B.next (.cells (T.set .leaf 0 [.int .i64 b, .int .i64 bl, .int .i64 bn, .int .i64 bm]) 1 4 false false), B.next + 1⟩ _
  have g2 : (B.t.set B.next (.cells (T.set .leaf 0 [.int .i64 b, .int .i64 bl, .int .i64 bn, .int .i64 bm]) 1 4 false false)).get B.next = some (.cells (T.set .leaf 0 [.int .i64 b, .int .i64 bl, .int .i64 bn, .int .i64 bm]) 1 4 false false) := T.get_set_same _ _ _
  have g3 : (B.t.set B.next (.cells (T.set .leaf 0 [.int .i64 b, .int .i64 bl, .int .i64 bn, .int .i64 bm]) 1 4 false false)).get A.next = some (.cells (T.set .leaf 0 [.int .i64 a, .int .i64 al, .int .i64 an, .int .i64 am]) 1 4 false false) := by rw [T.get_set_ne _ _ (by omega)]; exact hgB
  have k2 : ∀ k, k < A.next + 1 → (B.t.set B.next (.cells (T.set .leaf 0 [.int .i64 b, .int .i64 bl, .int .i64 bn, .int .i64 bm]) 1 4 false false)).get k = T1.get k := fun k hk => by rw [T.get_set_ne _ _ (by omega)]; exact hkB k hk
  generalize B.t.set B.next (.cells (T.set .leaf 0 [.int .i64 b, .int .i64 bl, .int .i64 bn, .int .i64 bm]) 1 4 false false) = T2 at *
  have hsp := span95_ok a an b bn (by omega) (by omega) (by omega) (by omega) hab (by omega) (by omega) ⟨T2, B.next + 1⟩
  refine ACode.seq (ACode.regS (oneT_okP hsp) names_ok mix (t' := ?_) (L' := ?_) [0, 1, 2, 3, 4, 5, 6, 7, 8, 9, 10, 11, 12, 13, 14, 15, 16, 17, 18, 19] (by rfl) ?_ ?_)
  rotate_left 2
  · iterate 10 (refine sq rfl rfl rfl (by simp [go_sem, X, t4, g2, g3, oneT_sameP, Try.f60]; rfl) ?_)
    iterate 9 (refine sk rfl rfl (by simp [go_sem, X, t4, g2, g3, oneT_sameP, Try.f60]) ?_)
    refine sq rfl rfl rfl (by simp [go_sem, X, t4, g2, g3, oneT_sameP, Try.f60]; rfl) ?_
    rfl
  refine ACode.condF (by simp [tget_set, opd]) (ACode.skip ?_)
  show ACode _ _ (Code.region _ _ _) _ _ _ _
  refine ACode.regS noT_ok names_ok mix (t' := ?_) (L' := ?_) [0, 1] (by rfl) ?_ ?_
  rotate_left 2
  · iterate 2 (refine sq rfl rfl rfl (by simp [go_sem, X, t18, hwj, Try.f60]; rfl) ?_)
    rfl
  exact ⟨i - (j + 1), by omega, rfl, j + 1, by omega, rfl, by simp only; omega, k2, by simp [tget_set, t0], by simp [tget_set, t4], by simp [tget_set, t7], by simp [tget_set, t8], by simp [tget_set, t9], by simp [tget_set, t16], by simp [tget_set, t17], by simp [tget_set]⟩
/-- pane.Check, of panes that may be -/
theorem check_ok {L : Heap} {v : V} {ps : List (Int × Int × Int × Int)} {r c : Int} (h : SlP 4 81 rectV L v ps) (hb : Below_ ps r c) (hr : 2 ≤ r ∧ r ≤ 12) (hc : 1 ≤ c ∧ c ≤ 40) (hn : ps.length ≤ 1000) : ACall Try.prog 38 [.int .i64 r, .int .i64 c, v] L (.int .i64 0) L := by
  have hlen := h.len pt79
  have hsc := screen_ok r c hr hc L
  refine ACall.of_body Try.func38 rfl ?_
  refine ACode.seq (ACode.regS noT_ok names_ok mix (t' := ?_) (L' := ?_) [0] (by rfl) ?_ ?_)
  rotate_left 2
  · refine sq rfl rfl rfl (by simp [go_sem, X, Try.f38]; rfl) ?_
    rfl
  refine ACode.seq ?_
  refine ACode.seq (ACode.regS (oneT_okP hsc) names_ok mix (t' := ?_) (L' := ?_) [0, 1, 2, 3] (by rfl) ?_ ?_)
  rotate_left 2
  · iterate 4 (refine sq rfl rfl rfl (by simp [go_sem, X, oneT_sameP, Try.f38]; rfl) ?_)
    rfl
  refine ACode.condF (by simp [tget_set, opd]) (ACode.skip ?_)
  refine ACode.seq ?_
  refine ACode.seq (ACode.regS noT_ok names_ok mix (t' := ?_) (L' := ?_) [0, 1, 2] (by rfl) ?_ ?_)
  rotate_left 2
  · iterate 3 (refine sq rfl rfl rfl (by simp [go_sem, xl, xs, xe, xa, xi, xo, xb, xv, xc, xk, hlen, Try.f38]; rfl) ?_)
    rfl
  refine ACode.block (ACode.loop (fun t d A N => d = [] ∧ ∃ i, i ≤ ps.length ∧ N = ps.length - i ∧ L.next ≤ A.next ∧ (∀ k, k < L.next → A.t.get k = L.t.get k) ∧ tget t 0 = .int .i64 r ∧ tget t 1 = .int .i64 c ∧ tget t 2 = v ∧ tget t 13 = v ∧ tget t 14 = .int .i64 (ps.length : Int) ∧ tget t 15 = .int .i64 (i : Int)) (N := ps.length)
    ⟨rfl, 0, Nat.zero_le _, by omega, Nat.le_refl _, fun _ _ => rfl, by simp [tget_set, argsT], by simp [tget_set, argsT], by simp [tget_set, argsT], by simp [tget_set, argsT], by simp [tget_set], by simp [tget_set]⟩ ?_)
  rintro t d A N ⟨rfl, i, hi, rfl, hnx, hkp, t0, t1, t2, t13, t14, t15⟩
  refine ACode.seq (ACode.regS noT_ok names_ok mix (t' := ?_) (L' := ?_) [0] (by rfl) ?_ ?_)
  rotate_left 2
  · refine sq rfl rfl rfl (by simp [go_sem, X, t14, t15, Try.f38]; rfl) ?_
    rfl
  refine ACode.seq (ACode.cond (p := (i : Int) < (ps.length : Int)) (by simp [tget_set, opd]) (fun hil => ACode.skip ?_) (fun hge => ACode.exit ?_))
  rotate_left 1
  ·
    have hap := apart_ok (h.keep hnx hkp) hb (by omega) hn
    show ACode _ _ (Code.seq (Code.seq (Code.region _ _ _) _) _) _ _ _ _
    refine ACode.seq ?_
    refine ACode.seq (ACode.regS (oneT_okP hap) names_ok mix (t' := ?_) (L' := ?_) [0, 1, 2] (by rfl) ?_ ?_)
    rotate_left 2
    · iterate 3 (refine sq rfl rfl rfl (by simp [go_sem, X, t2, oneT_sameP, Try.f38]; rfl) ?_)
      rfl
    refine ACode.condF (by simp [tget_set, opd]) (ACode.skip ?_)
    show ACode _ _ _ _ _ _ _
    refine ACode.seq (ACode.regS noT_ok names_ok mix (t' := ?_) (L' := ?_) [0] (by rfl) ?_ ?_)
    rotate_left 2
    · refine sq rfl rfl rfl (by simp [go_sem, X, Try.f38]; rfl) ?_
      rfl
    exact ACode.ret ⟨.inr rfl, _, [.int .i64 0], [], rfl, by simp [Try.f38, resVals, tget_set], Tidy.zero hkp, fun κ1 z hz => VR_plain (κ := κ1) _ _ rfl hz⟩
  have hil' : i < ps.length := by omega
  have hxi : ps[i]? = some ps[i] := by simp [hil']
  obtain ⟨n1, o1, _, hx, hld⟩ := (h.keep hnx hkp).at' pt79 ps81 hxi
  have hin := hb.inr _ (List.getElem_mem hil')
  have hw : IntKind.i64.wrap ((i : Int) + 1) = ((i + 1 : Nat) : Int) := by rw [Go.IntWalk.i64_in _ (by omega)]; omega
  generalize ps[i] = q at *
  refine ACode.seq (ACode.block ?_)
  have hgq : (A.t.set A.next (.cells (T.set .leaf 0 (rectV q)) 1 4 false false)).get A.next = some (.cells (T.set .leaf 0 (rectV q)) 1 4 false false) := T.get_set_same _ _ _
  have kA : ∀ k, k < A.next → (A.t.set A.next (.cells (T.set .leaf 0 (rectV q)) 1 4 false false)).get k = A.t.get k := fun k hk => T.get_set_ne _ _ (by omega)
  have his := inside_ok hin hr hc ⟨A.t.set A.next (.cells (T.set .leaf 0 (rectV q)) 1 4 false false), A.next + 1⟩
  obtain ⟨a, b, n, m⟩ := q
  simp only [rectV] at hld hgq kA his
  refine ACode.seq (ACode.regS noT_ok names_ok mix (t' := ?_) (L' := ?_) [0, 1, 2, 3] (by rfl) ?_ ?_)
  rotate_left 2
  · iterate 4 (refine sq rfl rfl rfl (by simp [go_sem, xs, xe, xi, xo, xb, xq, xv, xc, xk, t13, t15, hx, hld, Try.f38]; rfl) ?_)
    rfl
  change ACode _ _ _ _ _ ⟨A.t.set A.next (.cells (T.set .leaf 0 [.int .i64 a, .int .i64 b, .int .i64 n, .int .i64 m]) 1 4 false false), A.next + 1⟩ _
  generalize A.t.set A.next (.cells (T.set .leaf 0 [.int .i64 a, .int .i64 b, .int .i64 n, .int .i64 m]) 1 4 false false) = T1 at *
  refine ACode.seq (ACode.regS (oneT_okP his) names_ok mix (t' := ?_) (L' := ?_) [0, 1, 2, 3, 4] (by rfl) ?_ ?_)
  rotate_left 2
  · iterate 5 (refine sq rfl rfl rfl (by simp [go_sem, X, t0, t1, hgq, oneT_sameP, Try.f38]; rfl) ?_)
    rfl
  refine ACode.condF (by simp [tget_set, opd]) (ACode.skip ?_)
  show ACode _ _ (Code.region _ _ _) _ _ _ _
  refine ACode.regS noT_ok names_ok mix (t' := ?_) (L' := ?_) [0, 1] (by rfl) ?_ ?_
  rotate_left 2
  · iterate 2 (refine sq rfl rfl rfl (by simp [go_sem, X, t15, hw, Try.f38]; rfl) ?_)
    rfl
  exact ⟨ps.length - (i + 1), by omega, rfl, i + 1, by omega, rfl, by simp only; omega, fun k hk => by show T1.get k = _; rw [kA k (by omega)]; exact hkp k hk, by simp [tget_set, t0], by simp [tget_set, t1], by simp [tget_set, t2], by simp [tget_set, t13], by simp [tget_set, t14], by simp [tget_set]⟩
theorem nil_below (r c : Int) : Below_ [] r c := ⟨fun q h => (by cases h), fun i j p q _ h => (by simp at h)⟩
end Go.Proofs.Ytpfmoolpeecobaa
