/- A setup that is laid. The parts of a script, to be laid. -/
import Derived.Test.YtpfmoolpeecobaaU11
namespace Go.Proofs.Ytpfmoolpeecobaa
open Go Go.Proofs Go.Proofs.Ytpfmoolpeecobaa.Ev
set_option linter.unusedVariables false
set_option linter.unusedSimpArgs false
set_option maxRecDepth 100000
set_option maxHeartbeats 4000000

theorem Ap.old {W : Nat} {v v' x : V} {A A' : Heap} (h : Ap W v x) (ho : Old W v A A' v') (hx : ∀ m, nmP x = some m → m < A.next) : Ap W v' x := by
  intro m hm
  obtain ⟨h1, h2⟩ := h m hm
  refine ⟨h1, ?_⟩
  rcases ho.nm with e | ⟨k, e, hk⟩
  · rw [e]; exact h2
  · rw [e]; have := hx m hm; simp only [ne_eq, Option.some.injEq]; omega
theorem Wr.keep {A A' : Heap} {W : Nat} {v : V} {bad : Bool} {l : List Int} {sl : Nat} (h : Wr A W v bad l sl) (hn : A.next ≤ A'.next) (hk : ∀ n, n < A.next → A'.t.get n = A.t.get n) : Wr A' W v bad l sl ∧ Old W v A A' v :=
  ⟨⟨by rw [hk W h.lt]; exact h.cell, Nat.lt_of_lt_of_le h.lt hn, h.row.still hn fun m hm => hk m (h.row.nm_lt hm)⟩, ⟨hn, fun n hlt _ _ => hk n hlt, .inl rfl⟩⟩
def sBads (ps : List (Int × Int × Int × Int)) (srcs : List SrcG) : Nat → Bool
  | 0 => false
  | i + 1 => sBads ps srcs i || (match srcs[i]? with
    | some x => sBad ps i x
    | none => false)
theorem sBads_succ {ps : List (Int × Int × Int × Int)} {srcs : List SrcG} {i : Nat} {x : SrcG} (h : srcs[i]? = some x) : sBads ps srcs (i + 1) = (sBads ps srcs i || sBad ps i x) := by simp only [sBads, h]
/-- what a setup is laid as -/
def suB (r c ring : Int) (gs : List Int) (srcs : List SrcG) : List Int := [lowB (r - 2), lowB (c - 1), lowB ((srcs.length : Int) - 1), lowB (gBits gs 5), lowB ring] ++ srcs.map srcK
/-- whether it can't be -/
def suBadG (r c ring : Int) (gs : List Int) (srcs : List SrcG) (ps : List (Int × Int × Int × Int)) : Bool :=
  gBad gs 5 || out 11 (r - 2) || out 40 (c - 1) || out (if (if 0 < r - 1 then r - 1 else 0) < 4 then (if 0 < r - 1 then r - 1 else 0) else 4) ((srcs.length : Int) - 1) || out 8 ring || sBads ps srcs srcs.length

theorem wsetup_ok {L : Heap} {W : Nat} {v : V} {bad : Bool} {l : List Int} {sl : Nat} {r c ring g0 g1 g2 g3 g4 : Int} {sv : V} {srcs : List SrcG} {ps : List (Int × Int × Int × Int)} (h : Wr L W v bad l sl) (hsl : sl ≤ 1) (hl : l.length ≤ 1000000)
    (hs : SlP 6 83 srcG L sv srcs) (hap : Ap W v sv) (hn : srcs.length ≤ 1000) (hps : ps.length ≤ 1000) (hr : -1000 ≤ r ∧ r ≤ 1000) (hc : -1000 ≤ c ∧ c ≤ 1000) (hg : ∀ g ∈ [g0, g1, g2, g3, g4], 0 ≤ g ∧ g ≤ 255)
    (hstr : ∀ B : Heap, ∃ pv B', ACall Try.prog 68 [.int .i64 r, .int .i64 c, .int .i64 (srcs.length : Int)] B pv B' ∧ SlP 4 81 rectV B' pv ps ∧ B.next ≤ B'.next ∧ (∀ n, n < B.next → B'.t.get n = B.t.get n) ∧ ∀ m, nmP pv = some m → B.next ≤ m) :
    ∃ L' v', ACall Try.prog 74 [.ptr W 0, .agg (suCs r c sv g0 g1 g2 g3 g4 ring)] L (.tuple []) L' ∧ Wr L' W v' (bad || suBadG r c ring [g0, g1, g2, g3, g4] srcs ps) (l ++ suB r c ring [g0, g1, g2, g3, g4] srcs) 0 ∧ Old W v L L' v' := by
  have hsvlt := fun m hm => hs.nm_lt (m := m) hm
  have h1 : EW L ⟨L.t.set L.next (evB (suCs r c sv g0 g1 g2 g3 g4 ring)), L.next + 1⟩ W v v bad l sl L.next (suCs r c sv g0 g1 g2 g3 g4 ring) :=
    ⟨h.new _, T.get_set_same _ _ _, Nat.lt_succ_self _, by have := h.lt; omega, Old.new W v L _⟩
  generalize hA1 : (⟨L.t.set L.next (evB (suCs r c sv g0 g1 g2 g3 g4 ring)), L.next + 1⟩ : Heap) = A1 at *
  have hregs := fun t t0 t3 t5 => wregs_ok h1 hg t t0 t3 t5
  have h2 := h1.bad (bad || gBad [g0, g1, g2, g3, g4] 5)
  generalize hA2 : (⟨A1.t.set W (wB v (bad || gBad [g0, g1, g2, g3, g4] 5)), A1.next⟩ : Heap) = A2 at *
  obtain ⟨A3, v3, c3, w3, o3⟩ := below_step h2.wr 11 (r - 2) (by omega)
  have h3 := h2.step w3 o3
  obtain ⟨A4, v4, c4, w4, o4⟩ := below_step h3.wr 40 (c - 1) (by simp; omega)
  have h4 := h3.step w4 o4
  generalize hm4 : (if (if 0 < r - 1 then r - 1 else 0) < 4 then (if 0 < r - 1 then r - 1 else 0) else 4) = m4
  obtain ⟨A5, v5, c5, w5, o5⟩ := below_step h4.wr m4 ((srcs.length : Int) - 1) (by simp; omega)
  have h5 := h4.step w5 o5
  generalize hbt : gBits [g0, g1, g2, g3, g4] 5 = bt at *
  obtain ⟨v6, A6, happ, hW6, hc61, hc62, h6⟩ := h5.app (lowB bt) (by simp; omega)
  generalize hA6 : (⟨A6.t.set W (wB v6 _), A6.next⟩ : Heap) = A6' at *
  obtain ⟨A7, v7, c7, w7, o7⟩ := below_step h6.wr 8 ring (by simp; omega)
  have h7 := h6.step w7 o7
  obtain ⟨pv, A8, c8, hp8, hn8, hk8, hpn⟩ := hstr A7
  obtain ⟨w8, o8⟩ := h7.wr.keep hn8 hk8
  have h8 := h7.step w8 o8
  have hsl0 : sl - 1 - 1 - 1 - 1 - 1 = 0 := by omega
  rw [hsl0] at w8
  have hs8 := hs.old hap h8.old
  have hap8 := hap.old h8.old hsvlt
  have happ8 : Ap W v7 pv := fun m hm => ⟨by have := w7.lt; have := hpn m hm; omega, fun e => by have := w7.row.nm_lt e; have := hpn m hm; omega⟩
  have hp8lt := fun m hm => hp8.nm_lt (m := m) hm
  have hs8lt := fun m hm => hs8.nm_lt (m := m) hm
  rw [show (bad || suBadG r c ring [g0, g1, g2, g3, g4] srcs ps) = ((bad || gBad [g0, g1, g2, g3, g4] 5 || decide (r - 2 < 0) || decide (11 ≤ r - 2) || decide (c - 1 < 0) || decide (40 ≤ c - 1) || decide ((srcs.length : Int) - 1 < 0) || decide (m4 ≤ (srcs.length : Int) - 1) || decide (ring < 0) || decide (8 ≤ ring)) || sBads ps srcs srcs.length) from by simp only [suBadG, out, hm4, Bool.or_assoc],
    show l ++ suB r c ring [g0, g1, g2, g3, g4] srcs = (l ++ [lowB (r - 2)] ++ [lowB (c - 1)] ++ [lowB ((srcs.length : Int) - 1)] ++ [lowB bt] ++ [lowB ring]) ++ (srcs.take srcs.length).map srcK from by simp [suB, hbt]]
  have hlen7 : (l ++ [lowB (r - 2)] ++ [lowB (c - 1)] ++ [lowB ((srcs.length : Int) - 1)] ++ [lowB bt] ++ [lowB ring]).length ≤ 1001000 := by simp; omega
  generalize (bad || gBad [g0, g1, g2, g3, g4] 5 || decide (r - 2 < 0) || decide (11 ≤ r - 2) || decide (c - 1 < 0) || decide (40 ≤ c - 1) || decide ((srcs.length : Int) - 1 < 0) || decide (m4 ≤ (srcs.length : Int) - 1) || decide (ring < 0) || decide (8 ≤ ring)) = b7 at *
  generalize (bad || gBad [g0, g1, g2, g3, g4] 5 || decide (r - 2 < 0) || decide (11 ≤ r - 2) || decide (c - 1 < 0) || decide (40 ≤ c - 1) || decide ((srcs.length : Int) - 1 < 0) || decide (m4 ≤ (srcs.length : Int) - 1)) = b5 at *
  generalize (l ++ [lowB (r - 2)] ++ [lowB (c - 1)] ++ [lowB ((srcs.length : Int) - 1)] ++ [lowB bt] ++ [lowB ring]) = l7 at *
  obtain ⟨H, hH0, hI, hR⟩ := chain (α := Heap × V) srcs.length (fun i a => Wr a.1 W a.2 (b7 || sBads ps srcs i) (l7 ++ (srcs.take i).map srcK) 0 ∧ Old W v7 A8 a.1 a.2) (SRd W srcs.length sv pv) (A8, v7)
    ⟨by simpa [sBads] using w8, Old.refl W v7 A8⟩ (by
      rintro i ⟨A, vi⟩ hi ⟨hw, ho⟩
      have hxi : srcs[i]? = some srcs[i] := by simp [hi]
      have hwl : (l7 ++ (srcs.take i).map srcK).length ≤ 2000000 := by simp; omega
      obtain ⟨A', v', hsr, hw', ho'⟩ := sround_ok (n := srcs.length) hw (hs8.old hap8 ho) (hp8.old happ8 ho) (happ8.old ho hp8lt) hxi (by omega) hwl hps
      refine ⟨(A', v'), hsr, ?_, ho.trans ho'⟩
      rw [sBads_succ hxi, List.take_add_one, hxi, ← Bool.or_assoc]
      simp only [Option.toList_some, List.map_append, List.map_cons, List.map_nil, ← List.append_assoc]
      exact hw')
  obtain ⟨hwn, hon⟩ := hI srcs.length (Nat.le_refl _)
  refine ⟨(H srcs.length).1, (H srcs.length).2, ?_, hwn, h8.old.trans hon⟩
  clear hwn hon hI
  have hE1 := h1.ev
  have hE2 := h2.ev
  have hE3 := h3.ev
  have hE4 := h4.ev
  have hE5 := h5.ev
  have hE6 := h6.ev
  have hE7 := h7.ev
  have hE8 := h8.ev
  have hW5 := h5.wr.cell
  have hlen := hs.len pt50
  simp only [evB, suCs] at hE1 hE2 hE3 hE4 hE5 hE6 hE7 hE8
  unfold wB at hW5 hW6
  have hwr2 : IntKind.i64.wrap (r - 2) = r - 2 := Go.IntWalk.i64_in _ (by omega)
  have hwr1 : IntKind.i64.wrap (r - 1) = r - 1 := Go.IntWalk.i64_in _ (by omega)
  have hwc : IntKind.i64.wrap (c - 1) = c - 1 := Go.IntWalk.i64_in _ (by omega)
  have hwn : IntKind.i64.wrap ((srcs.length : Int) - 1) = (srcs.length : Int) - 1 := Go.IntWalk.i64_in _ (by omega)
  have hmax : ∀ L, Ev.builtinQ Try.prog .max #[3, 3] [.int .i64 0, .int .i64 (r - 1)] L = some (.int .i64 (if 0 < r - 1 then r - 1 else 0)) := fun L => by
    simp only [Ev.builtinQ, Ev.V.asInt, Ev.maxL, Option.bind_some, Option.map_some]
  have hmin : ∀ L, Ev.builtinQ Try.prog .min #[3, 3] [.int .i64 4, .int .i64 (if 0 < r - 1 then r - 1 else 0)] L = some (.int .i64 m4) := fun L => by
    rw [← hm4]; simp only [Ev.builtinQ, Ev.V.asInt, Ev.minL, Option.bind_some, Option.map_some]
  generalize (if 0 < r - 1 then r - 1 else 0) = mx at *
  refine ACall.of_body_same Try.func74 rfl ?_
  refine ACode.seq (ACode.regS noT_ok names_ok mix (t' := ?_) (L' := ?_) [0] (by rfl) ?_ ?_)
  rotate_left 2
  · refine sq rfl rfl rfl (by simp [go_sem, X, Try.f74]; rfl) ?_
    rfl
  change ACode _ _ _ _ _ ⟨L.t.set L.next (evB (suCs r c sv g0 g1 g2 g3 g4 ring)), L.next + 1⟩ _
  rw [hA1]
  refine ACode.seq (ACode.regS noT_ok names_ok mix (t' := ?_) (L' := ?_) [0, 1, 2, 3, 4] (by rfl) ?_ ?_)
  rotate_left 2
  · iterate 5 (refine sq rfl rfl rfl (by simp [go_sem, xl, xs, xe, xa, xi, xo, xb, xv, xc, xk, hE1, hlen, Try.f74]; rfl) ?_)
    rfl
  show ACode _ _ (Code.seq c74_1 _) _ _ _ _
  refine ACode.seq ((hregs _ ?_ ?_ ?_).mono ?_)
  · simp [tget_set, argsT]
  · simp [tget_set, argsT]
  · simp [tget_set, argsT]
  rintro y t' d' L' ⟨rfl, rfl, rfl, t0, t3, t4, t5⟩
  have t4' : tget t' 4 = .int .i64 (srcs.length : Int) := by rw [t4]; simp [tget_set]
  clear t4
  show ACode _ _ (Code.seq (Code.region _ _ _) _) _ _ _ _
  refine ACode.seq (ACode.regS (oneT_okP c3) names_ok mix (t' := ?_) (L' := ?_) [0, 1, 2, 3, 4, 5] (by rfl) ?_ ?_)
  rotate_left 2
  · iterate 6 (refine sq rfl rfl rfl (by simp [go_sem, X, t0, t3, hE2, hwr2, oneT_sameP, Try.f74]; rfl) ?_)
    rfl
  refine ACode.seq (ACode.regS (oneT_okP c4) names_ok mix (t' := ?_) (L' := ?_) [0, 1, 2, 3, 4, 5] (by rfl) ?_ ?_)
  rotate_left 2
  · iterate 6 (refine sq rfl rfl rfl (by simp [go_sem, X, t0, t3, hE3, hwc, oneT_sameP, Try.f74]; rfl) ?_)
    rfl
  refine ACode.seq (ACode.regS (oneT_okP c5) names_ok mix (t' := ?_) (L' := ?_) [0, 1, 2, 3, 4, 5, 6, 7, 8, 9] (by rfl) ?_ ?_)
  rotate_left 2
  · iterate 10 (refine sq rfl rfl rfl (by simp [go_sem, xl, xs, xe, xa, xi, xo, xb, xv, xc, xk, t0, t3, t4', hE4, hwr1, hwn, hmax, hmin, oneT_sameP, Try.f74]; rfl) ?_)
    rfl
  refine ACode.seq (ACode.regS noT_ok names_ok mix (t' := ?_) (L' := ?_) [0, 1, 2, 3, 4, 5, 6, 7, 8, 9, 10, 11] (by rfl) ?_ ?_)
  rotate_left 2
  · iterate 12 (refine sq rfl rfl rfl (by simp [go_sem, xl, xs, xe, xa, xi, xo, xb, xq, xv, cellsI, scal1, scal2, scal3, t0, t5, hW5, hW6, hc61, hc62, lowB_eq, happ, Try.f74]; rfl) ?_)
    rfl
  change ACode _ _ _ _ _ ⟨A6.t.set W (wB v6 b5), A6.next⟩ _
  rw [hA6]
  refine ACode.seq (ACode.regS (oneT_okP c7) names_ok mix (t' := ?_) (L' := ?_) [0, 1, 2, 3, 4] (by rfl) ?_ ?_)
  rotate_left 2
  · iterate 5 (refine sq rfl rfl rfl (by simp [go_sem, X, t0, t3, hE6, oneT_sameP, Try.f74]; rfl) ?_)
    rfl
  refine ACode.seq (ACode.regS (oneT_okP c8) names_ok mix (t' := ?_) (L' := ?_) [0, 1, 2, 3, 4, 5, 6] (by rfl) ?_ ?_)
  rotate_left 2
  · iterate 7 (refine sq rfl rfl rfl (by simp [go_sem, X, t0, t3, t4', hE7, oneT_sameP, Try.f74]; rfl) ?_)
    rfl
  refine ACode.seq (ACode.regS noT_ok names_ok mix (t' := ?_) (L' := ?_) [0, 1, 2, 3] (by rfl) ?_ ?_)
  rotate_left 2
  · iterate 4 (refine sq rfl rfl rfl (by simp [go_sem, xl, xs, xe, xa, xi, xo, xb, xv, xc, xk, t0, t3, hE8, hlen, Try.f74]; rfl) ?_)
    rfl
  refine ACode.block (ACode.loop (fun t d B N => d = [] ∧ ∃ i, i ≤ srcs.length ∧ N = srcs.length - i ∧ B = (H i).1 ∧ tget t 0 = .ptr W 0 ∧ tget t 8 = pv ∧ tget t 84 = sv ∧ tget t 85 = .int .i64 (srcs.length : Int) ∧ tget t 86 = .int .i64 (i : Int)) (N := srcs.length)
    ⟨rfl, 0, Nat.zero_le _, by omega, by rw [hH0], by simp [tget_set, t0], by simp [tget_set], by simp [tget_set], by simp [tget_set], by simp [tget_set]⟩ ?_)
  clear t0 t3 t5 t4'
  rintro t1 d B N ⟨rfl, i, hi, rfl, rfl, t0, t8, t84, t85, t86⟩
  refine ACode.seq (ACode.regS noT_ok names_ok mix (t' := ?_) (L' := ?_) [0] (by rfl) ?_ ?_)
  rotate_left 2
  · refine sq rfl rfl rfl (by simp [go_sem, X, t85, t86, Try.f74]; rfl) ?_
    rfl
  refine ACode.seq (ACode.cond (p := (i : Int) < (srcs.length : Int)) (by simp [tget_set, opd]) (fun hil => ACode.skip ?_) (fun hge => ACode.exit ?_))
  rotate_left 1
  ·
    have : i = srcs.length := by omega
    subst this
    exact ⟨.inl rfl, [], rfl, by simp [Try.f74, resVals], rfl⟩
  show ACode _ _ c74_r _ _ _ _
  refine (hR i (by omega) _ ?_ ?_ ?_ ?_ ?_).mono ?_
  · simp [tget_set, t0]
  · simp [tget_set, t8]
  · simp [tget_set, t84]
  · simp [tget_set, t85]
  · simp [tget_set, t86]
  rintro y t2 d2 L2 ⟨rfl, rfl, rfl, u0, u8, u84, u85, u86⟩
  exact ⟨srcs.length - (i + 1), by omega, rfl, i + 1, by omega, rfl, rfl, u0, u8, u84, u85, u86⟩
end Go.Proofs.Ytpfmoolpeecobaa
namespace Go.Proofs.Ytpfmoolpeecobaa
open Go Go.Proofs Go.Proofs.Ytpfmoolpeecobaa.Ev
set_option linter.unusedVariables false
set_option linter.unusedSimpArgs false
set_option maxRecDepth 100000
set_option maxHeartbeats 4000000

theorem pt107 : tySlice Try.prog 107 = none := by kernel_rfl
section
variable {L : Heap} {W : Nat} {v : V} {bad : Bool} {l : List Int} {sl : Nat} {r c ring g0 g1 g2 g3 g4 : Int} {sv ev : V} {srcs : List SrcG} {evs : List Evt} {ps : List (Int × Int × Int × Int)}
/-- a call of laying$1$1: the setup -/
theorem lay73_ok {S : Nat} (h : Wr L W v bad l sl) (hsl : sl ≤ 1) (hl : l.length ≤ 1000000) (hS : L.t.get S = some (scB (scL r c sv g0 g1 g2 g3 g4 ring ev))) (hSW : S ≠ W) (hSlt : S < L.next)
    (hs : SlP 6 83 srcG L sv srcs) (hap : Ap W v sv) (he : SlP 9 86 evF L ev evs) (hn : srcs.length ≤ 1000) (hps : ps.length ≤ 1000) (hr : -1000 ≤ r ∧ r ≤ 1000) (hc : -1000 ≤ c ∧ c ≤ 1000) (hg : ∀ g ∈ [g0, g1, g2, g3, g4], 0 ≤ g ∧ g ≤ 255)
    (hstr : ∀ B : Heap, ∃ pv B', ACall Try.prog 68 [.int .i64 r, .int .i64 c, .int .i64 (srcs.length : Int)] B pv B' ∧ SlP 4 81 rectV B' pv ps ∧ B.next ≤ B'.next ∧ (∀ n, n < B.next → B'.t.get n = B.t.get n) ∧ ∀ m, nmP pv = some m → B.next ≤ m) :
    ∃ L' v', ACall Try.prog 73 [.ptr W 0, .ptr S 0] L (.tuple []) L' ∧ Wr L' W v' (bad || suBadG r c ring [g0, g1, g2, g3, g4] srcs ps || decide (40 < evs.length)) (l ++ suB r c ring [g0, g1, g2, g3, g4] srcs) 0 ∧ Old W v L L' v' := by
  obtain ⟨A1, v1, c1, w1, o1⟩ := wsetup_ok h hsl hl hs hap hn hps hr hc hg hstr
  have hS1 := o1.at h.row hS hSlt hSW
  generalize hb1 : (bad || suBadG r c ring [g0, g1, g2, g3, g4] srcs ps) = b1 at *
  have w2 := w1.bad (b1 || decide (40 < evs.length))
  refine ⟨_, v1, ?_, w2, o1.trans (Old.put W v1 A1 _)⟩
  have hW1 := w1.cell
  have hcs := w1.row.cells
  have hlen := he.len pt55
  have hst : ∀ b, b = (b1 || decide (40 < evs.length)) → (⟨A1.t.set W (.cells (T.set .leaf 0 [v1, .bool b]) 1 2 false false), A1.next⟩ : Heap) = ⟨A1.t.set W (wB v1 (b1 || decide (40 < evs.length))), A1.next⟩ := fun b e => by rw [e]; rfl
  have hld : Heap.load Try.prog L 54 S 0 = some (.agg (suCs r c sv g0 g1 g2 g3 g4 ring)) := by
    unfold scB scL at hS
    simp [Heap.load, Heap.elem, hS, T.get_set, Ev.part, pa54, ps54, takeN, suCs]
  have hle : Heap.load Try.prog A1 55 S 9 = some ev := by
    unfold scL at hS1
    simp [Heap.load, Heap.elem, hS1, T.get_set, Ev.part, pa55, ps55]
  unfold wB at hW1
  have hlW : Heap.load Try.prog A1 4 W 1 = some (.bool b1) := by simp [Heap.load, Heap.elem, hW1, T.get_set, Ev.part, pa4]
  have hgt : decide ((40 : Int) < (evs.length : Int)) = decide (40 < evs.length) := decide_eq_decide.2 (by omega)
  refine ACall.of_body_same Try.func73 rfl ?_
  refine ACode.seq (ACode.regS (oneT_okP c1) names_ok mix (t' := ?_) (L' := ?_) [0, 1, 2, 3] (by rfl) ?_ ?_)
  rotate_left 2
  · iterate 4 (refine sq rfl rfl rfl (by simp [go_sem, xs, xe, xa, xi, xo, xb, xq, xv, xc, xk, hld, oneT_sameP, Try.f73]; rfl) ?_)
    rfl
  cases b1 with
  | true =>
    refine ACode.regS noT_ok names_ok mix (t' := ?_) (L' := ?_) [0, 1, 2, 3, 4, 5, 6, 7, 8, 9, 10, 11, 12, 13] (by rfl) ?_ ?_
    rotate_left 2
    · iterate 6 (refine sq rfl rfl rfl (by simp [go_sem, xs, xe, xa, xi, xo, xb, xv, xc, xk, hW1, hlW, hcs, Try.f73]; rfl) ?_)
      iterate 4 (refine sk rfl rfl (by simp [go_sem, xs, xe, xa, xi, xo, xb, xv, xc, xk, hW1, hlW, hcs, Try.f73]) ?_)
      iterate 4 (refine sq rfl rfl rfl (by simp [go_sem, xs, xe, xa, xi, xo, xb, xv, xc, xk, hW1, hlW, hcs, Try.f73]; rfl) ?_)
      rfl
    exact ⟨.inl rfl, [], by rw [hst true rfl]; rfl, by simp [Try.f73, resVals], rfl⟩
  | false =>
    refine ACode.regS noT_ok names_ok mix (t' := ?_) (L' := ?_) [0, 1, 2, 3, 4, 5, 6, 7, 8, 9, 10, 11, 12, 13] (by rfl) ?_ ?_
    rotate_left 2
    · iterate 6 (refine sq rfl rfl rfl (by simp [go_sem, xs, xe, xa, xi, xo, xb, xv, xc, xk, hW1, hlW, hle, hlen, hcs, Try.f73]; rfl) ?_)
      iterate 4 (refine sq rfl rfl (by simp [go_sem, xs, xe, xa, xi, xo, xb, xv, xc, xk, hW1, hlW, hle, hlen, hcs, Try.f73]) (by simp [go_sem, xs, xe, xa, xi, xo, xb, xv, xc, xk, hW1, hlW, hle, hlen, hcs, Try.f73]; rfl) ?_)
      iterate 4 (refine sq rfl rfl rfl (by simp [go_sem, xs, xe, xa, xi, xo, xb, xv, xc, xk, hW1, hlW, hle, hlen, hcs, Try.f73]; rfl) ?_)
      rfl
    exact ⟨.inl rfl, [], by rw [hst _ (by simpa using hgt)]; rfl, by simp [Try.f73, resVals], rfl⟩
/-- of laying$1$2: an event -/
theorem lay75_ok {X : Nat} {e : Evt} (h : Wr L W v bad l sl) (hsl : sl ≤ 1) (hl : l.length ≤ 1000000) (hX : L.t.get X = some (evB (evF e))) (hr : EvR e) :
    ∃ L' v' sl', ACall Try.prog 75 [.ptr W 0, .ptr X 0] L (.tuple []) L' ∧ Wr L' W v' (bad || wBad e) (l ++ wBytes e) sl' ∧ sl' ≤ 1 ∧ Old W v L L' v' := by
  obtain ⟨L', v', sl', c1, w1, s1, o1⟩ := wevent_ok h hsl hr hl
  refine ⟨L', v', sl', ?_, w1, s1, o1⟩
  have hld : Heap.load Try.prog L 86 X 0 = some (.agg (evF e)) := by
    unfold evB evF at hX
    simp [Heap.load, Heap.elem, hX, T.get_set, Ev.part, pa86, ps86, takeN, evF]
  refine ACall.of_body_same Try.func75 rfl ?_
  refine ACode.regS (oneT_okP c1) names_ok mix (t' := ?_) (L' := ?_) [0, 1, 2] (by rfl) ?_ ?_
  rotate_left 2
  · iterate 3 (refine sq rfl rfl rfl (by simp [go_sem, xs, xe, xa, xi, xo, xb, xq, xv, xc, xk, hld, oneT_sameP, Try.f75]; rfl) ?_)
    rfl
  exact ⟨.inl rfl, [], rfl, by simp [Try.f75, resVals], rfl⟩
theorem ofVal_nilf : Ev.ofVal .nilFunc = some .nilf := rfl
theorem laying_ok (L : Heap) (cs : List V) (hcs : cs.length = 10) : ACall Try.prog 50 [.agg cs] L (.func 72 [] [.ptr L.next 0]) ⟨L.t.set L.next (scB cs), L.next + 1⟩ := by
  have hb : scB cs = .cells (T.set .leaf 0 cs) 1 cs.length false false := by rw [hcs]; rfl
  rw [hb]
  refine ACall.of_body_same Try.func50 rfl ?_
  refine ACode.seq (ACode.regS noT_ok names_ok mix (t' := ?_) (L' := ?_) [0, 1] (by rfl) ?_ ?_)
  rotate_left 2
  · iterate 2 (refine sq rfl rfl rfl (by simp [go_sem, X, ofVal_nilf, Try.f50]; rfl) ?_)
    rfl
  refine ACode.seq (ACode.regS noT_ok names_ok mix (t' := ?_) (L' := ?_) [0, 1] (by rfl) ?_ ?_)
  rotate_left 2
  · iterate 2 (refine sq rfl rfl rfl (by simp [go_sem, X, Try.f50]; rfl) ?_)
    rfl
  exact ACode.ret ⟨.inr rfl, [_], rfl, by simp [Try.f50, resVals, tget_set], rfl⟩
end
end Go.Proofs.Ytpfmoolpeecobaa
