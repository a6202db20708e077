/- - -/
import Derived.Test.YtpfmoolpeecobaaU21
namespace Go.Proofs.Ytpfmoolpeecobaa
open Go Go.Proofs Go.Proofs.Ytpfmoolpeecobaa.Ev
set_option linter.unusedVariables false
set_option linter.unusedSimpArgs false
set_option maxRecDepth 100000
set_option maxHeartbeats 4000000

theorem lists_ne {α : Type} {la lb : List α} {i : Nat} {x y : α} (ha : la[i]? = some x) (hb : lb[i]? = some y) (h : x ≠ y) : la ≠ lb := by
  rintro rfl
  rw [ha] at hb
  injection hb with hb
  exact h hb
theorem rsame_ok {L : Heap} {a b : Scr} {s1 s2 e1 e2 : V} (ha : ScS L a s1 e1) (hb : ScS L b s2 e2) : ACall Try.prog 36 [.agg (a.cs s1 e1), .agg (b.cs s2 e2)] L (.bool (decide (a = b))) L := by
  have hdec := Scr.dec a b
  have q1 := ha.hs.scal
  have q2 := hb.hs.scal
  have qe1 := ha.he.scal
  have qe2 := hb.he.scal
  refine ACall.of_body Try.func36 rfl ?_
  unfold Scr.cs scL
  refine ACode.seq (ACode.regS noT_ok names_ok mix (t' := ?_) (L' := ?_) [0, 1, 2] (by rfl) ?_ ?_)
  rotate_left 2
  · iterate 3 (refine sq rfl rfl rfl (by simp [go_sem, X, Try.f36]; rfl) ?_)
    rfl
  refine ACode.seq (ACode.regD noT_ok names_ok mix (t' := ?_) (L' := ?_) [0,1,0,4,0,0,51,127] [0,1,2,3,4,5,6,7] (by decide +kernel) (by decide +kernel) (by decide +kernel) ?_ ?_)
  rotate_left 2
  · refine dq rfl rfl rfl rfl (by simp [go_sem, xl, xs, xe, xa, xi, xo, xb, xq, xv, xc, q1, q2, scal1, scal2, scal3, Try.f36]; rfl) ?_
    refine dr rfl rfl rfl rfl (by simp [go_sem, xl, xs, xe, xa, xi, xo, xb, xq, xv, xc, q1, q2, scal1, scal2, scal3, Try.f36]; rfl) ?_
    refine dq rfl rfl rfl rfl (by simp [go_sem, xl, xs, xe, xa, xi, xo, xb, xq, xv, xc, q1, q2, scal1, scal2, scal3, Try.f36]; rfl) ?_
    refine dr rfl rfl rfl rfl (by simp [go_sem, xl, xs, xe, xa, xi, xo, xb, xq, xv, xc, q1, q2, scal1, scal2, scal3, Try.f36]; rfl) ?_
    iterate 2 (refine dm rfl rfl rfl rfl (by simp [go_sem, xl, xs, xe, xa, xi, xo, xb, xq, xv, xc, q1, q2, scal1, scal2, scal3, Try.f36]; rfl) ?_)
    iterate 2 (refine dl rfl rfl rfl rfl (by simp [go_sem, xl, xs, xe, xa, xi, xo, xb, xq, xv, xc, q1, q2, scal1, scal2, scal3, Try.f36]; rfl) (by rfl) (by simp [go_sem, xl, xs, xe, xa, xi, xo, xb, xq, xv, xc, q1, q2, scal1, scal2, scal3, Try.f36]) ?_)
    rfl
  change ACode _ _ _ _ _ (smA L (a.cs s1 e1) (b.cs s2 e2) (a.su s1) (b.su s2)) _
  obtain ⟨b1, b2, b3, b4, old⟩ := smA_get L (a.cs s1 e1) (b.cs s2 e2) (a.su s1) (b.su s2)
  have nA : L.next + 4 = (smA L (a.cs s1 e1) (b.cs s2 e2) (a.su s1) (b.su s2)).next := rfl
  generalize smA L (a.cs s1 e1) (b.cs s2 e2) (a.su s1) (b.su s2) = A at *
  have ha2 := ha.keep (by omega) old
  have hb2 := hb.keep (by omega) old
  unfold scB Scr.cs scL at b1 b2
  unfold evB Scr.su suCs at b3 b4
  have hl0 : Heap.load Try.prog A 3 (L.next + 2) 0 = some (.int .i64 a.r) := by simp [Heap.load, Heap.elem, b3, T.get_set, Ev.part, pa3]
  have hl1 : Heap.load Try.prog A 3 (L.next + 2) 1 = some (.int .i64 a.c) := by simp [Heap.load, Heap.elem, b3, T.get_set, Ev.part, pa3]
  have hl2 : Heap.load Try.prog A 50 (L.next + 2) 2 = some s1 := by simp [Heap.load, Heap.elem, b3, T.get_set, Ev.part, pa50]
  have hl3 : Heap.load Try.prog A 52 (L.next + 2) 3 = some (.agg [.int .u8 a.g0, .int .u8 a.g1, .int .u8 a.g2, .int .u8 a.g3, .int .u8 a.g4]) := by simp [Heap.load, Heap.elem, b3, T.get_set, Ev.part, pa52, ps52, takeN]
  have hl4 : Heap.load Try.prog A 3 (L.next + 2) 8 = some (.int .i64 a.ring) := by simp [Heap.load, Heap.elem, b3, T.get_set, Ev.part, pa3]
  have hr0 : Heap.load Try.prog A 3 (L.next + 3) 0 = some (.int .i64 b.r) := by simp [Heap.load, Heap.elem, b4, T.get_set, Ev.part, pa3]
  have hr1 : Heap.load Try.prog A 3 (L.next + 3) 1 = some (.int .i64 b.c) := by simp [Heap.load, Heap.elem, b4, T.get_set, Ev.part, pa3]
  have hr2 : Heap.load Try.prog A 50 (L.next + 3) 2 = some s2 := by simp [Heap.load, Heap.elem, b4, T.get_set, Ev.part, pa50]
  have hr3 : Heap.load Try.prog A 52 (L.next + 3) 3 = some (.agg [.int .u8 b.g0, .int .u8 b.g1, .int .u8 b.g2, .int .u8 b.g3, .int .u8 b.g4]) := by simp [Heap.load, Heap.elem, b4, T.get_set, Ev.part, pa52, ps52, takeN]
  have hr4 : Heap.load Try.prog A 3 (L.next + 3) 8 = some (.int .i64 b.ring) := by simp [Heap.load, Heap.elem, b4, T.get_set, Ev.part, pa3]
  have hle : Heap.load Try.prog A 55 L.next 9 = some e1 := by simp [Heap.load, Heap.elem, b1, T.get_set, Ev.part, pa55]
  have hre : Heap.load Try.prog A 55 (L.next + 1) 9 = some e2 := by simp [Heap.load, Heap.elem, b2, T.get_set, Ev.part, pa55]
  have hev := ev52g false a.g0 a.g1 a.g2 a.g3 a.g4 b.g0 b.g1 b.g2 b.g3 b.g4
  generalize [V.int .u8 a.g0, .int .u8 a.g1, .int .u8 a.g2, .int .u8 a.g3, .int .u8 a.g4] = ga at *
  generalize [V.int .u8 b.g0, .int .u8 b.g1, .int .u8 b.g2, .int .u8 b.g3, .int .u8 b.g4] = gb at *
  have lsa := ha2.hs.len pt50
  have lsb := hb2.hs.len pt50
  have lea := ha2.he.len pt55
  have leb := hb2.he.len pt55
  have hls := ha.ls
  have hle2 := ha.le
  refine ACode.seq ?_
  by_cases c0 : a.r = b.r
  rotate_left 1
  ·
    have hno : decide (a.r = b.r ∧ a.c = b.c ∧ (a.g0 = b.g0 ∧ a.g1 = b.g1 ∧ a.g2 = b.g2 ∧ a.g3 = b.g3 ∧ a.g4 = b.g4) ∧ a.ring = b.ring ∧ a.srcs = b.srcs ∧ a.evs = b.evs) = false := decide_eq_false fun h => c0 h.1
    refine ACode.seq (ACode.regS noT_ok names_ok mix (t' := ?_) (L' := ?_) [0, 1, 2, 3, 4, 5, 6, 7, 8, 9, 10, 11, 12, 13, 14, 15, 16, 17, 18, 19, 20, 21, 22, 23, 24, 25, 26, 27, 28, 29, 30, 31, 32, 33, 34, 35, 36, 37, 38, 39, 40, 41, 42, 43] (by rfl) ?_ ?_)
    rotate_left 2
    · iterate 6 (refine sq rfl rfl rfl (by simp [go_sem, xs, xe, xa, xi, xo, xb, xv, xc, xk, hl0, hl1, hl2, hl3, hl4, hr0, hr1, hr2, hr3, hr4, hle, hre, c0, hev, lsa, lsb, lea, leb, Try.f36]; rfl) ?_)
      iterate 5 (refine sk rfl rfl (by simp [go_sem, xs, xe, xa, xi, xo, xb, xv, xc, xk, hl0, hl1, hl2, hl3, hl4, hr0, hr1, hr2, hr3, hr4, hle, hre, c0, hev, lsa, lsb, lea, leb, Try.f36]) ?_)
      iterate 2 (refine sq rfl rfl rfl (by simp [go_sem, xs, xe, xa, xi, xo, xb, xv, xc, xk, hl0, hl1, hl2, hl3, hl4, hr0, hr1, hr2, hr3, hr4, hle, hre, c0, hev, lsa, lsb, lea, leb, Try.f36]; rfl) ?_)
      iterate 5 (refine sk rfl rfl (by simp [go_sem, xs, xe, xa, xi, xo, xb, xv, xc, xk, hl0, hl1, hl2, hl3, hl4, hr0, hr1, hr2, hr3, hr4, hle, hre, c0, hev, lsa, lsb, lea, leb, Try.f36]) ?_)
      iterate 2 (refine sq rfl rfl rfl (by simp [go_sem, xs, xe, xa, xi, xo, xb, xv, xc, xk, hl0, hl1, hl2, hl3, hl4, hr0, hr1, hr2, hr3, hr4, hle, hre, c0, hev, lsa, lsb, lea, leb, Try.f36]; rfl) ?_)
      iterate 5 (refine sk rfl rfl (by simp [go_sem, xs, xe, xa, xi, xo, xb, xv, xc, xk, hl0, hl1, hl2, hl3, hl4, hr0, hr1, hr2, hr3, hr4, hle, hre, c0, hev, lsa, lsb, lea, leb, Try.f36]) ?_)
      iterate 2 (refine sq rfl rfl rfl (by simp [go_sem, xs, xe, xa, xi, xo, xb, xv, xc, xk, hl0, hl1, hl2, hl3, hl4, hr0, hr1, hr2, hr3, hr4, hle, hre, c0, hev, lsa, lsb, lea, leb, Try.f36]; rfl) ?_)
      iterate 7 (refine sk rfl rfl (by simp [go_sem, xs, xe, xa, xi, xo, xb, xv, xc, xk, hl0, hl1, hl2, hl3, hl4, hr0, hr1, hr2, hr3, hr4, hle, hre, c0, hev, lsa, lsb, lea, leb, Try.f36]) ?_)
      iterate 2 (refine sq rfl rfl rfl (by simp [go_sem, xs, xe, xa, xi, xo, xb, xv, xc, xk, hl0, hl1, hl2, hl3, hl4, hr0, hr1, hr2, hr3, hr4, hle, hre, c0, hev, lsa, lsb, lea, leb, Try.f36]; rfl) ?_)
      iterate 7 (refine sk rfl rfl (by simp [go_sem, xs, xe, xa, xi, xo, xb, xv, xc, xk, hl0, hl1, hl2, hl3, hl4, hr0, hr1, hr2, hr3, hr4, hle, hre, c0, hev, lsa, lsb, lea, leb, Try.f36]) ?_)
      refine sq rfl rfl rfl (by simp [go_sem, xs, xe, xa, xi, xo, xb, xv, xc, xk, hl0, hl1, hl2, hl3, hl4, hr0, hr1, hr2, hr3, hr4, hle, hre, c0, hev, lsa, lsb, lea, leb, Try.f36]; rfl) ?_
      rfl
    refine ACode.condT (by simp [tget_set, opd]) ?_
    refine ACode.seq (ACode.regS noT_ok names_ok mix (t' := ?_) (L' := ?_) [0] (by rfl) ?_ ?_)
    rotate_left 2
    · refine sq rfl rfl rfl (by simp [go_sem, X, Try.f36]; rfl) ?_
      rfl
    refine ACode.ret ⟨.inr rfl, _, [.bool false], [], rfl, by simp [Try.f36, resVals, tget_set], Tidy.zero old, fun κ1 z hz => ?_⟩
    rw [hdec, hno]
    exact VR_plain (κ := κ1) _ _ rfl hz
  by_cases c1 : a.c = b.c
  rotate_left 1
  ·
    have hno : decide (a.r = b.r ∧ a.c = b.c ∧ (a.g0 = b.g0 ∧ a.g1 = b.g1 ∧ a.g2 = b.g2 ∧ a.g3 = b.g3 ∧ a.g4 = b.g4) ∧ a.ring = b.ring ∧ a.srcs = b.srcs ∧ a.evs = b.evs) = false := decide_eq_false fun h => c1 h.2.1
    refine ACode.seq (ACode.regS noT_ok names_ok mix (t' := ?_) (L' := ?_) [0, 1, 2, 3, 4, 5, 6, 7, 8, 9, 10, 11, 12, 13, 14, 15, 16, 17, 18, 19, 20, 21, 22, 23, 24, 25, 26, 27, 28, 29, 30, 31, 32, 33, 34, 35, 36, 37, 38, 39, 40, 41, 42, 43] (by rfl) ?_ ?_)
    rotate_left 2
    · iterate 6 (refine sq rfl rfl rfl (by simp [go_sem, xs, xe, xa, xi, xo, xb, xv, xc, xk, hl0, hl1, hl2, hl3, hl4, hr0, hr1, hr2, hr3, hr4, hle, hre, c0, c1, hev, lsa, lsb, lea, leb, Try.f36]; rfl) ?_)
      iterate 5 (refine sq rfl rfl (by simp [go_sem, xs, xe, xa, xi, xo, xb, xv, xc, xk, hl0, hl1, hl2, hl3, hl4, hr0, hr1, hr2, hr3, hr4, hle, hre, c0, c1, hev, lsa, lsb, lea, leb, Try.f36]) (by simp [go_sem, xs, xe, xa, xi, xo, xb, xv, xc, xk, hl0, hl1, hl2, hl3, hl4, hr0, hr1, hr2, hr3, hr4, hle, hre, c0, c1, hev, lsa, lsb, lea, leb, Try.f36]; rfl) ?_)
      iterate 2 (refine sq rfl rfl rfl (by simp [go_sem, xs, xe, xa, xi, xo, xb, xv, xc, xk, hl0, hl1, hl2, hl3, hl4, hr0, hr1, hr2, hr3, hr4, hle, hre, c0, c1, hev, lsa, lsb, lea, leb, Try.f36]; rfl) ?_)
      iterate 5 (refine sk rfl rfl (by simp [go_sem, xs, xe, xa, xi, xo, xb, xv, xc, xk, hl0, hl1, hl2, hl3, hl4, hr0, hr1, hr2, hr3, hr4, hle, hre, c0, c1, hev, lsa, lsb, lea, leb, Try.f36]) ?_)
      iterate 2 (refine sq rfl rfl rfl (by simp [go_sem, xs, xe, xa, xi, xo, xb, xv, xc, xk, hl0, hl1, hl2, hl3, hl4, hr0, hr1, hr2, hr3, hr4, hle, hre, c0, c1, hev, lsa, lsb, lea, leb, Try.f36]; rfl) ?_)
      iterate 5 (refine sk rfl rfl (by simp [go_sem, xs, xe, xa, xi, xo, xb, xv, xc, xk, hl0, hl1, hl2, hl3, hl4, hr0, hr1, hr2, hr3, hr4, hle, hre, c0, c1, hev, lsa, lsb, lea, leb, Try.f36]) ?_)
      iterate 2 (refine sq rfl rfl rfl (by simp [go_sem, xs, xe, xa, xi, xo, xb, xv, xc, xk, hl0, hl1, hl2, hl3, hl4, hr0, hr1, hr2, hr3, hr4, hle, hre, c0, c1, hev, lsa, lsb, lea, leb, Try.f36]; rfl) ?_)
      iterate 7 (refine sk rfl rfl (by simp [go_sem, xs, xe, xa, xi, xo, xb, xv, xc, xk, hl0, hl1, hl2, hl3, hl4, hr0, hr1, hr2, hr3, hr4, hle, hre, c0, c1, hev, lsa, lsb, lea, leb, Try.f36]) ?_)
      iterate 2 (refine sq rfl rfl rfl (by simp [go_sem, xs, xe, xa, xi, xo, xb, xv, xc, xk, hl0, hl1, hl2, hl3, hl4, hr0, hr1, hr2, hr3, hr4, hle, hre, c0, c1, hev, lsa, lsb, lea, leb, Try.f36]; rfl) ?_)
      iterate 7 (refine sk rfl rfl (by simp [go_sem, xs, xe, xa, xi, xo, xb, xv, xc, xk, hl0, hl1, hl2, hl3, hl4, hr0, hr1, hr2, hr3, hr4, hle, hre, c0, c1, hev, lsa, lsb, lea, leb, Try.f36]) ?_)
      refine sq rfl rfl rfl (by simp [go_sem, xs, xe, xa, xi, xo, xb, xv, xc, xk, hl0, hl1, hl2, hl3, hl4, hr0, hr1, hr2, hr3, hr4, hle, hre, c0, c1, hev, lsa, lsb, lea, leb, Try.f36]; rfl) ?_
      rfl
    refine ACode.condT (by simp [tget_set, opd]) ?_
    refine ACode.seq (ACode.regS noT_ok names_ok mix (t' := ?_) (L' := ?_) [0] (by rfl) ?_ ?_)
    rotate_left 2
    · refine sq rfl rfl rfl (by simp [go_sem, X, Try.f36]; rfl) ?_
      rfl
    refine ACode.ret ⟨.inr rfl, _, [.bool false], [], rfl, by simp [Try.f36, resVals, tget_set], Tidy.zero old, fun κ1 z hz => ?_⟩
    rw [hdec, hno]
    exact VR_plain (κ := κ1) _ _ rfl hz
  by_cases c2 : (a.g0 = b.g0 ∧ a.g1 = b.g1 ∧ a.g2 = b.g2 ∧ a.g3 = b.g3 ∧ a.g4 = b.g4)
  rotate_left 1
  ·
    have hno : decide (a.r = b.r ∧ a.c = b.c ∧ (a.g0 = b.g0 ∧ a.g1 = b.g1 ∧ a.g2 = b.g2 ∧ a.g3 = b.g3 ∧ a.g4 = b.g4) ∧ a.ring = b.ring ∧ a.srcs = b.srcs ∧ a.evs = b.evs) = false := decide_eq_false fun h => c2 h.2.2.1
    rw [decide_eq_false c2] at hev
    refine ACode.seq (ACode.regS noT_ok names_ok mix (t' := ?_) (L' := ?_) [0, 1, 2, 3, 4, 5, 6, 7, 8, 9, 10, 11, 12, 13, 14, 15, 16, 17, 18, 19, 20, 21, 22, 23, 24, 25, 26, 27, 28, 29, 30, 31, 32, 33, 34, 35, 36, 37, 38, 39, 40, 41, 42, 43] (by rfl) ?_ ?_)
    rotate_left 2
    · iterate 6 (refine sq rfl rfl rfl (by simp [go_sem, xs, xe, xa, xi, xo, xb, xv, xc, xk, hl0, hl1, hl2, hl3, hl4, hr0, hr1, hr2, hr3, hr4, hle, hre, c0, c1, hev, lsa, lsb, lea, leb, Try.f36]; rfl) ?_)
      iterate 5 (refine sq rfl rfl (by simp [go_sem, xs, xe, xa, xi, xo, xb, xv, xc, xk, hl0, hl1, hl2, hl3, hl4, hr0, hr1, hr2, hr3, hr4, hle, hre, c0, c1, hev, lsa, lsb, lea, leb, Try.f36]) (by simp [go_sem, xs, xe, xa, xi, xo, xb, xv, xc, xk, hl0, hl1, hl2, hl3, hl4, hr0, hr1, hr2, hr3, hr4, hle, hre, c0, c1, hev, lsa, lsb, lea, leb, Try.f36]; rfl) ?_)
      iterate 2 (refine sq rfl rfl rfl (by simp [go_sem, xs, xe, xa, xi, xo, xb, xv, xc, xk, hl0, hl1, hl2, hl3, hl4, hr0, hr1, hr2, hr3, hr4, hle, hre, c0, c1, hev, lsa, lsb, lea, leb, Try.f36]; rfl) ?_)
      iterate 5 (refine sq rfl rfl (by simp [go_sem, xs, xe, xa, xi, xo, xb, xv, xc, xk, hl0, hl1, hl2, hl3, hl4, hr0, hr1, hr2, hr3, hr4, hle, hre, c0, c1, hev, lsa, lsb, lea, leb, Try.f36]) (by simp [go_sem, xs, xe, xa, xi, xo, xb, xv, xc, xk, hl0, hl1, hl2, hl3, hl4, hr0, hr1, hr2, hr3, hr4, hle, hre, c0, c1, hev, lsa, lsb, lea, leb, Try.f36]; rfl) ?_)
      iterate 2 (refine sq rfl rfl rfl (by simp [go_sem, xs, xe, xa, xi, xo, xb, xv, xc, xk, hl0, hl1, hl2, hl3, hl4, hr0, hr1, hr2, hr3, hr4, hle, hre, c0, c1, hev, lsa, lsb, lea, leb, Try.f36]; rfl) ?_)
      iterate 5 (refine sk rfl rfl (by simp [go_sem, xs, xe, xa, xi, xo, xb, xv, xc, xk, hl0, hl1, hl2, hl3, hl4, hr0, hr1, hr2, hr3, hr4, hle, hre, c0, c1, hev, lsa, lsb, lea, leb, Try.f36]) ?_)
      iterate 2 (refine sq rfl rfl rfl (by simp [go_sem, xs, xe, xa, xi, xo, xb, xv, xc, xk, hl0, hl1, hl2, hl3, hl4, hr0, hr1, hr2, hr3, hr4, hle, hre, c0, c1, hev, lsa, lsb, lea, leb, Try.f36]; rfl) ?_)
      iterate 7 (refine sk rfl rfl (by simp [go_sem, xs, xe, xa, xi, xo, xb, xv, xc, xk, hl0, hl1, hl2, hl3, hl4, hr0, hr1, hr2, hr3, hr4, hle, hre, c0, c1, hev, lsa, lsb, lea, leb, Try.f36]) ?_)
      iterate 2 (refine sq rfl rfl rfl (by simp [go_sem, xs, xe, xa, xi, xo, xb, xv, xc, xk, hl0, hl1, hl2, hl3, hl4, hr0, hr1, hr2, hr3, hr4, hle, hre, c0, c1, hev, lsa, lsb, lea, leb, Try.f36]; rfl) ?_)
      iterate 7 (refine sk rfl rfl (by simp [go_sem, xs, xe, xa, xi, xo, xb, xv, xc, xk, hl0, hl1, hl2, hl3, hl4, hr0, hr1, hr2, hr3, hr4, hle, hre, c0, c1, hev, lsa, lsb, lea, leb, Try.f36]) ?_)
      refine sq rfl rfl rfl (by simp [go_sem, xs, xe, xa, xi, xo, xb, xv, xc, xk, hl0, hl1, hl2, hl3, hl4, hr0, hr1, hr2, hr3, hr4, hle, hre, c0, c1, hev, lsa, lsb, lea, leb, Try.f36]; rfl) ?_
      rfl
    refine ACode.condT (by simp [tget_set, opd]) ?_
    refine ACode.seq (ACode.regS noT_ok names_ok mix (t' := ?_) (L' := ?_) [0] (by rfl) ?_ ?_)
    rotate_left 2
    · refine sq rfl rfl rfl (by simp [go_sem, X, Try.f36]; rfl) ?_
      rfl
    refine ACode.ret ⟨.inr rfl, _, [.bool false], [], rfl, by simp [Try.f36, resVals, tget_set], Tidy.zero old, fun κ1 z hz => ?_⟩
    rw [hdec, hno]
    exact VR_plain (κ := κ1) _ _ rfl hz
  by_cases c3 : a.ring = b.ring
  rotate_left 1
  ·
    have hno : decide (a.r = b.r ∧ a.c = b.c ∧ (a.g0 = b.g0 ∧ a.g1 = b.g1 ∧ a.g2 = b.g2 ∧ a.g3 = b.g3 ∧ a.g4 = b.g4) ∧ a.ring = b.ring ∧ a.srcs = b.srcs ∧ a.evs = b.evs) = false := decide_eq_false fun h => c3 h.2.2.2.1
    rw [decide_eq_true c2] at hev
    refine ACode.seq (ACode.regS noT_ok names_ok mix (t' := ?_) (L' := ?_) [0, 1, 2, 3, 4, 5, 6, 7, 8, 9, 10, 11, 12, 13, 14, 15, 16, 17, 18, 19, 20, 21, 22, 23, 24, 25, 26, 27, 28, 29, 30, 31, 32, 33, 34, 35, 36, 37, 38, 39, 40, 41, 42, 43] (by rfl) ?_ ?_)
    rotate_left 2
    · iterate 6 (refine sq rfl rfl rfl (by simp [go_sem, xs, xe, xa, xi, xo, xb, xv, xc, xk, hl0, hl1, hl2, hl3, hl4, hr0, hr1, hr2, hr3, hr4, hle, hre, c0, c1, c3, hev, lsa, lsb, lea, leb, Try.f36]; rfl) ?_)
      iterate 5 (refine sq rfl rfl (by simp [go_sem, xs, xe, xa, xi, xo, xb, xv, xc, xk, hl0, hl1, hl2, hl3, hl4, hr0, hr1, hr2, hr3, hr4, hle, hre, c0, c1, c3, hev, lsa, lsb, lea, leb, Try.f36]) (by simp [go_sem, xs, xe, xa, xi, xo, xb, xv, xc, xk, hl0, hl1, hl2, hl3, hl4, hr0, hr1, hr2, hr3, hr4, hle, hre, c0, c1, c3, hev, lsa, lsb, lea, leb, Try.f36]; rfl) ?_)
      iterate 2 (refine sq rfl rfl rfl (by simp [go_sem, xs, xe, xa, xi, xo, xb, xv, xc, xk, hl0, hl1, hl2, hl3, hl4, hr0, hr1, hr2, hr3, hr4, hle, hre, c0, c1, c3, hev, lsa, lsb, lea, leb, Try.f36]; rfl) ?_)
      iterate 5 (refine sq rfl rfl (by simp [go_sem, xs, xe, xa, xi, xo, xb, xv, xc, xk, hl0, hl1, hl2, hl3, hl4, hr0, hr1, hr2, hr3, hr4, hle, hre, c0, c1, c3, hev, lsa, lsb, lea, leb, Try.f36]) (by simp [go_sem, xs, xe, xa, xi, xo, xb, xv, xc, xk, hl0, hl1, hl2, hl3, hl4, hr0, hr1, hr2, hr3, hr4, hle, hre, c0, c1, c3, hev, lsa, lsb, lea, leb, Try.f36]; rfl) ?_)
      iterate 2 (refine sq rfl rfl rfl (by simp [go_sem, xs, xe, xa, xi, xo, xb, xv, xc, xk, hl0, hl1, hl2, hl3, hl4, hr0, hr1, hr2, hr3, hr4, hle, hre, c0, c1, c3, hev, lsa, lsb, lea, leb, Try.f36]; rfl) ?_)
      iterate 5 (refine sq rfl rfl (by simp [go_sem, xs, xe, xa, xi, xo, xb, xv, xc, xk, hl0, hl1, hl2, hl3, hl4, hr0, hr1, hr2, hr3, hr4, hle, hre, c0, c1, c3, hev, lsa, lsb, lea, leb, Try.f36]) (by simp [go_sem, xs, xe, xa, xi, xo, xb, xv, xc, xk, hl0, hl1, hl2, hl3, hl4, hr0, hr1, hr2, hr3, hr4, hle, hre, c0, c1, c3, hev, lsa, lsb, lea, leb, Try.f36]; rfl) ?_)
      iterate 2 (refine sq rfl rfl rfl (by simp [go_sem, xs, xe, xa, xi, xo, xb, xv, xc, xk, hl0, hl1, hl2, hl3, hl4, hr0, hr1, hr2, hr3, hr4, hle, hre, c0, c1, c3, hev, lsa, lsb, lea, leb, Try.f36]; rfl) ?_)
      iterate 7 (refine sk rfl rfl (by simp [go_sem, xs, xe, xa, xi, xo, xb, xv, xc, xk, hl0, hl1, hl2, hl3, hl4, hr0, hr1, hr2, hr3, hr4, hle, hre, c0, c1, c3, hev, lsa, lsb, lea, leb, Try.f36]) ?_)
      iterate 2 (refine sq rfl rfl rfl (by simp [go_sem, xs, xe, xa, xi, xo, xb, xv, xc, xk, hl0, hl1, hl2, hl3, hl4, hr0, hr1, hr2, hr3, hr4, hle, hre, c0, c1, c3, hev, lsa, lsb, lea, leb, Try.f36]; rfl) ?_)
      iterate 7 (refine sk rfl rfl (by simp [go_sem, xs, xe, xa, xi, xo, xb, xv, xc, xk, hl0, hl1, hl2, hl3, hl4, hr0, hr1, hr2, hr3, hr4, hle, hre, c0, c1, c3, hev, lsa, lsb, lea, leb, Try.f36]) ?_)
      refine sq rfl rfl rfl (by simp [go_sem, xs, xe, xa, xi, xo, xb, xv, xc, xk, hl0, hl1, hl2, hl3, hl4, hr0, hr1, hr2, hr3, hr4, hle, hre, c0, c1, c3, hev, lsa, lsb, lea, leb, Try.f36]; rfl) ?_
      rfl
    refine ACode.condT (by simp [tget_set, opd]) ?_
    refine ACode.seq (ACode.regS noT_ok names_ok mix (t' := ?_) (L' := ?_) [0] (by rfl) ?_ ?_)
    rotate_left 2
    · refine sq rfl rfl rfl (by simp [go_sem, X, Try.f36]; rfl) ?_
      rfl
    refine ACode.ret ⟨.inr rfl, _, [.bool false], [], rfl, by simp [Try.f36, resVals, tget_set], Tidy.zero old, fun κ1 z hz => ?_⟩
    rw [hdec, hno]
    exact VR_plain (κ := κ1) _ _ rfl hz
  by_cases c4 : a.srcs.length = b.srcs.length
  rotate_left 1
  ·
    have hno : decide (a.r = b.r ∧ a.c = b.c ∧ (a.g0 = b.g0 ∧ a.g1 = b.g1 ∧ a.g2 = b.g2 ∧ a.g3 = b.g3 ∧ a.g4 = b.g4) ∧ a.ring = b.ring ∧ a.srcs = b.srcs ∧ a.evs = b.evs) = false := decide_eq_false fun h => c4 (by rw [h.2.2.2.2.1])
    rw [decide_eq_true c2] at hev
    have hc4 : ¬ (a.srcs.length : Int) = (b.srcs.length : Int) := by omega
    refine ACode.seq (ACode.regS noT_ok names_ok mix (t' := ?_) (L' := ?_) [0, 1, 2, 3, 4, 5, 6, 7, 8, 9, 10, 11, 12, 13, 14, 15, 16, 17, 18, 19, 20, 21, 22, 23, 24, 25, 26, 27, 28, 29, 30, 31, 32, 33, 34, 35, 36, 37, 38, 39, 40, 41, 42, 43] (by rfl) ?_ ?_)
    rotate_left 2
    · iterate 6 (refine sq rfl rfl rfl (by simp [go_sem, xs, xe, xa, xi, xo, xb, xv, xc, xk, hl0, hl1, hl2, hl3, hl4, hr0, hr1, hr2, hr3, hr4, hle, hre, c0, c1, c3, hc4, hev, lsa, lsb, lea, leb, Try.f36]; rfl) ?_)
      iterate 5 (refine sq rfl rfl (by simp [go_sem, xs, xe, xa, xi, xo, xb, xv, xc, xk, hl0, hl1, hl2, hl3, hl4, hr0, hr1, hr2, hr3, hr4, hle, hre, c0, c1, c3, hc4, hev, lsa, lsb, lea, leb, Try.f36]) (by simp [go_sem, xs, xe, xa, xi, xo, xb, xv, xc, xk, hl0, hl1, hl2, hl3, hl4, hr0, hr1, hr2, hr3, hr4, hle, hre, c0, c1, c3, hc4, hev, lsa, lsb, lea, leb, Try.f36]; rfl) ?_)
      iterate 2 (refine sq rfl rfl rfl (by simp [go_sem, xs, xe, xa, xi, xo, xb, xv, xc, xk, hl0, hl1, hl2, hl3, hl4, hr0, hr1, hr2, hr3, hr4, hle, hre, c0, c1, c3, hc4, hev, lsa, lsb, lea, leb, Try.f36]; rfl) ?_)
      iterate 5 (refine sq rfl rfl (by simp [go_sem, xs, xe, xa, xi, xo, xb, xv, xc, xk, hl0, hl1, hl2, hl3, hl4, hr0, hr1, hr2, hr3, hr4, hle, hre, c0, c1, c3, hc4, hev, lsa, lsb, lea, leb, Try.f36]) (by simp [go_sem, xs, xe, xa, xi, xo, xb, xv, xc, xk, hl0, hl1, hl2, hl3, hl4, hr0, hr1, hr2, hr3, hr4, hle, hre, c0, c1, c3, hc4, hev, lsa, lsb, lea, leb, Try.f36]; rfl) ?_)
      iterate 2 (refine sq rfl rfl rfl (by simp [go_sem, xs, xe, xa, xi, xo, xb, xv, xc, xk, hl0, hl1, hl2, hl3, hl4, hr0, hr1, hr2, hr3, hr4, hle, hre, c0, c1, c3, hc4, hev, lsa, lsb, lea, leb, Try.f36]; rfl) ?_)
      iterate 5 (refine sq rfl rfl (by simp [go_sem, xs, xe, xa, xi, xo, xb, xv, xc, xk, hl0, hl1, hl2, hl3, hl4, hr0, hr1, hr2, hr3, hr4, hle, hre, c0, c1, c3, hc4, hev, lsa, lsb, lea, leb, Try.f36]) (by simp [go_sem, xs, xe, xa, xi, xo, xb, xv, xc, xk, hl0, hl1, hl2, hl3, hl4, hr0, hr1, hr2, hr3, hr4, hle, hre, c0, c1, c3, hc4, hev, lsa, lsb, lea, leb, Try.f36]; rfl) ?_)
      iterate 2 (refine sq rfl rfl rfl (by simp [go_sem, xs, xe, xa, xi, xo, xb, xv, xc, xk, hl0, hl1, hl2, hl3, hl4, hr0, hr1, hr2, hr3, hr4, hle, hre, c0, c1, c3, hc4, hev, lsa, lsb, lea, leb, Try.f36]; rfl) ?_)
      iterate 7 (refine sq rfl rfl (by simp [go_sem, xs, xe, xa, xi, xo, xb, xv, xc, xk, hl0, hl1, hl2, hl3, hl4, hr0, hr1, hr2, hr3, hr4, hle, hre, c0, c1, c3, hc4, hev, lsa, lsb, lea, leb, Try.f36]) (by simp [go_sem, xs, xe, xa, xi, xo, xb, xv, xc, xk, hl0, hl1, hl2, hl3, hl4, hr0, hr1, hr2, hr3, hr4, hle, hre, c0, c1, c3, hc4, hev, lsa, lsb, lea, leb, Try.f36]; rfl) ?_)
      iterate 2 (refine sq rfl rfl rfl (by simp [go_sem, xs, xe, xa, xi, xo, xb, xv, xc, xk, hl0, hl1, hl2, hl3, hl4, hr0, hr1, hr2, hr3, hr4, hle, hre, c0, c1, c3, hc4, hev, lsa, lsb, lea, leb, Try.f36]; rfl) ?_)
      iterate 7 (refine sk rfl rfl (by simp [go_sem, xs, xe, xa, xi, xo, xb, xv, xc, xk, hl0, hl1, hl2, hl3, hl4, hr0, hr1, hr2, hr3, hr4, hle, hre, c0, c1, c3, hc4, hev, lsa, lsb, lea, leb, Try.f36]) ?_)
      refine sq rfl rfl rfl (by simp [go_sem, xs, xe, xa, xi, xo, xb, xv, xc, xk, hl0, hl1, hl2, hl3, hl4, hr0, hr1, hr2, hr3, hr4, hle, hre, c0, c1, c3, hc4, hev, lsa, lsb, lea, leb, Try.f36]; rfl) ?_
      rfl
    refine ACode.condT (by simp [tget_set, opd]) ?_
    refine ACode.seq (ACode.regS noT_ok names_ok mix (t' := ?_) (L' := ?_) [0] (by rfl) ?_ ?_)
    rotate_left 2
    · refine sq rfl rfl rfl (by simp [go_sem, X, Try.f36]; rfl) ?_
      rfl
    refine ACode.ret ⟨.inr rfl, _, [.bool false], [], rfl, by simp [Try.f36, resVals, tget_set], Tidy.zero old, fun κ1 z hz => ?_⟩
    rw [hdec, hno]
    exact VR_plain (κ := κ1) _ _ rfl hz
  by_cases c5 : a.evs.length = b.evs.length
  rotate_left 1
  ·
    have hno : decide (a.r = b.r ∧ a.c = b.c ∧ (a.g0 = b.g0 ∧ a.g1 = b.g1 ∧ a.g2 = b.g2 ∧ a.g3 = b.g3 ∧ a.g4 = b.g4) ∧ a.ring = b.ring ∧ a.srcs = b.srcs ∧ a.evs = b.evs) = false := decide_eq_false fun h => c5 (by rw [h.2.2.2.2.2])
    rw [decide_eq_true c2] at hev
    have hc4 :  (a.srcs.length : Int) = (b.srcs.length : Int) := by omega
    have hc5 : ¬ (a.evs.length : Int) = (b.evs.length : Int) := by omega
    refine ACode.seq (ACode.regS noT_ok names_ok mix (t' := ?_) (L' := ?_) [0, 1, 2, 3, 4, 5, 6, 7, 8, 9, 10, 11, 12, 13, 14, 15, 16, 17, 18, 19, 20, 21, 22, 23, 24, 25, 26, 27, 28, 29, 30, 31, 32, 33, 34, 35, 36, 37, 38, 39, 40, 41, 42, 43] (by rfl) ?_ ?_)
    rotate_left 2
    · iterate 6 (refine sq rfl rfl rfl (by simp [go_sem, xs, xe, xa, xi, xo, xb, xv, xc, xk, hl0, hl1, hl2, hl3, hl4, hr0, hr1, hr2, hr3, hr4, hle, hre, c0, c1, c3, hc4, hc5, hev, lsa, lsb, lea, leb, Try.f36]; rfl) ?_)
      iterate 5 (refine sq rfl rfl (by simp [go_sem, xs, xe, xa, xi, xo, xb, xv, xc, xk, hl0, hl1, hl2, hl3, hl4, hr0, hr1, hr2, hr3, hr4, hle, hre, c0, c1, c3, hc4, hc5, hev, lsa, lsb, lea, leb, Try.f36]) (by simp [go_sem, xs, xe, xa, xi, xo, xb, xv, xc, xk, hl0, hl1, hl2, hl3, hl4, hr0, hr1, hr2, hr3, hr4, hle, hre, c0, c1, c3, hc4, hc5, hev, lsa, lsb, lea, leb, Try.f36]; rfl) ?_)
      iterate 2 (refine sq rfl rfl rfl (by simp [go_sem, xs, xe, xa, xi, xo, xb, xv, xc, xk, hl0, hl1, hl2, hl3, hl4, hr0, hr1, hr2, hr3, hr4, hle, hre, c0, c1, c3, hc4, hc5, hev, lsa, lsb, lea, leb, Try.f36]; rfl) ?_)
      iterate 5 (refine sq rfl rfl (by simp [go_sem, xs, xe, xa, xi, xo, xb, xv, xc, xk, hl0, hl1, hl2, hl3, hl4, hr0, hr1, hr2, hr3, hr4, hle, hre, c0, c1, c3, hc4, hc5, hev, lsa, lsb, lea, leb, Try.f36]) (by simp [go_sem, xs, xe, xa, xi, xo, xb, xv, xc, xk, hl0, hl1, hl2, hl3, hl4, hr0, hr1, hr2, hr3, hr4, hle, hre, c0, c1, c3, hc4, hc5, hev, lsa, lsb, lea, leb, Try.f36]; rfl) ?_)
      iterate 2 (refine sq rfl rfl rfl (by simp [go_sem, xs, xe, xa, xi, xo, xb, xv, xc, xk, hl0, hl1, hl2, hl3, hl4, hr0, hr1, hr2, hr3, hr4, hle, hre, c0, c1, c3, hc4, hc5, hev, lsa, lsb, lea, leb, Try.f36]; rfl) ?_)
      iterate 5 (refine sq rfl rfl (by simp [go_sem, xs, xe, xa, xi, xo, xb, xv, xc, xk, hl0, hl1, hl2, hl3, hl4, hr0, hr1, hr2, hr3, hr4, hle, hre, c0, c1, c3, hc4, hc5, hev, lsa, lsb, lea, leb, Try.f36]) (by simp [go_sem, xs, xe, xa, xi, xo, xb, xv, xc, xk, hl0, hl1, hl2, hl3, hl4, hr0, hr1, hr2, hr3, hr4, hle, hre, c0, c1, c3, hc4, hc5, hev, lsa, lsb, lea, leb, Try.f36]; rfl) ?_)
      iterate 2 (refine sq rfl rfl rfl (by simp [go_sem, xs, xe, xa, xi, xo, xb, xv, xc, xk, hl0, hl1, hl2, hl3, hl4, hr0, hr1, hr2, hr3, hr4, hle, hre, c0, c1, c3, hc4, hc5, hev, lsa, lsb, lea, leb, Try.f36]; rfl) ?_)
      iterate 7 (refine sq rfl rfl (by simp [go_sem, xs, xe, xa, xi, xo, xb, xv, xc, xk, hl0, hl1, hl2, hl3, hl4, hr0, hr1, hr2, hr3, hr4, hle, hre, c0, c1, c3, hc4, hc5, hev, lsa, lsb, lea, leb, Try.f36]) (by simp [go_sem, xs, xe, xa, xi, xo, xb, xv, xc, xk, hl0, hl1, hl2, hl3, hl4, hr0, hr1, hr2, hr3, hr4, hle, hre, c0, c1, c3, hc4, hc5, hev, lsa, lsb, lea, leb, Try.f36]; rfl) ?_)
      iterate 2 (refine sq rfl rfl rfl (by simp [go_sem, xs, xe, xa, xi, xo, xb, xv, xc, xk, hl0, hl1, hl2, hl3, hl4, hr0, hr1, hr2, hr3, hr4, hle, hre, c0, c1, c3, hc4, hc5, hev, lsa, lsb, lea, leb, Try.f36]; rfl) ?_)
      iterate 7 (refine sq rfl rfl (by simp [go_sem, xs, xe, xa, xi, xo, xb, xv, xc, xk, hl0, hl1, hl2, hl3, hl4, hr0, hr1, hr2, hr3, hr4, hle, hre, c0, c1, c3, hc4, hc5, hev, lsa, lsb, lea, leb, Try.f36]) (by simp [go_sem, xs, xe, xa, xi, xo, xb, xv, xc, xk, hl0, hl1, hl2, hl3, hl4, hr0, hr1, hr2, hr3, hr4, hle, hre, c0, c1, c3, hc4, hc5, hev, lsa, lsb, lea, leb, Try.f36]; rfl) ?_)
      refine sq rfl rfl rfl (by simp [go_sem, xs, xe, xa, xi, xo, xb, xv, xc, xk, hl0, hl1, hl2, hl3, hl4, hr0, hr1, hr2, hr3, hr4, hle, hre, c0, c1, c3, hc4, hc5, hev, lsa, lsb, lea, leb, Try.f36]; rfl) ?_
      rfl
    refine ACode.condT (by simp [tget_set, opd]) ?_
    refine ACode.seq (ACode.regS noT_ok names_ok mix (t' := ?_) (L' := ?_) [0] (by rfl) ?_ ?_)
    rotate_left 2
    · refine sq rfl rfl rfl (by simp [go_sem, X, Try.f36]; rfl) ?_
      rfl
    refine ACode.ret ⟨.inr rfl, _, [.bool false], [], rfl, by simp [Try.f36, resVals, tget_set], Tidy.zero old, fun κ1 z hz => ?_⟩
    rw [hdec, hno]
    exact VR_plain (κ := κ1) _ _ rfl hz
  have hc4 : (a.srcs.length : Int) = (b.srcs.length : Int) := by omega
  have hc5 : (a.evs.length : Int) = (b.evs.length : Int) := by omega
  rw [decide_eq_true c2] at hev
  refine ACode.seq (ACode.regS noT_ok names_ok mix (t' := ?_) (L' := ?_) [0, 1, 2, 3, 4, 5, 6, 7, 8, 9, 10, 11, 12, 13, 14, 15, 16, 17, 18, 19, 20, 21, 22, 23, 24, 25, 26, 27, 28, 29, 30, 31, 32, 33, 34, 35, 36, 37, 38, 39, 40, 41, 42, 43] (by rfl) ?_ ?_)
  rotate_left 2
  · iterate 6 (refine sq rfl rfl rfl (by simp [go_sem, xs, xe, xa, xi, xo, xb, xv, xc, xk, hl0, hl1, hl2, hl3, hl4, hr0, hr1, hr2, hr3, hr4, hle, hre, c0, c1, c3, hc4, hc5, hev, lsa, lsb, lea, leb, Try.f36]; rfl) ?_)
    iterate 5 (refine sq rfl rfl (by simp [go_sem, xs, xe, xa, xi, xo, xb, xv, xc, xk, hl0, hl1, hl2, hl3, hl4, hr0, hr1, hr2, hr3, hr4, hle, hre, c0, c1, c3, hc4, hc5, hev, lsa, lsb, lea, leb, Try.f36]) (by simp [go_sem, xs, xe, xa, xi, xo, xb, xv, xc, xk, hl0, hl1, hl2, hl3, hl4, hr0, hr1, hr2, hr3, hr4, hle, hre, c0, c1, c3, hc4, hc5, hev, lsa, lsb, lea, leb, Try.f36]; rfl) ?_)
    iterate 2 (refine sq rfl rfl rfl (by simp [go_sem, xs, xe, xa, xi, xo, xb, xv, xc, xk, hl0, hl1, hl2, hl3, hl4, hr0, hr1, hr2, hr3, hr4, hle, hre, c0, c1, c3, hc4, hc5, hev, lsa, lsb, lea, leb, Try.f36]; rfl) ?_)
    iterate 5 (refine sq rfl rfl (by simp [go_sem, xs, xe, xa, xi, xo, xb, xv, xc, xk, hl0, hl1, hl2, hl3, hl4, hr0, hr1, hr2, hr3, hr4, hle, hre, c0, c1, c3, hc4, hc5, hev, lsa, lsb, lea, leb, Try.f36]) (by simp [go_sem, xs, xe, xa, xi, xo, xb, xv, xc, xk, hl0, hl1, hl2, hl3, hl4, hr0, hr1, hr2, hr3, hr4, hle, hre, c0, c1, c3, hc4, hc5, hev, lsa, lsb, lea, leb, Try.f36]; rfl) ?_)
    iterate 2 (refine sq rfl rfl rfl (by simp [go_sem, xs, xe, xa, xi, xo, xb, xv, xc, xk, hl0, hl1, hl2, hl3, hl4, hr0, hr1, hr2, hr3, hr4, hle, hre, c0, c1, c3, hc4, hc5, hev, lsa, lsb, lea, leb, Try.f36]; rfl) ?_)
    iterate 5 (refine sq rfl rfl (by simp [go_sem, xs, xe, xa, xi, xo, xb, xv, xc, xk, hl0, hl1, hl2, hl3, hl4, hr0, hr1, hr2, hr3, hr4, hle, hre, c0, c1, c3, hc4, hc5, hev, lsa, lsb, lea, leb, Try.f36]) (by simp [go_sem, xs, xe, xa, xi, xo, xb, xv, xc, xk, hl0, hl1, hl2, hl3, hl4, hr0, hr1, hr2, hr3, hr4, hle, hre, c0, c1, c3, hc4, hc5, hev, lsa, lsb, lea, leb, Try.f36]; rfl) ?_)
    iterate 2 (refine sq rfl rfl rfl (by simp [go_sem, xs, xe, xa, xi, xo, xb, xv, xc, xk, hl0, hl1, hl2, hl3, hl4, hr0, hr1, hr2, hr3, hr4, hle, hre, c0, c1, c3, hc4, hc5, hev, lsa, lsb, lea, leb, Try.f36]; rfl) ?_)
    iterate 7 (refine sq rfl rfl (by simp [go_sem, xs, xe, xa, xi, xo, xb, xv, xc, xk, hl0, hl1, hl2, hl3, hl4, hr0, hr1, hr2, hr3, hr4, hle, hre, c0, c1, c3, hc4, hc5, hev, lsa, lsb, lea, leb, Try.f36]) (by simp [go_sem, xs, xe, xa, xi, xo, xb, xv, xc, xk, hl0, hl1, hl2, hl3, hl4, hr0, hr1, hr2, hr3, hr4, hle, hre, c0, c1, c3, hc4, hc5, hev, lsa, lsb, lea, leb, Try.f36]; rfl) ?_)
    iterate 2 (refine sq rfl rfl rfl (by simp [go_sem, xs, xe, xa, xi, xo, xb, xv, xc, xk, hl0, hl1, hl2, hl3, hl4, hr0, hr1, hr2, hr3, hr4, hle, hre, c0, c1, c3, hc4, hc5, hev, lsa, lsb, lea, leb, Try.f36]; rfl) ?_)
    iterate 7 (refine sq rfl rfl (by simp [go_sem, xs, xe, xa, xi, xo, xb, xv, xc, xk, hl0, hl1, hl2, hl3, hl4, hr0, hr1, hr2, hr3, hr4, hle, hre, c0, c1, c3, hc4, hc5, hev, lsa, lsb, lea, leb, Try.f36]) (by simp [go_sem, xs, xe, xa, xi, xo, xb, xv, xc, xk, hl0, hl1, hl2, hl3, hl4, hr0, hr1, hr2, hr3, hr4, hle, hre, c0, c1, c3, hc4, hc5, hev, lsa, lsb, lea, leb, Try.f36]; rfl) ?_)
    refine sq rfl rfl rfl (by simp [go_sem, xs, xe, xa, xi, xo, xb, xv, xc, xk, hl0, hl1, hl2, hl3, hl4, hr0, hr1, hr2, hr3, hr4, hle, hre, c0, c1, c3, hc4, hc5, hev, lsa, lsb, lea, leb, Try.f36]; rfl) ?_
    rfl
  refine ACode.condF (by simp [tget_set, opd]) (ACode.skip ?_)
  have hd2 : decide (a.r = b.r ∧ a.c = b.c ∧ (a.g0 = b.g0 ∧ a.g1 = b.g1 ∧ a.g2 = b.g2 ∧ a.g3 = b.g3 ∧ a.g4 = b.g4) ∧ a.ring = b.ring ∧ a.srcs = b.srcs ∧ a.evs = b.evs) = (decide (a.srcs = b.srcs) && decide (a.evs = b.evs)) := by
    rw [Bool.eq_iff_iff]; simp only [decide_eq_true_eq, Bool.and_eq_true]; exact ⟨fun h => h.2.2.2.2, fun h => ⟨c0, c1, c2, c3, h⟩⟩
  rw [hd2] at hdec
  refine ACode.seq ?_
  refine ACode.seq (ACode.regS noT_ok names_ok mix (t' := ?_) (L' := ?_) [0] (by rfl) ?_ ?_)
  rotate_left 2
  · refine sq rfl rfl rfl (by simp [go_sem, X, Try.f36]; rfl) ?_
    rfl
  refine ACode.block (ACode.loop (fun t d B N => d = [] ∧ B = A ∧ ∃ i, i ≤ a.srcs.length ∧ N = a.srcs.length - i ∧ a.srcs.take i = b.srcs.take i ∧ tget t 2 = .ptr L.next 0 ∧ tget t 3 = .ptr (L.next + 1) 0 ∧ tget t 5 = .ptr (L.next + 2) 0 ∧ tget t 6 = .ptr (L.next + 3) 0 ∧ tget t 7 = .int .i64 (i : Int)) (N := a.srcs.length)
    ⟨rfl, rfl, 0, Nat.zero_le _, by omega, rfl, by simp [tget_set], by simp [tget_set], by simp [tget_set], by simp [tget_set], by simp [tget_set]⟩ ?_)
  rintro t d B N ⟨rfl, rfl, i, hi, rfl, htk, t2, t3, t5, t6, t7⟩
  refine ACode.seq ?_
  refine ACode.seq (ACode.regS noT_ok names_ok mix (t' := ?_) (L' := ?_) [0, 1, 2, 3, 4] (by rfl) ?_ ?_)
  rotate_left 2
  · iterate 5 (refine sq rfl rfl rfl (by simp [go_sem, xs, xe, xa, xi, xo, xb, xv, xc, xk, t5, t7, hl2, lsa, Try.f36]; rfl) ?_)
    rfl
  refine ACode.cond (p := (i : Int) < (a.srcs.length : Int)) (by simp [tget_set, opd]) (fun hil => ACode.skip ?_) (fun hge => ACode.exit ?_)
  ·
    have hil' : i < a.srcs.length := by omega
    have hxa : a.srcs[i]? = some a.srcs[i] := by simp [hil']
    have hxb : b.srcs[i]? = some b.srcs[i] := by simp
    obtain ⟨n1, o1, _, hx1, hy1⟩ := ha2.hs.at' pt50 ps83 hxa
    obtain ⟨n2, o2, _, hx2, hy2⟩ := hb2.hs.at' pt50 ps83 hxb
    have hw : IntKind.i64.wrap ((i : Int) + 1) = (i : Int) + 1 := Go.IntWalk.i64_in _ (by omega)
    have hev := ev83g false a.srcs[i] b.srcs[i]
    show ACode _ _ (Code.seq (Code.block 1 (Code.seq (Code.region _ _ _) _)) _) _ _ _ _
    refine ACode.seq (ACode.block ?_)
    by_cases hq : a.srcs[i] = b.srcs[i]
    rotate_left 1
    ·
      have hne : decide (a.srcs = b.srcs) = false := decide_eq_false (lists_ne hxa hxb hq)
      rw [decide_eq_false hq] at hev
      rw [hne] at hdec
      generalize srcG a.srcs[i] = cs1 at *
      generalize srcG b.srcs[i] = cs2 at *
      refine ACode.seq (ACode.regD noT_ok names_ok mix (t' := ?_) (L' := ?_) [0,1,0,7,15,0,32,0,224,480,1023] [0,1,2,3,4,5,6,7,8,9,10] (by decide +kernel) (by decide +kernel) (by decide +kernel) ?_ ?_)
      rotate_left 2
      · refine dq rfl rfl rfl rfl (by simp [go_sem, xs, xi, xo, xb, xq, xv, xc, xk, t5, t6, t7, hl2, hr2, hx1, hx2, hy1, hy2, hev, Try.f36]; rfl) ?_
        refine dr rfl rfl rfl rfl (by simp [go_sem, xs, xi, xo, xb, xq, xv, xc, xk, t5, t6, t7, hl2, hr2, hx1, hx2, hy1, hy2, hev, Try.f36]; rfl) ?_
        iterate 2 (refine dq rfl rfl rfl rfl (by simp [go_sem, xs, xi, xo, xb, xq, xv, xc, xk, t5, t6, t7, hl2, hr2, hx1, hx2, hy1, hy2, hev, Try.f36]; rfl) ?_)
        refine dr rfl rfl rfl rfl (by simp [go_sem, xs, xi, xo, xb, xq, xv, xc, xk, t5, t6, t7, hl2, hr2, hx1, hx2, hy1, hy2, hev, Try.f36]; rfl) ?_
        refine dq rfl rfl rfl rfl (by simp [go_sem, xs, xi, xo, xb, xq, xv, xc, xk, t5, t6, t7, hl2, hr2, hx1, hx2, hy1, hy2, hev, Try.f36]; rfl) ?_
        refine dr rfl rfl rfl rfl (by simp [go_sem, xs, xi, xo, xb, xq, xv, xc, xk, t5, t6, t7, hl2, hr2, hx1, hx2, hy1, hy2, hev, Try.f36]; rfl) ?_
        iterate 2 (refine dq rfl rfl rfl rfl (by simp [go_sem, xs, xi, xo, xb, xq, xv, xc, xk, t5, t6, t7, hl2, hr2, hx1, hx2, hy1, hy2, hev, Try.f36]; rfl) ?_)
        refine dr rfl rfl rfl rfl (by simp [go_sem, xs, xi, xo, xb, xq, xv, xc, xk, t5, t6, t7, hl2, hr2, hx1, hx2, hy1, hy2, hev, Try.f36]; rfl) ?_
        refine dq rfl rfl rfl rfl (by simp [go_sem, xs, xi, xo, xb, xq, xv, xc, xk, t5, t6, t7, hl2, hr2, hx1, hx2, hy1, hy2, hev, Try.f36]; rfl) ?_
        rfl
      refine ACode.condT (by simp [tget_set, opd]) ?_
      refine ACode.seq (ACode.regS noT_ok names_ok mix (t' := ?_) (L' := ?_) [0] (by rfl) ?_ ?_)
      rotate_left 2
      · refine sq rfl rfl rfl (by simp [go_sem, X, Try.f36]; rfl) ?_
        rfl
      refine ACode.ret ⟨.inr rfl, _, [.bool false], [], rfl, by simp [Try.f36, resVals, tget_set], Tidy.zero old, fun κ1 z hz => ?_⟩
      rw [hdec, Bool.false_and]
      exact VR_plain (κ := κ1) _ _ rfl hz
    have htk2 := take_succ_eq htk hxa (by rw [hxb, hq])
    rw [decide_eq_true hq] at hev
    generalize srcG a.srcs[i] = cs1 at *
    generalize srcG b.srcs[i] = cs2 at *
    refine ACode.seq (ACode.regD noT_ok names_ok mix (t' := ?_) (L' := ?_) [0,1,0,7,15,0,32,0,224,480,1023] [0,1,2,3,4,5,6,7,8,9,10] (by decide +kernel) (by decide +kernel) (by decide +kernel) ?_ ?_)
    rotate_left 2
    · refine dq rfl rfl rfl rfl (by simp [go_sem, xs, xi, xo, xb, xq, xv, xc, xk, t5, t6, t7, hl2, hr2, hx1, hx2, hy1, hy2, hev, Try.f36]; rfl) ?_
      refine dr rfl rfl rfl rfl (by simp [go_sem, xs, xi, xo, xb, xq, xv, xc, xk, t5, t6, t7, hl2, hr2, hx1, hx2, hy1, hy2, hev, Try.f36]; rfl) ?_
      iterate 2 (refine dq rfl rfl rfl rfl (by simp [go_sem, xs, xi, xo, xb, xq, xv, xc, xk, t5, t6, t7, hl2, hr2, hx1, hx2, hy1, hy2, hev, Try.f36]; rfl) ?_)
      refine dr rfl rfl rfl rfl (by simp [go_sem, xs, xi, xo, xb, xq, xv, xc, xk, t5, t6, t7, hl2, hr2, hx1, hx2, hy1, hy2, hev, Try.f36]; rfl) ?_
      refine dq rfl rfl rfl rfl (by simp [go_sem, xs, xi, xo, xb, xq, xv, xc, xk, t5, t6, t7, hl2, hr2, hx1, hx2, hy1, hy2, hev, Try.f36]; rfl) ?_
      refine dr rfl rfl rfl rfl (by simp [go_sem, xs, xi, xo, xb, xq, xv, xc, xk, t5, t6, t7, hl2, hr2, hx1, hx2, hy1, hy2, hev, Try.f36]; rfl) ?_
      iterate 2 (refine dq rfl rfl rfl rfl (by simp [go_sem, xs, xi, xo, xb, xq, xv, xc, xk, t5, t6, t7, hl2, hr2, hx1, hx2, hy1, hy2, hev, Try.f36]; rfl) ?_)
      refine dr rfl rfl rfl rfl (by simp [go_sem, xs, xi, xo, xb, xq, xv, xc, xk, t5, t6, t7, hl2, hr2, hx1, hx2, hy1, hy2, hev, Try.f36]; rfl) ?_
      refine dq rfl rfl rfl rfl (by simp [go_sem, xs, xi, xo, xb, xq, xv, xc, xk, t5, t6, t7, hl2, hr2, hx1, hx2, hy1, hy2, hev, Try.f36]; rfl) ?_
      rfl
    refine ACode.condF (by simp [tget_set, opd]) (ACode.skip ?_)
    show ACode _ _ _ _ _ _ _
    refine ACode.regS noT_ok names_ok mix (t' := ?_) (L' := ?_) [0, 1, 2] (by rfl) ?_ ?_
    rotate_left 2
    · iterate 3 (refine sq rfl rfl rfl (by simp [go_sem, X, t7, hw, Try.f36]; rfl) ?_)
      rfl
    exact ⟨a.srcs.length - (i + 1), by omega, rfl, rfl, i + 1, by omega, rfl, htk2, by simp [tget_set, t2], by simp [tget_set, t3], by simp [tget_set, t5], by simp [tget_set, t6], by simp [tget_set]⟩
  have hss : decide (a.srcs = b.srcs) = true := by
    have hi2 : i = a.srcs.length := by omega
    rw [hi2, List.take_length, c4, List.take_length] at htk
    exact decide_eq_true htk
  rw [hss, Bool.true_and] at hdec
  show ACode _ _ (Code.seq (Code.seq (Code.region _ _ _) (Code.block 2 (Code.loop _))) _) _ _ _ _
  refine ACode.seq ?_
  refine ACode.seq (ACode.regS noT_ok names_ok mix (t' := ?_) (L' := ?_) [0] (by rfl) ?_ ?_)
  rotate_left 2
  · refine sq rfl rfl rfl (by simp [go_sem, X, Try.f36]; rfl) ?_
    rfl
  refine ACode.block (ACode.loop (fun t d B' N => d = [] ∧ B' = B ∧ ∃ i, i ≤ a.evs.length ∧ N = a.evs.length - i ∧ a.evs.take i = b.evs.take i ∧ tget t 2 = .ptr L.next 0 ∧ tget t 3 = .ptr (L.next + 1) 0 ∧ tget t 8 = .int .i64 (i : Int)) (N := a.evs.length)
    ⟨rfl, rfl, 0, Nat.zero_le _, by omega, rfl, by simp [tget_set, t2], by simp [tget_set, t3], by simp [tget_set]⟩ ?_)
  clear t2 t3 t5 t6 t7 htk hi hge
  rintro t d B' N ⟨rfl, rfl, i, hi, rfl, htk, t2, t3, t8⟩
  refine ACode.seq ?_
  refine ACode.seq (ACode.regS noT_ok names_ok mix (t' := ?_) (L' := ?_) [0, 1, 2, 3, 4] (by rfl) ?_ ?_)
  rotate_left 2
  · iterate 5 (refine sq rfl rfl rfl (by simp [go_sem, xs, xe, xa, xi, xo, xb, xv, xc, xk, t2, t8, hle, lea, Try.f36]; rfl) ?_)
    rfl
  refine ACode.cond (p := (i : Int) < (a.evs.length : Int)) (by simp [tget_set, opd]) (fun hil => ACode.skip ?_) (fun hge => ACode.exit ?_)
  ·
    have hil' : i < a.evs.length := by omega
    have hxa : a.evs[i]? = some a.evs[i] := by simp [hil']
    have hxb : b.evs[i]? = some b.evs[i] := by simp
    obtain ⟨n1, o1, _, hx1, hy1⟩ := ha2.he.at' pt55 ps86 hxa
    obtain ⟨n2, o2, _, hx2, hy2⟩ := hb2.he.at' pt55 ps86 hxb
    have hw : IntKind.i64.wrap ((i : Int) + 1) = (i : Int) + 1 := Go.IntWalk.i64_in _ (by omega)
    have hev := ev86g false a.evs[i] b.evs[i]
    show ACode _ _ (Code.seq (Code.block 3 (Code.seq (Code.region _ _ _) _)) _) _ _ _ _
    refine ACode.seq (ACode.block ?_)
    by_cases hq : a.evs[i] = b.evs[i]
    rotate_left 1
    ·
      have hne : decide (a.evs = b.evs) = false := decide_eq_false (lists_ne hxa hxb hq)
      rw [decide_eq_false hq] at hev
      generalize evF a.evs[i] = cs1 at *
      generalize evF b.evs[i] = cs2 at *
      refine ACode.seq (ACode.regD noT_ok names_ok mix (t' := ?_) (L' := ?_) [0,1,0,7,15,0,32,0,224,480,1023] [0,1,2,3,4,5,6,7,8,9,10] (by decide +kernel) (by decide +kernel) (by decide +kernel) ?_ ?_)
      rotate_left 2
      · refine dq rfl rfl rfl rfl (by simp [go_sem, xs, xi, xo, xb, xq, xv, xc, xk, t2, t3, t8, hle, hre, hx1, hx2, hy1, hy2, hev, Try.f36]; rfl) ?_
        refine dr rfl rfl rfl rfl (by simp [go_sem, xs, xi, xo, xb, xq, xv, xc, xk, t2, t3, t8, hle, hre, hx1, hx2, hy1, hy2, hev, Try.f36]; rfl) ?_
        iterate 2 (refine dq rfl rfl rfl rfl (by simp [go_sem, xs, xi, xo, xb, xq, xv, xc, xk, t2, t3, t8, hle, hre, hx1, hx2, hy1, hy2, hev, Try.f36]; rfl) ?_)
        refine dr rfl rfl rfl rfl (by simp [go_sem, xs, xi, xo, xb, xq, xv, xc, xk, t2, t3, t8, hle, hre, hx1, hx2, hy1, hy2, hev, Try.f36]; rfl) ?_
        refine dq rfl rfl rfl rfl (by simp [go_sem, xs, xi, xo, xb, xq, xv, xc, xk, t2, t3, t8, hle, hre, hx1, hx2, hy1, hy2, hev, Try.f36]; rfl) ?_
        refine dr rfl rfl rfl rfl (by simp [go_sem, xs, xi, xo, xb, xq, xv, xc, xk, t2, t3, t8, hle, hre, hx1, hx2, hy1, hy2, hev, Try.f36]; rfl) ?_
        iterate 2 (refine dq rfl rfl rfl rfl (by simp [go_sem, xs, xi, xo, xb, xq, xv, xc, xk, t2, t3, t8, hle, hre, hx1, hx2, hy1, hy2, hev, Try.f36]; rfl) ?_)
        refine dr rfl rfl rfl rfl (by simp [go_sem, xs, xi, xo, xb, xq, xv, xc, xk, t2, t3, t8, hle, hre, hx1, hx2, hy1, hy2, hev, Try.f36]; rfl) ?_
        refine dq rfl rfl rfl rfl (by simp [go_sem, xs, xi, xo, xb, xq, xv, xc, xk, t2, t3, t8, hle, hre, hx1, hx2, hy1, hy2, hev, Try.f36]; rfl) ?_
        rfl
      refine ACode.condT (by simp [tget_set, opd]) ?_
      refine ACode.seq (ACode.regS noT_ok names_ok mix (t' := ?_) (L' := ?_) [0] (by rfl) ?_ ?_)
      rotate_left 2
      · refine sq rfl rfl rfl (by simp [go_sem, X, Try.f36]; rfl) ?_
        rfl
      refine ACode.ret ⟨.inr rfl, _, [.bool false], [], rfl, by simp [Try.f36, resVals, tget_set], Tidy.zero old, fun κ1 z hz => ?_⟩
      rw [hdec, hne]
      exact VR_plain (κ := κ1) _ _ rfl hz
    have htk2 := take_succ_eq htk hxa (by rw [hxb, hq])
    rw [decide_eq_true hq] at hev
    generalize evF a.evs[i] = cs1 at *
    generalize evF b.evs[i] = cs2 at *
    refine ACode.seq (ACode.regD noT_ok names_ok mix (t' := ?_) (L' := ?_) [0,1,0,7,15,0,32,0,224,480,1023] [0,1,2,3,4,5,6,7,8,9,10] (by decide +kernel) (by decide +kernel) (by decide +kernel) ?_ ?_)
    rotate_left 2
    · refine dq rfl rfl rfl rfl (by simp [go_sem, xs, xi, xo, xb, xq, xv, xc, xk, t2, t3, t8, hle, hre, hx1, hx2, hy1, hy2, hev, Try.f36]; rfl) ?_
      refine dr rfl rfl rfl rfl (by simp [go_sem, xs, xi, xo, xb, xq, xv, xc, xk, t2, t3, t8, hle, hre, hx1, hx2, hy1, hy2, hev, Try.f36]; rfl) ?_
      iterate 2 (refine dq rfl rfl rfl rfl (by simp [go_sem, xs, xi, xo, xb, xq, xv, xc, xk, t2, t3, t8, hle, hre, hx1, hx2, hy1, hy2, hev, Try.f36]; rfl) ?_)
      refine dr rfl rfl rfl rfl (by simp [go_sem, xs, xi, xo, xb, xq, xv, xc, xk, t2, t3, t8, hle, hre, hx1, hx2, hy1, hy2, hev, Try.f36]; rfl) ?_
      refine dq rfl rfl rfl rfl (by simp [go_sem, xs, xi, xo, xb, xq, xv, xc, xk, t2, t3, t8, hle, hre, hx1, hx2, hy1, hy2, hev, Try.f36]; rfl) ?_
      refine dr rfl rfl rfl rfl (by simp [go_sem, xs, xi, xo, xb, xq, xv, xc, xk, t2, t3, t8, hle, hre, hx1, hx2, hy1, hy2, hev, Try.f36]; rfl) ?_
      iterate 2 (refine dq rfl rfl rfl rfl (by simp [go_sem, xs, xi, xo, xb, xq, xv, xc, xk, t2, t3, t8, hle, hre, hx1, hx2, hy1, hy2, hev, Try.f36]; rfl) ?_)
      refine dr rfl rfl rfl rfl (by simp [go_sem, xs, xi, xo, xb, xq, xv, xc, xk, t2, t3, t8, hle, hre, hx1, hx2, hy1, hy2, hev, Try.f36]; rfl) ?_
      refine dq rfl rfl rfl rfl (by simp [go_sem, xs, xi, xo, xb, xq, xv, xc, xk, t2, t3, t8, hle, hre, hx1, hx2, hy1, hy2, hev, Try.f36]; rfl) ?_
      rfl
    refine ACode.condF (by simp [tget_set, opd]) (ACode.skip ?_)
    show ACode _ _ _ _ _ _ _
    refine ACode.regS noT_ok names_ok mix (t' := ?_) (L' := ?_) [0, 1, 2] (by rfl) ?_ ?_
    rotate_left 2
    · iterate 3 (refine sq rfl rfl rfl (by simp [go_sem, X, t8, hw, Try.f36]; rfl) ?_)
      rfl
    exact ⟨a.evs.length - (i + 1), by omega, rfl, rfl, i + 1, by omega, rfl, htk2, by simp [tget_set, t2], by simp [tget_set, t3], by simp [tget_set]⟩
  have hee : decide (a.evs = b.evs) = true := by
    have hi2 : i = a.evs.length := by omega
    rw [hi2, List.take_length, c5, List.take_length] at htk
    exact decide_eq_true htk
  show ACode _ _ (Code.seq (Code.region _ _ _) Code.ret) _ _ _ _
  refine ACode.seq (ACode.regS noT_ok names_ok mix (t' := ?_) (L' := ?_) [0] (by rfl) ?_ ?_)
  rotate_left 2
  · refine sq rfl rfl rfl (by simp [go_sem, X, Try.f36]; rfl) ?_
    rfl
  refine ACode.ret ⟨.inr rfl, _, [.bool true], [], rfl, by simp [Try.f36, resVals, tget_set], Tidy.zero old, fun κ1 z hz => ?_⟩
  rw [hdec, hee]
  exact VR_plain (κ := κ1) _ _ rfl hz
end Go.Proofs.Ytpfmoolpeecobaa
