/- mux.New (37). What Parse makes is what mux takes. -/
import Derived.Test.YtpfmoolpeecobaaV15
namespace Go.Proofs.Ytpfmoolpeecobaa
open Go Go.Proofs Go.Proofs.Ytpfmoolpeecobaa.Ev
set_option linter.unusedVariables false
set_option linter.unusedSimpArgs false
set_option maxRecDepth 100000
set_option maxHeartbeats 4000000

theorem qb121 : bytesT Try.prog 121 = some 8 := by kernel_rfl
def mxV (a : Nat) (r c ring : Int) (v : V) : List V := [.ptr a 0, .int .i64 r, .int .i64 c, .int .i64 ring, .int .i64 0, v, .ptr (a + 1) 0, .ptr (a + 2) 0]
def ptV (k : Nat) : List V := [.ptr k 0]
/-- mux.New, of what it takes -/
theorem muxNew_ok {L : Heap} {r c ring g0 g1 g2 g3 g4 : Int} {sv : V} {srcs : List SrcG2} (hs : SlP 6 83 srcG2 L sv srcs) (hu : SuR r c ring g0 g1 g2 g3 g4 srcs) : ACall Try.prog 37 [.agg (suC2 r c sv g0 g1 g2 g3 g4 ring)] L (.tuple [.ptr L.next 0, .int .i64 0]) (nx L) := by
  have hlen := hs.len pt50
  have hsv : sv.scalar = true ∧ sv.cells = [sv] := by rcases hs with ⟨rfl, _⟩ | ⟨n, o, cap, q, rfl, _⟩ <;> exact ⟨rfl, rfl⟩
  obtain ⟨A1, hA1⟩ : ∃ A : Heap, A = ⟨L.t.set L.next (evB (suC2 r c sv g0 g1 g2 g3 g4 ring)), L.next + 1⟩ := ⟨_, rfl⟩
  have h1 : A1.t.get L.next = some (evB (suC2 r c sv g0 g1 g2 g3 g4 ring)) := by rw [hA1]; exact T.get_set_same _ _ _
  have n1 : A1.next = L.next + 1 := by rw [hA1]
  have k1 : ∀ k, k < L.next → A1.t.get k = L.t.get k := fun k hk => by rw [hA1]; exact T.get_set_ne _ _ (by omega)
  have hs1 : SlP 6 83 srcG2 A1 sv srcs := hs.keep (by omega) k1
  have ck := check53_ok hs1 hu
  have cq := queueNew_ok (srcs.length : Int) (by have := hu.hn; omega) A1
  have cr := regNew_ok g0 g1 g2 g3 g4 (nx A1)
  have cb := bannerNew_ok (nx (nx A1))
  obtain ⟨B, hB⟩ : ∃ B : Heap, B = ⟨A1.t.set (A1.next + 3) (.cells (T.set .leaf 0 (mxV A1.next r c ring .nils)) 1 8 false false), A1.next + 4⟩ := ⟨_, rfl⟩
  have nB : B.next = L.next + 5 := by rw [hB, n1]
  have gB : B.t.get (A1.next + 3) = some (.cells (T.set .leaf 0 (mxV A1.next r c ring .nils)) 1 8 false false) := by rw [hB]; exact T.get_set_same _ _ _
  have kB : ∀ k, k < L.next → B.t.get k = L.t.get k := fun k hk => by rw [hB]; show T.get (T.set _ _ _) _ = _; rw [T.get_set_ne _ _ (by omega)]; exact k1 k hk
  have hB1 : B.t.get L.next = some (evB (suC2 r c sv g0 g1 g2 g3 g4 ring)) := by rw [hB]; show T.get (T.set _ _ _) _ = _; rw [T.get_set_ne _ _ (by omega)]; exact h1
  have hz : Ev.ofVal (.pointer none) = some .nilp := rfl
  obtain ⟨sv1, sv2⟩ := hsv
  have hx1 := h1
  have hx2 : (nx A1).t.get L.next = some (evB (suC2 r c sv g0 g1 g2 g3 g4 ring)) := h1
  unfold evB suC2 at hx1 hx2
  refine ACall.of_body_forget Try.func37 rfl ?_
  unfold suC2
  refine ACode.seq (ACode.regS noT_ok names_ok mix (t' := ?_) (L' := ?_) [0, 1, 2] (by rfl) ?_ ?_)
  rotate_left 2
  · iterate 3 (refine sq rfl rfl rfl (by simp [go_sem, X, hz, Try.f37]; rfl) ?_)
    rfl
  change ACode _ _ _ _ _ ⟨L.t.set L.next (evB (suC2 r c sv g0 g1 g2 g3 g4 ring)), L.next + 1⟩ _
  rw [← hA1]
  refine ACode.seq ?_
  unfold suC2 at ck
  refine ACode.seq (ACode.regS (oneT_okP ck) names_ok mix (t' := ?_) (L' := ?_) [0, 1, 2] (by rfl) ?_ ?_)
  rotate_left 2
  · iterate 3 (refine sq rfl rfl rfl (by simp [go_sem, X, hx1, oneT_sameP, Try.f37]; rfl) ?_)
    rfl
  refine ACode.seq (ACode.regS noT_ok names_ok mix (t' := ?_) (L' := ?_) [0, 1] (by rfl) ?_ ?_)
  rotate_left 2
  · iterate 2 (refine sq rfl rfl rfl (by simp [go_sem, X, Try.f37]; rfl) ?_)
    rfl
  refine ACode.condF (by simp [tget_set, opd]) (ACode.skip ?_)
  show ACode _ _ (Code.seq (Code.region _ _ _) _) _ _ _ _
  refine ACode.seq (ACode.regD ((oneT_okP cq).or ((oneT_okP cr).or (oneT_okP cb))) names_ok mix (t' := ?_) (L' := ?_) [0,1,3,7,0,16,0,64,0,256,0,1024,3087,7183,16383,32767,65535] [0,1,2,4,5,6,7,8,9,10,11,3,12,13,14,15,16] (by decide +kernel) (by decide +kernel) (by decide +kernel) ?_ ?_)
  rotate_left 2
  · refine dq rfl rfl rfl rfl (by simp [go_sem, xl, xs, xe, xa, xi, xo, xb, xv, xc, xk, hx1, hlen, orT, oneT_sameP, oneT_neP, nx, Try.f37]; rfl) ?_
    iterate 2 (refine dr rfl rfl rfl rfl (by simp [go_sem, xl, xs, xe, xa, xi, xo, xb, xv, xc, xk, hx1, hlen, orT, oneT_sameP, oneT_neP, nx, Try.f37]; rfl) ?_)
    refine dq rfl rfl rfl rfl (by simp [go_sem, xl, xs, xe, xa, xi, xo, xb, xv, xc, xk, hx1, hlen, orT, oneT_sameP, oneT_neP, nx, Try.f37]; rfl) ?_
    refine dr rfl rfl rfl rfl (by simp [go_sem, xl, xs, xe, xa, xi, xo, xb, xv, xc, xk, hx1, hlen, orT, oneT_sameP, oneT_neP, nx, Try.f37]; rfl) ?_
    refine dq rfl rfl rfl rfl (by simp [go_sem, xl, xs, xe, xa, xi, xo, xb, xv, xc, xk, hx1, hlen, orT, oneT_sameP, oneT_neP, nx, Try.f37]; rfl) ?_
    refine dr rfl rfl rfl rfl (by simp [go_sem, xl, xs, xe, xa, xi, xo, xb, xv, xc, xk, hx1, hlen, orT, oneT_sameP, oneT_neP, nx, Try.f37]; rfl) ?_
    refine dq rfl rfl rfl rfl (by simp [go_sem, xl, xs, xe, xa, xi, xo, xb, xv, xc, xk, hx1, hlen, orT, oneT_sameP, oneT_neP, nx, Try.f37]; rfl) ?_
    refine dr rfl rfl rfl rfl (by simp [go_sem, xl, xs, xe, xa, xi, xo, xb, xv, xc, xk, hx1, hlen, orT, oneT_sameP, oneT_neP, nx, Try.f37]; rfl) ?_
    refine dq rfl rfl rfl rfl (by simp [go_sem, xl, xs, xe, xa, xi, xo, xb, xv, xc, xk, hx1, hlen, orT, oneT_sameP, oneT_neP, nx, Try.f37]; rfl) ?_
    refine dr rfl rfl rfl rfl (by simp [go_sem, xl, xs, xe, xa, xi, xo, xb, xv, xc, xk, hx1, hlen, orT, oneT_sameP, oneT_neP, nx, Try.f37]; rfl) ?_
    iterate 3 (refine dl rfl rfl (by simp [go_sem, xl, xs, xe, xa, xi, xo, xb, xv, xc, xk, hx1, hlen, orT, oneT_sameP, oneT_neP, nx, Try.f37]) rfl (by simp [go_sem, xl, xs, xe, xa, xi, xo, xb, xv, xc, xk, hx1, hlen, orT, oneT_sameP, oneT_neP, nx, Try.f37]; rfl) (by rfl) (by simp [go_sem, xl, xs, xe, xa, xi, xo, xb, xv, xc, xk, hx1, hlen, orT, oneT_sameP, oneT_neP, nx, Try.f37]) ?_)
    refine dq rfl rfl rfl rfl (by simp [go_sem, xl, xs, xe, xa, xi, xo, xb, xv, xc, xk, hx1, hlen, orT, oneT_sameP, oneT_neP, nx, Try.f37]; rfl) ?_
    refine dm rfl rfl rfl rfl (by simp [go_sem, xl, xs, xe, xa, xi, xo, xb, xv, xc, xk, hx1, hlen, orT, oneT_sameP, oneT_neP, nx, Try.f37]; rfl) ?_
    refine dq rfl rfl rfl rfl (by simp [go_sem, xl, xs, xe, xa, xi, xo, xb, xv, xc, xk, hx1, hlen, orT, oneT_sameP, oneT_neP, nx, Try.f37]; rfl) ?_
    rfl
  change ACode _ _ _ _ _ ⟨A1.t.set (A1.next + 3) (.cells (T.set .leaf 0 (mxV A1.next r c ring .nils)) 1 8 false false), A1.next + 4⟩ _
  rw [← hB]
  generalize hp : A1.next + 3 = p at *
  generalize hq : A1.next = q0 at *
  have hld2 : Heap.load Try.prog B 50 L.next 2 = some sv := by
    have := hB1
    unfold evB suC2 at this
    simp [Heap.load, Heap.elem, this, T.get_set, Ev.part, pa50]
  refine ACode.seq ?_
  refine ACode.seq (ACode.regS noT_ok names_ok mix (t' := ?_) (L' := ?_) [0, 1, 2, 3] (by rfl) ?_ ?_)
  rotate_left 2
  · iterate 4 (refine sq rfl rfl rfl (by simp [go_sem, xs, xe, xa, xi, xo, xb, xv, xc, xk, hld2, hlen, Try.f37]; rfl) ?_)
    rfl
  refine ACode.block (ACode.loop (fun t d A N => d = [] ∧ ∃ (i : Nat) (pv : V) (l : List Nat), i ≤ srcs.length ∧ N = srcs.length - i ∧ l.length = i ∧ L.next + 5 ≤ A.next ∧ (∀ k, k < L.next → A.t.get k = L.t.get k) ∧ A.t.get L.next = some (evB (suC2 r c sv g0 g1 g2 g3 g4 ring)) ∧ A.t.get p = some (.cells (T.set .leaf 0 (mxV q0 r c ring pv)) 1 8 false false) ∧
    OwnP 1 ptV (L.next + 5) A pv l ∧ tget t 1 = .ptr L.next 0 ∧ tget t 5 = .ptr p 0 ∧ tget t 32 = sv ∧ tget t 33 = .int .i64 (srcs.length : Int) ∧ tget t 34 = .int .i64 (i : Int)) (N := srcs.length)
    ⟨rfl, 0, .nils, [], Nat.zero_le _, by omega, rfl, by omega, kB, hB1, gB, .inl ⟨rfl, rfl⟩, by simp [tget_set], by simp [tget_set, hp], by simp [tget_set], by simp [tget_set], by simp [tget_set]⟩ ?_)
  rintro t d A N ⟨rfl, i, pv, l, hi, rfl, hl, hnx, hkp, hS, hP, hO, t1, t5, t32, t33, t34⟩
  refine ACode.seq (ACode.regS noT_ok names_ok mix (t' := ?_) (L' := ?_) [0] (by rfl) ?_ ?_)
  rotate_left 2
  · refine sq rfl rfl rfl (by simp [go_sem, X, t33, t34, Try.f37]; rfl) ?_
    rfl
  refine ACode.seq (ACode.cond (p := (i : Int) < (srcs.length : Int)) (by simp [tget_set, opd]) (fun hil => ACode.skip ?_) (fun hge => ACode.exit ?_))
  rotate_left 1
  ·
    show ACode _ _ _ _ _ _ _
    refine ACode.seq (ACode.regS noT_ok names_ok mix (t' := ?_) (L' := ?_) [0, 1, 2] (by rfl) ?_ ?_)
    rotate_left 2
    · iterate 3 (refine sq rfl rfl rfl (by simp [go_sem, X, t5, Try.f37]; rfl) ?_)
      rfl
    exact ACode.ret ⟨.inr rfl, _, [.ptr p 0, .int .i64 0], p, rfl, by simp [Try.f37, resVals, tget_set], hkp, fun κ1 z hz => VR_ptr_int_f hz⟩
  have hil' : i < srcs.length := by omega
  have hxi : srcs[i]? = some srcs[i] := by simp [hil']
  obtain ⟨n2, o2, _, hx, hld⟩ := (hs.keep (by omega) hkp).at' pt50 ps83 hxi
  have hlv := hu.hlv _ (List.getElem_mem hil')
  have hin := hu.hps.inr _ (List.mem_map.2 ⟨_, List.getElem_mem hil', rfl⟩)
  have hrr := hu.hr
  have hcc := hu.hc
  have hrg := hu.hring
  have hn4 := hu.hn
  have hw : IntKind.i64.wrap ((i : Int) + 1) = ((i + 1 : Nat) : Int) := by rw [Go.IntWalk.i64_in _ (by omega)]; omega
  generalize srcs[i] = x at *
  obtain ⟨lv, tr, a, b, n0, w0⟩ := x
  obtain ⟨i1, i2, i3, i4, i5, i6⟩ := hin
  simp only at i1 i2 i3 i4 i5 i6 hlv
  obtain ⟨n, rfl⟩ : ∃ n : Nat, n0 = (n : Int) := ⟨n0.toNat, by omega⟩
  obtain ⟨w, rfl⟩ : ∃ w : Nat, w0 = (w : Int) := ⟨w0.toNat, by omega⟩
  simp only [srcG2] at hld
  obtain ⟨C, hC⟩ : ∃ C : Heap, C = ⟨A.t.set A.next (.cells (T.set .leaf 0 [.int .u8 lv, .bool tr, .int .i64 a, .int .i64 b, .int .i64 (n : Int), .int .i64 (w : Int)]) 1 6 false false), A.next + 1⟩ := ⟨_, rfl⟩
  have gC : C.t.get A.next = some (.cells (T.set .leaf 0 [.int .u8 lv, .bool tr, .int .i64 a, .int .i64 b, .int .i64 (n : Int), .int .i64 (w : Int)]) 1 6 false false) := by rw [hC]; exact T.get_set_same _ _ _
  have kC : ∀ k, k < A.next → C.t.get k = A.t.get k := fun k hk => by rw [hC]; exact T.get_set_ne _ _ (by omega)
  have nC : C.next = A.next + 1 := by rw [hC]
  have csn := sourceNew_ok lv tr a b n w ring (by omega) (by omega) hlv hrg C
  simp only [srcG2] at csn
  have hSC : C.t.get L.next = some (evB (suC2 r c sv g0 g1 g2 g3 g4 ring)) := by rw [kC _ (by omega)]; exact hS
  have hSC' := hSC
  unfold evB suC2 at hSC'
  have hPC : (nx C).t.get p = some (.cells (T.set .leaf 0 (mxV q0 r c ring pv)) 1 8 false false) := by show C.t.get p = _; rw [kC _ (by omega)]; exact hP
  have hOC : OwnP 1 ptV (L.next + 5) (nx C) pv l := hO.still (by show A.next ≤ C.next + 1; omega) fun k hk => kC k (hO.nm_lt hk).2
  have hOD : OwnP 1 ptV (L.next + 5) ⟨C.t.set (C.next + 1) (.cells (T.set .leaf 0 (ptV C.next)) 1 1 false false), C.next + 2⟩ pv l := hOC.still (Nat.le_succ _) fun k hk => T.get_set_ne _ _ (by have := (hOC.nm_lt hk).2; have e : (nx C).next = C.next + 1 := rfl; omega)
  have hsrc : srcElems ⟨C.t.set (C.next + 1) (.cells (T.set .leaf 0 (ptV C.next)) 1 1 false false), C.next + 2⟩ 1 (.slice (C.next + 1) 0 1 1 false) = some ([C.next].map ptV) := by
    simp [srcElems, Heap.elems, Heap.elem, T.get_set, takeN, ptV]
  obtain ⟨v6, E, ha, hO3, hn3, hk3, _⟩ := append_P (sz := 1) (f := ptV) (by decide) (fun _ => rfl) (fun _ => rfl) qt118 qs121 qb121 (by decide) qz121 rfl hOD (by simp only; omega) hsrc (by simp only [List.length_cons, List.length_nil]; omega)
  obtain ⟨q6, q7⟩ := hO3.scal
  simp only [ptV] at ha
  simp only at hn3 hk3
  have hnep : nmP pv ≠ some p := fun e => by have := (hO.nm_lt e).1; omega
  have hneL : nmP pv ≠ some L.next := fun e => by have := (hO.nm_lt e).1; omega
  have hPE : E.t.get p = some (.cells (T.set .leaf 0 (mxV q0 r c ring pv)) 1 8 false false) := by rw [hk3 _ (by omega) hnep]; show T.get (T.set _ _ _) _ = _; rw [T.get_set_ne _ _ (by omega)]; exact hPC
  have hSE : E.t.get L.next = some (evB (suC2 r c sv g0 g1 g2 g3 g4 ring)) := by rw [hk3 _ (by omega) hneL]; show T.get (T.set _ _ _) _ = _; rw [T.get_set_ne _ _ (by omega)]; exact hSC
  have hst : Heap.store E p 5 [v6] = some ⟨E.t.set p (.cells (T.set .leaf 0 (mxV q0 r c ring v6)) 1 8 false false), E.next⟩ := by
    simp [Heap.store, hPE, T.get_set, guardO, q6, mxV, splice, over, T.set_set]
  have hlP : Heap.load Try.prog (nx C) 118 p 5 = some pv := by simp [Heap.load, Heap.elem, hPC, T.get_set, Ev.part, qa118, mxV]
  have hlP' : Heap.load Try.prog ⟨C.t, C.next + 1⟩ 118 p 5 = some pv := hlP
  refine ACode.seq (ACode.block ?_)
  refine ACode.seq (ACode.regS noT_ok names_ok mix (t' := ?_) (L' := ?_) [0, 1, 2, 3] (by rfl) ?_ ?_)
  rotate_left 2
  · iterate 4 (refine sq rfl rfl rfl (by simp [go_sem, xs, xe, xi, xo, xb, xq, xv, xc, xk, t32, t34, hx, hld, Try.f37]; rfl) ?_)
    rfl
  change ACode _ _ _ _ _ ⟨A.t.set A.next (.cells (T.set .leaf 0 [.int .u8 lv, .bool tr, .int .i64 a, .int .i64 b, .int .i64 (n : Int), .int .i64 (w : Int)]) 1 6 false false), A.next + 1⟩ _
  rw [← hC]
  refine ACode.seq (ACode.regS (oneT_okP csn) names_ok mix (t' := ?_) (L' := ?_) [0, 1, 2, 3, 4, 5, 6, 7, 8] (by rfl) ?_ ?_)
  rotate_left 2
  · iterate 9 (refine sq rfl rfl rfl (by simp [go_sem, X, t1, gC, hSC', oneT_sameP, Try.f37]; rfl) ?_)
    rfl
  refine ACode.seq ?_
  refine ACode.seq (ACode.regS noT_ok names_ok mix (t' := ?_) (L' := ?_) [0, 1] (by rfl) ?_ ?_)
  rotate_left 2
  · iterate 2 (refine sq rfl rfl rfl (by simp [go_sem, X, Try.f37]; rfl) ?_)
    rfl
  refine ACode.condF (by simp [tget_set, opd]) (ACode.skip ?_)
  show ACode _ _ (Code.region _ _ _) _ _ _ _
  have nC1 : (nx C).next = C.next + 1 := rfl
  refine ACode.regS noT_ok names_ok mix (t' := ?_) (L' := ?_) [0, 1, 2, 3, 4, 5, 6, 7, 8, 9, 10] (by rfl) ?_ ?_
  rotate_left 2
  · iterate 11 (refine sq rfl rfl rfl (by simp [go_sem, xe, xa, xi, xo, xb, xq, xv, xc, xk, t5, hlP', ha, hst, q6, q7, nx, qi118, Try.f37]; rfl) ?_)
    rfl
  show ACode _ _ (Code.region _ _ _) _ _ _ _
  refine ACode.regS noT_ok names_ok mix (t' := ?_) (L' := ?_) [0, 1] (by rfl) ?_ ?_
  rotate_left 2
  · iterate 2 (refine sq rfl rfl rfl (by simp [go_sem, X, t34, hw, Try.f37]; rfl) ?_)
    rfl
  have hm6 : ∀ k, nmP v6 = some k → k ≠ p ∧ k ≠ L.next := fun k hk => by have := (hO3.nm_lt hk).1; omega
  refine ⟨srcs.length - (i + 1), by omega, rfl, i + 1, v6, l ++ [C.next], by omega, rfl, by simp [hl], by show L.next + 5 ≤ E.next; omega, fun k hk => ?_, ?_, T.get_set_same _ _ _, ?_, by simp [tget_set, t1], by simp [tget_set, t5], by simp [tget_set, t32], by simp [tget_set, t33], by simp [tget_set]⟩
  · show T.get (T.set _ _ _) _ = _
    rw [T.get_set_ne _ _ (by omega), hk3 _ (by omega) (fun e => by have := (hO.nm_lt e).1; omega)]
    show T.get (T.set _ _ _) _ = _
    rw [T.get_set_ne _ _ (by omega), kC _ (by omega)]
    exact hkp k hk
  · show T.get (T.set _ _ _) _ = _
    rw [T.get_set_ne _ _ (by omega)]; exact hSE
  · exact hO3.still (Nat.le_refl _) fun k hk => T.get_set_ne _ _ (hm6 k hk).1
end Go.Proofs.Ytpfmoolpeecobaa
namespace Go.Proofs.Ytpfmoolpeecobaa
open Go Go.Proofs Go.Proofs.Ytpfmoolpeecobaa.Ev
set_option linter.unusedVariables false
set_option linter.unusedSimpArgs false
set_option maxRecDepth 100000
set_option maxHeartbeats 4000000

def toG2 (q : Int × Int × Int × Int × Int) : SrcG2 := ⟨q.1 % 2, decide (q.1 / 2 % 2 = 1), q.2⟩
theorem slP_G2 {L : Heap} {v : V} {l : List (Int × Int × Int × Int × Int)} (h : SlP 6 83 srcF L v l) : SlP 6 83 srcG2 L v (l.map toG2) := by
  rcases h with ⟨rfl, rfl⟩ | ⟨n, o, cap, q, rfl, hlt, hc, hx⟩
  · exact .inl ⟨rfl, rfl⟩
  · refine .inr ⟨n, o, cap, q, by rw [List.length_map], hlt, by rw [List.length_map]; exact hc, fun i x hi => ?_⟩
    rw [List.getElem?_map, Option.map_eq_some_iff] at hi
    obtain ⟨y, hy, rfl⟩ := hi
    exact hx i y hy
/-- stripes, one below the other -/
theorem stripes_in : ∀ (n : Nat) (top left cols r c : Int), n ≤ 4 → (n : Int) ≤ left → 1 ≤ top → 1 ≤ cols → cols ≤ c → top + left ≤ r →
    (∀ q ∈ stripesP n top left cols, top ≤ q.1 ∧ InR q r c) ∧ ∀ (i j : Nat) (p q : Int × Int × Int × Int), j < i → (stripesP n top left cols)[i]? = some p → (stripesP n top left cols)[j]? = some q → q.1 + q.2.2.1 ≤ p.1
  | 0, top, left, cols, r, c, _, _, _, _, _, _ => ⟨fun q h => (by cases h), fun i j p q _ h => (by simp [stripesP] at h)⟩
  | n + 1, top, left, cols, r, c, hn, hl, ht, hc, hcc, hr => by
    have hh : 1 ≤ (left + n) / (n + 1) ∧ (n : Int) ≤ left - (left + n) / (n + 1) := by
      have : n = 0 ∨ n = 1 ∨ n = 2 ∨ n = 3 := by omega
      rcases this with rfl | rfl | rfl | rfl
      · rw [show ((0 : Nat) : Int) + 1 = 1 from rfl]; omega
      · rw [show ((1 : Nat) : Int) + 1 = 2 from rfl]; omega
      · rw [show ((2 : Nat) : Int) + 1 = 3 from rfl]; omega
      · rw [show ((3 : Nat) : Int) + 1 = 4 from rfl]; omega
    obtain ⟨h1, h2⟩ := hh
    obtain ⟨ih1, ih2⟩ := stripes_in n (top + (left + n) / (n + 1)) (left - (left + n) / (n + 1)) cols r c (by omega) h2 (by omega) hc hcc (by omega)
    have htl : 0 ≤ (left - (left + n) / (n + 1)) := by omega
    rw [stripesP]
    generalize (left + n) / (n + 1) = h at *
    refine ⟨fun q hq => ?_, fun i j p q hij hi hj => ?_⟩
    · rcases List.mem_cons.1 hq with rfl | hq
      · exact ⟨Int.le_refl _, ⟨ht, Int.le_refl _, h1, hc, by show top + h ≤ r; omega, by show 0 + cols ≤ c; omega⟩⟩
      · have := ih1 q hq
        exact ⟨by omega, this.2⟩
    · cases i with
      | zero => omega
      | succ i =>
        rw [List.getElem?_cons_succ] at hi
        cases j with
        | zero =>
          simp only [List.getElem?_cons_zero, Option.some.injEq] at hj
          subst hj
          have := (ih1 p (List.mem_of_getElem? hi)).1
          simpa using this
        | succ j =>
          rw [List.getElem?_cons_succ] at hj
          exact ih2 i j p q (by omega) hi hj
theorem suN_in (bs : List Int) : 1 ≤ suN bs ∧ suN bs ≤ 4 ∧ (suN bs : Int) ≤ suRows bs - 1 := by
  unfold suN suRows
  omega
theorem srcsP_panes : ∀ (k : Nat) (bs : List Int) (ps : List (Int × Int × Int × Int)), ps.length = k → (srcsP k bs ps).map (fun x => x.2) = ps := by
  intro k bs ps h
  apply List.ext_getElem?
  intro i
  simp only [srcsP, List.map_map, List.getElem?_map]
  by_cases hi : i < k
  · rw [List.getElem?_range hi]
    have : i < ps.length := by omega
    simp [List.getD, this]
  · rw [List.getElem?_eq_none (by simp; omega), List.getElem?_eq_none (by omega)]; rfl
theorem suSrcs_len (bs : List Int) : (suSrcs bs).length = suN bs := srcsP_len _ _ _
/-- what Parse makes, mux takes -/
theorem suR_of (bs : List Int) (h : ∀ x ∈ bs, 0 ≤ x ∧ x ≤ 255) : SuR (suRows bs) (suCols bs) (suRing bs) (suBits bs % 2) (suBits bs / 2 % 2) (suBits bs / 4 % 2) (suBits bs / 8 % 2) (suBits bs / 16 % 2) ((suSrcs bs).map toG2) := by
  have hn := suN_in bs
  have hr : 2 ≤ suRows bs ∧ suRows bs ≤ 12 := by unfold suRows; omega
  have hc : 1 ≤ suCols bs ∧ suCols bs ≤ 40 := by unfold suCols; omega
  refine ⟨hr, hc, by unfold suRing; omega, ?_, by rw [List.length_map, suSrcs_len]; exact ⟨hn.1, hn.2.1⟩, ?_, ?_⟩
  · intro g hg
    simp only [List.mem_cons, List.not_mem_nil, or_false] at hg
    omega
  · intro x hx
    obtain ⟨q, _, rfl⟩ := List.mem_map.1 hx
    simp only [toG2]
    omega
  · have hp : ((suSrcs bs).map toG2).map (fun x => x.q) = stripesP (suN bs) 1 (suRows bs - 1) (suCols bs) := by
      rw [List.map_map]
      exact srcsP_panes _ _ _ (stripes_len _ _ _ _)
    rw [hp]
    obtain ⟨a, b⟩ := stripes_in (suN bs) 1 (suRows bs - 1) (suCols bs) (suRows bs) (suCols bs) hn.2.1 hn.2.2 (by omega) hc.1 (by omega) (by omega)
    exact ⟨fun q hq => (a q hq).2, b⟩
/-- an event that may be -/
structure EvIn (e : Evt) : Prop where
  k : 0 ≤ e.k ∧ e.k ≤ 8
  s : 0 ≤ e.s ∧ e.s ≤ 4
  t : e.t.length ≤ 63
  lv : e.lv ≤ 2
  w : 0 ≤ e.w ∧ e.w ≤ 7
  r1 : 0 ≤ e.r1 ∧ e.r1 ≤ 15
  r4 : 0 ≤ e.r4 ∧ e.r4 ≤ 47
theorem textP_len (bs : List Int) : (textP bs).length ≤ 63 := by
  unfold textP tlen
  rw [List.length_map, takeZ_len]
  omega
theorem evE_in (bs : List Int) : EvIn (evE bs) := by
  have t1 := textP_len bs.tail
  have t2 := textP_len bs.tail.tail
  unfold evE
  repeat' split
  all_goals (refine ⟨?_, ?_, ?_, ?_, ?_, ?_, ?_⟩ <;> simp only [List.length_nil] <;> omega)
theorem evs_in : ∀ (m : Nat) (bs : List Int), ∀ e ∈ (evsP m bs).1, EvIn e
  | 0, _, e, h => by cases h
  | m + 1, [], e, h => by cases h
  | m + 1, b :: t, e, h => by
    rw [evsP] at h
    rcases List.mem_cons.1 h with rfl | h
    · exact evE_in _
    · exact evs_in m _ e h
/-- a pane, of a source in its row -/
theorem own_pane {lo : Nat} {A : Heap} {v : V} {l : List (Int × Int × Int × Int × Int)} (h : OwnP 6 srcF lo A v l) {i : Nat} {q : Int × Int × Int × Int × Int} (hi : l[i]? = some q) :
    ∃ n, n < A.next ∧ Ev.indexAddr Try.prog 50 v (.int .i64 (i : Int)) = some (.ptr n (i * 6)) ∧ Heap.load Try.prog A 81 n (i * 6 + 2) = some (.agg (rectV q.2)) := by
  have hlt := (List.getElem?_eq_some_iff.1 hi).1
  rcases h with ⟨rfl, rfl⟩ | ⟨hne, m, rfl, h1, h2, h3⟩
  · simp at hi
  · refine ⟨m, h2, by simp [Ev.indexAddr, pt50, ps83, idx_nat, blt_dec, hlt, guardO], ?_⟩
    have hc : (rowFrom (l.map srcF) 0).get i = some (srcF q) := by rw [rowFrom_getP]; simp only [Nat.zero_le, if_true, Nat.sub_zero, List.getElem?_map, hi, Option.map_some]
    have e1 : (i * 6 + 2) / 6 = i := by omega
    have e2 : (i * 6 + 2) % 6 = 2 := by omega
    have ht : takeN 4 ((srcF q).drop 2) = some (rectV q.2) := rfl
    simp only [Heap.load, Heap.elem, h3, Option.bind_some, e1, e2, hc, Option.map_some, Ev.part, pa81, ps81, ht]
/-- Parse, with its row of sources -/
theorem parse_at2 {L : Heap} {v : V} {bs : List Int} (h : Bs L.next L v bs) (hr : ∀ x ∈ bs, 0 ≤ x ∧ x ≤ 255) (hlen : bs.length ≤ 1000000) :
    ∃ A sv ev, ACall Try.prog 30 [v] L (.tuple [.agg (scL (suRows bs) (suCols bs) sv (suBits bs % 2) (suBits bs / 2 % 2) (suBits bs / 4 % 2) (suBits bs / 8 % 2) (suBits bs / 16 % 2) (suRing bs) ev), .int .i64 ((min (scN bs) bs.length : Nat) : Int)]) A ∧
      L.next ≤ A.next ∧ (∀ n, n < L.next → A.t.get n = L.t.get n) ∧ SlP 6 83 srcF A sv (suSrcs bs) ∧ SlP 9 86 evF A ev (scEvs bs) ∧ OwnP 6 srcF L.next A sv (suSrcs bs) := by
  have hp := parse_ok h hr hlen
  have hn : (bs.length : Int) - (((bs.drop (scN bs)).length : Nat) : Int) = ((min (scN bs) bs.length : Nat) : Int) := by rw [List.length_drop]; omega
  rw [hn] at hp
  refine ⟨_, _, _, hp, ?_, ?_, ?_, ?_, ?_⟩
  · exact Nat.le_trans (rowsHP_next 6 srcF L _) (rowsHP_next 9 evF _ _)
  · intro n hlt
    have h1 : (scH L bs).t.get n = (rowsHP 6 srcF L (suSrcs bs)).t.get n := rowsHP_old 9 evF _ _ (Nat.lt_of_lt_of_le hlt (rowsHP_next 6 srcF L _))
    rw [h1]
    exact rowsHP_old 6 srcF L _ hlt
  · exact (srcs_slP L bs).keep (rowsHP_next 9 evF _ _) (fun n hlt => rowsHP_old 9 evF _ _ hlt)
  · exact rows_slP (z := .nils) ps86 pa86 (by decide) (fun _ => rfl) _
  · have ho := rowsVP_own 6 srcF L (suSrcs bs)
    exact ho.still (rowsHP_next 9 evF _ _) fun m hm => rowsHP_old 9 evF _ _ (ho.nm_lt hm).2
end Go.Proofs.Ytpfmoolpeecobaa
