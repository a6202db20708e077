/- - -/
import Derived.Test.YtpfmoolpeecobaaU18
namespace Go.Proofs.Ytpfmoolpeecobaa
open Go Go.Proofs Go.Proofs.Ytpfmoolpeecobaa.Ev
set_option linter.unusedVariables false
set_option linter.unusedSimpArgs false
set_option maxRecDepth 100000
set_option maxHeartbeats 4000000

theorem pz71 : zeroV Try.prog 71 = some (.agg [.int .i64 0, .int .i64 0, .nils, .int .u8 0, .int .u8 0, .int .u8 0, .int .u8 0, .int .u8 0, .int .i64 0, .nils]) := by kernel_rfl
theorem ps71 : sizeT Try.prog 71 = some 10 := by kernel_rfl
theorem pa71 : isAggT Try.prog 71 = some true := by kernel_rfl
theorem pst71 : tyStruct Try.prog 71 = tyStruct Try.prog 57 := by kernel_rfl
set_option linter.defProp false in
/-- facts of types, in one -/
def TYC := And.intro @pz71 (And.intro @ps71 (And.intro @pa71 (And.intro @pst71 (And.intro @pst57 (@Try.underlying71)))))
attribute [go_sem] TYC
theorem SlP.scal {v : V} {α : Type} {sz : Nat} {eT : TypeId} {f : α → List V} {L : Heap} {l : List α} (h : SlP sz eT f L v l) : v.scalar = true ∧ v.cells = [v] := by
  rcases h with ⟨rfl, _⟩ | ⟨n, o, cap, q, rfl, _⟩ <;> exact ⟨rfl, rfl⟩
theorem SlP.still {α : Type} {sz : Nat} {eT : TypeId} {f : α → List V} {v : V} {L L' : Heap} {l : List α} (h : SlP sz eT f L v l) (hn : L.next ≤ L'.next) (hk : ∀ m, nmP v = some m → L'.t.get m = L.t.get m) : SlP sz eT f L' v l := by
  rcases h with h | ⟨n, o, cap, q, rfl, hlt, hc, hx⟩
  · exact .inl h
  · exact .inr ⟨n, o, cap, q, rfl, Nat.lt_of_lt_of_le hlt hn, hc, fun i x hi => by rw [load_same (hk n rfl)]; exact hx i x hi⟩
noncomputable def b34 : Code := Try.f34.body.getD .skip
noncomputable def sfx34 : Code := cSnd (cSnd b34)
/-- the document's Put: its blocks, and what was there -/
structure RP (L A : Heap) (cs su : List V) : Prop where
  sc : A.t.get L.next = some (scB cs)
  su : A.t.get (L.next + 1) = some (evB su)
  nx : L.next + 2 ≤ A.next
  old : ∀ n, n < L.next → A.t.get n = L.t.get n
theorem RP.keep {L A A' : Heap} {cs su : List V} (h : RP L A cs su) (hn : A.next ≤ A'.next) (hk : ∀ n, n < L.next + 2 → A'.t.get n = A.t.get n) : RP L A' cs su :=
  ⟨by rw [hk _ (by omega)]; exact h.sc, by rw [hk _ (by omega)]; exact h.su, Nat.le_trans h.nx hn, fun n hlt => by rw [hk n (by omega)]; exact h.old n hlt⟩
section
variable {L : Heap} {r c ring g0 g1 g2 g3 g4 : Int} {sv ev : V} {srcs : List SrcG} {evs : List Evt}
theorem rput_pre (hs : SlP 6 83 srcG L sv srcs) (qe : ev.scalar = true ∧ ev.cells = [ev]) : ∃ A, RP L A (scL r c sv g0 g1 g2 g3 g4 ring ev) (suCs r c sv g0 g1 g2 g3 g4 ring) ∧
    ∀ L' v e, (∀ t : T V, tget t 1 = .ptr L.next 0 → tget t 4 = .ptr (L.next + 1) 0 → tget t 5 = .int .i64 (srcs.length : Int) → ACode Try.prog ⟨none, 166⟩ sfx34 t [] A (fun x t' d A' => x = .ret ∧ d = [] ∧ A' = L' ∧ tget t' 2 = v ∧ tget t' 3 = .int .i64 e)) →
      ACall Try.prog 34 [.agg (scL r c sv g0 g1 g2 g3 g4 ring ev)] L (.tuple [v, .int .i64 e]) L' := by
  have q1 := hs.scal
  have hlen := hs.len pt50
  refine ⟨⟨(L.t.set L.next (scB (scL r c sv g0 g1 g2 g3 g4 ring ev))).set (L.next + 1) (evB (suCs r c sv g0 g1 g2 g3 g4 ring)), L.next + 2⟩, ⟨?_, T.get_set_same _ _ _, Nat.le_refl _, ?_⟩, fun L' v e hsuf => ?_⟩
  · show T.get (T.set _ _ _) _ = _; rw [T.get_set_ne _ _ (by omega)]; exact T.get_set_same _ _ _
  · intro n hn
    show T.get (T.set _ _ _) _ = _
    rw [T.get_set_ne _ _ (by omega), T.get_set_ne _ _ (by omega)]
  have hS : (L.t.set L.next (scB (scL r c sv g0 g1 g2 g3 g4 ring ev))).get L.next = some (scB (scL r c sv g0 g1 g2 g3 g4 ring ev)) := T.get_set_same _ _ _
  refine ACall.of_body_same Try.func34 rfl ?_
  unfold scL
  refine ACode.seq (ACode.regS noT_ok names_ok mix (t' := ?_) (L' := ?_) [0, 1, 2] (by rfl) ?_ ?_)
  rotate_left 2
  · iterate 3 (refine sq rfl rfl rfl (by simp [go_sem, X, Try.f34]; rfl) ?_)
    rfl
  change ACode _ _ _ _ _ ⟨L.t.set L.next (scB (scL r c sv g0 g1 g2 g3 g4 ring ev)), L.next + 1⟩ _
  generalize hT0 : L.t.set L.next (scB (scL r c sv g0 g1 g2 g3 g4 ring ev)) = T0 at *
  unfold scB scL at hS
  refine ACode.seq (ACode.regD noT_ok names_ok mix (t' := ?_) (L' := ?_) [0,1,0,4,12,28,0,67,255] [0,1,2,3,4,5,6,7,8] (by decide +kernel) (by decide +kernel) (by decide +kernel) ?_ ?_)
  rotate_left 2
  · refine dq rfl rfl rfl rfl (by simp [go_sem, xl, xs, xe, xa, xi, xo, xb, xv, hS, hlen, q1, scal1, cellsAgg, cellsI, List.all_cons, List.all_nil, Bool.and_true, Try.f34]; rfl) ?_
    refine dr rfl rfl rfl rfl (by simp [go_sem, xl, xs, xe, xa, xi, xo, xb, xv, hS, hlen, q1, scal1, cellsAgg, cellsI, List.all_cons, List.all_nil, Bool.and_true, Try.f34]; rfl) ?_
    iterate 2 (refine dq rfl rfl rfl rfl (by simp [go_sem, xl, xs, xe, xa, xi, xo, xb, xv, hS, hlen, q1, scal1, cellsAgg, cellsI, List.all_cons, List.all_nil, Bool.and_true, Try.f34]; rfl) ?_)
    iterate 2 (refine dr rfl rfl rfl rfl (by simp [go_sem, xl, xs, xe, xa, xi, xo, xb, xv, hS, hlen, q1, scal1, cellsAgg, cellsI, List.all_cons, List.all_nil, Bool.and_true, Try.f34]; rfl) ?_)
    refine dm rfl rfl rfl rfl (by simp [go_sem, xl, xs, xe, xa, xi, xo, xb, xv, hS, hlen, q1, scal1, cellsAgg, cellsI, List.all_cons, List.all_nil, Bool.and_true, Try.f34]; rfl) ?_
    refine dl rfl rfl rfl rfl (by simp [go_sem, xl, xs, xe, xa, xi, xo, xb, xv, hS, hlen, q1, scal1, cellsAgg, cellsI, List.all_cons, List.all_nil, Bool.and_true, Try.f34]; rfl) (by rfl) (by simp [go_sem, xl, xs, xe, xa, xi, xo, xb, xv, hS, hlen, q1, scal1, cellsAgg, cellsI, List.all_cons, List.all_nil, Bool.and_true, Try.f34]) ?_
    refine dq rfl rfl rfl rfl (by simp [go_sem, xl, xs, xe, xa, xi, xo, xb, xv, hS, hlen, q1, scal1, cellsAgg, cellsI, List.all_cons, List.all_nil, Bool.and_true, Try.f34]; rfl) ?_
    rfl
  refine (hsuf _ ?_ ?_ ?_).mono ?_
  · simp [tget_set]
  · simp [tget_set]
  · simp [tget_set]
  rintro x t' d' A' ⟨rfl, rfl, rfl, h2, h3⟩
  exact ⟨.inr rfl, [v, .int .i64 e], rfl, by simp [Try.f34, resVals, h2, h3], rfl⟩
theorem rsizes {A : Heap} (h : RP L A (scL r c sv g0 g1 g2 g3 g4 ring ev) (suCs r c sv g0 g1 g2 g3 g4 ring)) (he : SlP 9 86 evF L ev evs) (hr : -1000 ≤ r ∧ r ≤ 1000) (t : T V) (t1 : tget t 1 = .ptr L.next 0) (t4 : tget t 4 = .ptr (L.next + 1) 0) (t5 : tget t 5 = .int .i64 (srcs.length : Int)) :
    ACode Try.prog ⟨none, 166⟩ (cFst sfx34) t [] A (fun x t' d A' => d = [] ∧ A' = A ∧ ((r < 2 ∨ 12 < r ∨ c < 1 ∨ 40 < c ∨ (srcs.length : Int) < 1 ∨ 4 < (srcs.length : Int) ∨ r - 1 < (srcs.length : Int) ∨ ring < 0 ∨ 7 < ring ∨ 40 < (evs.length : Int)) ∧ x = .ret ∧ tget t' 2 = .nils ∧ tget t' 3 = .int .i64 2 ∨
      ¬ (r < 2 ∨ 12 < r ∨ c < 1 ∨ 40 < c ∨ (srcs.length : Int) < 1 ∨ 4 < (srcs.length : Int) ∨ r - 1 < (srcs.length : Int) ∨ ring < 0 ∨ 7 < ring ∨ 40 < (evs.length : Int)) ∧ x = .normal ∧ tget t' 1 = .ptr L.next 0 ∧ tget t' 4 = .ptr (L.next + 1) 0 ∧ tget t' 5 = .int .i64 (srcs.length : Int))) := by
  have hE := h.su
  have hS := h.sc
  have hlen := he.len pt55
  have hw : IntKind.i64.wrap (r - 1) = r - 1 := Go.IntWalk.i64_in _ (by omega)
  unfold evB suCs at hE
  have hl9 : Heap.load Try.prog A 55 L.next 9 = some ev := by
    unfold scB scL at hS
    simp [Heap.load, Heap.elem, hS, T.get_set, Ev.part, pa55, ps55]
  have hl0 : Heap.load Try.prog A 3 (L.next + 1) 0 = some (.int .i64 r) := by simp [Heap.load, Heap.elem, hE, T.get_set, Ev.part, pa3]
  have hl1 : Heap.load Try.prog A 3 (L.next + 1) 1 = some (.int .i64 c) := by simp [Heap.load, Heap.elem, hE, T.get_set, Ev.part, pa3]
  have hl8 : Heap.load Try.prog A 3 (L.next + 1) 8 = some (.int .i64 ring) := by simp [Heap.load, Heap.elem, hE, T.get_set, Ev.part, pa3]
  generalize hnl : (srcs.length : Int) = ns at *
  generalize hel : (evs.length : Int) = ne at *
  show ACode _ _ (Code.seq (Code.region _ _ _) _) _ _ _ _
  by_cases c0 : r < 2
  ·
    refine ACode.seq (ACode.regS noT_ok names_ok mix (t' := ?_) (L' := ?_) [0, 1, 2, 3, 4, 5, 6, 7, 8, 9, 10, 11, 12, 13, 14, 15, 16, 17, 18, 19, 20, 21, 22, 23, 24, 25, 26, 27, 28, 29, 30, 31, 32, 33, 34, 35, 36, 37, 38, 39, 40, 41, 42, 43, 44, 45, 46, 47, 48] (by rfl) ?_ ?_)
    rotate_left 2
    · iterate 4 (refine sq rfl rfl rfl (by simp [go_sem, xs, xe, xa, xi, xo, xb, xv, xc, xk, t1, t4, t5, hl0, hl1, hl8, hl9, hlen, hw, c0, Try.f34]; rfl) ?_)
      iterate 3 (refine sk rfl rfl (by simp [go_sem, xs, xe, xa, xi, xo, xb, xv, xc, xk, t1, t4, t5, hl0, hl1, hl8, hl9, hlen, hw, c0, Try.f34]) ?_)
      iterate 2 (refine sq rfl rfl rfl (by simp [go_sem, xs, xe, xa, xi, xo, xb, xv, xc, xk, t1, t4, t5, hl0, hl1, hl8, hl9, hlen, hw, c0, Try.f34]; rfl) ?_)
      iterate 3 (refine sk rfl rfl (by simp [go_sem, xs, xe, xa, xi, xo, xb, xv, xc, xk, t1, t4, t5, hl0, hl1, hl8, hl9, hlen, hw, c0, Try.f34]) ?_)
      iterate 2 (refine sq rfl rfl rfl (by simp [go_sem, xs, xe, xa, xi, xo, xb, xv, xc, xk, t1, t4, t5, hl0, hl1, hl8, hl9, hlen, hw, c0, Try.f34]; rfl) ?_)
      iterate 3 (refine sk rfl rfl (by simp [go_sem, xs, xe, xa, xi, xo, xb, xv, xc, xk, t1, t4, t5, hl0, hl1, hl8, hl9, hlen, hw, c0, Try.f34]) ?_)
      iterate 2 (refine sq rfl rfl rfl (by simp [go_sem, xs, xe, xa, xi, xo, xb, xv, xc, xk, t1, t4, t5, hl0, hl1, hl8, hl9, hlen, hw, c0, Try.f34]; rfl) ?_)
      iterate 2 (refine sk rfl rfl (by simp [go_sem, xs, xe, xa, xi, xo, xb, xv, xc, xk, t1, t4, t5, hl0, hl1, hl8, hl9, hlen, hw, c0, Try.f34]) ?_)
      iterate 2 (refine sq rfl rfl rfl (by simp [go_sem, xs, xe, xa, xi, xo, xb, xv, xc, xk, t1, t4, t5, hl0, hl1, hl8, hl9, hlen, hw, c0, Try.f34]; rfl) ?_)
      iterate 2 (refine sk rfl rfl (by simp [go_sem, xs, xe, xa, xi, xo, xb, xv, xc, xk, t1, t4, t5, hl0, hl1, hl8, hl9, hlen, hw, c0, Try.f34]) ?_)
      iterate 2 (refine sq rfl rfl rfl (by simp [go_sem, xs, xe, xa, xi, xo, xb, xv, xc, xk, t1, t4, t5, hl0, hl1, hl8, hl9, hlen, hw, c0, Try.f34]; rfl) ?_)
      iterate 5 (refine sk rfl rfl (by simp [go_sem, xs, xe, xa, xi, xo, xb, xv, xc, xk, t1, t4, t5, hl0, hl1, hl8, hl9, hlen, hw, c0, Try.f34]) ?_)
      iterate 2 (refine sq rfl rfl rfl (by simp [go_sem, xs, xe, xa, xi, xo, xb, xv, xc, xk, t1, t4, t5, hl0, hl1, hl8, hl9, hlen, hw, c0, Try.f34]; rfl) ?_)
      iterate 3 (refine sk rfl rfl (by simp [go_sem, xs, xe, xa, xi, xo, xb, xv, xc, xk, t1, t4, t5, hl0, hl1, hl8, hl9, hlen, hw, c0, Try.f34]) ?_)
      iterate 2 (refine sq rfl rfl rfl (by simp [go_sem, xs, xe, xa, xi, xo, xb, xv, xc, xk, t1, t4, t5, hl0, hl1, hl8, hl9, hlen, hw, c0, Try.f34]; rfl) ?_)
      iterate 3 (refine sk rfl rfl (by simp [go_sem, xs, xe, xa, xi, xo, xb, xv, xc, xk, t1, t4, t5, hl0, hl1, hl8, hl9, hlen, hw, c0, Try.f34]) ?_)
      iterate 2 (refine sq rfl rfl rfl (by simp [go_sem, xs, xe, xa, xi, xo, xb, xv, xc, xk, t1, t4, t5, hl0, hl1, hl8, hl9, hlen, hw, c0, Try.f34]; rfl) ?_)
      iterate 4 (refine sk rfl rfl (by simp [go_sem, xs, xe, xa, xi, xo, xb, xv, xc, xk, t1, t4, t5, hl0, hl1, hl8, hl9, hlen, hw, c0, Try.f34]) ?_)
      refine sq rfl rfl rfl (by simp [go_sem, xs, xe, xa, xi, xo, xb, xv, xc, xk, t1, t4, t5, hl0, hl1, hl8, hl9, hlen, hw, c0, Try.f34]; rfl) ?_
      rfl
    refine ACode.condT (by simp [tget_set, opd]) ?_
    refine ACode.seq (ACode.regS noT_ok names_ok mix (t' := ?_) (L' := ?_) [0, 1] (by rfl) ?_ ?_)
    rotate_left 2
    · iterate 2 (refine sq rfl rfl rfl (by simp [go_sem, X, Try.f34]; rfl) ?_)
      rfl
    exact ACode.ret ⟨rfl, rfl, .inl ⟨by simp only [c0, true_or, or_true], rfl, by simp [tget_set], by simp [tget_set]⟩⟩
  by_cases c1 : 12 < r
  ·
    refine ACode.seq (ACode.regS noT_ok names_ok mix (t' := ?_) (L' := ?_) [0, 1, 2, 3, 4, 5, 6, 7, 8, 9, 10, 11, 12, 13, 14, 15, 16, 17, 18, 19, 20, 21, 22, 23, 24, 25, 26, 27, 28, 29, 30, 31, 32, 33, 34, 35, 36, 37, 38, 39, 40, 41, 42, 43, 44, 45, 46, 47, 48] (by rfl) ?_ ?_)
    rotate_left 2
    · iterate 4 (refine sq rfl rfl rfl (by simp [go_sem, xs, xe, xa, xi, xo, xb, xv, xc, xk, t1, t4, t5, hl0, hl1, hl8, hl9, hlen, hw, c0, c1, Try.f34]; rfl) ?_)
      iterate 3 (refine sq rfl rfl (by simp [go_sem, xs, xe, xa, xi, xo, xb, xv, xc, xk, t1, t4, t5, hl0, hl1, hl8, hl9, hlen, hw, c0, c1, Try.f34]) (by simp [go_sem, xs, xe, xa, xi, xo, xb, xv, xc, xk, t1, t4, t5, hl0, hl1, hl8, hl9, hlen, hw, c0, c1, Try.f34]; rfl) ?_)
      iterate 2 (refine sq rfl rfl rfl (by simp [go_sem, xs, xe, xa, xi, xo, xb, xv, xc, xk, t1, t4, t5, hl0, hl1, hl8, hl9, hlen, hw, c0, c1, Try.f34]; rfl) ?_)
      iterate 3 (refine sk rfl rfl (by simp [go_sem, xs, xe, xa, xi, xo, xb, xv, xc, xk, t1, t4, t5, hl0, hl1, hl8, hl9, hlen, hw, c0, c1, Try.f34]) ?_)
      iterate 2 (refine sq rfl rfl rfl (by simp [go_sem, xs, xe, xa, xi, xo, xb, xv, xc, xk, t1, t4, t5, hl0, hl1, hl8, hl9, hlen, hw, c0, c1, Try.f34]; rfl) ?_)
      iterate 3 (refine sk rfl rfl (by simp [go_sem, xs, xe, xa, xi, xo, xb, xv, xc, xk, t1, t4, t5, hl0, hl1, hl8, hl9, hlen, hw, c0, c1, Try.f34]) ?_)
      iterate 2 (refine sq rfl rfl rfl (by simp [go_sem, xs, xe, xa, xi, xo, xb, xv, xc, xk, t1, t4, t5, hl0, hl1, hl8, hl9, hlen, hw, c0, c1, Try.f34]; rfl) ?_)
      iterate 2 (refine sk rfl rfl (by simp [go_sem, xs, xe, xa, xi, xo, xb, xv, xc, xk, t1, t4, t5, hl0, hl1, hl8, hl9, hlen, hw, c0, c1, Try.f34]) ?_)
      iterate 2 (refine sq rfl rfl rfl (by simp [go_sem, xs, xe, xa, xi, xo, xb, xv, xc, xk, t1, t4, t5, hl0, hl1, hl8, hl9, hlen, hw, c0, c1, Try.f34]; rfl) ?_)
      iterate 2 (refine sk rfl rfl (by simp [go_sem, xs, xe, xa, xi, xo, xb, xv, xc, xk, t1, t4, t5, hl0, hl1, hl8, hl9, hlen, hw, c0, c1, Try.f34]) ?_)
      iterate 2 (refine sq rfl rfl rfl (by simp [go_sem, xs, xe, xa, xi, xo, xb, xv, xc, xk, t1, t4, t5, hl0, hl1, hl8, hl9, hlen, hw, c0, c1, Try.f34]; rfl) ?_)
      iterate 5 (refine sk rfl rfl (by simp [go_sem, xs, xe, xa, xi, xo, xb, xv, xc, xk, t1, t4, t5, hl0, hl1, hl8, hl9, hlen, hw, c0, c1, Try.f34]) ?_)
      iterate 2 (refine sq rfl rfl rfl (by simp [go_sem, xs, xe, xa, xi, xo, xb, xv, xc, xk, t1, t4, t5, hl0, hl1, hl8, hl9, hlen, hw, c0, c1, Try.f34]; rfl) ?_)
      iterate 3 (refine sk rfl rfl (by simp [go_sem, xs, xe, xa, xi, xo, xb, xv, xc, xk, t1, t4, t5, hl0, hl1, hl8, hl9, hlen, hw, c0, c1, Try.f34]) ?_)
      iterate 2 (refine sq rfl rfl rfl (by simp [go_sem, xs, xe, xa, xi, xo, xb, xv, xc, xk, t1, t4, t5, hl0, hl1, hl8, hl9, hlen, hw, c0, c1, Try.f34]; rfl) ?_)
      iterate 3 (refine sk rfl rfl (by simp [go_sem, xs, xe, xa, xi, xo, xb, xv, xc, xk, t1, t4, t5, hl0, hl1, hl8, hl9, hlen, hw, c0, c1, Try.f34]) ?_)
      iterate 2 (refine sq rfl rfl rfl (by simp [go_sem, xs, xe, xa, xi, xo, xb, xv, xc, xk, t1, t4, t5, hl0, hl1, hl8, hl9, hlen, hw, c0, c1, Try.f34]; rfl) ?_)
      iterate 4 (refine sk rfl rfl (by simp [go_sem, xs, xe, xa, xi, xo, xb, xv, xc, xk, t1, t4, t5, hl0, hl1, hl8, hl9, hlen, hw, c0, c1, Try.f34]) ?_)
      refine sq rfl rfl rfl (by simp [go_sem, xs, xe, xa, xi, xo, xb, xv, xc, xk, t1, t4, t5, hl0, hl1, hl8, hl9, hlen, hw, c0, c1, Try.f34]; rfl) ?_
      rfl
    refine ACode.condT (by simp [tget_set, opd]) ?_
    refine ACode.seq (ACode.regS noT_ok names_ok mix (t' := ?_) (L' := ?_) [0, 1] (by rfl) ?_ ?_)
    rotate_left 2
    · iterate 2 (refine sq rfl rfl rfl (by simp [go_sem, X, Try.f34]; rfl) ?_)
      rfl
    exact ACode.ret ⟨rfl, rfl, .inl ⟨by simp only [c1, true_or, or_true], rfl, by simp [tget_set], by simp [tget_set]⟩⟩
  by_cases c2 : c < 1
  ·
    refine ACode.seq (ACode.regS noT_ok names_ok mix (t' := ?_) (L' := ?_) [0, 1, 2, 3, 4, 5, 6, 7, 8, 9, 10, 11, 12, 13, 14, 15, 16, 17, 18, 19, 20, 21, 22, 23, 24, 25, 26, 27, 28, 29, 30, 31, 32, 33, 34, 35, 36, 37, 38, 39, 40, 41, 42, 43, 44, 45, 46, 47, 48] (by rfl) ?_ ?_)
    rotate_left 2
    · iterate 4 (refine sq rfl rfl rfl (by simp [go_sem, xs, xe, xa, xi, xo, xb, xv, xc, xk, t1, t4, t5, hl0, hl1, hl8, hl9, hlen, hw, c0, c1, c2, Try.f34]; rfl) ?_)
      iterate 3 (refine sq rfl rfl (by simp [go_sem, xs, xe, xa, xi, xo, xb, xv, xc, xk, t1, t4, t5, hl0, hl1, hl8, hl9, hlen, hw, c0, c1, c2, Try.f34]) (by simp [go_sem, xs, xe, xa, xi, xo, xb, xv, xc, xk, t1, t4, t5, hl0, hl1, hl8, hl9, hlen, hw, c0, c1, c2, Try.f34]; rfl) ?_)
      iterate 2 (refine sq rfl rfl rfl (by simp [go_sem, xs, xe, xa, xi, xo, xb, xv, xc, xk, t1, t4, t5, hl0, hl1, hl8, hl9, hlen, hw, c0, c1, c2, Try.f34]; rfl) ?_)
      iterate 3 (refine sq rfl rfl (by simp [go_sem, xs, xe, xa, xi, xo, xb, xv, xc, xk, t1, t4, t5, hl0, hl1, hl8, hl9, hlen, hw, c0, c1, c2, Try.f34]) (by simp [go_sem, xs, xe, xa, xi, xo, xb, xv, xc, xk, t1, t4, t5, hl0, hl1, hl8, hl9, hlen, hw, c0, c1, c2, Try.f34]; rfl) ?_)
      iterate 2 (refine sq rfl rfl rfl (by simp [go_sem, xs, xe, xa, xi, xo, xb, xv, xc, xk, t1, t4, t5, hl0, hl1, hl8, hl9, hlen, hw, c0, c1, c2, Try.f34]; rfl) ?_)
      iterate 3 (refine sk rfl rfl (by simp [go_sem, xs, xe, xa, xi, xo, xb, xv, xc, xk, t1, t4, t5, hl0, hl1, hl8, hl9, hlen, hw, c0, c1, c2, Try.f34]) ?_)
      iterate 2 (refine sq rfl rfl rfl (by simp [go_sem, xs, xe, xa, xi, xo, xb, xv, xc, xk, t1, t4, t5, hl0, hl1, hl8, hl9, hlen, hw, c0, c1, c2, Try.f34]; rfl) ?_)
      iterate 2 (refine sk rfl rfl (by simp [go_sem, xs, xe, xa, xi, xo, xb, xv, xc, xk, t1, t4, t5, hl0, hl1, hl8, hl9, hlen, hw, c0, c1, c2, Try.f34]) ?_)
      iterate 2 (refine sq rfl rfl rfl (by simp [go_sem, xs, xe, xa, xi, xo, xb, xv, xc, xk, t1, t4, t5, hl0, hl1, hl8, hl9, hlen, hw, c0, c1, c2, Try.f34]; rfl) ?_)
      iterate 2 (refine sk rfl rfl (by simp [go_sem, xs, xe, xa, xi, xo, xb, xv, xc, xk, t1, t4, t5, hl0, hl1, hl8, hl9, hlen, hw, c0, c1, c2, Try.f34]) ?_)
      iterate 2 (refine sq rfl rfl rfl (by simp [go_sem, xs, xe, xa, xi, xo, xb, xv, xc, xk, t1, t4, t5, hl0, hl1, hl8, hl9, hlen, hw, c0, c1, c2, Try.f34]; rfl) ?_)
      iterate 5 (refine sk rfl rfl (by simp [go_sem, xs, xe, xa, xi, xo, xb, xv, xc, xk, t1, t4, t5, hl0, hl1, hl8, hl9, hlen, hw, c0, c1, c2, Try.f34]) ?_)
      iterate 2 (refine sq rfl rfl rfl (by simp [go_sem, xs, xe, xa, xi, xo, xb, xv, xc, xk, t1, t4, t5, hl0, hl1, hl8, hl9, hlen, hw, c0, c1, c2, Try.f34]; rfl) ?_)
      iterate 3 (refine sk rfl rfl (by simp [go_sem, xs, xe, xa, xi, xo, xb, xv, xc, xk, t1, t4, t5, hl0, hl1, hl8, hl9, hlen, hw, c0, c1, c2, Try.f34]) ?_)
      iterate 2 (refine sq rfl rfl rfl (by simp [go_sem, xs, xe, xa, xi, xo, xb, xv, xc, xk, t1, t4, t5, hl0, hl1, hl8, hl9, hlen, hw, c0, c1, c2, Try.f34]; rfl) ?_)
      iterate 3 (refine sk rfl rfl (by simp [go_sem, xs, xe, xa, xi, xo, xb, xv, xc, xk, t1, t4, t5, hl0, hl1, hl8, hl9, hlen, hw, c0, c1, c2, Try.f34]) ?_)
      iterate 2 (refine sq rfl rfl rfl (by simp [go_sem, xs, xe, xa, xi, xo, xb, xv, xc, xk, t1, t4, t5, hl0, hl1, hl8, hl9, hlen, hw, c0, c1, c2, Try.f34]; rfl) ?_)
      iterate 4 (refine sk rfl rfl (by simp [go_sem, xs, xe, xa, xi, xo, xb, xv, xc, xk, t1, t4, t5, hl0, hl1, hl8, hl9, hlen, hw, c0, c1, c2, Try.f34]) ?_)
      refine sq rfl rfl rfl (by simp [go_sem, xs, xe, xa, xi, xo, xb, xv, xc, xk, t1, t4, t5, hl0, hl1, hl8, hl9, hlen, hw, c0, c1, c2, Try.f34]; rfl) ?_
      rfl
    refine ACode.condT (by simp [tget_set, opd]) ?_
    refine ACode.seq (ACode.regS noT_ok names_ok mix (t' := ?_) (L' := ?_) [0, 1] (by rfl) ?_ ?_)
    rotate_left 2
    · iterate 2 (refine sq rfl rfl rfl (by simp [go_sem, X, Try.f34]; rfl) ?_)
      rfl
    exact ACode.ret ⟨rfl, rfl, .inl ⟨by simp only [c2, true_or, or_true], rfl, by simp [tget_set], by simp [tget_set]⟩⟩
  by_cases c3 : 40 < c
  ·
    refine ACode.seq (ACode.regS noT_ok names_ok mix (t' := ?_) (L' := ?_) [0, 1, 2, 3, 4, 5, 6, 7, 8, 9, 10, 11, 12, 13, 14, 15, 16, 17, 18, 19, 20, 21, 22, 23, 24, 25, 26, 27, 28, 29, 30, 31, 32, 33, 34, 35, 36, 37, 38, 39, 40, 41, 42, 43, 44, 45, 46, 47, 48] (by rfl) ?_ ?_)
    rotate_left 2
    · iterate 4 (refine sq rfl rfl rfl (by simp [go_sem, xs, xe, xa, xi, xo, xb, xv, xc, xk, t1, t4, t5, hl0, hl1, hl8, hl9, hlen, hw, c0, c1, c2, c3, Try.f34]; rfl) ?_)
      iterate 3 (refine sq rfl rfl (by simp [go_sem, xs, xe, xa, xi, xo, xb, xv, xc, xk, t1, t4, t5, hl0, hl1, hl8, hl9, hlen, hw, c0, c1, c2, c3, Try.f34]) (by simp [go_sem, xs, xe, xa, xi, xo, xb, xv, xc, xk, t1, t4, t5, hl0, hl1, hl8, hl9, hlen, hw, c0, c1, c2, c3, Try.f34]; rfl) ?_)
      iterate 2 (refine sq rfl rfl rfl (by simp [go_sem, xs, xe, xa, xi, xo, xb, xv, xc, xk, t1, t4, t5, hl0, hl1, hl8, hl9, hlen, hw, c0, c1, c2, c3, Try.f34]; rfl) ?_)
      iterate 3 (refine sq rfl rfl (by simp [go_sem, xs, xe, xa, xi, xo, xb, xv, xc, xk, t1, t4, t5, hl0, hl1, hl8, hl9, hlen, hw, c0, c1, c2, c3, Try.f34]) (by simp [go_sem, xs, xe, xa, xi, xo, xb, xv, xc, xk, t1, t4, t5, hl0, hl1, hl8, hl9, hlen, hw, c0, c1, c2, c3, Try.f34]; rfl) ?_)
      iterate 2 (refine sq rfl rfl rfl (by simp [go_sem, xs, xe, xa, xi, xo, xb, xv, xc, xk, t1, t4, t5, hl0, hl1, hl8, hl9, hlen, hw, c0, c1, c2, c3, Try.f34]; rfl) ?_)
      iterate 3 (refine sq rfl rfl (by simp [go_sem, xs, xe, xa, xi, xo, xb, xv, xc, xk, t1, t4, t5, hl0, hl1, hl8, hl9, hlen, hw, c0, c1, c2, c3, Try.f34]) (by simp [go_sem, xs, xe, xa, xi, xo, xb, xv, xc, xk, t1, t4, t5, hl0, hl1, hl8, hl9, hlen, hw, c0, c1, c2, c3, Try.f34]; rfl) ?_)
      iterate 2 (refine sq rfl rfl rfl (by simp [go_sem, xs, xe, xa, xi, xo, xb, xv, xc, xk, t1, t4, t5, hl0, hl1, hl8, hl9, hlen, hw, c0, c1, c2, c3, Try.f34]; rfl) ?_)
      iterate 2 (refine sk rfl rfl (by simp [go_sem, xs, xe, xa, xi, xo, xb, xv, xc, xk, t1, t4, t5, hl0, hl1, hl8, hl9, hlen, hw, c0, c1, c2, c3, Try.f34]) ?_)
      iterate 2 (refine sq rfl rfl rfl (by simp [go_sem, xs, xe, xa, xi, xo, xb, xv, xc, xk, t1, t4, t5, hl0, hl1, hl8, hl9, hlen, hw, c0, c1, c2, c3, Try.f34]; rfl) ?_)
      iterate 2 (refine sk rfl rfl (by simp [go_sem, xs, xe, xa, xi, xo, xb, xv, xc, xk, t1, t4, t5, hl0, hl1, hl8, hl9, hlen, hw, c0, c1, c2, c3, Try.f34]) ?_)
      iterate 2 (refine sq rfl rfl rfl (by simp [go_sem, xs, xe, xa, xi, xo, xb, xv, xc, xk, t1, t4, t5, hl0, hl1, hl8, hl9, hlen, hw, c0, c1, c2, c3, Try.f34]; rfl) ?_)
      iterate 5 (refine sk rfl rfl (by simp [go_sem, xs, xe, xa, xi, xo, xb, xv, xc, xk, t1, t4, t5, hl0, hl1, hl8, hl9, hlen, hw, c0, c1, c2, c3, Try.f34]) ?_)
      iterate 2 (refine sq rfl rfl rfl (by simp [go_sem, xs, xe, xa, xi, xo, xb, xv, xc, xk, t1, t4, t5, hl0, hl1, hl8, hl9, hlen, hw, c0, c1, c2, c3, Try.f34]; rfl) ?_)
      iterate 3 (refine sk rfl rfl (by simp [go_sem, xs, xe, xa, xi, xo, xb, xv, xc, xk, t1, t4, t5, hl0, hl1, hl8, hl9, hlen, hw, c0, c1, c2, c3, Try.f34]) ?_)
      iterate 2 (refine sq rfl rfl rfl (by simp [go_sem, xs, xe, xa, xi, xo, xb, xv, xc, xk, t1, t4, t5, hl0, hl1, hl8, hl9, hlen, hw, c0, c1, c2, c3, Try.f34]; rfl) ?_)
      iterate 3 (refine sk rfl rfl (by simp [go_sem, xs, xe, xa, xi, xo, xb, xv, xc, xk, t1, t4, t5, hl0, hl1, hl8, hl9, hlen, hw, c0, c1, c2, c3, Try.f34]) ?_)
      iterate 2 (refine sq rfl rfl rfl (by simp [go_sem, xs, xe, xa, xi, xo, xb, xv, xc, xk, t1, t4, t5, hl0, hl1, hl8, hl9, hlen, hw, c0, c1, c2, c3, Try.f34]; rfl) ?_)
      iterate 4 (refine sk rfl rfl (by simp [go_sem, xs, xe, xa, xi, xo, xb, xv, xc, xk, t1, t4, t5, hl0, hl1, hl8, hl9, hlen, hw, c0, c1, c2, c3, Try.f34]) ?_)
      refine sq rfl rfl rfl (by simp [go_sem, xs, xe, xa, xi, xo, xb, xv, xc, xk, t1, t4, t5, hl0, hl1, hl8, hl9, hlen, hw, c0, c1, c2, c3, Try.f34]; rfl) ?_
      rfl
    refine ACode.condT (by simp [tget_set, opd]) ?_
    refine ACode.seq (ACode.regS noT_ok names_ok mix (t' := ?_) (L' := ?_) [0, 1] (by rfl) ?_ ?_)
    rotate_left 2
    · iterate 2 (refine sq rfl rfl rfl (by simp [go_sem, X, Try.f34]; rfl) ?_)
      rfl
    exact ACode.ret ⟨rfl, rfl, .inl ⟨by simp only [c3, true_or, or_true], rfl, by simp [tget_set], by simp [tget_set]⟩⟩
  by_cases c4 : ns < 1
  ·
    refine ACode.seq (ACode.regS noT_ok names_ok mix (t' := ?_) (L' := ?_) [0, 1, 2, 3, 4, 5, 6, 7, 8, 9, 10, 11, 12, 13, 14, 15, 16, 17, 18, 19, 20, 21, 22, 23, 24, 25, 26, 27, 28, 29, 30, 31, 32, 33, 34, 35, 36, 37, 38, 39, 40, 41, 42, 43, 44, 45, 46, 47, 48] (by rfl) ?_ ?_)
    rotate_left 2
    · iterate 4 (refine sq rfl rfl rfl (by simp [go_sem, xs, xe, xa, xi, xo, xb, xv, xc, xk, t1, t4, t5, hl0, hl1, hl8, hl9, hlen, hw, c0, c1, c2, c3, c4, Try.f34]; rfl) ?_)
      iterate 3 (refine sq rfl rfl (by simp [go_sem, xs, xe, xa, xi, xo, xb, xv, xc, xk, t1, t4, t5, hl0, hl1, hl8, hl9, hlen, hw, c0, c1, c2, c3, c4, Try.f34]) (by simp [go_sem, xs, xe, xa, xi, xo, xb, xv, xc, xk, t1, t4, t5, hl0, hl1, hl8, hl9, hlen, hw, c0, c1, c2, c3, c4, Try.f34]; rfl) ?_)
      iterate 2 (refine sq rfl rfl rfl (by simp [go_sem, xs, xe, xa, xi, xo, xb, xv, xc, xk, t1, t4, t5, hl0, hl1, hl8, hl9, hlen, hw, c0, c1, c2, c3, c4, Try.f34]; rfl) ?_)
      iterate 3 (refine sq rfl rfl (by simp [go_sem, xs, xe, xa, xi, xo, xb, xv, xc, xk, t1, t4, t5, hl0, hl1, hl8, hl9, hlen, hw, c0, c1, c2, c3, c4, Try.f34]) (by simp [go_sem, xs, xe, xa, xi, xo, xb, xv, xc, xk, t1, t4, t5, hl0, hl1, hl8, hl9, hlen, hw, c0, c1, c2, c3, c4, Try.f34]; rfl) ?_)
      iterate 2 (refine sq rfl rfl rfl (by simp [go_sem, xs, xe, xa, xi, xo, xb, xv, xc, xk, t1, t4, t5, hl0, hl1, hl8, hl9, hlen, hw, c0, c1, c2, c3, c4, Try.f34]; rfl) ?_)
      iterate 3 (refine sq rfl rfl (by simp [go_sem, xs, xe, xa, xi, xo, xb, xv, xc, xk, t1, t4, t5, hl0, hl1, hl8, hl9, hlen, hw, c0, c1, c2, c3, c4, Try.f34]) (by simp [go_sem, xs, xe, xa, xi, xo, xb, xv, xc, xk, t1, t4, t5, hl0, hl1, hl8, hl9, hlen, hw, c0, c1, c2, c3, c4, Try.f34]; rfl) ?_)
      iterate 2 (refine sq rfl rfl rfl (by simp [go_sem, xs, xe, xa, xi, xo, xb, xv, xc, xk, t1, t4, t5, hl0, hl1, hl8, hl9, hlen, hw, c0, c1, c2, c3, c4, Try.f34]; rfl) ?_)
      iterate 2 (refine sq rfl rfl (by simp [go_sem, xs, xe, xa, xi, xo, xb, xv, xc, xk, t1, t4, t5, hl0, hl1, hl8, hl9, hlen, hw, c0, c1, c2, c3, c4, Try.f34]) (by simp [go_sem, xs, xe, xa, xi, xo, xb, xv, xc, xk, t1, t4, t5, hl0, hl1, hl8, hl9, hlen, hw, c0, c1, c2, c3, c4, Try.f34]; rfl) ?_)
      iterate 2 (refine sq rfl rfl rfl (by simp [go_sem, xs, xe, xa, xi, xo, xb, xv, xc, xk, t1, t4, t5, hl0, hl1, hl8, hl9, hlen, hw, c0, c1, c2, c3, c4, Try.f34]; rfl) ?_)
      iterate 2 (refine sk rfl rfl (by simp [go_sem, xs, xe, xa, xi, xo, xb, xv, xc, xk, t1, t4, t5, hl0, hl1, hl8, hl9, hlen, hw, c0, c1, c2, c3, c4, Try.f34]) ?_)
      iterate 2 (refine sq rfl rfl rfl (by simp [go_sem, xs, xe, xa, xi, xo, xb, xv, xc, xk, t1, t4, t5, hl0, hl1, hl8, hl9, hlen, hw, c0, c1, c2, c3, c4, Try.f34]; rfl) ?_)
      iterate 5 (refine sk rfl rfl (by simp [go_sem, xs, xe, xa, xi, xo, xb, xv, xc, xk, t1, t4, t5, hl0, hl1, hl8, hl9, hlen, hw, c0, c1, c2, c3, c4, Try.f34]) ?_)
      iterate 2 (refine sq rfl rfl rfl (by simp [go_sem, xs, xe, xa, xi, xo, xb, xv, xc, xk, t1, t4, t5, hl0, hl1, hl8, hl9, hlen, hw, c0, c1, c2, c3, c4, Try.f34]; rfl) ?_)
      iterate 3 (refine sk rfl rfl (by simp [go_sem, xs, xe, xa, xi, xo, xb, xv, xc, xk, t1, t4, t5, hl0, hl1, hl8, hl9, hlen, hw, c0, c1, c2, c3, c4, Try.f34]) ?_)
      iterate 2 (refine sq rfl rfl rfl (by simp [go_sem, xs, xe, xa, xi, xo, xb, xv, xc, xk, t1, t4, t5, hl0, hl1, hl8, hl9, hlen, hw, c0, c1, c2, c3, c4, Try.f34]; rfl) ?_)
      iterate 3 (refine sk rfl rfl (by simp [go_sem, xs, xe, xa, xi, xo, xb, xv, xc, xk, t1, t4, t5, hl0, hl1, hl8, hl9, hlen, hw, c0, c1, c2, c3, c4, Try.f34]) ?_)
      iterate 2 (refine sq rfl rfl rfl (by simp [go_sem, xs, xe, xa, xi, xo, xb, xv, xc, xk, t1, t4, t5, hl0, hl1, hl8, hl9, hlen, hw, c0, c1, c2, c3, c4, Try.f34]; rfl) ?_)
      iterate 4 (refine sk rfl rfl (by simp [go_sem, xs, xe, xa, xi, xo, xb, xv, xc, xk, t1, t4, t5, hl0, hl1, hl8, hl9, hlen, hw, c0, c1, c2, c3, c4, Try.f34]) ?_)
      refine sq rfl rfl rfl (by simp [go_sem, xs, xe, xa, xi, xo, xb, xv, xc, xk, t1, t4, t5, hl0, hl1, hl8, hl9, hlen, hw, c0, c1, c2, c3, c4, Try.f34]; rfl) ?_
      rfl
    refine ACode.condT (by simp [tget_set, opd]) ?_
    refine ACode.seq (ACode.regS noT_ok names_ok mix (t' := ?_) (L' := ?_) [0, 1] (by rfl) ?_ ?_)
    rotate_left 2
    · iterate 2 (refine sq rfl rfl rfl (by simp [go_sem, X, Try.f34]; rfl) ?_)
      rfl
    exact ACode.ret ⟨rfl, rfl, .inl ⟨by simp only [c4, true_or, or_true], rfl, by simp [tget_set], by simp [tget_set]⟩⟩
  by_cases c5 : 4 < ns
  ·
    refine ACode.seq (ACode.regS noT_ok names_ok mix (t' := ?_) (L' := ?_) [0, 1, 2, 3, 4, 5, 6, 7, 8, 9, 10, 11, 12, 13, 14, 15, 16, 17, 18, 19, 20, 21, 22, 23, 24, 25, 26, 27, 28, 29, 30, 31, 32, 33, 34, 35, 36, 37, 38, 39, 40, 41, 42, 43, 44, 45, 46, 47, 48] (by rfl) ?_ ?_)
    rotate_left 2
    · iterate 4 (refine sq rfl rfl rfl (by simp [go_sem, xs, xe, xa, xi, xo, xb, xv, xc, xk, t1, t4, t5, hl0, hl1, hl8, hl9, hlen, hw, c0, c1, c2, c3, c4, c5, Try.f34]; rfl) ?_)
      iterate 3 (refine sq rfl rfl (by simp [go_sem, xs, xe, xa, xi, xo, xb, xv, xc, xk, t1, t4, t5, hl0, hl1, hl8, hl9, hlen, hw, c0, c1, c2, c3, c4, c5, Try.f34]) (by simp [go_sem, xs, xe, xa, xi, xo, xb, xv, xc, xk, t1, t4, t5, hl0, hl1, hl8, hl9, hlen, hw, c0, c1, c2, c3, c4, c5, Try.f34]; rfl) ?_)
      iterate 2 (refine sq rfl rfl rfl (by simp [go_sem, xs, xe, xa, xi, xo, xb, xv, xc, xk, t1, t4, t5, hl0, hl1, hl8, hl9, hlen, hw, c0, c1, c2, c3, c4, c5, Try.f34]; rfl) ?_)
      iterate 3 (refine sq rfl rfl (by simp [go_sem, xs, xe, xa, xi, xo, xb, xv, xc, xk, t1, t4, t5, hl0, hl1, hl8, hl9, hlen, hw, c0, c1, c2, c3, c4, c5, Try.f34]) (by simp [go_sem, xs, xe, xa, xi, xo, xb, xv, xc, xk, t1, t4, t5, hl0, hl1, hl8, hl9, hlen, hw, c0, c1, c2, c3, c4, c5, Try.f34]; rfl) ?_)
      iterate 2 (refine sq rfl rfl rfl (by simp [go_sem, xs, xe, xa, xi, xo, xb, xv, xc, xk, t1, t4, t5, hl0, hl1, hl8, hl9, hlen, hw, c0, c1, c2, c3, c4, c5, Try.f34]; rfl) ?_)
      iterate 3 (refine sq rfl rfl (by simp [go_sem, xs, xe, xa, xi, xo, xb, xv, xc, xk, t1, t4, t5, hl0, hl1, hl8, hl9, hlen, hw, c0, c1, c2, c3, c4, c5, Try.f34]) (by simp [go_sem, xs, xe, xa, xi, xo, xb, xv, xc, xk, t1, t4, t5, hl0, hl1, hl8, hl9, hlen, hw, c0, c1, c2, c3, c4, c5, Try.f34]; rfl) ?_)
      iterate 2 (refine sq rfl rfl rfl (by simp [go_sem, xs, xe, xa, xi, xo, xb, xv, xc, xk, t1, t4, t5, hl0, hl1, hl8, hl9, hlen, hw, c0, c1, c2, c3, c4, c5, Try.f34]; rfl) ?_)
      iterate 2 (refine sq rfl rfl (by simp [go_sem, xs, xe, xa, xi, xo, xb, xv, xc, xk, t1, t4, t5, hl0, hl1, hl8, hl9, hlen, hw, c0, c1, c2, c3, c4, c5, Try.f34]) (by simp [go_sem, xs, xe, xa, xi, xo, xb, xv, xc, xk, t1, t4, t5, hl0, hl1, hl8, hl9, hlen, hw, c0, c1, c2, c3, c4, c5, Try.f34]; rfl) ?_)
      iterate 2 (refine sq rfl rfl rfl (by simp [go_sem, xs, xe, xa, xi, xo, xb, xv, xc, xk, t1, t4, t5, hl0, hl1, hl8, hl9, hlen, hw, c0, c1, c2, c3, c4, c5, Try.f34]; rfl) ?_)
      iterate 2 (refine sq rfl rfl (by simp [go_sem, xs, xe, xa, xi, xo, xb, xv, xc, xk, t1, t4, t5, hl0, hl1, hl8, hl9, hlen, hw, c0, c1, c2, c3, c4, c5, Try.f34]) (by simp [go_sem, xs, xe, xa, xi, xo, xb, xv, xc, xk, t1, t4, t5, hl0, hl1, hl8, hl9, hlen, hw, c0, c1, c2, c3, c4, c5, Try.f34]; rfl) ?_)
      iterate 2 (refine sq rfl rfl rfl (by simp [go_sem, xs, xe, xa, xi, xo, xb, xv, xc, xk, t1, t4, t5, hl0, hl1, hl8, hl9, hlen, hw, c0, c1, c2, c3, c4, c5, Try.f34]; rfl) ?_)
      iterate 5 (refine sk rfl rfl (by simp [go_sem, xs, xe, xa, xi, xo, xb, xv, xc, xk, t1, t4, t5, hl0, hl1, hl8, hl9, hlen, hw, c0, c1, c2, c3, c4, c5, Try.f34]) ?_)
      iterate 2 (refine sq rfl rfl rfl (by simp [go_sem, xs, xe, xa, xi, xo, xb, xv, xc, xk, t1, t4, t5, hl0, hl1, hl8, hl9, hlen, hw, c0, c1, c2, c3, c4, c5, Try.f34]; rfl) ?_)
      iterate 3 (refine sk rfl rfl (by simp [go_sem, xs, xe, xa, xi, xo, xb, xv, xc, xk, t1, t4, t5, hl0, hl1, hl8, hl9, hlen, hw, c0, c1, c2, c3, c4, c5, Try.f34]) ?_)
      iterate 2 (refine sq rfl rfl rfl (by simp [go_sem, xs, xe, xa, xi, xo, xb, xv, xc, xk, t1, t4, t5, hl0, hl1, hl8, hl9, hlen, hw, c0, c1, c2, c3, c4, c5, Try.f34]; rfl) ?_)
      iterate 3 (refine sk rfl rfl (by simp [go_sem, xs, xe, xa, xi, xo, xb, xv, xc, xk, t1, t4, t5, hl0, hl1, hl8, hl9, hlen, hw, c0, c1, c2, c3, c4, c5, Try.f34]) ?_)
      iterate 2 (refine sq rfl rfl rfl (by simp [go_sem, xs, xe, xa, xi, xo, xb, xv, xc, xk, t1, t4, t5, hl0, hl1, hl8, hl9, hlen, hw, c0, c1, c2, c3, c4, c5, Try.f34]; rfl) ?_)
      iterate 4 (refine sk rfl rfl (by simp [go_sem, xs, xe, xa, xi, xo, xb, xv, xc, xk, t1, t4, t5, hl0, hl1, hl8, hl9, hlen, hw, c0, c1, c2, c3, c4, c5, Try.f34]) ?_)
      refine sq rfl rfl rfl (by simp [go_sem, xs, xe, xa, xi, xo, xb, xv, xc, xk, t1, t4, t5, hl0, hl1, hl8, hl9, hlen, hw, c0, c1, c2, c3, c4, c5, Try.f34]; rfl) ?_
      rfl
    refine ACode.condT (by simp [tget_set, opd]) ?_
    refine ACode.seq (ACode.regS noT_ok names_ok mix (t' := ?_) (L' := ?_) [0, 1] (by rfl) ?_ ?_)
    rotate_left 2
    · iterate 2 (refine sq rfl rfl rfl (by simp [go_sem, X, Try.f34]; rfl) ?_)
      rfl
    exact ACode.ret ⟨rfl, rfl, .inl ⟨by simp only [c5, true_or, or_true], rfl, by simp [tget_set], by simp [tget_set]⟩⟩
  by_cases c6 : r - 1 < ns
  ·
    refine ACode.seq (ACode.regS noT_ok names_ok mix (t' := ?_) (L' := ?_) [0, 1, 2, 3, 4, 5, 6, 7, 8, 9, 10, 11, 12, 13, 14, 15, 16, 17, 18, 19, 20, 21, 22, 23, 24, 25, 26, 27, 28, 29, 30, 31, 32, 33, 34, 35, 36, 37, 38, 39, 40, 41, 42, 43, 44, 45, 46, 47, 48] (by rfl) ?_ ?_)
    rotate_left 2
    · iterate 4 (refine sq rfl rfl rfl (by simp [go_sem, xs, xe, xa, xi, xo, xb, xv, xc, xk, t1, t4, t5, hl0, hl1, hl8, hl9, hlen, hw, c0, c1, c2, c3, c4, c5, c6, Try.f34]; rfl) ?_)
      iterate 3 (refine sq rfl rfl (by simp [go_sem, xs, xe, xa, xi, xo, xb, xv, xc, xk, t1, t4, t5, hl0, hl1, hl8, hl9, hlen, hw, c0, c1, c2, c3, c4, c5, c6, Try.f34]) (by simp [go_sem, xs, xe, xa, xi, xo, xb, xv, xc, xk, t1, t4, t5, hl0, hl1, hl8, hl9, hlen, hw, c0, c1, c2, c3, c4, c5, c6, Try.f34]; rfl) ?_)
      iterate 2 (refine sq rfl rfl rfl (by simp [go_sem, xs, xe, xa, xi, xo, xb, xv, xc, xk, t1, t4, t5, hl0, hl1, hl8, hl9, hlen, hw, c0, c1, c2, c3, c4, c5, c6, Try.f34]; rfl) ?_)
      iterate 3 (refine sq rfl rfl (by simp [go_sem, xs, xe, xa, xi, xo, xb, xv, xc, xk, t1, t4, t5, hl0, hl1, hl8, hl9, hlen, hw, c0, c1, c2, c3, c4, c5, c6, Try.f34]) (by simp [go_sem, xs, xe, xa, xi, xo, xb, xv, xc, xk, t1, t4, t5, hl0, hl1, hl8, hl9, hlen, hw, c0, c1, c2, c3, c4, c5, c6, Try.f34]; rfl) ?_)
      iterate 2 (refine sq rfl rfl rfl (by simp [go_sem, xs, xe, xa, xi, xo, xb, xv, xc, xk, t1, t4, t5, hl0, hl1, hl8, hl9, hlen, hw, c0, c1, c2, c3, c4, c5, c6, Try.f34]; rfl) ?_)
      iterate 3 (refine sq rfl rfl (by simp [go_sem, xs, xe, xa, xi, xo, xb, xv, xc, xk, t1, t4, t5, hl0, hl1, hl8, hl9, hlen, hw, c0, c1, c2, c3, c4, c5, c6, Try.f34]) (by simp [go_sem, xs, xe, xa, xi, xo, xb, xv, xc, xk, t1, t4, t5, hl0, hl1, hl8, hl9, hlen, hw, c0, c1, c2, c3, c4, c5, c6, Try.f34]; rfl) ?_)
      iterate 2 (refine sq rfl rfl rfl (by simp [go_sem, xs, xe, xa, xi, xo, xb, xv, xc, xk, t1, t4, t5, hl0, hl1, hl8, hl9, hlen, hw, c0, c1, c2, c3, c4, c5, c6, Try.f34]; rfl) ?_)
      iterate 2 (refine sq rfl rfl (by simp [go_sem, xs, xe, xa, xi, xo, xb, xv, xc, xk, t1, t4, t5, hl0, hl1, hl8, hl9, hlen, hw, c0, c1, c2, c3, c4, c5, c6, Try.f34]) (by simp [go_sem, xs, xe, xa, xi, xo, xb, xv, xc, xk, t1, t4, t5, hl0, hl1, hl8, hl9, hlen, hw, c0, c1, c2, c3, c4, c5, c6, Try.f34]; rfl) ?_)
      iterate 2 (refine sq rfl rfl rfl (by simp [go_sem, xs, xe, xa, xi, xo, xb, xv, xc, xk, t1, t4, t5, hl0, hl1, hl8, hl9, hlen, hw, c0, c1, c2, c3, c4, c5, c6, Try.f34]; rfl) ?_)
      iterate 2 (refine sq rfl rfl (by simp [go_sem, xs, xe, xa, xi, xo, xb, xv, xc, xk, t1, t4, t5, hl0, hl1, hl8, hl9, hlen, hw, c0, c1, c2, c3, c4, c5, c6, Try.f34]) (by simp [go_sem, xs, xe, xa, xi, xo, xb, xv, xc, xk, t1, t4, t5, hl0, hl1, hl8, hl9, hlen, hw, c0, c1, c2, c3, c4, c5, c6, Try.f34]; rfl) ?_)
      iterate 2 (refine sq rfl rfl rfl (by simp [go_sem, xs, xe, xa, xi, xo, xb, xv, xc, xk, t1, t4, t5, hl0, hl1, hl8, hl9, hlen, hw, c0, c1, c2, c3, c4, c5, c6, Try.f34]; rfl) ?_)
      iterate 5 (refine sq rfl rfl (by simp [go_sem, xs, xe, xa, xi, xo, xb, xv, xc, xk, t1, t4, t5, hl0, hl1, hl8, hl9, hlen, hw, c0, c1, c2, c3, c4, c5, c6, Try.f34]) (by simp [go_sem, xs, xe, xa, xi, xo, xb, xv, xc, xk, t1, t4, t5, hl0, hl1, hl8, hl9, hlen, hw, c0, c1, c2, c3, c4, c5, c6, Try.f34]; rfl) ?_)
      iterate 2 (refine sq rfl rfl rfl (by simp [go_sem, xs, xe, xa, xi, xo, xb, xv, xc, xk, t1, t4, t5, hl0, hl1, hl8, hl9, hlen, hw, c0, c1, c2, c3, c4, c5, c6, Try.f34]; rfl) ?_)
      iterate 3 (refine sk rfl rfl (by simp [go_sem, xs, xe, xa, xi, xo, xb, xv, xc, xk, t1, t4, t5, hl0, hl1, hl8, hl9, hlen, hw, c0, c1, c2, c3, c4, c5, c6, Try.f34]) ?_)
      iterate 2 (refine sq rfl rfl rfl (by simp [go_sem, xs, xe, xa, xi, xo, xb, xv, xc, xk, t1, t4, t5, hl0, hl1, hl8, hl9, hlen, hw, c0, c1, c2, c3, c4, c5, c6, Try.f34]; rfl) ?_)
      iterate 3 (refine sk rfl rfl (by simp [go_sem, xs, xe, xa, xi, xo, xb, xv, xc, xk, t1, t4, t5, hl0, hl1, hl8, hl9, hlen, hw, c0, c1, c2, c3, c4, c5, c6, Try.f34]) ?_)
      iterate 2 (refine sq rfl rfl rfl (by simp [go_sem, xs, xe, xa, xi, xo, xb, xv, xc, xk, t1, t4, t5, hl0, hl1, hl8, hl9, hlen, hw, c0, c1, c2, c3, c4, c5, c6, Try.f34]; rfl) ?_)
      iterate 4 (refine sk rfl rfl (by simp [go_sem, xs, xe, xa, xi, xo, xb, xv, xc, xk, t1, t4, t5, hl0, hl1, hl8, hl9, hlen, hw, c0, c1, c2, c3, c4, c5, c6, Try.f34]) ?_)
      refine sq rfl rfl rfl (by simp [go_sem, xs, xe, xa, xi, xo, xb, xv, xc, xk, t1, t4, t5, hl0, hl1, hl8, hl9, hlen, hw, c0, c1, c2, c3, c4, c5, c6, Try.f34]; rfl) ?_
      rfl
    refine ACode.condT (by simp [tget_set, opd]) ?_
    refine ACode.seq (ACode.regS noT_ok names_ok mix (t' := ?_) (L' := ?_) [0, 1] (by rfl) ?_ ?_)
    rotate_left 2
    · iterate 2 (refine sq rfl rfl rfl (by simp [go_sem, X, Try.f34]; rfl) ?_)
      rfl
    exact ACode.ret ⟨rfl, rfl, .inl ⟨by simp only [c6, true_or, or_true], rfl, by simp [tget_set], by simp [tget_set]⟩⟩
  by_cases c7 : ring < 0
  ·
    refine ACode.seq (ACode.regS noT_ok names_ok mix (t' := ?_) (L' := ?_) [0, 1, 2, 3, 4, 5, 6, 7, 8, 9, 10, 11, 12, 13, 14, 15, 16, 17, 18, 19, 20, 21, 22, 23, 24, 25, 26, 27, 28, 29, 30, 31, 32, 33, 34, 35, 36, 37, 38, 39, 40, 41, 42, 43, 44, 45, 46, 47, 48] (by rfl) ?_ ?_)
    rotate_left 2
    · iterate 4 (refine sq rfl rfl rfl (by simp [go_sem, xs, xe, xa, xi, xo, xb, xv, xc, xk, t1, t4, t5, hl0, hl1, hl8, hl9, hlen, hw, c0, c1, c2, c3, c4, c5, c6, c7, Try.f34]; rfl) ?_)
      iterate 3 (refine sq rfl rfl (by simp [go_sem, xs, xe, xa, xi, xo, xb, xv, xc, xk, t1, t4, t5, hl0, hl1, hl8, hl9, hlen, hw, c0, c1, c2, c3, c4, c5, c6, c7, Try.f34]) (by simp [go_sem, xs, xe, xa, xi, xo, xb, xv, xc, xk, t1, t4, t5, hl0, hl1, hl8, hl9, hlen, hw, c0, c1, c2, c3, c4, c5, c6, c7, Try.f34]; rfl) ?_)
      iterate 2 (refine sq rfl rfl rfl (by simp [go_sem, xs, xe, xa, xi, xo, xb, xv, xc, xk, t1, t4, t5, hl0, hl1, hl8, hl9, hlen, hw, c0, c1, c2, c3, c4, c5, c6, c7, Try.f34]; rfl) ?_)
      iterate 3 (refine sq rfl rfl (by simp [go_sem, xs, xe, xa, xi, xo, xb, xv, xc, xk, t1, t4, t5, hl0, hl1, hl8, hl9, hlen, hw, c0, c1, c2, c3, c4, c5, c6, c7, Try.f34]) (by simp [go_sem, xs, xe, xa, xi, xo, xb, xv, xc, xk, t1, t4, t5, hl0, hl1, hl8, hl9, hlen, hw, c0, c1, c2, c3, c4, c5, c6, c7, Try.f34]; rfl) ?_)
      iterate 2 (refine sq rfl rfl rfl (by simp [go_sem, xs, xe, xa, xi, xo, xb, xv, xc, xk, t1, t4, t5, hl0, hl1, hl8, hl9, hlen, hw, c0, c1, c2, c3, c4, c5, c6, c7, Try.f34]; rfl) ?_)
      iterate 3 (refine sq rfl rfl (by simp [go_sem, xs, xe, xa, xi, xo, xb, xv, xc, xk, t1, t4, t5, hl0, hl1, hl8, hl9, hlen, hw, c0, c1, c2, c3, c4, c5, c6, c7, Try.f34]) (by simp [go_sem, xs, xe, xa, xi, xo, xb, xv, xc, xk, t1, t4, t5, hl0, hl1, hl8, hl9, hlen, hw, c0, c1, c2, c3, c4, c5, c6, c7, Try.f34]; rfl) ?_)
      iterate 2 (refine sq rfl rfl rfl (by simp [go_sem, xs, xe, xa, xi, xo, xb, xv, xc, xk, t1, t4, t5, hl0, hl1, hl8, hl9, hlen, hw, c0, c1, c2, c3, c4, c5, c6, c7, Try.f34]; rfl) ?_)
      iterate 2 (refine sq rfl rfl (by simp [go_sem, xs, xe, xa, xi, xo, xb, xv, xc, xk, t1, t4, t5, hl0, hl1, hl8, hl9, hlen, hw, c0, c1, c2, c3, c4, c5, c6, c7, Try.f34]) (by simp [go_sem, xs, xe, xa, xi, xo, xb, xv, xc, xk, t1, t4, t5, hl0, hl1, hl8, hl9, hlen, hw, c0, c1, c2, c3, c4, c5, c6, c7, Try.f34]; rfl) ?_)
      iterate 2 (refine sq rfl rfl rfl (by simp [go_sem, xs, xe, xa, xi, xo, xb, xv, xc, xk, t1, t4, t5, hl0, hl1, hl8, hl9, hlen, hw, c0, c1, c2, c3, c4, c5, c6, c7, Try.f34]; rfl) ?_)
      iterate 2 (refine sq rfl rfl (by simp [go_sem, xs, xe, xa, xi, xo, xb, xv, xc, xk, t1, t4, t5, hl0, hl1, hl8, hl9, hlen, hw, c0, c1, c2, c3, c4, c5, c6, c7, Try.f34]) (by simp [go_sem, xs, xe, xa, xi, xo, xb, xv, xc, xk, t1, t4, t5, hl0, hl1, hl8, hl9, hlen, hw, c0, c1, c2, c3, c4, c5, c6, c7, Try.f34]; rfl) ?_)
      iterate 2 (refine sq rfl rfl rfl (by simp [go_sem, xs, xe, xa, xi, xo, xb, xv, xc, xk, t1, t4, t5, hl0, hl1, hl8, hl9, hlen, hw, c0, c1, c2, c3, c4, c5, c6, c7, Try.f34]; rfl) ?_)
      iterate 5 (refine sq rfl rfl (by simp [go_sem, xs, xe, xa, xi, xo, xb, xv, xc, xk, t1, t4, t5, hl0, hl1, hl8, hl9, hlen, hw, c0, c1, c2, c3, c4, c5, c6, c7, Try.f34]) (by simp [go_sem, xs, xe, xa, xi, xo, xb, xv, xc, xk, t1, t4, t5, hl0, hl1, hl8, hl9, hlen, hw, c0, c1, c2, c3, c4, c5, c6, c7, Try.f34]; rfl) ?_)
      iterate 2 (refine sq rfl rfl rfl (by simp [go_sem, xs, xe, xa, xi, xo, xb, xv, xc, xk, t1, t4, t5, hl0, hl1, hl8, hl9, hlen, hw, c0, c1, c2, c3, c4, c5, c6, c7, Try.f34]; rfl) ?_)
      iterate 3 (refine sq rfl rfl (by simp [go_sem, xs, xe, xa, xi, xo, xb, xv, xc, xk, t1, t4, t5, hl0, hl1, hl8, hl9, hlen, hw, c0, c1, c2, c3, c4, c5, c6, c7, Try.f34]) (by simp [go_sem, xs, xe, xa, xi, xo, xb, xv, xc, xk, t1, t4, t5, hl0, hl1, hl8, hl9, hlen, hw, c0, c1, c2, c3, c4, c5, c6, c7, Try.f34]; rfl) ?_)
      iterate 2 (refine sq rfl rfl rfl (by simp [go_sem, xs, xe, xa, xi, xo, xb, xv, xc, xk, t1, t4, t5, hl0, hl1, hl8, hl9, hlen, hw, c0, c1, c2, c3, c4, c5, c6, c7, Try.f34]; rfl) ?_)
      iterate 3 (refine sk rfl rfl (by simp [go_sem, xs, xe, xa, xi, xo, xb, xv, xc, xk, t1, t4, t5, hl0, hl1, hl8, hl9, hlen, hw, c0, c1, c2, c3, c4, c5, c6, c7, Try.f34]) ?_)
      iterate 2 (refine sq rfl rfl rfl (by simp [go_sem, xs, xe, xa, xi, xo, xb, xv, xc, xk, t1, t4, t5, hl0, hl1, hl8, hl9, hlen, hw, c0, c1, c2, c3, c4, c5, c6, c7, Try.f34]; rfl) ?_)
      iterate 4 (refine sk rfl rfl (by simp [go_sem, xs, xe, xa, xi, xo, xb, xv, xc, xk, t1, t4, t5, hl0, hl1, hl8, hl9, hlen, hw, c0, c1, c2, c3, c4, c5, c6, c7, Try.f34]) ?_)
      refine sq rfl rfl rfl (by simp [go_sem, xs, xe, xa, xi, xo, xb, xv, xc, xk, t1, t4, t5, hl0, hl1, hl8, hl9, hlen, hw, c0, c1, c2, c3, c4, c5, c6, c7, Try.f34]; rfl) ?_
      rfl
    refine ACode.condT (by simp [tget_set, opd]) ?_
    refine ACode.seq (ACode.regS noT_ok names_ok mix (t' := ?_) (L' := ?_) [0, 1] (by rfl) ?_ ?_)
    rotate_left 2
    · iterate 2 (refine sq rfl rfl rfl (by simp [go_sem, X, Try.f34]; rfl) ?_)
      rfl
    exact ACode.ret ⟨rfl, rfl, .inl ⟨by simp only [c7, true_or, or_true], rfl, by simp [tget_set], by simp [tget_set]⟩⟩
  by_cases c8 : 7 < ring
  ·
    refine ACode.seq (ACode.regS noT_ok names_ok mix (t' := ?_) (L' := ?_) [0, 1, 2, 3, 4, 5, 6, 7, 8, 9, 10, 11, 12, 13, 14, 15, 16, 17, 18, 19, 20, 21, 22, 23, 24, 25, 26, 27, 28, 29, 30, 31, 32, 33, 34, 35, 36, 37, 38, 39, 40, 41, 42, 43, 44, 45, 46, 47, 48] (by rfl) ?_ ?_)
    rotate_left 2
    · iterate 4 (refine sq rfl rfl rfl (by simp [go_sem, xs, xe, xa, xi, xo, xb, xv, xc, xk, t1, t4, t5, hl0, hl1, hl8, hl9, hlen, hw, c0, c1, c2, c3, c4, c5, c6, c7, c8, Try.f34]; rfl) ?_)
      iterate 3 (refine sq rfl rfl (by simp [go_sem, xs, xe, xa, xi, xo, xb, xv, xc, xk, t1, t4, t5, hl0, hl1, hl8, hl9, hlen, hw, c0, c1, c2, c3, c4, c5, c6, c7, c8, Try.f34]) (by simp [go_sem, xs, xe, xa, xi, xo, xb, xv, xc, xk, t1, t4, t5, hl0, hl1, hl8, hl9, hlen, hw, c0, c1, c2, c3, c4, c5, c6, c7, c8, Try.f34]; rfl) ?_)
      iterate 2 (refine sq rfl rfl rfl (by simp [go_sem, xs, xe, xa, xi, xo, xb, xv, xc, xk, t1, t4, t5, hl0, hl1, hl8, hl9, hlen, hw, c0, c1, c2, c3, c4, c5, c6, c7, c8, Try.f34]; rfl) ?_)
      iterate 3 (refine sq rfl rfl (by simp [go_sem, xs, xe, xa, xi, xo, xb, xv, xc, xk, t1, t4, t5, hl0, hl1, hl8, hl9, hlen, hw, c0, c1, c2, c3, c4, c5, c6, c7, c8, Try.f34]) (by simp [go_sem, xs, xe, xa, xi, xo, xb, xv, xc, xk, t1, t4, t5, hl0, hl1, hl8, hl9, hlen, hw, c0, c1, c2, c3, c4, c5, c6, c7, c8, Try.f34]; rfl) ?_)
      iterate 2 (refine sq rfl rfl rfl (by simp [go_sem, xs, xe, xa, xi, xo, xb, xv, xc, xk, t1, t4, t5, hl0, hl1, hl8, hl9, hlen, hw, c0, c1, c2, c3, c4, c5, c6, c7, c8, Try.f34]; rfl) ?_)
      iterate 3 (refine sq rfl rfl (by simp [go_sem, xs, xe, xa, xi, xo, xb, xv, xc, xk, t1, t4, t5, hl0, hl1, hl8, hl9, hlen, hw, c0, c1, c2, c3, c4, c5, c6, c7, c8, Try.f34]) (by simp [go_sem, xs, xe, xa, xi, xo, xb, xv, xc, xk, t1, t4, t5, hl0, hl1, hl8, hl9, hlen, hw, c0, c1, c2, c3, c4, c5, c6, c7, c8, Try.f34]; rfl) ?_)
      iterate 2 (refine sq rfl rfl rfl (by simp [go_sem, xs, xe, xa, xi, xo, xb, xv, xc, xk, t1, t4, t5, hl0, hl1, hl8, hl9, hlen, hw, c0, c1, c2, c3, c4, c5, c6, c7, c8, Try.f34]; rfl) ?_)
      iterate 2 (refine sq rfl rfl (by simp [go_sem, xs, xe, xa, xi, xo, xb, xv, xc, xk, t1, t4, t5, hl0, hl1, hl8, hl9, hlen, hw, c0, c1, c2, c3, c4, c5, c6, c7, c8, Try.f34]) (by simp [go_sem, xs, xe, xa, xi, xo, xb, xv, xc, xk, t1, t4, t5, hl0, hl1, hl8, hl9, hlen, hw, c0, c1, c2, c3, c4, c5, c6, c7, c8, Try.f34]; rfl) ?_)
      iterate 2 (refine sq rfl rfl rfl (by simp [go_sem, xs, xe, xa, xi, xo, xb, xv, xc, xk, t1, t4, t5, hl0, hl1, hl8, hl9, hlen, hw, c0, c1, c2, c3, c4, c5, c6, c7, c8, Try.f34]; rfl) ?_)
      iterate 2 (refine sq rfl rfl (by simp [go_sem, xs, xe, xa, xi, xo, xb, xv, xc, xk, t1, t4, t5, hl0, hl1, hl8, hl9, hlen, hw, c0, c1, c2, c3, c4, c5, c6, c7, c8, Try.f34]) (by simp [go_sem, xs, xe, xa, xi, xo, xb, xv, xc, xk, t1, t4, t5, hl0, hl1, hl8, hl9, hlen, hw, c0, c1, c2, c3, c4, c5, c6, c7, c8, Try.f34]; rfl) ?_)
      iterate 2 (refine sq rfl rfl rfl (by simp [go_sem, xs, xe, xa, xi, xo, xb, xv, xc, xk, t1, t4, t5, hl0, hl1, hl8, hl9, hlen, hw, c0, c1, c2, c3, c4, c5, c6, c7, c8, Try.f34]; rfl) ?_)
      iterate 5 (refine sq rfl rfl (by simp [go_sem, xs, xe, xa, xi, xo, xb, xv, xc, xk, t1, t4, t5, hl0, hl1, hl8, hl9, hlen, hw, c0, c1, c2, c3, c4, c5, c6, c7, c8, Try.f34]) (by simp [go_sem, xs, xe, xa, xi, xo, xb, xv, xc, xk, t1, t4, t5, hl0, hl1, hl8, hl9, hlen, hw, c0, c1, c2, c3, c4, c5, c6, c7, c8, Try.f34]; rfl) ?_)
      iterate 2 (refine sq rfl rfl rfl (by simp [go_sem, xs, xe, xa, xi, xo, xb, xv, xc, xk, t1, t4, t5, hl0, hl1, hl8, hl9, hlen, hw, c0, c1, c2, c3, c4, c5, c6, c7, c8, Try.f34]; rfl) ?_)
      iterate 3 (refine sq rfl rfl (by simp [go_sem, xs, xe, xa, xi, xo, xb, xv, xc, xk, t1, t4, t5, hl0, hl1, hl8, hl9, hlen, hw, c0, c1, c2, c3, c4, c5, c6, c7, c8, Try.f34]) (by simp [go_sem, xs, xe, xa, xi, xo, xb, xv, xc, xk, t1, t4, t5, hl0, hl1, hl8, hl9, hlen, hw, c0, c1, c2, c3, c4, c5, c6, c7, c8, Try.f34]; rfl) ?_)
      iterate 2 (refine sq rfl rfl rfl (by simp [go_sem, xs, xe, xa, xi, xo, xb, xv, xc, xk, t1, t4, t5, hl0, hl1, hl8, hl9, hlen, hw, c0, c1, c2, c3, c4, c5, c6, c7, c8, Try.f34]; rfl) ?_)
      iterate 3 (refine sq rfl rfl (by simp [go_sem, xs, xe, xa, xi, xo, xb, xv, xc, xk, t1, t4, t5, hl0, hl1, hl8, hl9, hlen, hw, c0, c1, c2, c3, c4, c5, c6, c7, c8, Try.f34]) (by simp [go_sem, xs, xe, xa, xi, xo, xb, xv, xc, xk, t1, t4, t5, hl0, hl1, hl8, hl9, hlen, hw, c0, c1, c2, c3, c4, c5, c6, c7, c8, Try.f34]; rfl) ?_)
      iterate 2 (refine sq rfl rfl rfl (by simp [go_sem, xs, xe, xa, xi, xo, xb, xv, xc, xk, t1, t4, t5, hl0, hl1, hl8, hl9, hlen, hw, c0, c1, c2, c3, c4, c5, c6, c7, c8, Try.f34]; rfl) ?_)
      iterate 4 (refine sk rfl rfl (by simp [go_sem, xs, xe, xa, xi, xo, xb, xv, xc, xk, t1, t4, t5, hl0, hl1, hl8, hl9, hlen, hw, c0, c1, c2, c3, c4, c5, c6, c7, c8, Try.f34]) ?_)
      refine sq rfl rfl rfl (by simp [go_sem, xs, xe, xa, xi, xo, xb, xv, xc, xk, t1, t4, t5, hl0, hl1, hl8, hl9, hlen, hw, c0, c1, c2, c3, c4, c5, c6, c7, c8, Try.f34]; rfl) ?_
      rfl
    refine ACode.condT (by simp [tget_set, opd]) ?_
    refine ACode.seq (ACode.regS noT_ok names_ok mix (t' := ?_) (L' := ?_) [0, 1] (by rfl) ?_ ?_)
    rotate_left 2
    · iterate 2 (refine sq rfl rfl rfl (by simp [go_sem, X, Try.f34]; rfl) ?_)
      rfl
    exact ACode.ret ⟨rfl, rfl, .inl ⟨by simp only [c8, true_or, or_true], rfl, by simp [tget_set], by simp [tget_set]⟩⟩
  by_cases c9 : 40 < ne
  ·
    refine ACode.seq (ACode.regS noT_ok names_ok mix (t' := ?_) (L' := ?_) [0, 1, 2, 3, 4, 5, 6, 7, 8, 9, 10, 11, 12, 13, 14, 15, 16, 17, 18, 19, 20, 21, 22, 23, 24, 25, 26, 27, 28, 29, 30, 31, 32, 33, 34, 35, 36, 37, 38, 39, 40, 41, 42, 43, 44, 45, 46, 47, 48] (by rfl) ?_ ?_)
    rotate_left 2
    · iterate 4 (refine sq rfl rfl rfl (by simp [go_sem, xs, xe, xa, xi, xo, xb, xv, xc, xk, t1, t4, t5, hl0, hl1, hl8, hl9, hlen, hw, c0, c1, c2, c3, c4, c5, c6, c7, c8, c9, Try.f34]; rfl) ?_)
      iterate 3 (refine sq rfl rfl (by simp [go_sem, xs, xe, xa, xi, xo, xb, xv, xc, xk, t1, t4, t5, hl0, hl1, hl8, hl9, hlen, hw, c0, c1, c2, c3, c4, c5, c6, c7, c8, c9, Try.f34]) (by simp [go_sem, xs, xe, xa, xi, xo, xb, xv, xc, xk, t1, t4, t5, hl0, hl1, hl8, hl9, hlen, hw, c0, c1, c2, c3, c4, c5, c6, c7, c8, c9, Try.f34]; rfl) ?_)
      iterate 2 (refine sq rfl rfl rfl (by simp [go_sem, xs, xe, xa, xi, xo, xb, xv, xc, xk, t1, t4, t5, hl0, hl1, hl8, hl9, hlen, hw, c0, c1, c2, c3, c4, c5, c6, c7, c8, c9, Try.f34]; rfl) ?_)
      iterate 3 (refine sq rfl rfl (by simp [go_sem, xs, xe, xa, xi, xo, xb, xv, xc, xk, t1, t4, t5, hl0, hl1, hl8, hl9, hlen, hw, c0, c1, c2, c3, c4, c5, c6, c7, c8, c9, Try.f34]) (by simp [go_sem, xs, xe, xa, xi, xo, xb, xv, xc, xk, t1, t4, t5, hl0, hl1, hl8, hl9, hlen, hw, c0, c1, c2, c3, c4, c5, c6, c7, c8, c9, Try.f34]; rfl) ?_)
      iterate 2 (refine sq rfl rfl rfl (by simp [go_sem, xs, xe, xa, xi, xo, xb, xv, xc, xk, t1, t4, t5, hl0, hl1, hl8, hl9, hlen, hw, c0, c1, c2, c3, c4, c5, c6, c7, c8, c9, Try.f34]; rfl) ?_)
      iterate 3 (refine sq rfl rfl (by simp [go_sem, xs, xe, xa, xi, xo, xb, xv, xc, xk, t1, t4, t5, hl0, hl1, hl8, hl9, hlen, hw, c0, c1, c2, c3, c4, c5, c6, c7, c8, c9, Try.f34]) (by simp [go_sem, xs, xe, xa, xi, xo, xb, xv, xc, xk, t1, t4, t5, hl0, hl1, hl8, hl9, hlen, hw, c0, c1, c2, c3, c4, c5, c6, c7, c8, c9, Try.f34]; rfl) ?_)
      iterate 2 (refine sq rfl rfl rfl (by simp [go_sem, xs, xe, xa, xi, xo, xb, xv, xc, xk, t1, t4, t5, hl0, hl1, hl8, hl9, hlen, hw, c0, c1, c2, c3, c4, c5, c6, c7, c8, c9, Try.f34]; rfl) ?_)
      iterate 2 (refine sq rfl rfl (by simp [go_sem, xs, xe, xa, xi, xo, xb, xv, xc, xk, t1, t4, t5, hl0, hl1, hl8, hl9, hlen, hw, c0, c1, c2, c3, c4, c5, c6, c7, c8, c9, Try.f34]) (by simp [go_sem, xs, xe, xa, xi, xo, xb, xv, xc, xk, t1, t4, t5, hl0, hl1, hl8, hl9, hlen, hw, c0, c1, c2, c3, c4, c5, c6, c7, c8, c9, Try.f34]; rfl) ?_)
      iterate 2 (refine sq rfl rfl rfl (by simp [go_sem, xs, xe, xa, xi, xo, xb, xv, xc, xk, t1, t4, t5, hl0, hl1, hl8, hl9, hlen, hw, c0, c1, c2, c3, c4, c5, c6, c7, c8, c9, Try.f34]; rfl) ?_)
      iterate 2 (refine sq rfl rfl (by simp [go_sem, xs, xe, xa, xi, xo, xb, xv, xc, xk, t1, t4, t5, hl0, hl1, hl8, hl9, hlen, hw, c0, c1, c2, c3, c4, c5, c6, c7, c8, c9, Try.f34]) (by simp [go_sem, xs, xe, xa, xi, xo, xb, xv, xc, xk, t1, t4, t5, hl0, hl1, hl8, hl9, hlen, hw, c0, c1, c2, c3, c4, c5, c6, c7, c8, c9, Try.f34]; rfl) ?_)
      iterate 2 (refine sq rfl rfl rfl (by simp [go_sem, xs, xe, xa, xi, xo, xb, xv, xc, xk, t1, t4, t5, hl0, hl1, hl8, hl9, hlen, hw, c0, c1, c2, c3, c4, c5, c6, c7, c8, c9, Try.f34]; rfl) ?_)
      iterate 5 (refine sq rfl rfl (by simp [go_sem, xs, xe, xa, xi, xo, xb, xv, xc, xk, t1, t4, t5, hl0, hl1, hl8, hl9, hlen, hw, c0, c1, c2, c3, c4, c5, c6, c7, c8, c9, Try.f34]) (by simp [go_sem, xs, xe, xa, xi, xo, xb, xv, xc, xk, t1, t4, t5, hl0, hl1, hl8, hl9, hlen, hw, c0, c1, c2, c3, c4, c5, c6, c7, c8, c9, Try.f34]; rfl) ?_)
      iterate 2 (refine sq rfl rfl rfl (by simp [go_sem, xs, xe, xa, xi, xo, xb, xv, xc, xk, t1, t4, t5, hl0, hl1, hl8, hl9, hlen, hw, c0, c1, c2, c3, c4, c5, c6, c7, c8, c9, Try.f34]; rfl) ?_)
      iterate 3 (refine sq rfl rfl (by simp [go_sem, xs, xe, xa, xi, xo, xb, xv, xc, xk, t1, t4, t5, hl0, hl1, hl8, hl9, hlen, hw, c0, c1, c2, c3, c4, c5, c6, c7, c8, c9, Try.f34]) (by simp [go_sem, xs, xe, xa, xi, xo, xb, xv, xc, xk, t1, t4, t5, hl0, hl1, hl8, hl9, hlen, hw, c0, c1, c2, c3, c4, c5, c6, c7, c8, c9, Try.f34]; rfl) ?_)
      iterate 2 (refine sq rfl rfl rfl (by simp [go_sem, xs, xe, xa, xi, xo, xb, xv, xc, xk, t1, t4, t5, hl0, hl1, hl8, hl9, hlen, hw, c0, c1, c2, c3, c4, c5, c6, c7, c8, c9, Try.f34]; rfl) ?_)
      iterate 3 (refine sq rfl rfl (by simp [go_sem, xs, xe, xa, xi, xo, xb, xv, xc, xk, t1, t4, t5, hl0, hl1, hl8, hl9, hlen, hw, c0, c1, c2, c3, c4, c5, c6, c7, c8, c9, Try.f34]) (by simp [go_sem, xs, xe, xa, xi, xo, xb, xv, xc, xk, t1, t4, t5, hl0, hl1, hl8, hl9, hlen, hw, c0, c1, c2, c3, c4, c5, c6, c7, c8, c9, Try.f34]; rfl) ?_)
      iterate 2 (refine sq rfl rfl rfl (by simp [go_sem, xs, xe, xa, xi, xo, xb, xv, xc, xk, t1, t4, t5, hl0, hl1, hl8, hl9, hlen, hw, c0, c1, c2, c3, c4, c5, c6, c7, c8, c9, Try.f34]; rfl) ?_)
      iterate 4 (refine sq rfl rfl (by simp [go_sem, xs, xe, xa, xi, xo, xb, xv, xc, xk, t1, t4, t5, hl0, hl1, hl8, hl9, hlen, hw, c0, c1, c2, c3, c4, c5, c6, c7, c8, c9, Try.f34]) (by simp [go_sem, xs, xe, xa, xi, xo, xb, xv, xc, xk, t1, t4, t5, hl0, hl1, hl8, hl9, hlen, hw, c0, c1, c2, c3, c4, c5, c6, c7, c8, c9, Try.f34]; rfl) ?_)
      refine sq rfl rfl rfl (by simp [go_sem, xs, xe, xa, xi, xo, xb, xv, xc, xk, t1, t4, t5, hl0, hl1, hl8, hl9, hlen, hw, c0, c1, c2, c3, c4, c5, c6, c7, c8, c9, Try.f34]; rfl) ?_
      rfl
    refine ACode.condT (by simp [tget_set, opd]) ?_
    refine ACode.seq (ACode.regS noT_ok names_ok mix (t' := ?_) (L' := ?_) [0, 1] (by rfl) ?_ ?_)
    rotate_left 2
    · iterate 2 (refine sq rfl rfl rfl (by simp [go_sem, X, Try.f34]; rfl) ?_)
      rfl
    exact ACode.ret ⟨rfl, rfl, .inl ⟨by simp only [c9, true_or, or_true], rfl, by simp [tget_set], by simp [tget_set]⟩⟩
  refine ACode.seq (ACode.regS noT_ok names_ok mix (t' := ?_) (L' := ?_) [0, 1, 2, 3, 4, 5, 6, 7, 8, 9, 10, 11, 12, 13, 14, 15, 16, 17, 18, 19, 20, 21, 22, 23, 24, 25, 26, 27, 28, 29, 30, 31, 32, 33, 34, 35, 36, 37, 38, 39, 40, 41, 42, 43, 44, 45, 46, 47, 48] (by rfl) ?_ ?_)
  rotate_left 2
  · iterate 4 (refine sq rfl rfl rfl (by simp [go_sem, xs, xe, xa, xi, xo, xb, xv, xc, xk, t1, t4, t5, hl0, hl1, hl8, hl9, hlen, hw, c0, c1, c2, c3, c4, c5, c6, c7, c8, c9, Try.f34]; rfl) ?_)
    iterate 3 (refine sq rfl rfl (by simp [go_sem, xs, xe, xa, xi, xo, xb, xv, xc, xk, t1, t4, t5, hl0, hl1, hl8, hl9, hlen, hw, c0, c1, c2, c3, c4, c5, c6, c7, c8, c9, Try.f34]) (by simp [go_sem, xs, xe, xa, xi, xo, xb, xv, xc, xk, t1, t4, t5, hl0, hl1, hl8, hl9, hlen, hw, c0, c1, c2, c3, c4, c5, c6, c7, c8, c9, Try.f34]; rfl) ?_)
    iterate 2 (refine sq rfl rfl rfl (by simp [go_sem, xs, xe, xa, xi, xo, xb, xv, xc, xk, t1, t4, t5, hl0, hl1, hl8, hl9, hlen, hw, c0, c1, c2, c3, c4, c5, c6, c7, c8, c9, Try.f34]; rfl) ?_)
    iterate 3 (refine sq rfl rfl (by simp [go_sem, xs, xe, xa, xi, xo, xb, xv, xc, xk, t1, t4, t5, hl0, hl1, hl8, hl9, hlen, hw, c0, c1, c2, c3, c4, c5, c6, c7, c8, c9, Try.f34]) (by simp [go_sem, xs, xe, xa, xi, xo, xb, xv, xc, xk, t1, t4, t5, hl0, hl1, hl8, hl9, hlen, hw, c0, c1, c2, c3, c4, c5, c6, c7, c8, c9, Try.f34]; rfl) ?_)
    iterate 2 (refine sq rfl rfl rfl (by simp [go_sem, xs, xe, xa, xi, xo, xb, xv, xc, xk, t1, t4, t5, hl0, hl1, hl8, hl9, hlen, hw, c0, c1, c2, c3, c4, c5, c6, c7, c8, c9, Try.f34]; rfl) ?_)
    iterate 3 (refine sq rfl rfl (by simp [go_sem, xs, xe, xa, xi, xo, xb, xv, xc, xk, t1, t4, t5, hl0, hl1, hl8, hl9, hlen, hw, c0, c1, c2, c3, c4, c5, c6, c7, c8, c9, Try.f34]) (by simp [go_sem, xs, xe, xa, xi, xo, xb, xv, xc, xk, t1, t4, t5, hl0, hl1, hl8, hl9, hlen, hw, c0, c1, c2, c3, c4, c5, c6, c7, c8, c9, Try.f34]; rfl) ?_)
    iterate 2 (refine sq rfl rfl rfl (by simp [go_sem, xs, xe, xa, xi, xo, xb, xv, xc, xk, t1, t4, t5, hl0, hl1, hl8, hl9, hlen, hw, c0, c1, c2, c3, c4, c5, c6, c7, c8, c9, Try.f34]; rfl) ?_)
    iterate 2 (refine sq rfl rfl (by simp [go_sem, xs, xe, xa, xi, xo, xb, xv, xc, xk, t1, t4, t5, hl0, hl1, hl8, hl9, hlen, hw, c0, c1, c2, c3, c4, c5, c6, c7, c8, c9, Try.f34]) (by simp [go_sem, xs, xe, xa, xi, xo, xb, xv, xc, xk, t1, t4, t5, hl0, hl1, hl8, hl9, hlen, hw, c0, c1, c2, c3, c4, c5, c6, c7, c8, c9, Try.f34]; rfl) ?_)
    iterate 2 (refine sq rfl rfl rfl (by simp [go_sem, xs, xe, xa, xi, xo, xb, xv, xc, xk, t1, t4, t5, hl0, hl1, hl8, hl9, hlen, hw, c0, c1, c2, c3, c4, c5, c6, c7, c8, c9, Try.f34]; rfl) ?_)
    iterate 2 (refine sq rfl rfl (by simp [go_sem, xs, xe, xa, xi, xo, xb, xv, xc, xk, t1, t4, t5, hl0, hl1, hl8, hl9, hlen, hw, c0, c1, c2, c3, c4, c5, c6, c7, c8, c9, Try.f34]) (by simp [go_sem, xs, xe, xa, xi, xo, xb, xv, xc, xk, t1, t4, t5, hl0, hl1, hl8, hl9, hlen, hw, c0, c1, c2, c3, c4, c5, c6, c7, c8, c9, Try.f34]; rfl) ?_)
    iterate 2 (refine sq rfl rfl rfl (by simp [go_sem, xs, xe, xa, xi, xo, xb, xv, xc, xk, t1, t4, t5, hl0, hl1, hl8, hl9, hlen, hw, c0, c1, c2, c3, c4, c5, c6, c7, c8, c9, Try.f34]; rfl) ?_)
    iterate 5 (refine sq rfl rfl (by simp [go_sem, xs, xe, xa, xi, xo, xb, xv, xc, xk, t1, t4, t5, hl0, hl1, hl8, hl9, hlen, hw, c0, c1, c2, c3, c4, c5, c6, c7, c8, c9, Try.f34]) (by simp [go_sem, xs, xe, xa, xi, xo, xb, xv, xc, xk, t1, t4, t5, hl0, hl1, hl8, hl9, hlen, hw, c0, c1, c2, c3, c4, c5, c6, c7, c8, c9, Try.f34]; rfl) ?_)
    iterate 2 (refine sq rfl rfl rfl (by simp [go_sem, xs, xe, xa, xi, xo, xb, xv, xc, xk, t1, t4, t5, hl0, hl1, hl8, hl9, hlen, hw, c0, c1, c2, c3, c4, c5, c6, c7, c8, c9, Try.f34]; rfl) ?_)
    iterate 3 (refine sq rfl rfl (by simp [go_sem, xs, xe, xa, xi, xo, xb, xv, xc, xk, t1, t4, t5, hl0, hl1, hl8, hl9, hlen, hw, c0, c1, c2, c3, c4, c5, c6, c7, c8, c9, Try.f34]) (by simp [go_sem, xs, xe, xa, xi, xo, xb, xv, xc, xk, t1, t4, t5, hl0, hl1, hl8, hl9, hlen, hw, c0, c1, c2, c3, c4, c5, c6, c7, c8, c9, Try.f34]; rfl) ?_)
    iterate 2 (refine sq rfl rfl rfl (by simp [go_sem, xs, xe, xa, xi, xo, xb, xv, xc, xk, t1, t4, t5, hl0, hl1, hl8, hl9, hlen, hw, c0, c1, c2, c3, c4, c5, c6, c7, c8, c9, Try.f34]; rfl) ?_)
    iterate 3 (refine sq rfl rfl (by simp [go_sem, xs, xe, xa, xi, xo, xb, xv, xc, xk, t1, t4, t5, hl0, hl1, hl8, hl9, hlen, hw, c0, c1, c2, c3, c4, c5, c6, c7, c8, c9, Try.f34]) (by simp [go_sem, xs, xe, xa, xi, xo, xb, xv, xc, xk, t1, t4, t5, hl0, hl1, hl8, hl9, hlen, hw, c0, c1, c2, c3, c4, c5, c6, c7, c8, c9, Try.f34]; rfl) ?_)
    iterate 2 (refine sq rfl rfl rfl (by simp [go_sem, xs, xe, xa, xi, xo, xb, xv, xc, xk, t1, t4, t5, hl0, hl1, hl8, hl9, hlen, hw, c0, c1, c2, c3, c4, c5, c6, c7, c8, c9, Try.f34]; rfl) ?_)
    iterate 4 (refine sq rfl rfl (by simp [go_sem, xs, xe, xa, xi, xo, xb, xv, xc, xk, t1, t4, t5, hl0, hl1, hl8, hl9, hlen, hw, c0, c1, c2, c3, c4, c5, c6, c7, c8, c9, Try.f34]) (by simp [go_sem, xs, xe, xa, xi, xo, xb, xv, xc, xk, t1, t4, t5, hl0, hl1, hl8, hl9, hlen, hw, c0, c1, c2, c3, c4, c5, c6, c7, c8, c9, Try.f34]; rfl) ?_)
    refine sq rfl rfl rfl (by simp [go_sem, xs, xe, xa, xi, xo, xb, xv, xc, xk, t1, t4, t5, hl0, hl1, hl8, hl9, hlen, hw, c0, c1, c2, c3, c4, c5, c6, c7, c8, c9, Try.f34]; rfl) ?_
    rfl
  refine ACode.condF (by simp [tget_set, opd]) (ACode.skip ?_)
  exact ⟨rfl, rfl, .inr ⟨by simp only [c0, c1, c2, c3, c4, c5, c6, c7, c8, c9, or_self, not_false_eq_true], rfl, by simp [tget_set, t1], by simp [tget_set, t4], by simp [tget_set, t5]⟩⟩
end
end Go.Proofs.Ytpfmoolpeecobaa
