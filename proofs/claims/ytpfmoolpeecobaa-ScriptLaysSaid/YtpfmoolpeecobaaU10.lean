/- Parts of an event that is laid. A text that is laid. An event that is laid. -/
import Derived.Test.YtpfmoolpeecobaaU9
namespace Go.Proofs.Ytpfmoolpeecobaa
open Go Go.Proofs Go.Proofs.Ytpfmoolpeecobaa.Ev
set_option linter.unusedVariables false
set_option linter.unusedSimpArgs false
set_option maxRecDepth 100000
set_option maxHeartbeats 4000000

def cBlk : Code → Code
  | .block _ b => b
  | c => c
noncomputable def x76_0 : Code := cBlk (cSnd (cFst sfx76))
noncomputable def x76_5 : Code := cBlk (cFst x76_0)
noncomputable def x76_4 : Code := cBlk (cFst x76_5)
noncomputable def x76_3 : Code := cBlk (cFst x76_4)
noncomputable def x76_2 : Code := cBlk (cFst x76_3)
noncomputable def cWhat : Code := cFst (cSnd x76_0)
noncomputable def cSize : Code := cFst (cSnd x76_5)
noncomputable def cMove : Code := cSnd x76_4
noncomputable def cText : Code := cFst (cSnd x76_3)
noncomputable def cPaste : Code := cSnd x76_2
/-- code that leads from a heap to a heap, and keeps what leads to the blocks -/
def WS (W E O : Nat) (c : Code) (A A' : Heap) : Prop := ∀ t : T V, tget t 0 = .ptr W 0 → tget t 3 = .ptr E 0 → tget t 4 = .ptr O 0 →
  ACode Try.prog ⟨none, 148⟩ c t [] A (fun x t' d' A'' => x = .normal ∧ d' = [] ∧ A'' = A' ∧ tget t' 0 = .ptr W 0 ∧ tget t' 3 = .ptr E 0 ∧ tget t' 4 = .ptr O 0)
theorem ld86 {A : Heap} {E : Nat} {e : Evt} (hE : A.t.get E = some (evB (evF e))) : Heap.load Try.prog A 3 E 0 = some (.int .i64 e.k) ∧ Heap.load Try.prog A 3 E 1 = some (.int .i64 e.s) ∧ Heap.load Try.prog A 9 E 2 = some (.str e.t) ∧ Heap.load Try.prog A 51 E 3 = some (.int .u8 e.lv) ∧ Heap.load Try.prog A 3 E 4 = some (.int .i64 e.r1) ∧ Heap.load Try.prog A 3 E 5 = some (.int .i64 e.r2) ∧ Heap.load Try.prog A 3 E 6 = some (.int .i64 e.r3) ∧ Heap.load Try.prog A 3 E 7 = some (.int .i64 e.r4) ∧ Heap.load Try.prog A 3 E 8 = some (.int .i64 e.w) := by
  unfold evB evF at hE
  simp [Heap.load, Heap.elem, hE, T.get_set, Ev.part, pa3, pa51, pa9]
section
variable {L A : Heap} {W : Nat} {v0 v : V} {bad : Bool} {l : List Int} {sl E O : Nat} {e o : Evt}
theorem ne86 {a b : Nat} (h : a ≠ b) : (a = b) = False := eq_false h
theorem ne86' {a b : Nat} (h : a ≠ b) : (b = a) = False := eq_false h.symm
theorem wwhat_ok (h : ES L A W v0 v bad l sl E O (evF e) (evF o)) (hl : l.length ≤ 2000000) :
    ∃ A' v', WS W E O cWhat A A' ∧ ES L A' W v0 v' (bad || decide (e.w < 0) || decide (8 ≤ e.w)) (l ++ [lowB e.w]) (sl - 1) E O (evF e) (evF { o with w := e.w }) := by
  obtain ⟨A1, v1, c1, w1, o1⟩ := below_step h.wr 8 e.w (by omega)
  have h1 := h.step w1 o1
  have hf := h1.put (evF { o with w := e.w })
  refine ⟨_, _, ?_, hf⟩
  intro t t0 t3 t4
  obtain ⟨f00, f01, f02, f03, f04, f05, f06, f07, f08⟩ := ld86 h.ev
  obtain ⟨f10, f11, f12, f13, f14, f15, f16, f17, f18⟩ := ld86 h1.ev
  have hO := h1.own
  have hOl : ∀ (B : Heap), B.t.get O = some (evB (evF o)) → B.t.get O = some (.cells (T.set .leaf 0 [.int .i64 o.k, .int .i64 o.s, .str o.t, .int .u8 o.lv, .int .i64 o.r1, .int .i64 o.r2, .int .i64 o.r3, .int .i64 o.r4, .int .i64 o.w]) 1 9 false false) := fun B h => h
  have hO' := hOl _ hO
  show ACode _ _ (Code.seq (Code.region _ _ _) _) _ _ _ _
  refine ACode.seq (ACode.regS (oneT_okP c1) names_ok mix (t' := ?_) (L' := ?_) [0, 1, 2, 3, 4] (by rfl) ?_ ?_)
  rotate_left 2
  · iterate 5 (refine sq rfl rfl rfl (by simp [go_sem, xs, xe, xa, xi, xo, xb, xq, xv, xc, xk, t0, t3, t4, f00, f01, f02, f03, f04, f05, f06, f07, f08, oneT_sameP, Try.f76]; rfl) ?_)
    rfl
  have hE' := h1.ev
  simp only [evB, evF] at hE'
  show ACode _ _ (Code.region _ _ _) _ _ _ _
  refine ACode.regS noT_ok names_ok mix (t' := ?_) (L' := ?_) [0, 1, 2, 3] (by rfl) ?_ ?_
  rotate_left 2
  · iterate 4 (refine sq rfl rfl rfl (by simp [go_sem, xs, xe, xa, xi, xo, xb, xq, xv, xc, xk, t0, t3, t4, f10, f11, f12, f13, f14, f15, f16, f17, f18, hO', Try.f76]; rfl) ?_)
    rfl
  exact ⟨rfl, rfl, rfl, by simp [tget_set, t0], by simp [tget_set, t3], by simp [tget_set, t4]⟩
theorem wpaste_ok (h : ES L A W v0 v bad l sl E O (evF e) (evF o)) (hlv : 0 ≤ e.lv ∧ e.lv ≤ 255) (hl : l.length ≤ 2000000) :
    ∃ A' v', WS W E O cPaste A A' ∧ ES L A' W v0 v' (bad || decide (e.lv < 0) || decide (3 ≤ e.lv)) (l ++ [lowB e.lv]) (sl - 1) E O (evF e) (evF { o with lv := e.lv }) := by
  obtain ⟨A1, v1, c1, w1, o1⟩ := below_step h.wr 3 e.lv (by omega)
  have h1 := h.step w1 o1
  have hf := h1.put (evF { o with lv := e.lv })
  refine ⟨_, _, ?_, hf⟩
  intro t t0 t3 t4
  have hwlv : IntKind.i64.wrap e.lv = e.lv := Go.IntWalk.i64_in _ (by omega)
  obtain ⟨f00, f01, f02, f03, f04, f05, f06, f07, f08⟩ := ld86 h.ev
  obtain ⟨f10, f11, f12, f13, f14, f15, f16, f17, f18⟩ := ld86 h1.ev
  have hO := h1.own
  have hOl : ∀ (B : Heap), B.t.get O = some (evB (evF o)) → B.t.get O = some (.cells (T.set .leaf 0 [.int .i64 o.k, .int .i64 o.s, .str o.t, .int .u8 o.lv, .int .i64 o.r1, .int .i64 o.r2, .int .i64 o.r3, .int .i64 o.r4, .int .i64 o.w]) 1 9 false false) := fun B h => h
  have hO' := hOl _ hO
  show ACode _ _ (Code.seq (Code.region _ _ _) _) _ _ _ _
  refine ACode.seq (ACode.regS (oneT_okP c1) names_ok mix (t' := ?_) (L' := ?_) [0, 1, 2, 3, 4, 5] (by rfl) ?_ ?_)
  rotate_left 2
  · iterate 6 (refine sq rfl rfl rfl (by simp [go_sem, xs, xe, xa, xi, xo, xb, xq, xv, xc, xk, t0, t3, t4, f00, f01, f02, f03, f04, f05, f06, f07, f08, oneT_sameP, hwlv, Try.f76]; rfl) ?_)
    rfl
  have hE' := h1.ev
  simp only [evB, evF] at hE'
  show ACode _ _ (Code.region _ _ _) _ _ _ _
  refine ACode.regS noT_ok names_ok mix (t' := ?_) (L' := ?_) [0, 1, 2, 3] (by rfl) ?_ ?_
  rotate_left 2
  · iterate 4 (refine sq rfl rfl rfl (by simp [go_sem, xs, xe, xa, xi, xo, xb, xq, xv, xc, xk, t0, t3, t4, f10, f11, f12, f13, f14, f15, f16, f17, f18, hO', Try.f76]; rfl) ?_)
    rfl
  exact ⟨rfl, rfl, rfl, by simp [tget_set, t0], by simp [tget_set, t3], by simp [tget_set, t4]⟩
theorem wmove_ok (h : ES L A W v0 v bad l sl E O (evF e) (evF o)) (hl : l.length ≤ 2000000) :
    ∃ A' v', WS W E O cMove A A' ∧ ES L A' W v0 v' ((bad || decide (e.r1 < 0) || decide (16 ≤ e.r1)) || decide (e.r2 < 0) || decide (48 ≤ e.r2)) ((l ++ [lowB e.r1]) ++ [lowB e.r2]) ((sl - 1) - 1) E O (evF e) (evF { o with r1 := e.r1, r2 := e.r2 }) := by
  obtain ⟨A1, v1, c1, w1, o1⟩ := below_step h.wr 16 e.r1 (by omega)
  have h1 := h.step w1 o1
  obtain ⟨A2, v2, c2, w2, o2⟩ := below_step h1.wr 48 e.r2 (by simp; omega)
  have h2 := h1.step w2 o2
  have hf := h2.put (evF { o with r1 := e.r1, r2 := e.r2 })
  refine ⟨_, _, ?_, hf⟩
  intro t t0 t3 t4
  obtain ⟨f00, f01, f02, f03, f04, f05, f06, f07, f08⟩ := ld86 h.ev
  obtain ⟨f10, f11, f12, f13, f14, f15, f16, f17, f18⟩ := ld86 h1.ev
  obtain ⟨f20, f21, f22, f23, f24, f25, f26, f27, f28⟩ := ld86 h2.ev
  have hO := h2.own
  have hOl : ∀ (B : Heap), B.t.get O = some (evB (evF o)) → B.t.get O = some (.cells (T.set .leaf 0 [.int .i64 o.k, .int .i64 o.s, .str o.t, .int .u8 o.lv, .int .i64 o.r1, .int .i64 o.r2, .int .i64 o.r3, .int .i64 o.r4, .int .i64 o.w]) 1 9 false false) := fun B h => h
  have hO' := hOl _ hO
  show ACode _ _ (Code.seq (Code.region _ _ _) _) _ _ _ _
  refine ACode.seq (ACode.regS (oneT_okP c1) names_ok mix (t' := ?_) (L' := ?_) [0, 1, 2, 3, 4, 5] (by rfl) ?_ ?_)
  rotate_left 2
  · iterate 6 (refine sq rfl rfl rfl (by simp [go_sem, xs, xe, xa, xi, xo, xb, xq, xv, xc, xk, t0, t3, t4, f00, f01, f02, f03, f04, f05, f06, f07, f08, oneT_sameP, Try.f76]; rfl) ?_)
    rfl
  show ACode _ _ (Code.seq (Code.region _ _ _) _) _ _ _ _
  refine ACode.seq (ACode.regS (oneT_okP c2) names_ok mix (t' := ?_) (L' := ?_) [0, 1, 2, 3, 4, 5] (by rfl) ?_ ?_)
  rotate_left 2
  · iterate 6 (refine sq rfl rfl rfl (by simp [go_sem, xs, xe, xa, xi, xo, xb, xq, xv, xc, xk, t0, t3, t4, f10, f11, f12, f13, f14, f15, f16, f17, f18, oneT_sameP, Try.f76]; rfl) ?_)
    rfl
  have hE' := h2.ev
  simp only [evB, evF] at hE'
  show ACode _ _ (Code.region _ _ _) _ _ _ _
  refine ACode.regD noT_ok names_ok mix (t' := ?_) (L' := ?_) [0,1,3,0,8,24,7,71,199,511,1023,2047] [0,1,2,3,4,5,6,7,8,9,10,11] (by decide +kernel) (by decide +kernel) (by decide +kernel) ?_ ?_
  rotate_left 2
  · iterate 2 (refine dq rfl rfl rfl rfl (by simp [go_sem, X, t0, t3, t4, hE', hO', ne86 h2.eO, ne86' h2.eO, Try.f76]; rfl) ?_)
    refine dr rfl rfl rfl rfl (by simp [go_sem, X, t0, t3, t4, hE', hO', ne86 h2.eO, ne86' h2.eO, Try.f76]; rfl) ?_
    iterate 2 (refine dq rfl rfl rfl rfl (by simp [go_sem, X, t0, t3, t4, hE', hO', ne86 h2.eO, ne86' h2.eO, Try.f76]; rfl) ?_)
    refine dr rfl rfl rfl rfl (by simp [go_sem, X, t0, t3, t4, hE', hO', ne86 h2.eO, ne86' h2.eO, Try.f76]; rfl) ?_
    iterate 2 (refine dq rfl rfl rfl rfl (by simp [go_sem, X, t0, t3, t4, hE', hO', ne86 h2.eO, ne86' h2.eO, Try.f76]; rfl) ?_)
    refine dl rfl rfl rfl rfl (by simp [go_sem, X, t0, t3, t4, hE', hO', ne86 h2.eO, ne86' h2.eO, Try.f76]; rfl) (by rfl) (by simp [go_sem, X, t0, t3, t4, hE', hO', ne86 h2.eO, ne86' h2.eO, Try.f76]) ?_
    iterate 2 (refine dq rfl rfl rfl rfl (by simp [go_sem, X, t0, t3, t4, hE', hO', ne86 h2.eO, ne86' h2.eO, Try.f76]; rfl) ?_)
    refine dl rfl rfl rfl rfl (by simp [go_sem, X, t0, t3, t4, hE', hO', ne86 h2.eO, ne86' h2.eO, Try.f76]; rfl) (by rfl) (by simp [go_sem, X, t0, t3, t4, hE', hO', ne86 h2.eO, ne86' h2.eO, Try.f76]) ?_
    rfl
  exact ⟨rfl, rfl, rfl, by simp [tget_set, t0], by simp [tget_set, t3], by simp [tget_set, t4]⟩
theorem wsize_ok (h : ES L A W v0 v bad l sl E O (evF e) (evF o)) (hl : l.length ≤ 2000000) :
    ∃ A' v', WS W E O cSize A A' ∧ ES L A' W v0 v' ((bad || decide (e.r3 < 0) || decide (16 ≤ e.r3)) || decide (e.r4 < 0) || decide (48 ≤ e.r4)) ((l ++ [lowB e.r3]) ++ [lowB e.r4]) ((sl - 1) - 1) E O (evF e) (evF { o with r3 := e.r3, r4 := e.r4 }) := by
  obtain ⟨A1, v1, c1, w1, o1⟩ := below_step h.wr 16 e.r3 (by omega)
  have h1 := h.step w1 o1
  obtain ⟨A2, v2, c2, w2, o2⟩ := below_step h1.wr 48 e.r4 (by simp; omega)
  have h2 := h1.step w2 o2
  have hf := h2.put (evF { o with r3 := e.r3, r4 := e.r4 })
  refine ⟨_, _, ?_, hf⟩
  intro t t0 t3 t4
  obtain ⟨f00, f01, f02, f03, f04, f05, f06, f07, f08⟩ := ld86 h.ev
  obtain ⟨f10, f11, f12, f13, f14, f15, f16, f17, f18⟩ := ld86 h1.ev
  obtain ⟨f20, f21, f22, f23, f24, f25, f26, f27, f28⟩ := ld86 h2.ev
  have hO := h2.own
  have hOl : ∀ (B : Heap), B.t.get O = some (evB (evF o)) → B.t.get O = some (.cells (T.set .leaf 0 [.int .i64 o.k, .int .i64 o.s, .str o.t, .int .u8 o.lv, .int .i64 o.r1, .int .i64 o.r2, .int .i64 o.r3, .int .i64 o.r4, .int .i64 o.w]) 1 9 false false) := fun B h => h
  have hO' := hOl _ hO
  show ACode _ _ (Code.seq (Code.region _ _ _) _) _ _ _ _
  refine ACode.seq (ACode.regS (oneT_okP c1) names_ok mix (t' := ?_) (L' := ?_) [0, 1, 2, 3, 4, 5] (by rfl) ?_ ?_)
  rotate_left 2
  · iterate 6 (refine sq rfl rfl rfl (by simp [go_sem, xs, xe, xa, xi, xo, xb, xq, xv, xc, xk, t0, t3, t4, f00, f01, f02, f03, f04, f05, f06, f07, f08, oneT_sameP, Try.f76]; rfl) ?_)
    rfl
  show ACode _ _ (Code.seq (Code.region _ _ _) _) _ _ _ _
  refine ACode.seq (ACode.regS (oneT_okP c2) names_ok mix (t' := ?_) (L' := ?_) [0, 1, 2, 3, 4, 5] (by rfl) ?_ ?_)
  rotate_left 2
  · iterate 6 (refine sq rfl rfl rfl (by simp [go_sem, xs, xe, xa, xi, xo, xb, xq, xv, xc, xk, t0, t3, t4, f10, f11, f12, f13, f14, f15, f16, f17, f18, oneT_sameP, Try.f76]; rfl) ?_)
    rfl
  have hE' := h2.ev
  simp only [evB, evF] at hE'
  show ACode _ _ (Code.region _ _ _) _ _ _ _
  refine ACode.regD noT_ok names_ok mix (t' := ?_) (L' := ?_) [0,1,3,0,8,24,7,71,199,511,1023,2047] [0,1,2,3,4,5,6,7,8,9,10,11] (by decide +kernel) (by decide +kernel) (by decide +kernel) ?_ ?_
  rotate_left 2
  · iterate 2 (refine dq rfl rfl rfl rfl (by simp [go_sem, X, t0, t3, t4, hE', hO', ne86 h2.eO, ne86' h2.eO, Try.f76]; rfl) ?_)
    refine dr rfl rfl rfl rfl (by simp [go_sem, X, t0, t3, t4, hE', hO', ne86 h2.eO, ne86' h2.eO, Try.f76]; rfl) ?_
    iterate 2 (refine dq rfl rfl rfl rfl (by simp [go_sem, X, t0, t3, t4, hE', hO', ne86 h2.eO, ne86' h2.eO, Try.f76]; rfl) ?_)
    refine dr rfl rfl rfl rfl (by simp [go_sem, X, t0, t3, t4, hE', hO', ne86 h2.eO, ne86' h2.eO, Try.f76]; rfl) ?_
    iterate 2 (refine dq rfl rfl rfl rfl (by simp [go_sem, X, t0, t3, t4, hE', hO', ne86 h2.eO, ne86' h2.eO, Try.f76]; rfl) ?_)
    refine dl rfl rfl rfl rfl (by simp [go_sem, X, t0, t3, t4, hE', hO', ne86 h2.eO, ne86' h2.eO, Try.f76]; rfl) (by rfl) (by simp [go_sem, X, t0, t3, t4, hE', hO', ne86 h2.eO, ne86' h2.eO, Try.f76]) ?_
    iterate 2 (refine dq rfl rfl rfl rfl (by simp [go_sem, X, t0, t3, t4, hE', hO', ne86 h2.eO, ne86' h2.eO, Try.f76]; rfl) ?_)
    refine dl rfl rfl rfl rfl (by simp [go_sem, X, t0, t3, t4, hE', hO', ne86 h2.eO, ne86' h2.eO, Try.f76]; rfl) (by rfl) (by simp [go_sem, X, t0, t3, t4, hE', hO', ne86 h2.eO, ne86' h2.eO, Try.f76]) ?_
    rfl
  exact ⟨rfl, rfl, rfl, by simp [tget_set, t0], by simp [tget_set, t3], by simp [tget_set, t4]⟩
end
end Go.Proofs.Ytpfmoolpeecobaa
namespace Go.Proofs.Ytpfmoolpeecobaa
open Go Go.Proofs Go.Proofs.Ytpfmoolpeecobaa.Ev
set_option linter.unusedVariables false
set_option linter.unusedSimpArgs false
set_option maxRecDepth 100000
set_option maxHeartbeats 4000000

/-- a text's bytes -/
def natI (t : List Nat) : List Int := t.map Int.ofNat
theorem cellsStr (t : List Nat) : (V.str t).cells = [V.str t] := rfl
theorem wtext_ok {L A : Heap} {W : Nat} {v0 v : V} {bad : Bool} {l : List Int} {sl E O : Nat} {e o : Evt} (h : ES L A W v0 v bad l sl E O (evF e) (evF o)) (hsl : sl ≤ 1) (hl : l.length ≤ 2000000) (ht : e.t.length ≤ 1000) :
    ∃ A' v', WS W E O cText A A' ∧ ES L A' W v0 v' (bad || decide ((e.t.length : Int) < 0) || decide (64 ≤ (e.t.length : Int))) (l ++ [lowB e.t.length] ++ natI e.t) 0 E O (evF e) (evF { o with t := e.t }) := by
  obtain ⟨A1, v1, c1, w1, o1⟩ := below_step h.wr 64 (e.t.length : Int) (by omega)
  have hsl0 : sl - 1 = 0 := by omega
  rw [hsl0] at w1
  have h1 := h.step w1 o1
  have hsrc : srcElems A1 1 (.str e.t) = some ((natI e.t).map u8c) := by simp [srcElems, guardO, u8c, natI]
  obtain ⟨v2, A2, happ, hr2, hn2, hk2, hm2⟩ := append_S w1.row hsrc (by simp [natI]; omega)
  obtain ⟨w3, o3, hW2⟩ := w1.app hr2 hn2 hk2 hm2
  have h3 := h1.step w3 o3
  have hf := h3.put (evF { o with t := e.t })
  refine ⟨_, _, ?_, hf⟩
  generalize (bad || decide ((e.t.length : Int) < 0) || decide (64 ≤ (e.t.length : Int))) = bx at *
  have hW1 := w1.cell
  intro t t0 t3 t4
  obtain ⟨f00, f01, f02, f03, f04, f05, f06, f07, f08⟩ := ld86 h.ev
  have hE1 := h1.ev
  have hE3 := h3.ev
  have hO3 := h3.own
  have hcs := hr2.cells
  unfold wB at hW1 hW2
  show ACode _ _ (Code.seq (Code.region _ _ _) _) _ _ _ _
  refine ACode.seq (ACode.regS (oneT_okP c1) names_ok mix (t' := ?_) (L' := ?_) [0, 1, 2, 3, 4, 5] (by rfl) ?_ ?_)
  rotate_left 2
  · iterate 6 (refine sq rfl rfl rfl (by simp [go_sem, xs, xe, xa, xi, xo, xb, xq, xv, xc, xk, t0, t3, t4, f02, oneT_sameP, Try.f76]; rfl) ?_)
    rfl
  have hE1' := hE1
  simp only [evB, evF] at hE1'
  refine ACode.seq (ACode.regD noT_ok names_ok mix (t' := ?_) (L' := ?_) [0,0,2,6,14,0,32,126,255,511,1023] [0,1,2,3,4,5,6,7,8,9,10] (by decide +kernel) (by decide +kernel) (by decide +kernel) ?_ ?_)
  rotate_left 2
  · iterate 4 (refine dq rfl rfl rfl rfl (by simp [go_sem, xl, xs, xe, xa, xi, xo, xb, xq, xv, cellsI, cellsStr, scal1, scal2, scal3, scal4, t0, t3, t4, hW1, hW2, hE1', hcs, happ, Try.f76]; rfl) ?_)
    refine dr rfl rfl rfl rfl (by simp [go_sem, xl, xs, xe, xa, xi, xo, xb, xq, xv, cellsI, cellsStr, scal1, scal2, scal3, scal4, t0, t3, t4, hW1, hW2, hE1', hcs, happ, Try.f76]; rfl) ?_
    refine dq rfl rfl rfl rfl (by simp [go_sem, xl, xs, xe, xa, xi, xo, xb, xq, xv, cellsI, cellsStr, scal1, scal2, scal3, scal4, t0, t3, t4, hW1, hW2, hE1', hcs, happ, Try.f76]; rfl) ?_
    refine dr rfl rfl rfl rfl (by simp [go_sem, xl, xs, xe, xa, xi, xo, xb, xq, xv, cellsI, cellsStr, scal1, scal2, scal3, scal4, t0, t3, t4, hW1, hW2, hE1', hcs, happ, Try.f76]; rfl) ?_
    refine dl rfl rfl rfl rfl (by simp [go_sem, xl, xs, xe, xa, xi, xo, xb, xq, xv, cellsI, cellsStr, scal1, scal2, scal3, scal4, t0, t3, t4, hW1, hW2, hE1', hcs, happ, Try.f76]; rfl) (by rfl) (by simp [go_sem, xl, xs, xe, xa, xi, xo, xb, xq, xv, cellsI, cellsStr, scal1, scal2, scal3, scal4, t0, t3, t4, hW1, hW2, hE1', hcs, happ, Try.f76]) ?_
    iterate 2 (refine dq rfl rfl rfl rfl (by simp [go_sem, xl, xs, xe, xa, xi, xo, xb, xq, xv, cellsI, cellsStr, scal1, scal2, scal3, scal4, t0, t3, t4, hW1, hW2, hE1', hcs, happ, Try.f76]; rfl) ?_)
    refine dl rfl rfl rfl rfl (by simp [go_sem, xl, xs, xe, xa, xi, xo, xb, xq, xv, cellsI, cellsStr, scal1, scal2, scal3, scal4, t0, t3, t4, hW1, hW2, hE1', hcs, happ, Try.f76]; rfl) (by rfl) (by simp [go_sem, xl, xs, xe, xa, xi, xo, xb, xq, xv, cellsI, cellsStr, scal1, scal2, scal3, scal4, t0, t3, t4, hW1, hW2, hE1', hcs, happ, Try.f76]) ?_
    rfl
  change ACode _ _ _ _ _ ⟨A2.t.set W (wB v2 bx), A2.next⟩ _
  generalize (⟨A2.t.set W (wB v2 bx), A2.next⟩ : Heap) = A3 at *
  have hE3' := hE3
  have hO3' := hO3
  simp only [evB, evF] at hE3' hO3'
  refine ACode.regS noT_ok names_ok mix (t' := ?_) (L' := ?_) [0, 1, 2, 3] (by rfl) ?_ ?_
  rotate_left 2
  · iterate 4 (refine sq rfl rfl rfl (by simp [go_sem, X, t0, t3, t4, hE3', hO3', Try.f76]; rfl) ?_)
    rfl
  exact ⟨rfl, rfl, rfl, by simp [tget_set, t0], by simp [tget_set, t3], by simp [tget_set, t4]⟩
end Go.Proofs.Ytpfmoolpeecobaa
namespace Go.Proofs.Ytpfmoolpeecobaa
open Go Go.Proofs Go.Proofs.Ytpfmoolpeecobaa.Ev
set_option linter.unusedVariables false
set_option linter.unusedSimpArgs false
set_option maxRecDepth 100000
set_option maxHeartbeats 4000000

/-- what is laid behind an event's first byte -/
def wTail (e : Evt) : List Int :=
  if e.k = 3 then lowB e.lv :: lowB e.t.length :: natI e.t
  else if e.k = 0 ∨ e.k = 4 then lowB e.t.length :: natI e.t
  else if e.k = 5 then [lowB e.r1, lowB e.r2, lowB e.r3, lowB e.r4]
  else if e.k = 6 then [lowB e.r3, lowB e.r4]
  else if e.k = 7 then [lowB e.w]
  else []
def wBytes (e : Evt) : List Int := lowB (e.k + 9 * e.s) :: wTail e
/-- an event's own parts -/
def wOwn (e : Evt) : Evt :=
  if e.k = 3 then ⟨e.k, e.s, e.t, e.lv, 0, 0, 0, 0, 0⟩
  else if e.k = 0 ∨ e.k = 4 then ⟨e.k, e.s, e.t, 0, 0, 0, 0, 0, 0⟩
  else if e.k = 5 then ⟨e.k, e.s, [], 0, e.r1, e.r2, e.r3, e.r4, 0⟩
  else if e.k = 6 then ⟨e.k, e.s, [], 0, 0, 0, e.r3, e.r4, 0⟩
  else if e.k = 7 then ⟨e.k, e.s, [], 0, 0, 0, 0, 0, e.w⟩
  else ⟨e.k, e.s, [], 0, 0, 0, 0, 0, 0⟩
def out (m n : Int) : Bool := decide (n < 0) || decide (m ≤ n)
def wBad (e : Evt) : Bool :=
  out 9 e.k || out 5 e.s ||
    (if e.k = 3 then out 3 e.lv || out 64 e.t.length
     else if e.k = 0 ∨ e.k = 4 then out 64 e.t.length
     else if e.k = 5 then out 16 e.r1 || out 48 e.r2 || out 16 e.r3 || out 48 e.r4
     else if e.k = 6 then out 16 e.r3 || out 48 e.r4
     else if e.k = 7 then out 8 e.w
     else false) || decide (wOwn e ≠ e)
structure EvR (e : Evt) : Prop where
  k : -1000 ≤ e.k ∧ e.k ≤ 1000
  s : -1000 ≤ e.s ∧ e.s ≤ 1000
  lv : 0 ≤ e.lv ∧ e.lv ≤ 255
  t : e.t.length ≤ 1000
theorem or_same {a b c : Bool} (h : b = c) : (a || b) = (a || c) := by rw [h]
section
variable {L : Heap} {W : Nat} {v : V} {bad : Bool} {l : List Int} {sl : Nat} {e : Evt}
theorem wevent_k3 (h : Wr L W v bad l sl) (hsl : sl ≤ 1) (hr : EvR e) (hl : l.length ≤ 1000000) (hk : e.k = 3) :
    ∃ L' v' sl', ACall Try.prog 76 [.ptr W 0, .agg (evF e)] L (.tuple []) L' ∧ Wr L' W v' (bad || wBad e) (l ++ wBytes e) sl' ∧ sl' ≤ 1 ∧ Old W v L L' v' := by
  obtain ⟨A, v1, E, O, hES, hpre⟩ := wevent_pre h hsl e hr.k hr.s hl
  obtain ⟨f00, f01, f02, f03, f04, f05, f06, f07, f08⟩ := ld86 hES.ev
  obtain ⟨A1, v2, s1, h1⟩ := wpaste_ok hES hr.lv (by simp; omega)
  obtain ⟨A2, v3, s2, h2⟩ := wtext_ok h1 (by omega) (by simp; omega) hr.t
  refine ⟨⟨A2.t.set W (wB v3 (bad || decide (e.k < 0) || decide (9 ≤ e.k) || decide (e.s < 0) || decide (5 ≤ e.s) || decide (e.lv < 0) || decide (3 ≤ e.lv) || decide ((e.t.length : Int) < 0) || decide (64 ≤ (e.t.length : Int)) || decide ((⟨e.k, e.s, e.t, e.lv, 0, 0, 0, 0, 0⟩ : Evt) ≠ e))), A2.next⟩, v3, 0, hpre _ ?_, ?_, by omega, h2.old.trans (Old.put _ _ _ _)⟩
  rotate_left 1
  ·
    rw [show (bad || wBad e) = (bad || decide (e.k < 0) || decide (9 ≤ e.k) || decide (e.s < 0) || decide (5 ≤ e.s) || decide (e.lv < 0) || decide (3 ≤ e.lv) || decide ((e.t.length : Int) < 0) || decide (64 ≤ (e.t.length : Int)) || decide (wOwn e ≠ e)) from by simp [wBad, out, hk, Bool.or_assoc], show l ++ wBytes e = l ++ [lowB (e.k + 9 * e.s)] ++ [lowB e.lv] ++ [lowB (e.t.length : Int)] ++ natI e.t from by simp [wBytes, wTail, hk], show wOwn e = ⟨e.k, e.s, e.t, e.lv, 0, 0, 0, 0, 0⟩ from by simp [wOwn, hk]]
    exact h2.wr.bad _
  intro t t0 t3 t4
  show ACode _ _ (Code.seq (Code.seq (Code.region _ _ _) _) _) _ _ _ _
  refine ACode.seq ?_
  refine ACode.seq (ACode.regS noT_ok names_ok mix (t' := ?_) (L' := ?_) [0, 1] (by rfl) ?_ ?_)
  rotate_left 2
  · iterate 2 (refine sq rfl rfl rfl (by simp [go_sem, xs, xe, xa, xi, xo, xb, xq, xv, xc, xk, t0, t3, t4, f00, hk, Try.f76]; rfl) ?_)
    rfl
  refine ACode.block (ACode.seq (ACode.block (ACode.seq (ACode.block (ACode.seq (ACode.block (ACode.seq (ACode.block (ACode.seq (ACode.block (ACode.seq (ACode.seq ?_))))))))))))
  refine ACode.seq (ACode.regS noT_ok names_ok mix (t' := ?_) (L' := ?_) [0, 1] (by rfl) ?_ ?_)
  rotate_left 2
  · iterate 2 (refine sq rfl rfl rfl (by simp [go_sem, xs, xe, xa, xi, xo, xb, xq, xv, xc, xk, t0, t3, t4, f00, hk, Try.f76]; rfl) ?_)
    rfl
  refine ACode.condT (by simp [tget_set, opd]) (ACode.exit ?_)
  show ACode _ _ cPaste _ _ _ _
  refine (s1 _ (by simp [tget_set, t0]) (by simp [tget_set, t3]) (by simp [tget_set, t4])).mono ?_
  clear t0 t3 t4
  rintro x t' d' A' ⟨rfl, rfl, rfl, t0, t3, t4⟩
  show ACode _ _ (Code.seq cText (Code.exit 0)) _ _ _ _
  refine ACode.seq ((s2 _ (by simp [tget_set, t0]) (by simp [tget_set, t3]) (by simp [tget_set, t4])).mono ?_)
  clear t0 t3 t4
  rintro x t' d' A' ⟨rfl, rfl, rfl, t0, t3, t4⟩
  refine ACode.exit ?_
  show ACode _ _ (cSnd sfx76) _ _ _ _
  exact wevent_end h2 _ (by simp [tget_set, t0]) (by simp [tget_set, t3]) (by simp [tget_set, t4])
theorem wevent_k0 (h : Wr L W v bad l sl) (hsl : sl ≤ 1) (hr : EvR e) (hl : l.length ≤ 1000000) (hk : e.k = 0) :
    ∃ L' v' sl', ACall Try.prog 76 [.ptr W 0, .agg (evF e)] L (.tuple []) L' ∧ Wr L' W v' (bad || wBad e) (l ++ wBytes e) sl' ∧ sl' ≤ 1 ∧ Old W v L L' v' := by
  obtain ⟨A, v1, E, O, hES, hpre⟩ := wevent_pre h hsl e hr.k hr.s hl
  obtain ⟨f00, f01, f02, f03, f04, f05, f06, f07, f08⟩ := ld86 hES.ev
  obtain ⟨A1, v2, s1, h1⟩ := wtext_ok hES (by omega) (by simp; omega) hr.t
  refine ⟨⟨A1.t.set W (wB v2 (bad || decide (e.k < 0) || decide (9 ≤ e.k) || decide (e.s < 0) || decide (5 ≤ e.s) || decide ((e.t.length : Int) < 0) || decide (64 ≤ (e.t.length : Int)) || decide ((⟨e.k, e.s, e.t, 0, 0, 0, 0, 0, 0⟩ : Evt) ≠ e))), A1.next⟩, v2, 0, hpre _ ?_, ?_, by omega, h1.old.trans (Old.put _ _ _ _)⟩
  rotate_left 1
  ·
    rw [show (bad || wBad e) = (bad || decide (e.k < 0) || decide (9 ≤ e.k) || decide (e.s < 0) || decide (5 ≤ e.s) || decide ((e.t.length : Int) < 0) || decide (64 ≤ (e.t.length : Int)) || decide (wOwn e ≠ e)) from by simp [wBad, out, hk, Bool.or_assoc], show l ++ wBytes e = l ++ [lowB (e.k + 9 * e.s)] ++ [lowB (e.t.length : Int)] ++ natI e.t from by simp [wBytes, wTail, hk], show wOwn e = ⟨e.k, e.s, e.t, 0, 0, 0, 0, 0, 0⟩ from by simp [wOwn, hk]]
    exact h1.wr.bad _
  intro t t0 t3 t4
  show ACode _ _ (Code.seq (Code.seq (Code.region _ _ _) _) _) _ _ _ _
  refine ACode.seq ?_
  refine ACode.seq (ACode.regS noT_ok names_ok mix (t' := ?_) (L' := ?_) [0, 1] (by rfl) ?_ ?_)
  rotate_left 2
  · iterate 2 (refine sq rfl rfl rfl (by simp [go_sem, xs, xe, xa, xi, xo, xb, xq, xv, xc, xk, t0, t3, t4, f00, hk, Try.f76]; rfl) ?_)
    rfl
  refine ACode.block (ACode.seq (ACode.block (ACode.seq (ACode.block (ACode.seq (ACode.block (ACode.seq (ACode.block (ACode.seq (ACode.block (ACode.seq (ACode.seq ?_))))))))))))
  refine ACode.seq (ACode.regS noT_ok names_ok mix (t' := ?_) (L' := ?_) [0, 1] (by rfl) ?_ ?_)
  rotate_left 2
  · iterate 2 (refine sq rfl rfl rfl (by simp [go_sem, xs, xe, xa, xi, xo, xb, xq, xv, xc, xk, t0, t3, t4, f00, hk, Try.f76]; rfl) ?_)
    rfl
  refine ACode.condF (by simp [tget_set, opd]) (ACode.skip ?_)
  show ACode _ _ _ _ _ _ _
  refine ACode.seq (ACode.seq ?_)
  refine ACode.seq (ACode.regS noT_ok names_ok mix (t' := ?_) (L' := ?_) [0, 1] (by rfl) ?_ ?_)
  rotate_left 2
  · iterate 2 (refine sq rfl rfl rfl (by simp [go_sem, xs, xe, xa, xi, xo, xb, xq, xv, xc, xk, t0, t3, t4, f00, hk, Try.f76]; rfl) ?_)
    rfl
  refine ACode.condT (by simp [tget_set, opd]) (ACode.skip ?_)
  show ACode _ _ _ _ _ _ _
  refine ACode.condT (by simp [tget_set, opd]) (ACode.exit ?_)
  show ACode _ _ (Code.seq cText (Code.exit 0)) _ _ _ _
  refine ACode.seq ((s1 _ (by simp [tget_set, t0]) (by simp [tget_set, t3]) (by simp [tget_set, t4])).mono ?_)
  clear t0 t3 t4
  rintro x t' d' A' ⟨rfl, rfl, rfl, t0, t3, t4⟩
  refine ACode.exit ?_
  show ACode _ _ (cSnd sfx76) _ _ _ _
  exact wevent_end h1 _ (by simp [tget_set, t0]) (by simp [tget_set, t3]) (by simp [tget_set, t4])
theorem wevent_k4 (h : Wr L W v bad l sl) (hsl : sl ≤ 1) (hr : EvR e) (hl : l.length ≤ 1000000) (hk : e.k = 4) :
    ∃ L' v' sl', ACall Try.prog 76 [.ptr W 0, .agg (evF e)] L (.tuple []) L' ∧ Wr L' W v' (bad || wBad e) (l ++ wBytes e) sl' ∧ sl' ≤ 1 ∧ Old W v L L' v' := by
  obtain ⟨A, v1, E, O, hES, hpre⟩ := wevent_pre h hsl e hr.k hr.s hl
  obtain ⟨f00, f01, f02, f03, f04, f05, f06, f07, f08⟩ := ld86 hES.ev
  obtain ⟨A1, v2, s1, h1⟩ := wtext_ok hES (by omega) (by simp; omega) hr.t
  refine ⟨⟨A1.t.set W (wB v2 (bad || decide (e.k < 0) || decide (9 ≤ e.k) || decide (e.s < 0) || decide (5 ≤ e.s) || decide ((e.t.length : Int) < 0) || decide (64 ≤ (e.t.length : Int)) || decide ((⟨e.k, e.s, e.t, 0, 0, 0, 0, 0, 0⟩ : Evt) ≠ e))), A1.next⟩, v2, 0, hpre _ ?_, ?_, by omega, h1.old.trans (Old.put _ _ _ _)⟩
  rotate_left 1
  ·
    rw [show (bad || wBad e) = (bad || decide (e.k < 0) || decide (9 ≤ e.k) || decide (e.s < 0) || decide (5 ≤ e.s) || decide ((e.t.length : Int) < 0) || decide (64 ≤ (e.t.length : Int)) || decide (wOwn e ≠ e)) from by simp [wBad, out, hk, Bool.or_assoc], show l ++ wBytes e = l ++ [lowB (e.k + 9 * e.s)] ++ [lowB (e.t.length : Int)] ++ natI e.t from by simp [wBytes, wTail, hk], show wOwn e = ⟨e.k, e.s, e.t, 0, 0, 0, 0, 0, 0⟩ from by simp [wOwn, hk]]
    exact h1.wr.bad _
  intro t t0 t3 t4
  show ACode _ _ (Code.seq (Code.seq (Code.region _ _ _) _) _) _ _ _ _
  refine ACode.seq ?_
  refine ACode.seq (ACode.regS noT_ok names_ok mix (t' := ?_) (L' := ?_) [0, 1] (by rfl) ?_ ?_)
  rotate_left 2
  · iterate 2 (refine sq rfl rfl rfl (by simp [go_sem, xs, xe, xa, xi, xo, xb, xq, xv, xc, xk, t0, t3, t4, f00, hk, Try.f76]; rfl) ?_)
    rfl
  refine ACode.block (ACode.seq (ACode.block (ACode.seq (ACode.block (ACode.seq (ACode.block (ACode.seq (ACode.block (ACode.seq (ACode.block (ACode.seq (ACode.seq ?_))))))))))))
  refine ACode.seq (ACode.regS noT_ok names_ok mix (t' := ?_) (L' := ?_) [0, 1] (by rfl) ?_ ?_)
  rotate_left 2
  · iterate 2 (refine sq rfl rfl rfl (by simp [go_sem, xs, xe, xa, xi, xo, xb, xq, xv, xc, xk, t0, t3, t4, f00, hk, Try.f76]; rfl) ?_)
    rfl
  refine ACode.condF (by simp [tget_set, opd]) (ACode.skip ?_)
  show ACode _ _ _ _ _ _ _
  refine ACode.seq (ACode.seq ?_)
  refine ACode.seq (ACode.regS noT_ok names_ok mix (t' := ?_) (L' := ?_) [0, 1] (by rfl) ?_ ?_)
  rotate_left 2
  · iterate 2 (refine sq rfl rfl rfl (by simp [go_sem, xs, xe, xa, xi, xo, xb, xq, xv, xc, xk, t0, t3, t4, f00, hk, Try.f76]; rfl) ?_)
    rfl
  refine ACode.condF (by simp [tget_set, opd]) ?_
  refine ACode.regS noT_ok names_ok mix (t' := ?_) (L' := ?_) [0, 1] (by rfl) ?_ ?_
  rotate_left 2
  · iterate 2 (refine sq rfl rfl rfl (by simp [go_sem, X, hk, Try.f76]; rfl) ?_)
    rfl
  show ACode _ _ _ _ _ _ _
  refine ACode.condT (by simp [tget_set, opd]) (ACode.exit ?_)
  show ACode _ _ (Code.seq cText (Code.exit 0)) _ _ _ _
  refine ACode.seq ((s1 _ (by simp [tget_set, t0]) (by simp [tget_set, t3]) (by simp [tget_set, t4])).mono ?_)
  clear t0 t3 t4
  rintro x t' d' A' ⟨rfl, rfl, rfl, t0, t3, t4⟩
  refine ACode.exit ?_
  show ACode _ _ (cSnd sfx76) _ _ _ _
  exact wevent_end h1 _ (by simp [tget_set, t0]) (by simp [tget_set, t3]) (by simp [tget_set, t4])
theorem wevent_k5 (h : Wr L W v bad l sl) (hsl : sl ≤ 1) (hr : EvR e) (hl : l.length ≤ 1000000) (hk : e.k = 5) :
    ∃ L' v' sl', ACall Try.prog 76 [.ptr W 0, .agg (evF e)] L (.tuple []) L' ∧ Wr L' W v' (bad || wBad e) (l ++ wBytes e) sl' ∧ sl' ≤ 1 ∧ Old W v L L' v' := by
  obtain ⟨A, v1, E, O, hES, hpre⟩ := wevent_pre h hsl e hr.k hr.s hl
  obtain ⟨f00, f01, f02, f03, f04, f05, f06, f07, f08⟩ := ld86 hES.ev
  obtain ⟨A1, v2, s1, h1⟩ := wmove_ok hES (by simp; omega)
  obtain ⟨A2, v3, s2, h2⟩ := wsize_ok h1 (by simp; omega)
  refine ⟨⟨A2.t.set W (wB v3 (bad || decide (e.k < 0) || decide (9 ≤ e.k) || decide (e.s < 0) || decide (5 ≤ e.s) || decide (e.r1 < 0) || decide (16 ≤ e.r1) || decide (e.r2 < 0) || decide (48 ≤ e.r2) || decide (e.r3 < 0) || decide (16 ≤ e.r3) || decide (e.r4 < 0) || decide (48 ≤ e.r4) || decide ((⟨e.k, e.s, [], 0, e.r1, e.r2, e.r3, e.r4, 0⟩ : Evt) ≠ e))), A2.next⟩, v3, (1 - 1 - 1 - 1 - 1), hpre _ ?_, ?_, by omega, h2.old.trans (Old.put _ _ _ _)⟩
  rotate_left 1
  ·
    rw [show (bad || wBad e) = (bad || decide (e.k < 0) || decide (9 ≤ e.k) || decide (e.s < 0) || decide (5 ≤ e.s) || decide (e.r1 < 0) || decide (16 ≤ e.r1) || decide (e.r2 < 0) || decide (48 ≤ e.r2) || decide (e.r3 < 0) || decide (16 ≤ e.r3) || decide (e.r4 < 0) || decide (48 ≤ e.r4) || decide (wOwn e ≠ e)) from by simp [wBad, out, hk, Bool.or_assoc], show l ++ wBytes e = l ++ [lowB (e.k + 9 * e.s)] ++ [lowB e.r1] ++ [lowB e.r2] ++ [lowB e.r3] ++ [lowB e.r4] from by simp [wBytes, wTail, hk], show wOwn e = ⟨e.k, e.s, [], 0, e.r1, e.r2, e.r3, e.r4, 0⟩ from by simp [wOwn, hk]]
    exact h2.wr.bad _
  intro t t0 t3 t4
  show ACode _ _ (Code.seq (Code.seq (Code.region _ _ _) _) _) _ _ _ _
  refine ACode.seq ?_
  refine ACode.seq (ACode.regS noT_ok names_ok mix (t' := ?_) (L' := ?_) [0, 1] (by rfl) ?_ ?_)
  rotate_left 2
  · iterate 2 (refine sq rfl rfl rfl (by simp [go_sem, xs, xe, xa, xi, xo, xb, xq, xv, xc, xk, t0, t3, t4, f00, hk, Try.f76]; rfl) ?_)
    rfl
  refine ACode.block (ACode.seq (ACode.block (ACode.seq (ACode.block (ACode.seq (ACode.block (ACode.seq (ACode.block (ACode.seq (ACode.block (ACode.seq (ACode.seq ?_))))))))))))
  refine ACode.seq (ACode.regS noT_ok names_ok mix (t' := ?_) (L' := ?_) [0, 1] (by rfl) ?_ ?_)
  rotate_left 2
  · iterate 2 (refine sq rfl rfl rfl (by simp [go_sem, xs, xe, xa, xi, xo, xb, xq, xv, xc, xk, t0, t3, t4, f00, hk, Try.f76]; rfl) ?_)
    rfl
  refine ACode.condF (by simp [tget_set, opd]) (ACode.skip ?_)
  show ACode _ _ _ _ _ _ _
  refine ACode.seq (ACode.seq ?_)
  refine ACode.seq (ACode.regS noT_ok names_ok mix (t' := ?_) (L' := ?_) [0, 1] (by rfl) ?_ ?_)
  rotate_left 2
  · iterate 2 (refine sq rfl rfl rfl (by simp [go_sem, xs, xe, xa, xi, xo, xb, xq, xv, xc, xk, t0, t3, t4, f00, hk, Try.f76]; rfl) ?_)
    rfl
  refine ACode.condF (by simp [tget_set, opd]) ?_
  refine ACode.regS noT_ok names_ok mix (t' := ?_) (L' := ?_) [0, 1] (by rfl) ?_ ?_
  rotate_left 2
  · iterate 2 (refine sq rfl rfl rfl (by simp [go_sem, X, hk, Try.f76]; rfl) ?_)
    rfl
  show ACode _ _ _ _ _ _ _
  refine ACode.condF (by simp [tget_set, opd]) (ACode.skip ?_)
  show ACode _ _ _ _ _ _ _
  refine ACode.seq ?_
  refine ACode.seq (ACode.regS noT_ok names_ok mix (t' := ?_) (L' := ?_) [0, 1] (by rfl) ?_ ?_)
  rotate_left 2
  · iterate 2 (refine sq rfl rfl rfl (by simp [go_sem, xs, xe, xa, xi, xo, xb, xq, xv, xc, xk, t0, t3, t4, f00, hk, Try.f76]; rfl) ?_)
    rfl
  refine ACode.condT (by simp [tget_set, opd]) (ACode.exit ?_)
  show ACode _ _ cMove _ _ _ _
  refine (s1 _ (by simp [tget_set, t0]) (by simp [tget_set, t3]) (by simp [tget_set, t4])).mono ?_
  clear t0 t3 t4
  rintro x t' d' A' ⟨rfl, rfl, rfl, t0, t3, t4⟩
  show ACode _ _ (Code.seq cSize (Code.exit 0)) _ _ _ _
  refine ACode.seq ((s2 _ (by simp [tget_set, t0]) (by simp [tget_set, t3]) (by simp [tget_set, t4])).mono ?_)
  clear t0 t3 t4
  rintro x t' d' A' ⟨rfl, rfl, rfl, t0, t3, t4⟩
  refine ACode.exit ?_
  show ACode _ _ (cSnd sfx76) _ _ _ _
  exact wevent_end h2 _ (by simp [tget_set, t0]) (by simp [tget_set, t3]) (by simp [tget_set, t4])
theorem wevent_k6 (h : Wr L W v bad l sl) (hsl : sl ≤ 1) (hr : EvR e) (hl : l.length ≤ 1000000) (hk : e.k = 6) :
    ∃ L' v' sl', ACall Try.prog 76 [.ptr W 0, .agg (evF e)] L (.tuple []) L' ∧ Wr L' W v' (bad || wBad e) (l ++ wBytes e) sl' ∧ sl' ≤ 1 ∧ Old W v L L' v' := by
  obtain ⟨A, v1, E, O, hES, hpre⟩ := wevent_pre h hsl e hr.k hr.s hl
  obtain ⟨f00, f01, f02, f03, f04, f05, f06, f07, f08⟩ := ld86 hES.ev
  obtain ⟨A1, v2, s1, h1⟩ := wsize_ok hES (by simp; omega)
  refine ⟨⟨A1.t.set W (wB v2 (bad || decide (e.k < 0) || decide (9 ≤ e.k) || decide (e.s < 0) || decide (5 ≤ e.s) || decide (e.r3 < 0) || decide (16 ≤ e.r3) || decide (e.r4 < 0) || decide (48 ≤ e.r4) || decide ((⟨e.k, e.s, [], 0, 0, 0, e.r3, e.r4, 0⟩ : Evt) ≠ e))), A1.next⟩, v2, (1 - 1 - 1), hpre _ ?_, ?_, by omega, h1.old.trans (Old.put _ _ _ _)⟩
  rotate_left 1
  ·
    rw [show (bad || wBad e) = (bad || decide (e.k < 0) || decide (9 ≤ e.k) || decide (e.s < 0) || decide (5 ≤ e.s) || decide (e.r3 < 0) || decide (16 ≤ e.r3) || decide (e.r4 < 0) || decide (48 ≤ e.r4) || decide (wOwn e ≠ e)) from by simp [wBad, out, hk, Bool.or_assoc], show l ++ wBytes e = l ++ [lowB (e.k + 9 * e.s)] ++ [lowB e.r3] ++ [lowB e.r4] from by simp [wBytes, wTail, hk], show wOwn e = ⟨e.k, e.s, [], 0, 0, 0, e.r3, e.r4, 0⟩ from by simp [wOwn, hk]]
    exact h1.wr.bad _
  intro t t0 t3 t4
  show ACode _ _ (Code.seq (Code.seq (Code.region _ _ _) _) _) _ _ _ _
  refine ACode.seq ?_
  refine ACode.seq (ACode.regS noT_ok names_ok mix (t' := ?_) (L' := ?_) [0, 1] (by rfl) ?_ ?_)
  rotate_left 2
  · iterate 2 (refine sq rfl rfl rfl (by simp [go_sem, xs, xe, xa, xi, xo, xb, xq, xv, xc, xk, t0, t3, t4, f00, hk, Try.f76]; rfl) ?_)
    rfl
  refine ACode.block (ACode.seq (ACode.block (ACode.seq (ACode.block (ACode.seq (ACode.block (ACode.seq (ACode.block (ACode.seq (ACode.block (ACode.seq (ACode.seq ?_))))))))))))
  refine ACode.seq (ACode.regS noT_ok names_ok mix (t' := ?_) (L' := ?_) [0, 1] (by rfl) ?_ ?_)
  rotate_left 2
  · iterate 2 (refine sq rfl rfl rfl (by simp [go_sem, xs, xe, xa, xi, xo, xb, xq, xv, xc, xk, t0, t3, t4, f00, hk, Try.f76]; rfl) ?_)
    rfl
  refine ACode.condF (by simp [tget_set, opd]) (ACode.skip ?_)
  show ACode _ _ _ _ _ _ _
  refine ACode.seq (ACode.seq ?_)
  refine ACode.seq (ACode.regS noT_ok names_ok mix (t' := ?_) (L' := ?_) [0, 1] (by rfl) ?_ ?_)
  rotate_left 2
  · iterate 2 (refine sq rfl rfl rfl (by simp [go_sem, xs, xe, xa, xi, xo, xb, xq, xv, xc, xk, t0, t3, t4, f00, hk, Try.f76]; rfl) ?_)
    rfl
  refine ACode.condF (by simp [tget_set, opd]) ?_
  refine ACode.regS noT_ok names_ok mix (t' := ?_) (L' := ?_) [0, 1] (by rfl) ?_ ?_
  rotate_left 2
  · iterate 2 (refine sq rfl rfl rfl (by simp [go_sem, X, hk, Try.f76]; rfl) ?_)
    rfl
  show ACode _ _ _ _ _ _ _
  refine ACode.condF (by simp [tget_set, opd]) (ACode.skip ?_)
  show ACode _ _ _ _ _ _ _
  refine ACode.seq ?_
  refine ACode.seq (ACode.regS noT_ok names_ok mix (t' := ?_) (L' := ?_) [0, 1] (by rfl) ?_ ?_)
  rotate_left 2
  · iterate 2 (refine sq rfl rfl rfl (by simp [go_sem, xs, xe, xa, xi, xo, xb, xq, xv, xc, xk, t0, t3, t4, f00, hk, Try.f76]; rfl) ?_)
    rfl
  refine ACode.condF (by simp [tget_set, opd]) (ACode.skip ?_)
  show ACode _ _ _ _ _ _ _
  refine ACode.seq ?_
  refine ACode.seq (ACode.regS noT_ok names_ok mix (t' := ?_) (L' := ?_) [0, 1] (by rfl) ?_ ?_)
  rotate_left 2
  · iterate 2 (refine sq rfl rfl rfl (by simp [go_sem, xs, xe, xa, xi, xo, xb, xq, xv, xc, xk, t0, t3, t4, f00, hk, Try.f76]; rfl) ?_)
    rfl
  refine ACode.condT (by simp [tget_set, opd]) (ACode.exit ?_)
  show ACode _ _ (Code.seq cSize (Code.exit 0)) _ _ _ _
  refine ACode.seq ((s1 _ (by simp [tget_set, t0]) (by simp [tget_set, t3]) (by simp [tget_set, t4])).mono ?_)
  clear t0 t3 t4
  rintro x t' d' A' ⟨rfl, rfl, rfl, t0, t3, t4⟩
  refine ACode.exit ?_
  show ACode _ _ (cSnd sfx76) _ _ _ _
  exact wevent_end h1 _ (by simp [tget_set, t0]) (by simp [tget_set, t3]) (by simp [tget_set, t4])
theorem wevent_k7 (h : Wr L W v bad l sl) (hsl : sl ≤ 1) (hr : EvR e) (hl : l.length ≤ 1000000) (hk : e.k = 7) :
    ∃ L' v' sl', ACall Try.prog 76 [.ptr W 0, .agg (evF e)] L (.tuple []) L' ∧ Wr L' W v' (bad || wBad e) (l ++ wBytes e) sl' ∧ sl' ≤ 1 ∧ Old W v L L' v' := by
  obtain ⟨A, v1, E, O, hES, hpre⟩ := wevent_pre h hsl e hr.k hr.s hl
  obtain ⟨f00, f01, f02, f03, f04, f05, f06, f07, f08⟩ := ld86 hES.ev
  obtain ⟨A1, v2, s1, h1⟩ := wwhat_ok hES (by simp; omega)
  refine ⟨⟨A1.t.set W (wB v2 (bad || decide (e.k < 0) || decide (9 ≤ e.k) || decide (e.s < 0) || decide (5 ≤ e.s) || decide (e.w < 0) || decide (8 ≤ e.w) || decide ((⟨e.k, e.s, [], 0, 0, 0, 0, 0, e.w⟩ : Evt) ≠ e))), A1.next⟩, v2, (1 - 1), hpre _ ?_, ?_, by omega, h1.old.trans (Old.put _ _ _ _)⟩
  rotate_left 1
  ·
    rw [show (bad || wBad e) = (bad || decide (e.k < 0) || decide (9 ≤ e.k) || decide (e.s < 0) || decide (5 ≤ e.s) || decide (e.w < 0) || decide (8 ≤ e.w) || decide (wOwn e ≠ e)) from by simp [wBad, out, hk, Bool.or_assoc], show l ++ wBytes e = l ++ [lowB (e.k + 9 * e.s)] ++ [lowB e.w] from by simp [wBytes, wTail, hk], show wOwn e = ⟨e.k, e.s, [], 0, 0, 0, 0, 0, e.w⟩ from by simp [wOwn, hk]]
    exact h1.wr.bad _
  intro t t0 t3 t4
  show ACode _ _ (Code.seq (Code.seq (Code.region _ _ _) _) _) _ _ _ _
  refine ACode.seq ?_
  refine ACode.seq (ACode.regS noT_ok names_ok mix (t' := ?_) (L' := ?_) [0, 1] (by rfl) ?_ ?_)
  rotate_left 2
  · iterate 2 (refine sq rfl rfl rfl (by simp [go_sem, xs, xe, xa, xi, xo, xb, xq, xv, xc, xk, t0, t3, t4, f00, hk, Try.f76]; rfl) ?_)
    rfl
  refine ACode.block (ACode.seq (ACode.block (ACode.seq (ACode.block (ACode.seq (ACode.block (ACode.seq (ACode.block (ACode.seq (ACode.block (ACode.seq (ACode.seq ?_))))))))))))
  refine ACode.seq (ACode.regS noT_ok names_ok mix (t' := ?_) (L' := ?_) [0, 1] (by rfl) ?_ ?_)
  rotate_left 2
  · iterate 2 (refine sq rfl rfl rfl (by simp [go_sem, xs, xe, xa, xi, xo, xb, xq, xv, xc, xk, t0, t3, t4, f00, hk, Try.f76]; rfl) ?_)
    rfl
  refine ACode.condF (by simp [tget_set, opd]) (ACode.skip ?_)
  show ACode _ _ _ _ _ _ _
  refine ACode.seq (ACode.seq ?_)
  refine ACode.seq (ACode.regS noT_ok names_ok mix (t' := ?_) (L' := ?_) [0, 1] (by rfl) ?_ ?_)
  rotate_left 2
  · iterate 2 (refine sq rfl rfl rfl (by simp [go_sem, xs, xe, xa, xi, xo, xb, xq, xv, xc, xk, t0, t3, t4, f00, hk, Try.f76]; rfl) ?_)
    rfl
  refine ACode.condF (by simp [tget_set, opd]) ?_
  refine ACode.regS noT_ok names_ok mix (t' := ?_) (L' := ?_) [0, 1] (by rfl) ?_ ?_
  rotate_left 2
  · iterate 2 (refine sq rfl rfl rfl (by simp [go_sem, X, hk, Try.f76]; rfl) ?_)
    rfl
  show ACode _ _ _ _ _ _ _
  refine ACode.condF (by simp [tget_set, opd]) (ACode.skip ?_)
  show ACode _ _ _ _ _ _ _
  refine ACode.seq ?_
  refine ACode.seq (ACode.regS noT_ok names_ok mix (t' := ?_) (L' := ?_) [0, 1] (by rfl) ?_ ?_)
  rotate_left 2
  · iterate 2 (refine sq rfl rfl rfl (by simp [go_sem, xs, xe, xa, xi, xo, xb, xq, xv, xc, xk, t0, t3, t4, f00, hk, Try.f76]; rfl) ?_)
    rfl
  refine ACode.condF (by simp [tget_set, opd]) (ACode.skip ?_)
  show ACode _ _ _ _ _ _ _
  refine ACode.seq ?_
  refine ACode.seq (ACode.regS noT_ok names_ok mix (t' := ?_) (L' := ?_) [0, 1] (by rfl) ?_ ?_)
  rotate_left 2
  · iterate 2 (refine sq rfl rfl rfl (by simp [go_sem, xs, xe, xa, xi, xo, xb, xq, xv, xc, xk, t0, t3, t4, f00, hk, Try.f76]; rfl) ?_)
    rfl
  refine ACode.condF (by simp [tget_set, opd]) (ACode.skip ?_)
  show ACode _ _ _ _ _ _ _
  refine ACode.seq (ACode.regS noT_ok names_ok mix (t' := ?_) (L' := ?_) [0, 1] (by rfl) ?_ ?_)
  rotate_left 2
  · iterate 2 (refine sq rfl rfl rfl (by simp [go_sem, xs, xe, xa, xi, xo, xb, xq, xv, xc, xk, t0, t3, t4, f00, hk, Try.f76]; rfl) ?_)
    rfl
  refine ACode.condT (by simp [tget_set, opd]) (ACode.exit ?_)
  show ACode _ _ (Code.seq cWhat (Code.exit 0)) _ _ _ _
  refine ACode.seq ((s1 _ (by simp [tget_set, t0]) (by simp [tget_set, t3]) (by simp [tget_set, t4])).mono ?_)
  clear t0 t3 t4
  rintro x t' d' A' ⟨rfl, rfl, rfl, t0, t3, t4⟩
  refine ACode.exit ?_
  show ACode _ _ (cSnd sfx76) _ _ _ _
  exact wevent_end h1 _ (by simp [tget_set, t0]) (by simp [tget_set, t3]) (by simp [tget_set, t4])
theorem wevent_kx (h : Wr L W v bad l sl) (hsl : sl ≤ 1) (hr : EvR e) (hl : l.length ≤ 1000000) (h0 : ¬ e.k = 0) (h3 : ¬ e.k = 3) (h4 : ¬ e.k = 4) (h5 : ¬ e.k = 5) (h6 : ¬ e.k = 6) (h7 : ¬ e.k = 7) :
    ∃ L' v' sl', ACall Try.prog 76 [.ptr W 0, .agg (evF e)] L (.tuple []) L' ∧ Wr L' W v' (bad || wBad e) (l ++ wBytes e) sl' ∧ sl' ≤ 1 ∧ Old W v L L' v' := by
  obtain ⟨A, v1, E, O, hES, hpre⟩ := wevent_pre h hsl e hr.k hr.s hl
  obtain ⟨f00, f01, f02, f03, f04, f05, f06, f07, f08⟩ := ld86 hES.ev
  refine ⟨⟨A.t.set W (wB v1 (bad || decide (e.k < 0) || decide (9 ≤ e.k) || decide (e.s < 0) || decide (5 ≤ e.s) || decide ((⟨e.k, e.s, [], 0, 0, 0, 0, 0, 0⟩ : Evt) ≠ e))), A.next⟩, v1, 1, hpre _ ?_, ?_, by omega, hES.old.trans (Old.put _ _ _ _)⟩
  rotate_left 1
  ·
    rw [show (bad || wBad e) = (bad || decide (e.k < 0) || decide (9 ≤ e.k) || decide (e.s < 0) || decide (5 ≤ e.s) || decide (wOwn e ≠ e)) from by simp [wBad, out, h0, h3, h4, h5, h6, h7, Bool.or_assoc], show l ++ wBytes e = l ++ [lowB (e.k + 9 * e.s)] from by simp [wBytes, wTail, h0, h3, h4, h5, h6, h7], show wOwn e = ⟨e.k, e.s, [], 0, 0, 0, 0, 0, 0⟩ from by simp [wOwn, h0, h3, h4, h5, h6, h7]]
    exact hES.wr.bad _
  intro t t0 t3 t4
  show ACode _ _ (Code.seq (Code.seq (Code.region _ _ _) _) _) _ _ _ _
  refine ACode.seq ?_
  refine ACode.seq (ACode.regS noT_ok names_ok mix (t' := ?_) (L' := ?_) [0, 1] (by rfl) ?_ ?_)
  rotate_left 2
  · iterate 2 (refine sq rfl rfl rfl (by simp [go_sem, xs, xe, xa, xi, xo, xb, xq, xv, xc, xk, t0, t3, t4, f00, h0, h3, h4, h5, h6, h7, Try.f76]; rfl) ?_)
    rfl
  refine ACode.block (ACode.seq (ACode.block (ACode.seq (ACode.block (ACode.seq (ACode.block (ACode.seq (ACode.block (ACode.seq (ACode.block (ACode.seq (ACode.seq ?_))))))))))))
  refine ACode.seq (ACode.regS noT_ok names_ok mix (t' := ?_) (L' := ?_) [0, 1] (by rfl) ?_ ?_)
  rotate_left 2
  · iterate 2 (refine sq rfl rfl rfl (by simp [go_sem, xs, xe, xa, xi, xo, xb, xq, xv, xc, xk, t0, t3, t4, f00, h0, h3, h4, h5, h6, h7, Try.f76]; rfl) ?_)
    rfl
  refine ACode.condF (by simp [tget_set, opd]) (ACode.skip ?_)
  show ACode _ _ _ _ _ _ _
  refine ACode.seq (ACode.seq ?_)
  refine ACode.seq (ACode.regS noT_ok names_ok mix (t' := ?_) (L' := ?_) [0, 1] (by rfl) ?_ ?_)
  rotate_left 2
  · iterate 2 (refine sq rfl rfl rfl (by simp [go_sem, xs, xe, xa, xi, xo, xb, xq, xv, xc, xk, t0, t3, t4, f00, h0, h3, h4, h5, h6, h7, Try.f76]; rfl) ?_)
    rfl
  refine ACode.condF (by simp [tget_set, opd]) ?_
  refine ACode.regS noT_ok names_ok mix (t' := ?_) (L' := ?_) [0, 1] (by rfl) ?_ ?_
  rotate_left 2
  · iterate 2 (refine sq rfl rfl rfl (by simp [go_sem, X, h0, h3, h4, h5, h6, h7, Try.f76]; rfl) ?_)
    rfl
  show ACode _ _ _ _ _ _ _
  refine ACode.condF (by simp [tget_set, opd]) (ACode.skip ?_)
  show ACode _ _ _ _ _ _ _
  refine ACode.seq ?_
  refine ACode.seq (ACode.regS noT_ok names_ok mix (t' := ?_) (L' := ?_) [0, 1] (by rfl) ?_ ?_)
  rotate_left 2
  · iterate 2 (refine sq rfl rfl rfl (by simp [go_sem, xs, xe, xa, xi, xo, xb, xq, xv, xc, xk, t0, t3, t4, f00, h0, h3, h4, h5, h6, h7, Try.f76]; rfl) ?_)
    rfl
  refine ACode.condF (by simp [tget_set, opd]) (ACode.skip ?_)
  show ACode _ _ _ _ _ _ _
  refine ACode.seq ?_
  refine ACode.seq (ACode.regS noT_ok names_ok mix (t' := ?_) (L' := ?_) [0, 1] (by rfl) ?_ ?_)
  rotate_left 2
  · iterate 2 (refine sq rfl rfl rfl (by simp [go_sem, xs, xe, xa, xi, xo, xb, xq, xv, xc, xk, t0, t3, t4, f00, h0, h3, h4, h5, h6, h7, Try.f76]; rfl) ?_)
    rfl
  refine ACode.condF (by simp [tget_set, opd]) (ACode.skip ?_)
  show ACode _ _ _ _ _ _ _
  refine ACode.seq (ACode.regS noT_ok names_ok mix (t' := ?_) (L' := ?_) [0, 1] (by rfl) ?_ ?_)
  rotate_left 2
  · iterate 2 (refine sq rfl rfl rfl (by simp [go_sem, xs, xe, xa, xi, xo, xb, xq, xv, xc, xk, t0, t3, t4, f00, h0, h3, h4, h5, h6, h7, Try.f76]; rfl) ?_)
    rfl
  refine ACode.condF (by simp [tget_set, opd]) (ACode.skip ?_)
  show ACode _ _ _ _ _ _ _
  refine ACode.exit ?_
  show ACode _ _ (cSnd sfx76) _ _ _ _
  exact wevent_end hES _ (by simp [tget_set, t0]) (by simp [tget_set, t3]) (by simp [tget_set, t4])
theorem wevent_ok (h : Wr L W v bad l sl) (hsl : sl ≤ 1) (hr : EvR e) (hl : l.length ≤ 1000000) :
    ∃ L' v' sl', ACall Try.prog 76 [.ptr W 0, .agg (evF e)] L (.tuple []) L' ∧ Wr L' W v' (bad || wBad e) (l ++ wBytes e) sl' ∧ sl' ≤ 1 ∧ Old W v L L' v' := by
  by_cases h3 : e.k = 3
  · exact wevent_k3 h hsl hr hl h3
  by_cases h0 : e.k = 0
  · exact wevent_k0 h hsl hr hl h0
  by_cases h4 : e.k = 4
  · exact wevent_k4 h hsl hr hl h4
  by_cases h5 : e.k = 5
  · exact wevent_k5 h hsl hr hl h5
  by_cases h6 : e.k = 6
  · exact wevent_k6 h hsl hr hl h6
  by_cases h7 : e.k = 7
  · exact wevent_k7 h hsl hr hl h7
  exact wevent_kx h hsl hr hl h0 h3 h4 h5 h6 h7
end
end Go.Proofs.Ytpfmoolpeecobaa
