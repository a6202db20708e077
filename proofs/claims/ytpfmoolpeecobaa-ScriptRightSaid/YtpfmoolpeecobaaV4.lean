/- A setup of bytes. -/
import Derived.Test.YtpfmoolpeecobaaV3
namespace Go.Proofs.Ytpfmoolpeecobaa
open Go Go.Proofs Go.Proofs.Ytpfmoolpeecobaa.Ev
set_option linter.unusedVariables false
set_option linter.unusedSimpArgs false
set_option maxRecDepth 100000
set_option maxHeartbeats 4000000

/-- where setup stands -/
structure SS (L A : Heap) (c : Nat) (v : V) (bs : List Int) (cs : List V) : Prop where
  rd : Rd A c v bs
  box : A.t.get L.next = some (boxB c)
  su : A.t.get (L.next + 1) = some (evB cs)
  next : A.next = L.next + 2
  old : ∀ n, n < L.next → n ≠ c → A.t.get n = L.t.get n
  lt : c < L.next
theorem SS.read {L A : Heap} {c : Nat} {v : V} {bs : List Int} {cs : List V} (h : SS L A c v bs cs) : SS L (setRd A c (nextV v)) c (nextV v) bs.tail cs where
  rd := h.rd.next
  box := by rw [(KX.setRd c A (nextV v)).2 _ (by have := h.next; omega) (by have := h.lt; omega)]; exact h.box
  su := by rw [(KX.setRd c A (nextV v)).2 _ (by have := h.next; omega) (by have := h.lt; omega)]; exact h.su
  next := h.next
  old := fun n hn hc => by rw [(KX.setRd c A (nextV v)).2 _ (by have := h.next; omega) hc]; exact h.old n hn hc
  lt := h.lt
theorem SS.put {L A : Heap} {c : Nat} {v : V} {bs : List Int} {cs : List V} (h : SS L A c v bs cs) (cs' : List V) : SS L ⟨A.t.set (L.next + 1) (evB cs'), A.next⟩ c v bs cs' where
  rd := ⟨by show T.get (T.set _ _ _) _ = _; rw [T.get_set_ne _ _ (by have := h.lt; omega)]; exact h.rd.cell, h.rd.lt, h.rd.row.still (Nat.le_refl _) (fun n hn _ => T.get_set_ne _ _ (by have := h.lt; omega)), h.rd.range⟩
  box := by show T.get (T.set _ _ _) _ = _; rw [T.get_set_ne _ _ (by omega)]; exact h.box
  su := T.get_set_same _ _ _
  next := h.next
  old := fun n hn hc => by show T.get (T.set _ _ _) _ = _; rw [T.get_set_ne _ _ (by omega)]; exact h.old n hn hc
  lt := h.lt
theorem regbits : ∀ n : Fin 256, iand .i64 (ishr .i64 (n.val : Int) 0) 1 = (n.val : Int) % 2 ∧ iand .i64 (ishr .i64 (n.val : Int) 1) 1 = (n.val : Int) / 2 % 2 ∧ iand .i64 (ishr .i64 (n.val : Int) 2) 1 = (n.val : Int) / 4 % 2 ∧ iand .i64 (ishr .i64 (n.val : Int) 3) 1 = (n.val : Int) / 8 % 2 ∧ iand .i64 (ishr .i64 (n.val : Int) 4) 1 = (n.val : Int) / 16 % 2 := by decide +kernel
theorem regbitsk (k : Int) (h : 0 ≤ k ∧ k ≤ 255) : iand .i64 (ishr .i64 k 0) 1 = k % 2 ∧ iand .i64 (ishr .i64 k 1) 1 = k / 2 % 2 ∧ iand .i64 (ishr .i64 k 2) 1 = k / 4 % 2 ∧ iand .i64 (ishr .i64 k 3) 1 = k / 8 % 2 ∧ iand .i64 (ishr .i64 k 4) 1 = k / 16 % 2 := by
  have := regbits ⟨k.toNat, by omega⟩
  have h2 : ((k.toNat : Nat) : Int) = k := by omega
  simp only [h2] at this
  exact this

theorem cells79 : V.nils.cells = [.nils] := rfl
def suRows (bs : List Int) : Int := 2 + hd0 bs % 11
def suCols (bs : List Int) : Int := 1 + hd0 bs.tail % 40
def suN (bs : List Int) : Nat := (min (1 + hd0 bs.tail.tail % 4) (suRows bs - 1)).toNat
def suBits (bs : List Int) : Int := hd0 bs.tail.tail.tail
def suRing (bs : List Int) : Int := hd0 bs.tail.tail.tail.tail % 8
def suSrcs (bs : List Int) : List (Int × Int × Int × Int × Int) := srcsP (suN bs) bs.tail.tail.tail.tail.tail (stripesP (suN bs) 1 (suRows bs - 1) (suCols bs))
def suCells (bs : List Int) (sv : V) : List V := [.int .i64 (suRows bs), .int .i64 (suCols bs), sv, .int .u8 (suBits bs % 2), .int .u8 (suBits bs / 2 % 2), .int .u8 (suBits bs / 4 % 2), .int .u8 (suBits bs / 8 % 2), .int .u8 (suBits bs / 16 % 2), .int .i64 (suRing bs)]
theorem agg_slice {κ : KM} {nx m : Nat} {bs : List Int} {len cap : Nat} {q : Bool} {z : Value} (h : VR κ (one1 [.agg (suCells bs (.slice m 0 len cap q))]) z) : VR (tidyK κ nx [m]) (.agg (suCells bs (.slice nx 0 len cap q))) z := by
  simp only [one1, VR, suCells] at h ⊢
  obtain ⟨xs, e, h⟩ := h
  refine ⟨xs, e, ?_⟩
  simp only [VRs] at h ⊢
  obtain ⟨x1, l1, e1, h1, x2, l2, e2, h2, x3, l3, e3, h3, h4⟩ := h
  refine ⟨x1, l1, e1, by simpa only [VR] using h1, x2, l2, e2, by simpa only [VR] using h2, x3, l3, e3, VR_slice_newP h3, ?_⟩
  simp only [VR] at h4 ⊢
  exact h4
theorem suN_range {bs : List Int} : 1 ≤ suN bs ∧ suN bs ≤ 4 ∧ ((suN bs : Nat) : Int) < suRows bs := by
  unfold suN suRows
  omega
theorem setup_ok {L : Heap} {c : Nat} {v : V} {bs : List Int} (h : Rd L c v bs) :
    ACall Try.prog 46 [rdV c] L (.agg (suCells bs (rowsVP (setRd L c (advV (5 + suN bs) v)) (suSrcs bs)))) (rowsHP 6 srcF (setRd L c (advV (5 + suN bs) v)) (suSrcs bs)) := by
  have hlt := h.lt
  have hn := suN_range (bs := bs)
  refine ACall.of_body2 Try.func46 rfl ?_
  unfold rdV
  refine ACode.seq (ACode.regS noT_ok names_ok mix (t' := ?_) (L' := ?_) [0, 1] (by rfl) ?_ ?_)
  rotate_left 2
  · iterate 2 (refine sq rfl rfl rfl (by simp [go_sem, X, Try.f46]; rfl) ?_)
    rfl
  have hS : SS L ⟨(L.t.set L.next (boxB c)).set (L.next + 1) (evB [.int .i64 0, .int .i64 0, .nils, .int .u8 0, .int .u8 0, .int .u8 0, .int .u8 0, .int .u8 0, .int .i64 0]), L.next + 2⟩ c v bs [.int .i64 0, .int .i64 0, .nils, .int .u8 0, .int .u8 0, .int .u8 0, .int .u8 0, .int .u8 0, .int .i64 0] := {
    rd := (h.new (boxB c)).new _
    box := by show T.get (T.set _ _ _) _ = _; rw [T.get_set_ne _ _ (by omega)]; exact T.get_set_same _ _ _
    su := T.get_set_same _ _ _
    next := rfl
    old := fun n hn hc => by show T.get (T.set _ _ _) _ = _; rw [T.get_set_ne _ _ (by omega)]; exact T.get_set_ne _ _ (by omega)
    lt := hlt }
  change ACode _ _ _ _ _ ⟨(L.t.set L.next (boxB c)).set (L.next + 1) (evB [.int .i64 0, .int .i64 0, .nils, .int .u8 0, .int .u8 0, .int .u8 0, .int .u8 0, .int .u8 0, .int .i64 0]), L.next + 2⟩ _
  generalize (⟨(L.t.set L.next (boxB c)).set (L.next + 1) (evB [.int .i64 0, .int .i64 0, .nils, .int .u8 0, .int .u8 0, .int .u8 0, .int .u8 0, .int .u8 0, .int .i64 0]), L.next + 2⟩ : Heap) = A at *
  have c1 := below_ok hS.rd 11 (by decide)
  have hSr := hS.read
  unfold rdV at c1
  have bx1 := hS.box
  have su1 := hSr.su
  unfold boxB at bx1
  unfold evB at su1
  have w1 : IntKind.i64.wrap (2 + hd0 bs % 11) = suRows bs := by rw [Go.IntWalk.i64_in _ (by omega)]; rfl
  refine ACode.seq (ACode.regS (oneT_okP c1) names_ok mix (t' := ?_) (L' := ?_) [0, 1, 2, 3, 4] (by rfl) ?_ ?_)
  rotate_left 2
  · iterate 5 (refine sq rfl rfl rfl (by simp [go_sem, X, bx1, su1, w1, oneT_sameP, Try.f46]; rfl) ?_)
    rfl
  change ACode _ _ _ _ _ ⟨(setRd A c (nextV v)).t.set (L.next + 1) (evB [.int .i64 (suRows bs), .int .i64 0, .nils, .int .u8 0, .int .u8 0, .int .u8 0, .int .u8 0, .int .u8 0, .int .i64 0]), (setRd A c (nextV v)).next⟩ _
  have hS2 := hSr.put [.int .i64 (suRows bs), .int .i64 0, .nils, .int .u8 0, .int .u8 0, .int .u8 0, .int .u8 0, .int .u8 0, .int .i64 0]
  generalize (⟨(setRd A c (nextV v)).t.set (L.next + 1) (evB [.int .i64 (suRows bs), .int .i64 0, .nils, .int .u8 0, .int .u8 0, .int .u8 0, .int .u8 0, .int .u8 0, .int .i64 0]), (setRd A c (nextV v)).next⟩ : Heap) = A2 at *
  have c2 := below_ok hS2.rd 40 (by decide)
  have hS2r := hS2.read
  unfold rdV at c2
  have bx2 := hS2.box
  have su2 := hS2r.su
  unfold boxB at bx2
  unfold evB at su2
  have w2 : IntKind.i64.wrap (1 + hd0 bs.tail % 40) = suCols bs := by rw [Go.IntWalk.i64_in _ (by omega)]; rfl
  refine ACode.seq (ACode.regS (oneT_okP c2) names_ok mix (t' := ?_) (L' := ?_) [0, 1, 2, 3, 4] (by rfl) ?_ ?_)
  rotate_left 2
  · iterate 5 (refine sq rfl rfl rfl (by simp [go_sem, X, bx2, su2, w2, oneT_sameP, Try.f46]; rfl) ?_)
    rfl
  change ACode _ _ _ _ _ ⟨(setRd A2 c (nextV (nextV v))).t.set (L.next + 1) (evB [.int .i64 (suRows bs), .int .i64 (suCols bs), .nils, .int .u8 0, .int .u8 0, .int .u8 0, .int .u8 0, .int .u8 0, .int .i64 0]), (setRd A2 c (nextV (nextV v))).next⟩ _
  have hS3 := hS2r.put [.int .i64 (suRows bs), .int .i64 (suCols bs), .nils, .int .u8 0, .int .u8 0, .int .u8 0, .int .u8 0, .int .u8 0, .int .i64 0]
  generalize (⟨(setRd A2 c (nextV (nextV v))).t.set (L.next + 1) (evB [.int .i64 (suRows bs), .int .i64 (suCols bs), .nils, .int .u8 0, .int .u8 0, .int .u8 0, .int .u8 0, .int .u8 0, .int .i64 0]), (setRd A2 c (nextV (nextV v))).next⟩ : Heap) = A3 at *
  have c3 := below_ok hS3.rd 4 (by decide)
  have hS3r := hS3.read
  unfold rdV at c3
  have bx3 := hS3.box
  have su3 := hS3r.su
  unfold boxB at bx3
  unfold evB at su3
  have su3' := hS3.su
  unfold evB at su3'
  have w3 : IntKind.i64.wrap (1 + hd0 bs.tail.tail % 4) = 1 + hd0 bs.tail.tail % 4 := Go.IntWalk.i64_in _ (by omega)
  have w4 : IntKind.i64.wrap (suRows bs - 1) = suRows bs - 1 := Go.IntWalk.i64_in _ (by unfold suRows; omega)
  have hmin : ∀ L, Ev.builtinQ Try.prog .min #[3, 3] [.int .i64 (1 + hd0 bs.tail.tail % 4), .int .i64 (suRows bs - 1)] L = some (.int .i64 ((suN bs : Nat) : Int)) := by
    intro L
    have : (if suRows bs - 1 < 1 + hd0 bs.tail.tail % 4 then suRows bs - 1 else 1 + hd0 bs.tail.tail % 4) = ((suN bs : Nat) : Int) := by unfold suN suRows; split <;> omega
    simp only [Ev.builtinQ, Ev.V.asInt, Ev.minL, Option.bind_some, Option.map_some, this]
  refine ACode.seq (ACode.regD (oneT_okP c3) names_ok mix (t' := ?_) (L' := ?_) [0,1,3,0,8,24,63,127] [0,3,4,5,1,2,6,7] (by decide +kernel) (by decide +kernel) (by decide +kernel) ?_ ?_)
  rotate_left 2
  · refine dr rfl rfl rfl rfl (by simp [go_sem, xl, xs, xe, xa, xi, xo, xb, xv, xc, xk, bx3, su3, su3', w3, w4, hmin, oneT_sameP, Try.f46]; rfl) ?_
    refine dq rfl rfl rfl rfl (by simp [go_sem, xl, xs, xe, xa, xi, xo, xb, xv, xc, xk, bx3, su3, su3', w3, w4, hmin, oneT_sameP, Try.f46]; rfl) ?_
    refine dr rfl rfl rfl rfl (by simp [go_sem, xl, xs, xe, xa, xi, xo, xb, xv, xc, xk, bx3, su3, su3', w3, w4, hmin, oneT_sameP, Try.f46]; rfl) ?_
    refine dq rfl rfl rfl rfl (by simp [go_sem, xl, xs, xe, xa, xi, xo, xb, xv, xc, xk, bx3, su3, su3', w3, w4, hmin, oneT_sameP, Try.f46]; rfl) ?_
    refine dl rfl rfl rfl rfl (by simp [go_sem, xl, xs, xe, xa, xi, xo, xb, xv, xc, xk, bx3, su3, su3', w3, w4, hmin, oneT_sameP, Try.f46]; rfl) (by rfl) (by simp [go_sem, xl, xs, xe, xa, xi, xo, xb, xv, xc, xk, bx3, su3, su3', w3, w4, hmin, oneT_sameP, Try.f46]) ?_
    refine dq rfl rfl rfl rfl (by simp [go_sem, xl, xs, xe, xa, xi, xo, xb, xv, xc, xk, bx3, su3, su3', w3, w4, hmin, oneT_sameP, Try.f46]; rfl) ?_
    refine dr rfl rfl rfl rfl (by simp [go_sem, xl, xs, xe, xa, xi, xo, xb, xv, xc, xk, bx3, su3, su3', w3, w4, hmin, oneT_sameP, Try.f46]; rfl) ?_
    refine dq rfl rfl rfl rfl (by simp [go_sem, xl, xs, xe, xa, xi, xo, xb, xv, xc, xk, bx3, su3, su3', w3, w4, hmin, oneT_sameP, Try.f46]; rfl) ?_
    rfl
  have hS4 := hS3r
  generalize setRd A3 c (nextV (nextV (nextV v))) = A4 at *
  have c4 := next_ok hS4.rd
  have bx4 := hS4.box
  unfold boxB at bx4
  refine ACode.seq (ACode.regS (oneT_okP c4) names_ok mix (t' := ?_) (L' := ?_) [0, 1, 2, 3] (by rfl) ?_ ?_)
  rotate_left 2
  · iterate 4 (refine sq rfl rfl rfl (by simp [go_sem, X, bx4, oneT_sameP, Try.f46]; rfl) ?_)
    rfl
  have hS5 := hS4.read
  have hbits : hd0 bs.tail.tail.tail = suBits bs := rfl
  rw [hbits]
  have hbr : 0 ≤ suBits bs ∧ suBits bs ≤ 255 := hS4.rd.head
  obtain ⟨g0, g1, g2, g3, g4⟩ := regbitsk (suBits bs) hbr
  generalize setRd A4 c (nextV (nextV (nextV (nextV v)))) = A5 at *
  refine ACode.seq ?_
  refine ACode.seq (ACode.regS noT_ok names_ok mix (t' := ?_) (L' := ?_) [0] (by rfl) ?_ ?_)
  rotate_left 2
  · refine sq rfl rfl rfl (by simp [go_sem, X, Try.f46]; rfl) ?_
    rfl
  refine ACode.block (ACode.rounds 6 ?_)
  unfold Rounds
  refine ACode.seq (ACode.regS noT_ok names_ok mix (t' := ?_) (L' := ?_) [0] (by rfl) ?_ ?_)
  rotate_left 2
  · refine sq rfl rfl rfl (by simp [go_sem, X, Try.f46]; rfl) ?_
    rfl
  refine ACode.seq (ACode.condT (by simp [tget_set, opd]) (ACode.skip ?_))
  refine ACode.seq (ACode.block ?_)
  refine ACode.seq (ACode.regS noT_ok names_ok mix (t' := ?_) (L' := ?_) [0, 1] (by rfl) ?_ ?_)
  rotate_left 2
  · iterate 2 (refine sq rfl rfl rfl (by simp [go_sem, X, Try.f46]; rfl) ?_)
    rfl
  have sg0 := hS5.su
  unfold evB at sg0
  have wg0 : IntKind.u8.wrap (suBits bs % 2) = suBits bs % 2 := Go.IntWalk.u8_in _ (by omega)
  refine ACode.regS noT_ok names_ok mix (t' := ?_) (L' := ?_) [0, 1, 2, 3, 4, 5, 6, 7, 8] (by rfl) ?_ ?_
  rotate_left 2
  · iterate 9 (refine sq rfl rfl rfl (by simp [go_sem, X, sg0, g0, wg0, Try.f46]; rfl) ?_)
    rfl
  show ACode _ _ _ _ _ _ _
  refine ACode.regS noT_ok names_ok mix (t' := ?_) (L' := ?_) [0, 1] (by rfl) ?_ ?_
  rotate_left 2
  · iterate 2 (refine sq rfl rfl rfl (by simp [go_sem, X, Try.f46]; rfl) ?_)
    rfl
  change Rounds _ _ _ _ _ _ _ ⟨A5.t.set (L.next + 1) (evB [.int .i64 (suRows bs), .int .i64 (suCols bs), .nils, .int .u8 (suBits bs % 2), .int .u8 0, .int .u8 0, .int .u8 0, .int .u8 0, .int .i64 0]), A5.next⟩
  have hS5a := hS5.put [.int .i64 (suRows bs), .int .i64 (suCols bs), .nils, .int .u8 (suBits bs % 2), .int .u8 0, .int .u8 0, .int .u8 0, .int .u8 0, .int .i64 0]
  generalize (⟨A5.t.set (L.next + 1) (evB [.int .i64 (suRows bs), .int .i64 (suCols bs), .nils, .int .u8 (suBits bs % 2), .int .u8 0, .int .u8 0, .int .u8 0, .int .u8 0, .int .i64 0]), A5.next⟩ : Heap) = A5a at *
  unfold Rounds
  refine ACode.seq (ACode.regS noT_ok names_ok mix (t' := ?_) (L' := ?_) [0] (by rfl) ?_ ?_)
  rotate_left 2
  · refine sq rfl rfl rfl (by simp [go_sem, X, Try.f46]; rfl) ?_
    rfl
  refine ACode.seq (ACode.condT (by simp [tget_set, opd]) (ACode.skip ?_))
  refine ACode.seq (ACode.block ?_)
  refine ACode.seq (ACode.regS noT_ok names_ok mix (t' := ?_) (L' := ?_) [0, 1] (by rfl) ?_ ?_)
  rotate_left 2
  · iterate 2 (refine sq rfl rfl rfl (by simp [go_sem, X, Try.f46]; rfl) ?_)
    rfl
  have sg1 := hS5a.su
  unfold evB at sg1
  have wg1 : IntKind.u8.wrap (suBits bs / 2 % 2) = suBits bs / 2 % 2 := Go.IntWalk.u8_in _ (by omega)
  refine ACode.regS noT_ok names_ok mix (t' := ?_) (L' := ?_) [0, 1, 2, 3, 4, 5, 6, 7, 8] (by rfl) ?_ ?_
  rotate_left 2
  · iterate 9 (refine sq rfl rfl rfl (by simp [go_sem, X, sg1, g1, wg1, Try.f46]; rfl) ?_)
    rfl
  show ACode _ _ _ _ _ _ _
  refine ACode.regS noT_ok names_ok mix (t' := ?_) (L' := ?_) [0, 1] (by rfl) ?_ ?_
  rotate_left 2
  · iterate 2 (refine sq rfl rfl rfl (by simp [go_sem, X, Try.f46]; rfl) ?_)
    rfl
  change Rounds _ _ _ _ _ _ _ ⟨A5a.t.set (L.next + 1) (evB [.int .i64 (suRows bs), .int .i64 (suCols bs), .nils, .int .u8 (suBits bs % 2), .int .u8 (suBits bs / 2 % 2), .int .u8 0, .int .u8 0, .int .u8 0, .int .i64 0]), A5a.next⟩
  have hS5b := hS5a.put [.int .i64 (suRows bs), .int .i64 (suCols bs), .nils, .int .u8 (suBits bs % 2), .int .u8 (suBits bs / 2 % 2), .int .u8 0, .int .u8 0, .int .u8 0, .int .i64 0]
  generalize (⟨A5a.t.set (L.next + 1) (evB [.int .i64 (suRows bs), .int .i64 (suCols bs), .nils, .int .u8 (suBits bs % 2), .int .u8 (suBits bs / 2 % 2), .int .u8 0, .int .u8 0, .int .u8 0, .int .i64 0]), A5a.next⟩ : Heap) = A5b at *
  unfold Rounds
  refine ACode.seq (ACode.regS noT_ok names_ok mix (t' := ?_) (L' := ?_) [0] (by rfl) ?_ ?_)
  rotate_left 2
  · refine sq rfl rfl rfl (by simp [go_sem, X, Try.f46]; rfl) ?_
    rfl
  refine ACode.seq (ACode.condT (by simp [tget_set, opd]) (ACode.skip ?_))
  refine ACode.seq (ACode.block ?_)
  refine ACode.seq (ACode.regS noT_ok names_ok mix (t' := ?_) (L' := ?_) [0, 1] (by rfl) ?_ ?_)
  rotate_left 2
  · iterate 2 (refine sq rfl rfl rfl (by simp [go_sem, X, Try.f46]; rfl) ?_)
    rfl
  have sg2 := hS5b.su
  unfold evB at sg2
  have wg2 : IntKind.u8.wrap (suBits bs / 4 % 2) = suBits bs / 4 % 2 := Go.IntWalk.u8_in _ (by omega)
  refine ACode.regS noT_ok names_ok mix (t' := ?_) (L' := ?_) [0, 1, 2, 3, 4, 5, 6, 7, 8] (by rfl) ?_ ?_
  rotate_left 2
  · iterate 9 (refine sq rfl rfl rfl (by simp [go_sem, X, sg2, g2, wg2, Try.f46]; rfl) ?_)
    rfl
  show ACode _ _ _ _ _ _ _
  refine ACode.regS noT_ok names_ok mix (t' := ?_) (L' := ?_) [0, 1] (by rfl) ?_ ?_
  rotate_left 2
  · iterate 2 (refine sq rfl rfl rfl (by simp [go_sem, X, Try.f46]; rfl) ?_)
    rfl
  change Rounds _ _ _ _ _ _ _ ⟨A5b.t.set (L.next + 1) (evB [.int .i64 (suRows bs), .int .i64 (suCols bs), .nils, .int .u8 (suBits bs % 2), .int .u8 (suBits bs / 2 % 2), .int .u8 (suBits bs / 4 % 2), .int .u8 0, .int .u8 0, .int .i64 0]), A5b.next⟩
  have hS5c := hS5b.put [.int .i64 (suRows bs), .int .i64 (suCols bs), .nils, .int .u8 (suBits bs % 2), .int .u8 (suBits bs / 2 % 2), .int .u8 (suBits bs / 4 % 2), .int .u8 0, .int .u8 0, .int .i64 0]
  generalize (⟨A5b.t.set (L.next + 1) (evB [.int .i64 (suRows bs), .int .i64 (suCols bs), .nils, .int .u8 (suBits bs % 2), .int .u8 (suBits bs / 2 % 2), .int .u8 (suBits bs / 4 % 2), .int .u8 0, .int .u8 0, .int .i64 0]), A5b.next⟩ : Heap) = A5c at *
  unfold Rounds
  refine ACode.seq (ACode.regS noT_ok names_ok mix (t' := ?_) (L' := ?_) [0] (by rfl) ?_ ?_)
  rotate_left 2
  · refine sq rfl rfl rfl (by simp [go_sem, X, Try.f46]; rfl) ?_
    rfl
  refine ACode.seq (ACode.condT (by simp [tget_set, opd]) (ACode.skip ?_))
  refine ACode.seq (ACode.block ?_)
  refine ACode.seq (ACode.regS noT_ok names_ok mix (t' := ?_) (L' := ?_) [0, 1] (by rfl) ?_ ?_)
  rotate_left 2
  · iterate 2 (refine sq rfl rfl rfl (by simp [go_sem, X, Try.f46]; rfl) ?_)
    rfl
  have sg3 := hS5c.su
  unfold evB at sg3
  have wg3 : IntKind.u8.wrap (suBits bs / 8 % 2) = suBits bs / 8 % 2 := Go.IntWalk.u8_in _ (by omega)
  refine ACode.regS noT_ok names_ok mix (t' := ?_) (L' := ?_) [0, 1, 2, 3, 4, 5, 6, 7, 8] (by rfl) ?_ ?_
  rotate_left 2
  · iterate 9 (refine sq rfl rfl rfl (by simp [go_sem, X, sg3, g3, wg3, Try.f46]; rfl) ?_)
    rfl
  show ACode _ _ _ _ _ _ _
  refine ACode.regS noT_ok names_ok mix (t' := ?_) (L' := ?_) [0, 1] (by rfl) ?_ ?_
  rotate_left 2
  · iterate 2 (refine sq rfl rfl rfl (by simp [go_sem, X, Try.f46]; rfl) ?_)
    rfl
  change Rounds _ _ _ _ _ _ _ ⟨A5c.t.set (L.next + 1) (evB [.int .i64 (suRows bs), .int .i64 (suCols bs), .nils, .int .u8 (suBits bs % 2), .int .u8 (suBits bs / 2 % 2), .int .u8 (suBits bs / 4 % 2), .int .u8 (suBits bs / 8 % 2), .int .u8 0, .int .i64 0]), A5c.next⟩
  have hS5d := hS5c.put [.int .i64 (suRows bs), .int .i64 (suCols bs), .nils, .int .u8 (suBits bs % 2), .int .u8 (suBits bs / 2 % 2), .int .u8 (suBits bs / 4 % 2), .int .u8 (suBits bs / 8 % 2), .int .u8 0, .int .i64 0]
  generalize (⟨A5c.t.set (L.next + 1) (evB [.int .i64 (suRows bs), .int .i64 (suCols bs), .nils, .int .u8 (suBits bs % 2), .int .u8 (suBits bs / 2 % 2), .int .u8 (suBits bs / 4 % 2), .int .u8 (suBits bs / 8 % 2), .int .u8 0, .int .i64 0]), A5c.next⟩ : Heap) = A5d at *
  unfold Rounds
  refine ACode.seq (ACode.regS noT_ok names_ok mix (t' := ?_) (L' := ?_) [0] (by rfl) ?_ ?_)
  rotate_left 2
  · refine sq rfl rfl rfl (by simp [go_sem, X, Try.f46]; rfl) ?_
    rfl
  refine ACode.seq (ACode.condT (by simp [tget_set, opd]) (ACode.skip ?_))
  refine ACode.seq (ACode.block ?_)
  refine ACode.seq (ACode.regS noT_ok names_ok mix (t' := ?_) (L' := ?_) [0, 1] (by rfl) ?_ ?_)
  rotate_left 2
  · iterate 2 (refine sq rfl rfl rfl (by simp [go_sem, X, Try.f46]; rfl) ?_)
    rfl
  have sg4 := hS5d.su
  unfold evB at sg4
  have wg4 : IntKind.u8.wrap (suBits bs / 16 % 2) = suBits bs / 16 % 2 := Go.IntWalk.u8_in _ (by omega)
  refine ACode.regS noT_ok names_ok mix (t' := ?_) (L' := ?_) [0, 1, 2, 3, 4, 5, 6, 7, 8] (by rfl) ?_ ?_
  rotate_left 2
  · iterate 9 (refine sq rfl rfl rfl (by simp [go_sem, X, sg4, g4, wg4, Try.f46]; rfl) ?_)
    rfl
  show ACode _ _ _ _ _ _ _
  refine ACode.regS noT_ok names_ok mix (t' := ?_) (L' := ?_) [0, 1] (by rfl) ?_ ?_
  rotate_left 2
  · iterate 2 (refine sq rfl rfl rfl (by simp [go_sem, X, Try.f46]; rfl) ?_)
    rfl
  change Rounds _ _ _ _ _ _ _ ⟨A5d.t.set (L.next + 1) (evB [.int .i64 (suRows bs), .int .i64 (suCols bs), .nils, .int .u8 (suBits bs % 2), .int .u8 (suBits bs / 2 % 2), .int .u8 (suBits bs / 4 % 2), .int .u8 (suBits bs / 8 % 2), .int .u8 (suBits bs / 16 % 2), .int .i64 0]), A5d.next⟩
  have hS5e := hS5d.put [.int .i64 (suRows bs), .int .i64 (suCols bs), .nils, .int .u8 (suBits bs % 2), .int .u8 (suBits bs / 2 % 2), .int .u8 (suBits bs / 4 % 2), .int .u8 (suBits bs / 8 % 2), .int .u8 (suBits bs / 16 % 2), .int .i64 0]
  generalize (⟨A5d.t.set (L.next + 1) (evB [.int .i64 (suRows bs), .int .i64 (suCols bs), .nils, .int .u8 (suBits bs % 2), .int .u8 (suBits bs / 2 % 2), .int .u8 (suBits bs / 4 % 2), .int .u8 (suBits bs / 8 % 2), .int .u8 (suBits bs / 16 % 2), .int .i64 0]), A5d.next⟩ : Heap) = A5e at *
  unfold Rounds
  refine ACode.seq (ACode.regS noT_ok names_ok mix (t' := ?_) (L' := ?_) [0] (by rfl) ?_ ?_)
  rotate_left 2
  · refine sq rfl rfl rfl (by simp [go_sem, X, Try.f46]; rfl) ?_
    rfl
  refine ACode.seq (ACode.condF (by simp [tget_set, opd]) (ACode.exit ?_))
  show ACode _ _ _ _ _ _ _
  have hv4 : nextV (nextV (nextV (nextV v))) = advV 4 v := rfl
  rw [hv4] at hS5e
  generalize A5e = A6 at *
  have c6 := below_ok hS5e.rd 8 (by decide)
  have hS5er := hS5e.read
  unfold rdV at c6
  have bx6 := hS5e.box
  have su6 := hS5er.su
  unfold boxB at bx6
  unfold evB at su6
  have hring : hd0 bs.tail.tail.tail.tail % 8 = suRing bs := rfl
  rw [hring] at c6
  refine ACode.seq (ACode.regS (oneT_okP c6) names_ok mix (t' := ?_) (L' := ?_) [0, 1, 2, 3] (by rfl) ?_ ?_)
  rotate_left 2
  · iterate 4 (refine sq rfl rfl rfl (by simp [go_sem, X, bx6, su6, oneT_sameP, Try.f46]; rfl) ?_)
    rfl
  change ACode _ _ _ _ _ ⟨(setRd A6 c (nextV (advV 4 v))).t.set (L.next + 1) (evB [.int .i64 (suRows bs), .int .i64 (suCols bs), .nils, .int .u8 (suBits bs % 2), .int .u8 (suBits bs / 2 % 2), .int .u8 (suBits bs / 4 % 2), .int .u8 (suBits bs / 8 % 2), .int .u8 (suBits bs / 16 % 2), .int .i64 (suRing bs)]), (setRd A6 c (nextV (advV 4 v))).next⟩ _
  have hS7 := hS5er.put [.int .i64 (suRows bs), .int .i64 (suCols bs), .nils, .int .u8 (suBits bs % 2), .int .u8 (suBits bs / 2 % 2), .int .u8 (suBits bs / 4 % 2), .int .u8 (suBits bs / 8 % 2), .int .u8 (suBits bs / 16 % 2), .int .i64 (suRing bs)]
  have hv5 : nextV (advV 4 v) = advV 5 v := rfl
  rw [hv5] at hS7 ⊢
  generalize (⟨(setRd A6 c (advV 5 v)).t.set (L.next + 1) (evB [.int .i64 (suRows bs), .int .i64 (suCols bs), .nils, .int .u8 (suBits bs % 2), .int .u8 (suBits bs / 2 % 2), .int .u8 (suBits bs / 4 % 2), .int .u8 (suBits bs / 8 % 2), .int .u8 (suBits bs / 16 % 2), .int .i64 (suRing bs)]), (setRd A6 c (advV 5 v)).next⟩ : Heap) = A7 at *
  -- the stripes
  have c7 := stripes_ok (suRows bs) (suCols bs) (suN bs) (by unfold suRows; omega) (by unfold suCols; omega) ⟨hn.1, hn.2.1⟩ hn.2.2 A7
  have hpl := stripes_len (suN bs) 1 (suRows bs - 1) (suCols bs)
  have hsrcs : suSrcs bs = srcsP (suN bs) bs.tail.tail.tail.tail.tail (stripesP (suN bs) 1 (suRows bs - 1) (suCols bs)) := rfl
  obtain ⟨q0, qr, hps⟩ : ∃ q0 qr, stripesP (suN bs) 1 (suRows bs - 1) (suCols bs) = q0 :: qr := by
    cases hh : stripesP (suN bs) 1 (suRows bs - 1) (suCols bs) with
    | nil => rw [hh] at hpl; simp at hpl; omega
    | cons a b => exact ⟨a, b, rfl⟩
  generalize hgp : stripesP (suN bs) 1 (suRows bs - 1) (suCols bs) = ps at *
  have hv7 : rowsVP A7 ps = pvAt A7.next (suN bs) 0 := by rw [hps]; rw [hps] at hpl; simp only [rowsVP, hpl]; rfl
  have hh7 : rowsHP 4 rectV A7 ps = ⟨A7.t.set A7.next (.cells (rowFrom (ps.map rectV) 0) (suN bs) 4 true false), A7.next + 1⟩ := by rw [hps]; rw [hps] at hpl; simp only [rowsHP, hpl]
  rw [hv7, hh7] at c7
  have su7 := hS7.su
  unfold evB at su7
  have hsc7 : (pvAt A7.next (suN bs) 0).scalar = true := rfl
  have hcs7 : (pvAt A7.next (suN bs) 0).cells = [pvAt A7.next (suN bs) 0] := rfl
  have hov7 : Ev.over [pvAt A7.next (suN bs) 0] [.nils] = some [pvAt A7.next (suN bs) 0] := rfl
  generalize hpv : pvAt A7.next (suN bs) 0 = pv at *
  refine ACode.seq (ACode.regS (oneT_okP c7) names_ok mix (t' := ?_) (L' := ?_) [0, 1, 2, 3, 4, 5, 6, 7] (by rfl) ?_ ?_)
  rotate_left 2
  · iterate 8 (refine sq rfl rfl rfl (by simp [go_sem, xl, xs, xe, xa, xi, xo, xb, xq, xv, su7, cells79, hsc7, hcs7, hov7, oneT_sameP, Try.f46]; rfl) ?_)
    rfl
  change ACode _ _ _ _ _ ⟨(A7.t.set A7.next (.cells (rowFrom (ps.map rectV) 0) (suN bs) 4 true false)).set (A7.next + 1) (rcell pv), A7.next + 2⟩ _
  have hn7 := hS7.next
  have k8 : KX c A7 ⟨(A7.t.set A7.next (.cells (rowFrom (ps.map rectV) 0) (suN bs) 4 true false)).set (A7.next + 1) (rcell pv), A7.next + 2⟩ := (KX.new c A7 _).trans (KX.new c _ _)
  have r8 := (hS7.rd.new (.cells (rowFrom (ps.map rectV) 0) (suN bs) 4 true false)).new (rcell pv)
  have p8 : (T.set (T.set A7.t A7.next (.cells (rowFrom (ps.map rectV) 0) (suN bs) 4 true false)) (A7.next + 1) (rcell pv)).get (A7.next + 1) = some (rcell pv) := T.get_set_same _ _ _
  have m8 : (T.set (T.set A7.t A7.next (.cells (rowFrom (ps.map rectV) 0) (suN bs) 4 true false)) (A7.next + 1) (rcell pv)).get A7.next = some (.cells (rowFrom (ps.map rectV) 0) (suN bs) 4 true false) := by rw [T.get_set_ne _ _ (by omega)]; exact T.get_set_same _ _ _
  generalize hA8 : (⟨(A7.t.set A7.next (.cells (rowFrom (ps.map rectV) 0) (suN bs) 4 true false)).set (A7.next + 1) (rcell pv), A7.next + 2⟩ : Heap) = A8 at *
  have e8 : (A7.t.set A7.next (.cells (rowFrom (ps.map rectV) 0) (suN bs) 4 true false)).set (A7.next + 1) (rcell pv) = A8.t := by rw [← hA8]
  have n8 : A8.next = A7.next + 2 := by rw [← hA8]
  change (T.set (T.set A7.t A7.next _) (A7.next + 1) (rcell pv)).get (A7.next + 1) = _ at p8
  rw [e8] at p8 m8
  have bx8 : A8.t.get L.next = some (boxB c) := by rw [k8.2 _ (by omega) (by omega)]; exact hS7.box
  have su8 : A8.t.get (L.next + 1) = some (evB [.int .i64 (suRows bs), .int .i64 (suCols bs), .nils, .int .u8 (suBits bs % 2), .int .u8 (suBits bs / 2 % 2), .int .u8 (suBits bs / 4 % 2), .int .u8 (suBits bs / 8 % 2), .int .u8 (suBits bs / 16 % 2), .int .i64 (suRing bs)]) := by rw [k8.2 _ (by omega) (by omega)]; exact hS7.su
  have old8 : ∀ n, n < L.next → n ≠ c → A8.t.get n = L.t.get n := fun n hnn hc => by rw [k8.2 n (by omega) hc]; exact hS7.old n hnn hc
  rw [← hpv] at p8
  have c8 := listedS_ok (r := L.next) r8 bx8 p8 m8 hpl (by omega) (by omega) (by omega) (by omega) (by omega) (by omega) (by omega) (by omega) (by omega)
  rw [← hsrcs] at c8
  have hadv : advV (suN bs) (advV 5 v) = advV (5 + suN bs) v := advV_add 5 v _
  rw [hadv] at c8
  have hsl : (suSrcs bs).length = suN bs := by rw [hsrcs]; exact srcsP_len _ _ _
  have hcp := setCP_at (L := A8) (c := c) (p := A7.next + 1) (v := advV (5 + suN bs) v) (pv := pvAt A7.next (suN bs) (suN bs)) (by omega)
  have hco : ∀ k, k ≠ c → k ≠ A7.next + 1 → (setCP A8 c (advV (5 + suN bs) v) (A7.next + 1) (pvAt A7.next (suN bs) (suN bs))).t.get k = A8.t.get k := fun k h1 h2 => setCP_other h1 h2
  have hcn : (setCP A8 c (advV (5 + suN bs) v) (A7.next + 1) (pvAt A7.next (suN bs) (suN bs))).next = A8.next := rfl
  obtain ⟨x0, xr, hx⟩ : ∃ x0 xr, suSrcs bs = x0 :: xr := by
    cases hh : suSrcs bs with
    | nil => rw [hh] at hsl; simp at hsl; omega
    | cons a b => exact ⟨a, b, rfl⟩
  generalize suSrcs bs = srcs at *
  generalize setCP A8 c (advV (5 + suN bs) v) (A7.next + 1) (pvAt A7.next (suN bs) (suN bs)) = A9 at *
  have hv9 : rowsVP A9 srcs = .slice A9.next 0 (suN bs) 0 true := by rw [hx]; rw [hx] at hsl; simp only [rowsVP, hsl]
  have hh9 : rowsHP 6 srcF A9 srcs = ⟨A9.t.set A9.next (.cells (rowFrom (srcs.map srcF) 0) (suN bs) 6 true false), A9.next + 1⟩ := by rw [hx]; rw [hx] at hsl; simp only [rowsHP, hsl]
  rw [hv9, hh9] at c8
  have su9 : (T.set A9.t A9.next (.cells (rowFrom (srcs.map srcF) 0) (suN bs) 6 true false)).get (L.next + 1) = some (evB [.int .i64 (suRows bs), .int .i64 (suCols bs), .nils, .int .u8 (suBits bs % 2), .int .u8 (suBits bs / 2 % 2), .int .u8 (suBits bs / 4 % 2), .int .u8 (suBits bs / 8 % 2), .int .u8 (suBits bs / 16 % 2), .int .i64 (suRing bs)]) := by rw [T.get_set_ne _ _ (by omega), hco _ (by omega) (by omega)]; exact su8
  have hne9 : ¬ L.next + 1 = A9.next := by omega
  have su9' := su9
  rw [T.get_set_ne _ _ hne9] at su9'
  unfold evB at su9'
  refine ACode.seq (ACode.regS (oneT_okP c8) names_ok mix (t' := ?_) (L' := ?_) [0, 1, 2, 3, 4] (by rfl) ?_ ?_)
  rotate_left 2
  · iterate 5 (refine sq rfl rfl rfl (by simp [go_sem, X, su9', hne9, oneT_sameP, Try.f46]; rfl) ?_)
    rfl
  change ACode _ _ _ _ _ ⟨(A9.t.set A9.next (.cells (rowFrom (srcs.map srcF) 0) (suN bs) 6 true false)).set (L.next + 1) (evB (suCells bs (.slice A9.next 0 (suN bs) 0 true))), A9.next + 1⟩ _
  have su10 : (T.set (T.set A9.t A9.next (.cells (rowFrom (srcs.map srcF) 0) (suN bs) 6 true false)) (L.next + 1) (evB (suCells bs (.slice A9.next 0 (suN bs) 0 true)))).get (L.next + 1) = some (.cells (T.set .leaf 0 [.int .i64 (suRows bs), .int .i64 (suCols bs), .slice A9.next 0 (suN bs) 0 true, .int .u8 (suBits bs % 2), .int .u8 (suBits bs / 2 % 2), .int .u8 (suBits bs / 4 % 2), .int .u8 (suBits bs / 8 % 2), .int .u8 (suBits bs / 16 % 2), .int .i64 (suRing bs)]) 1 9 false false) := T.get_set_same _ _ _
  have s10 : (T.set (T.set A9.t A9.next (.cells (rowFrom (srcs.map srcF) 0) (suN bs) 6 true false)) (L.next + 1) (evB (suCells bs (.slice A9.next 0 (suN bs) 0 true)))).get A9.next = some (.cells (rowFrom (srcs.map srcF) 0) (suN bs) 6 true false) := by rw [T.get_set_ne _ _ (by omega)]; exact T.get_set_same _ _ _
  have c10 : (T.set (T.set A9.t A9.next (.cells (rowFrom (srcs.map srcF) 0) (suN bs) 6 true false)) (L.next + 1) (evB (suCells bs (.slice A9.next 0 (suN bs) 0 true)))).get c = some (rcell (advV (5 + suN bs) v)) := by rw [T.get_set_ne _ _ (by omega), T.get_set_ne _ _ (by omega)]; exact hcp.1
  have old10 : ∀ n, n < L.next → n ≠ c → (T.set (T.set A9.t A9.next (.cells (rowFrom (srcs.map srcF) 0) (suN bs) 6 true false)) (L.next + 1) (evB (suCells bs (.slice A9.next 0 (suN bs) 0 true)))).get n = L.t.get n := fun n hnn hc => by rw [T.get_set_ne _ _ (by omega), T.get_set_ne _ _ (by omega), hco n hc (by omega)]; exact old8 n hnn hc
  generalize hA10 : (⟨(A9.t.set A9.next (.cells (rowFrom (srcs.map srcF) 0) (suN bs) 6 true false)).set (L.next + 1) (evB (suCells bs (.slice A9.next 0 (suN bs) 0 true))), A9.next + 1⟩ : Heap) = A10 at *
  have e10 : (A9.t.set A9.next (.cells (rowFrom (srcs.map srcF) 0) (suN bs) 6 true false)).set (L.next + 1) (evB (suCells bs (.slice A9.next 0 (suN bs) 0 true))) = A10.t := by rw [← hA10]
  rw [e10] at su10 s10 c10 old10
  refine ACode.seq (ACode.regS noT_ok names_ok mix (t' := ?_) (L' := ?_) [0, 1] (by rfl) ?_ ?_)
  rotate_left 2
  · iterate 2 (refine sq rfl rfl rfl (by simp [go_sem, X, su10, Try.f46]; rfl) ?_)
    rfl
  have hT0 : Tidy2 L ⟨A10.t.set (L.next + 1) (evB (suCells bs (.slice A9.next 0 (suN bs) 0 true))), A10.next⟩ (setRd L c (advV (5 + suN bs) v)) [] := by
    refine tidyR hlt (by rw [advV_low]; exact h.low) ?_ ?_
    · show T.get (T.set _ _ _) _ = _
      rw [T.get_set_ne _ _ (by omega)]; exact c10
    · intro n hnn hc
      show T.get (T.set _ _ _) _ = _
      rw [T.get_set_ne _ _ (by omega)]; exact old10 n hnn hc
  have hfin : rowsHP 6 srcF (setRd L c (advV (5 + suN bs) v)) srcs = ⟨(setRd L c (advV (5 + suN bs) v)).t.set L.next (.cells (rowFrom (srcs.map srcF) 0) (suN bs) 6 true false), L.next + 1⟩ := by rw [hx]; rw [hx] at hsl; simp only [rowsHP, hsl]; rfl
  have hfinv : rowsVP (setRd L c (advV (5 + suN bs) v)) srcs = .slice L.next 0 (suN bs) 0 true := by rw [hx]; rw [hx] at hsl; simp only [rowsVP, hsl]; rfl
  rw [hfin, hfinv]
  refine ACode.ret ⟨.inr rfl, ⟨A10.t.set (L.next + 1) (evB (suCells bs (.slice A9.next 0 (suN bs) 0 true))), A10.next⟩, [.agg (suCells bs (.slice A9.next 0 (suN bs) 0 true))], [A9.next], rfl, by simp [Try.f46, resVals, tget_set, Heap.load, Heap.elem, T.get_set, Ev.part, ps54, pa54, takeN, Ev.V.asPtr, evB, suCells], Tidy2.one hT0.old hT0.chg (fun n hnn => T.get_set_ne _ _ (by omega)) (by omega) ?_ (rows_low (fun _ => rfl) _ _ _ _), ?_⟩
  · show T.get (T.set _ _ _) _ = _
    rw [T.get_set_ne _ _ (by omega)]; exact s10
  · intro κ1 z hz
    exact agg_slice hz
end Go.Proofs.Ytpfmoolpeecobaa
