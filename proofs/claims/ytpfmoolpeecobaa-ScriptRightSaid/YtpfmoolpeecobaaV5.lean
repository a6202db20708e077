/- A script of bytes. -/
import Derived.Test.YtpfmoolpeecobaaV4
namespace Go.Proofs.Ytpfmoolpeecobaa
open Go Go.Proofs Go.Proofs.Ytpfmoolpeecobaa.Ev
set_option linter.unusedVariables false
set_option linter.unusedSimpArgs false
set_option maxRecDepth 100000
set_option maxHeartbeats 4000000

theorem cellsR : V.cells (.agg [.nilf, .nilf]) = [.nilf, .nilf] := rfl
theorem reading_ok {L : Heap} {v : V} (hcs : v.cells = [v]) (hsc : v.scalar = true) : ACall Try.prog 45 [v] L (rdV L.next) ⟨(L.t.set L.next (rcell v)).set (L.next + 1) (boxB L.next), L.next + 2⟩ := by
  refine ACall.of_body_same Try.func45 rfl ?_
  refine ACode.seq (ACode.regS noT_ok names_ok mix (t' := ?_) (L' := ?_) [0, 1] (by rfl) ?_ ?_)
  rotate_left 2
  · iterate 2 (refine sq rfl rfl rfl (by simp [go_sem, xl, xs, xe, xa, xi, xo, xb, xq, xv, xk, hcs, cellsR, Try.f45]; rfl) ?_)
    rfl
  refine ACode.seq (ACode.regS noT_ok names_ok mix (t' := ?_) (L' := ?_) [0, 1, 2, 3] (by rfl) ?_ ?_)
  rotate_left 2
  · iterate 4 (refine sq rfl rfl rfl (by simp [go_sem, X, Try.f45]; rfl) ?_)
    rfl
  exact ACode.ret ⟨.inr rfl, [rdV L.next], rfl, by simp [Try.f45, resVals, tget_set, Heap.load, Heap.elem, T.get_set, Ev.part, ps94, pa94, takeN, Ev.V.asPtr, boxB, rdV], rfl⟩
theorem Bs.cells {c : Nat} {L : Heap} {v : V} {bs : List Int} (h : Bs c L v bs) : v.cells = [v] ∧ v.scalar = true := by
  rcases h with ⟨rfl, rfl⟩ | ⟨n, o, cap, q, rfl, _⟩ <;> exact ⟨rfl, rfl⟩

/-- an event -/
structure Evt where
  k : Int
  s : Int
  t : List Nat
  lv : Int
  r1 : Int
  r2 : Int
  r3 : Int
  r4 : Int
  w : Int
  deriving DecidableEq
def evF (e : Evt) : List V := [.int .i64 e.k, .int .i64 e.s, .str e.t, .int .u8 e.lv, .int .i64 e.r1, .int .i64 e.r2, .int .i64 e.r3, .int .i64 e.r4, .int .i64 e.w]
def evE (bs : List Int) : Evt :=
  if hd0 bs % 9 = 0 ∨ hd0 bs % 9 = 4 then ⟨hd0 bs % 9, hd0 bs / 9 % 5, textP bs.tail, 0, 0, 0, 0, 0, 0⟩
  else if hd0 bs % 9 = 3 then ⟨hd0 bs % 9, hd0 bs / 9 % 5, textP bs.tail.tail, hd0 bs.tail % 3, 0, 0, 0, 0, 0⟩
  else if hd0 bs % 9 = 5 then ⟨hd0 bs % 9, hd0 bs / 9 % 5, [], 0, hd0 bs.tail % 16, hd0 bs.tail.tail % 48, hd0 (bs.tail.drop 2) % 16, hd0 (bs.tail.drop 3) % 48, 0⟩
  else if hd0 bs % 9 = 6 then ⟨hd0 bs % 9, hd0 bs / 9 % 5, [], 0, 0, 0, hd0 bs.tail % 16, hd0 bs.tail.tail % 48, 0⟩
  else if hd0 bs % 9 = 7 then ⟨hd0 bs % 9, hd0 bs / 9 % 5, [], 0, 0, 0, 0, 0, hd0 bs.tail % 8⟩
  else ⟨hd0 bs % 9, hd0 bs / 9 % 5, [], 0, 0, 0, 0, 0, 0⟩
theorem ev_eq (bs : List Int) : (evP bs).1 = evF (evE bs) := by
  unfold evP evE
  repeat (first | rfl | split)
/-- so many events at most: they, and how many bytes they take -/
def evsP : Nat → List Int → List Evt × Nat
  | 0, _ => ([], 0)
  | n + 1, [] => ([], 0)
  | n + 1, b :: t => (evE (b :: t) :: (evsP n ((b :: t).drop (evP (b :: t)).2)).1, (evP (b :: t)).2 + (evsP n ((b :: t).drop (evP (b :: t)).2)).2)
noncomputable def scB (cs : List V) : Blk := .cells (T.set .leaf 0 cs) 1 10 false false
theorem Tidy2.two {L L1 : Heap} {T0 : T Blk} {m1 m2 : Nat} {b1 b2 : Blk} (h : ∀ n, n < L.next → T0.get n = L1.t.get n) (hc : ∀ n b, n < L.next → L1.t.get n = some b → L.t.get n = some b ∨ b.low L.next) (hl : ∀ n, L.next ≤ n → T0.get n = L.t.get n)
    (hm1 : L.next ≤ m1) (hm2 : L.next ≤ m2) (hne : m1 ≠ m2) (hb1 : L1.t.get m1 = some b1) (hb2 : L1.t.get m2 = some b2) (hp1 : b1.low L.next) (hp2 : b2.low L.next) : Tidy2 L L1 ⟨(T0.set L.next b1).set (L.next + 1) b2, L.next + 2⟩ [m1, m2] := by
  refine ⟨by simp [hne], rfl, fun n hn => by show T.get (T.set (T.set _ _ _) _ _) _ = _; rw [T.get_set_ne _ _ (by omega), T.get_set_ne _ _ (by omega), h n hn], hc, fun hlim n hn => ?_, fun i m' hm' => ?_⟩
  · simp only [List.length_cons, List.length_nil] at hn
    show T.get (T.set (T.set _ _ _) _ _) _ = _
    rw [T.get_set_ne _ _ (by omega), T.get_set_ne _ _ (by omega), hl n (by omega)]
    exact hlim n (by omega)
  · match i, hm' with
    | 0, hm' =>
      simp at hm'
      subst hm'
      refine ⟨hm1, b1, hb1, ?_, hp1⟩
      show T.get (T.set (T.set _ _ _) _ _) _ = _
      rw [T.get_set_ne _ _ (by omega)]; exact T.get_set_same _ _ _
    | 1, hm' =>
      simp at hm'
      subst hm'
      exact ⟨hm2, b2, hb2, T.get_set_same _ _ _, hp2⟩
    | i + 2, hm' => simp at hm'

/-- a script of bytes: where the blocks of its sources, its events are; how many bytes count -/
noncomputable def scH (L : Heap) (bs : List Int) : Heap := rowsHP 9 evF (rowsHP 6 srcF L (suSrcs bs)) (evsP 40 (bs.drop (5 + suN bs))).1
def scC (bs : List Int) (sv ev : V) : List V := [.int .i64 (suRows bs), .int .i64 (suCols bs), sv, .int .u8 (suBits bs % 2), .int .u8 (suBits bs / 2 % 2), .int .u8 (suBits bs / 4 % 2), .int .u8 (suBits bs / 8 % 2), .int .u8 (suBits bs / 16 % 2), .int .i64 (suRing bs), ev]
noncomputable def scV (L : Heap) (bs : List Int) : List V := scC bs (rowsVP L (suSrcs bs)) (rowsVP (rowsHP 6 srcF L (suSrcs bs)) (evsP 40 (bs.drop (5 + suN bs))).1)
theorem Bs.mono {c c' : Nat} {L : Heap} {v : V} {bs : List Int} (h : Bs c L v bs) (hc : c ≤ c') : Bs c' L v bs := by
  rcases h with h | ⟨n, o, cap, q, rfl, hn, hnc, hcp, hx⟩
  · exact .inl h
  · exact .inr ⟨n, o, cap, q, rfl, hn, by omega, hcp, hx⟩
/-- where Parse stands -/
structure PS (L A : Heap) (v0 : V) (pos : Nat) (cs : List V) : Prop where
  cell : A.t.get (L.next + 1) = some (rcell (advV pos v0))
  sc : A.t.get L.next = some (scB cs)
  box : A.t.get (L.next + 3) = some (boxB (L.next + 1))
  next : L.next + 4 ≤ A.next
  old : ∀ n, n < L.next → A.t.get n = L.t.get n
theorem PS.rd {L A : Heap} {v0 : V} {pos : Nat} {cs : List V} {bs : List Int} (h : PS L A v0 pos cs) (hb : Bs L.next L v0 bs) (hr : ∀ x ∈ bs, 0 ≤ x ∧ x ≤ 255) : Rd A (L.next + 1) (advV pos v0) (bs.drop pos) :=
  ⟨h.cell, by have := h.next; omega, ((hb.adv pos).still (by have := h.next; omega) (fun n hn _ => h.old n hn)).mono (by omega), fun x hx => hr x (List.mem_of_mem_drop hx)⟩
theorem PS.put {L A : Heap} {v0 : V} {pos : Nat} {cs : List V} (h : PS L A v0 pos cs) (cs' : List V) : PS L ⟨A.t.set L.next (scB cs'), A.next⟩ v0 pos cs' where
  cell := by show T.get (T.set _ _ _) _ = _; rw [T.get_set_ne _ _ (by omega)]; exact h.cell
  sc := T.get_set_same _ _ _
  box := by show T.get (T.set _ _ _) _ = _; rw [T.get_set_ne _ _ (by omega)]; exact h.box
  next := h.next
  old := fun n hlt => by show T.get (T.set _ _ _) _ = _; rw [T.get_set_ne _ _ (by omega)]; exact h.old n hlt
theorem PS.adv {L A A' : Heap} {v0 v' : V} {pos pos' : Nat} {cs : List V} (h : PS L A v0 pos cs) (hv : v' = advV pos' v0) (hn : A.next ≤ A'.next) (hc : A'.t.get (L.next + 1) = some (rcell v')) (hk : ∀ n, n < A.next → n ≠ L.next + 1 → A'.t.get n = A.t.get n) : PS L A' v0 pos' cs where
  cell := by rw [hc, hv]
  sc := by rw [hk _ (by have := h.next; omega) (by omega)]; exact h.sc
  box := by rw [hk _ (by have := h.next; omega) (by omega)]; exact h.box
  next := Nat.le_trans h.next hn
  old := fun n hlt => by rw [hk _ (by have := h.next; omega) (by omega)]; exact h.old n hlt
theorem OwnP.len {α : Type} {f : α → List V} {sz lo : Nat} {L : Heap} {v : V} {l : List α} {sT e : TypeId} (hts : tySlice Try.prog sT = some e) (h : OwnP sz f lo L v l) (L' : Heap) : Ev.builtinQ Try.prog .len #[sT] [v] L' = some (.int .i64 (l.length : Int)) := by
  rcases h with ⟨rfl, rfl⟩ | ⟨hne, m, rfl, h1, h2, h3⟩ <;> simp [Ev.builtinQ, hts]
def scN (bs : List Int) : Nat := 5 + suN bs + (evsP 40 (bs.drop (5 + suN bs))).2
theorem Bs.len {c : Nat} {L : Heap} {v : V} {bs : List Int} (h : Bs c L v bs) (L' : Heap) : Ev.builtinQ Try.prog .len #[38] [v] L' = some (.int .i64 (bs.length : Int)) := by
  rcases h with ⟨rfl, rfl⟩ | ⟨n, o, cap, q, rfl, _⟩ <;> simp [Ev.builtinQ, pt38]
theorem sc_VR {κ κ' : KM} {bs : List Int} {sv sv' ev ev' : V} (h1 : ∀ z, VR κ sv z → VR κ' sv' z) (h2 : ∀ z, VR κ ev z → VR κ' ev' z) (n : Int) {z : Value} (h : VR κ (one1 [.agg (scC bs sv ev), .int .i64 n]) z) : VR κ' (.tuple [.agg (scC bs sv' ev'), .int .i64 n]) z := by
  simp only [one1, VR, VRs, scC] at h ⊢
  obtain ⟨xs, e, x1, l1, e1, ⟨ys, ey, y1, k1, f1, g1, y2, k2, f2, g2, y3, k3, f3, g3, y4, k4, f4, g4, y5, k5, f5, g5, y6, k6, f6, g6, y7, k7, f7, g7, y8, k8, f8, g8, y9, k9, f9, g9, y10, k10, f10, g10, g11⟩, x2, l2, e2, h5, h6⟩ := h
  exact ⟨xs, e, x1, l1, e1, ⟨ys, ey, y1, k1, f1, g1, y2, k2, f2, g2, y3, k3, f3, h1 _ g3, y4, k4, f4, g4, y5, k5, f5, g5, y6, k6, f6, g6, y7, k7, f7, g7, y8, k8, f8, g8, y9, k9, f9, g9, y10, k10, f10, h2 _ g10, g11⟩, x2, l2, e2, h5, h6⟩
theorem VR_slice_at {κ : KM} {nx i m : Nat} {ms : List Nat} (hm : ms[i]? = some m) {o len cap : Nat} {q : Bool} {z : Value} (h : VR κ (.slice m o len cap q) z) : VR (tidyK κ nx ms) (.slice (nx + i) o len cap q) z := by
  simp only [VR] at h ⊢
  obtain ⟨k, a, c, hk, e3⟩ := h
  exact ⟨k, a, c, by unfold tidyK; rw [if_neg (by omega), Nat.add_sub_cancel_left, hm]; exact hk, e3⟩
theorem cellsAgg (l : List V) : (V.agg l).cells = l := rfl
theorem scal4 (l : List Nat) : (V.str l).scalar = true := rfl
theorem scal1 (k : IntKind) (n : Int) : (V.int k n).scalar = true := rfl
theorem scal2 (n o l c : Nat) (q : Bool) : (V.slice n o l c q).scalar = true := rfl
theorem scal3 (b : Bool) : (V.bool b).scalar = true := rfl
theorem parse_ok {L : Heap} {v : V} {bs : List Int} (h : Bs L.next L v bs) (hr : ∀ x ∈ bs, 0 ≤ x ∧ x ≤ 255) (hlen : bs.length ≤ 1000000) :
    ACall Try.prog 30 [v] L (.tuple [.agg (scV L bs), .int .i64 ((bs.length : Int) - ((bs.drop (scN bs)).length : Int))]) (scH L bs) := by
  obtain ⟨hcs, hsc⟩ := h.cells
  refine ACall.of_body2 Try.func30 rfl ?_
  refine ACode.seq (ACode.regS noT_ok names_ok mix (t' := ?_) (L' := ?_) [0, 1] (by rfl) ?_ ?_)
  rotate_left 2
  · iterate 2 (refine sq rfl rfl rfl (by simp [go_sem, X, Try.f30]; rfl) ?_)
    rfl
  change ACode _ _ _ _ _ ⟨L.t.set L.next (scB [.int .i64 0, .int .i64 0, .nils, .int .u8 0, .int .u8 0, .int .u8 0, .int .u8 0, .int .u8 0, .int .i64 0, .nils]), L.next + 1⟩ _
  have c1 := reading_ok (L := ⟨L.t.set L.next (scB [.int .i64 0, .int .i64 0, .nils, .int .u8 0, .int .u8 0, .int .u8 0, .int .u8 0, .int .u8 0, .int .i64 0, .nils]), L.next + 1⟩) hcs hsc
  unfold rdV at c1
  refine ACode.seq (ACode.regS (oneT_okP c1) names_ok mix (t' := ?_) (L' := ?_) [0, 1, 2, 3] (by rfl) ?_ ?_)
  rotate_left 2
  · iterate 4 (refine sq rfl rfl rfl (by simp [go_sem, X, oneT_sameP, Try.f30]; rfl) ?_)
    rfl
  show ACode _ _ _ _ _ _ _
  change ACode _ _ _ _ _ ⟨(((L.t.set L.next (scB [.int .i64 0, .int .i64 0, .nils, .int .u8 0, .int .u8 0, .int .u8 0, .int .u8 0, .int .u8 0, .int .i64 0, .nils])).set (L.next + 1) (rcell v)).set (L.next + 2) (boxB (L.next + 1))).set (L.next + 3) (boxB (L.next + 1)), L.next + 4⟩ _
  have hP1 : PS L ⟨(((L.t.set L.next (scB [.int .i64 0, .int .i64 0, .nils, .int .u8 0, .int .u8 0, .int .u8 0, .int .u8 0, .int .u8 0, .int .i64 0, .nils])).set (L.next + 1) (rcell v)).set (L.next + 2) (boxB (L.next + 1))).set (L.next + 3) (boxB (L.next + 1)), L.next + 4⟩ v 0 [.int .i64 0, .int .i64 0, .nils, .int .u8 0, .int .u8 0, .int .u8 0, .int .u8 0, .int .u8 0, .int .i64 0, .nils] := {
    cell := by show T.get (T.set _ _ _) _ = _; rw [T.get_set_ne _ _ (by omega), T.get_set_ne _ _ (by omega)]; exact T.get_set_same _ _ _
    sc := by show T.get (T.set _ _ _) _ = _; rw [T.get_set_ne _ _ (by omega), T.get_set_ne _ _ (by omega), T.get_set_ne _ _ (by omega)]; exact T.get_set_same _ _ _
    box := T.get_set_same _ _ _
    next := Nat.le_refl _
    old := fun n hn => by show T.get (T.set _ _ _) _ = _; rw [T.get_set_ne _ _ (by omega), T.get_set_ne _ _ (by omega), T.get_set_ne _ _ (by omega), T.get_set_ne _ _ (by omega)] }
  have hnx1 : (⟨(((L.t.set L.next (scB [.int .i64 0, .int .i64 0, .nils, .int .u8 0, .int .u8 0, .int .u8 0, .int .u8 0, .int .u8 0, .int .i64 0, .nils])).set (L.next + 1) (rcell v)).set (L.next + 2) (boxB (L.next + 1))).set (L.next + 3) (boxB (L.next + 1)), L.next + 4⟩ : Heap).next = L.next + 4 := rfl
  generalize (⟨(((L.t.set L.next (scB [.int .i64 0, .int .i64 0, .nils, .int .u8 0, .int .u8 0, .int .u8 0, .int .u8 0, .int .u8 0, .int .i64 0, .nils])).set (L.next + 1) (rcell v)).set (L.next + 2) (boxB (L.next + 1))).set (L.next + 3) (boxB (L.next + 1)), L.next + 4⟩ : Heap) = A at *
  have hR1 := hP1.rd h hr
  rw [List.drop_zero] at hR1
  have c2 := setup_ok hR1
  have hn := suN_range (bs := bs)
  have hsl : (suSrcs bs).length = suN bs := srcsP_len _ _ _
  have hv0 : advV (5 + suN bs) (advV 0 v) = advV (5 + suN bs) v := rfl
  rw [hv0] at c2
  obtain ⟨x0, xr, hx⟩ : ∃ x0 xr, suSrcs bs = x0 :: xr := by
    cases hh : suSrcs bs with
    | nil => rw [hh] at hsl; simp at hsl; omega
    | cons a b => exact ⟨a, b, rfl⟩
  have hscN : scN bs = 5 + suN bs + (evsP 40 (bs.drop (5 + suN bs))).2 := rfl
  have hsl' := hsl
  rw [hx, List.length_cons] at hsl'
  have hvA : rowsVP (setRd A (L.next + 1) (advV (5 + suN bs) v)) (suSrcs bs) = .slice (L.next + 4) 0 (suN bs) 0 true := by rw [hx]; simp only [rowsVP, List.length_cons, hsl']; rw [← hnx1]; rfl
  have hhA : rowsHP 6 srcF (setRd A (L.next + 1) (advV (5 + suN bs) v)) (suSrcs bs) = ⟨(setRd A (L.next + 1) (advV (5 + suN bs) v)).t.set (L.next + 4) (.cells (rowFrom ((suSrcs bs).map srcF) 0) (suN bs) 6 true false), L.next + 5⟩ := by rw [hx]; simp only [rowsHP, List.length_cons, hsl']; rw [show L.next + 5 = A.next + 1 by omega, ← hnx1]; rfl
  have hvL : rowsVP L (suSrcs bs) = .slice L.next 0 (suN bs) 0 true := by rw [hx]; simp only [rowsVP, List.length_cons, hsl']
  have hhL : rowsHP 6 srcF L (suSrcs bs) = ⟨L.t.set L.next (.cells (rowFrom ((suSrcs bs).map srcF) 0) (suN bs) 6 true false), L.next + 1⟩ := by rw [hx]; simp only [rowsHP, List.length_cons, hsl']
  rw [hvA, hhA] at c2
  have hP2 : PS L ⟨(setRd A (L.next + 1) (advV (5 + suN bs) v)).t.set (L.next + 4) (.cells (rowFrom ((suSrcs bs).map srcF) 0) (suN bs) 6 true false), L.next + 5⟩ v (5 + suN bs) [.int .i64 0, .int .i64 0, .nils, .int .u8 0, .int .u8 0, .int .u8 0, .int .u8 0, .int .u8 0, .int .i64 0, .nils] :=
    hP1.adv rfl (by show A.next ≤ L.next + 5; omega) (by show T.get (T.set _ _ _) _ = _; rw [T.get_set_ne _ _ (by omega)]; exact T.get_set_same _ _ _) (fun n hlt hne => by show T.get (T.set _ _ _) _ = _; rw [T.get_set_ne _ _ (by omega)]; exact T.get_set_ne _ _ hne)
  have s2 : (T.set (setRd A (L.next + 1) (advV (5 + suN bs) v)).t (L.next + 4) (.cells (rowFrom ((suSrcs bs).map srcF) 0) (suN bs) 6 true false)).get (L.next + 4) = some (.cells (rowFrom ((suSrcs bs).map srcF) 0) (suN bs) 6 true false) := T.get_set_same _ _ _
  have bx1 := hP1.box
  have sc2 := hP2.sc
  have n2 : (⟨(setRd A (L.next + 1) (advV (5 + suN bs) v)).t.set (L.next + 4) (.cells (rowFrom ((suSrcs bs).map srcF) 0) (suN bs) 6 true false), L.next + 5⟩ : Heap).next = L.next + 5 := rfl
  generalize hA2 : (⟨(setRd A (L.next + 1) (advV (5 + suN bs) v)).t.set (L.next + 4) (.cells (rowFrom ((suSrcs bs).map srcF) 0) (suN bs) 6 true false), L.next + 5⟩ : Heap) = A2 at *
  have e2 : (setRd A (L.next + 1) (advV (5 + suN bs) v)).t.set (L.next + 4) (.cells (rowFrom ((suSrcs bs).map srcF) 0) (suN bs) 6 true false) = A2.t := by rw [← hA2]
  rw [e2] at s2
  unfold boxB at bx1
  unfold scB at sc2
  unfold suCells rdV at c2
  refine ACode.seq (ACode.regS (oneT_okP c2) names_ok mix (t' := ?_) (L' := ?_) [0, 1, 2, 3] (by rfl) ?_ ?_)
  rotate_left 2
  · iterate 4 (refine sq rfl rfl rfl (by simp [go_sem, X, bx1, sc2, oneT_sameP, Try.f30]; rfl) ?_)
    rfl
  change ACode _ _ _ _ _ ⟨A2.t.set L.next (scB (scC bs (.slice (L.next + 4) 0 (suN bs) 0 true) .nils)), A2.next⟩ _
  have hP3 := hP2.put (scC bs (.slice (L.next + 4) 0 (suN bs) 0 true) .nils)
  have s3 : (T.set A2.t L.next (scB (scC bs (.slice (L.next + 4) 0 (suN bs) 0 true) .nils))).get (L.next + 4) = some (.cells (rowFrom ((suSrcs bs).map srcF) 0) (suN bs) 6 true false) := by rw [T.get_set_ne _ _ (by omega)]; exact s2
  have n3 : (⟨A2.t.set L.next (scB (scC bs (.slice (L.next + 4) 0 (suN bs) 0 true) .nils)), A2.next⟩ : Heap).next = L.next + 5 := n2
  generalize hA3 : (⟨A2.t.set L.next (scB (scC bs (.slice (L.next + 4) 0 (suN bs) 0 true) .nils)), A2.next⟩ : Heap) = A3 at *
  have e3 : A2.t.set L.next (scB (scC bs (.slice (L.next + 4) 0 (suN bs) 0 true) .nils)) = A3.t := by rw [← hA3]
  rw [e3] at s3
  refine ACode.seq (ACode.block (ACode.loop (fun t d A N => d = [] ∧ ∃ (pos : Nat) (out : List Evt) (ev : V), out.length ≤ 40 ∧ N = 40 - out.length ∧ tget t 0 = v ∧ tget t 2 = .ptr L.next 0 ∧ tget t 4 = .ptr (L.next + 3) 0 ∧
    PS L A v pos (scC bs (.slice (L.next + 4) 0 (suN bs) 0 true) ev) ∧ OwnP 9 evF (L.next + 5) A ev out ∧ L.next + 5 ≤ A.next ∧ A.t.get (L.next + 4) = some (.cells (rowFrom ((suSrcs bs).map srcF) 0) (suN bs) 6 true false) ∧
    out ++ (evsP (40 - out.length) (bs.drop pos)).1 = (evsP 40 (bs.drop (5 + suN bs))).1 ∧ pos + (evsP (40 - out.length) (bs.drop pos)).2 = scN bs) (N := 40)
    ⟨rfl, 5 + suN bs, [], .nils, by simp, rfl, by simp [tget_set, argsT], by simp [tget_set], by simp [tget_set], hP3, .inl ⟨rfl, rfl⟩, by omega, s3, rfl, rfl⟩ ?_))
  clear hP1 hP2 hP3 s2 s3 sc2 bx1 c2 c1 hA2 hA3 hR1 e2 e3 hvA hhA n2 n3 hnx1
  rintro t d A4 N ⟨rfl, pos, out, ev, hol, rfl, t0, t2, t4, hP, hO, hnx, hs, hout, htot⟩
  have sc := hP.sc
  have bx := hP.box
  unfold scB scC at sc
  unfold boxB at bx
  have hR := hP.rd h hr
  have cl := left_ok hR
  have hel := hO.len pt55
  refine ACode.seq (ACode.mono (K := fun x t' d' L' => d' = [] ∧ L' = A4 ∧ tget t' 0 = v ∧ tget t' 2 = .ptr L.next 0 ∧ tget t' 4 = .ptr (L.next + 3) 0 ∧ ((x = .normal ∧ out.length < 40 ∧ bs.drop pos ≠ []) ∨ (x = .exit 0 ∧ (evsP (40 - out.length) (bs.drop pos)) = ([], 0)))) ?_ ?_)
  ·
    by_cases h40 : out.length < 40
    ·
      have h40' : (out.length : Int) < 40 := by omega
      by_cases hle : 0 < (bs.drop pos).length
      ·
        have hle' : (0 : Int) < (((bs.drop pos).length : Nat) : Int) := by omega
        generalize hbl : (bs.drop pos).length = bl at *
        refine ACode.seq (ACode.regS (oneT_okP cl) names_ok mix (t' := ?_) (L' := ?_) [0, 1, 2, 3, 4, 5, 6, 7, 8, 9] (by rfl) ?_ ?_)
        rotate_left 2
        · iterate 5 (refine sq rfl rfl rfl (by simp [go_sem, xl, xs, xe, xa, xi, xo, xb, xv, xc, xk, t2, t4, sc, bx, hel, h40, h40', hle, hle', oneT_sameP, Try.f30]; rfl) ?_)
          iterate 4 (refine sq rfl rfl (by simp [go_sem, xl, xs, xe, xa, xi, xo, xb, xv, xc, xk, t2, t4, sc, bx, hel, h40, h40', hle, hle', oneT_sameP, Try.f30]) (by simp [go_sem, xl, xs, xe, xa, xi, xo, xb, xv, xc, xk, t2, t4, sc, bx, hel, h40, h40', hle, hle', oneT_sameP, Try.f30]; rfl) ?_)
          refine sq rfl rfl rfl (by simp [go_sem, xl, xs, xe, xa, xi, xo, xb, xv, xc, xk, t2, t4, sc, bx, hel, h40, h40', hle, hle', oneT_sameP, Try.f30]; rfl) ?_
          rfl
        refine ACode.condT (by simp [tget_set, opd]) (ACode.skip ?_)
        exact ⟨rfl, rfl, by simp [tget_set, t0], by simp [tget_set, t2], by simp [tget_set, t4], .inl ⟨rfl, h40, fun e => by rw [e] at hbl; simp at hbl; omega⟩⟩
      ·
        have hle' : ¬ (0 : Int) < (((bs.drop pos).length : Nat) : Int) := by omega
        have hnil : bs.drop pos = [] := List.length_eq_zero_iff.1 (by omega)
        have hl0 : (bs.drop pos).length = 0 := by omega
        rw [hl0] at cl
        refine ACode.seq (ACode.regS (oneT_okP cl) names_ok mix (t' := ?_) (L' := ?_) [0, 1, 2, 3, 4, 5, 6, 7, 8, 9] (by rfl) ?_ ?_)
        rotate_left 2
        · iterate 5 (refine sq rfl rfl rfl (by simp [go_sem, xl, xs, xe, xa, xi, xo, xb, xv, xc, xk, t2, t4, sc, bx, hel, h40, h40', oneT_sameP, Try.f30]; rfl) ?_)
          iterate 4 (refine sq rfl rfl (by simp [go_sem, xl, xs, xe, xa, xi, xo, xb, xv, xc, xk, t2, t4, sc, bx, hel, h40, h40', oneT_sameP, Try.f30]) (by simp [go_sem, xl, xs, xe, xa, xi, xo, xb, xv, xc, xk, t2, t4, sc, bx, hel, h40, h40', oneT_sameP, Try.f30]; rfl) ?_)
          refine sq rfl rfl rfl (by simp [go_sem, xl, xs, xe, xa, xi, xo, xb, xv, xc, xk, t2, t4, sc, bx, hel, h40, h40', oneT_sameP, Try.f30]; rfl) ?_
          rfl
        refine ACode.condF (by simp [tget_set, opd]) (ACode.exit ?_)
        refine ⟨rfl, rfl, by simp [tget_set, t0], by simp [tget_set, t2], by simp [tget_set, t4], .inr ⟨rfl, ?_⟩⟩
        rw [hnil]
        cases 40 - out.length <;> rfl
    ·
      have h40' : ¬ (out.length : Int) < 40 := by omega
      have h40'' : 40 ≤ out.length := by omega
      refine ACode.seq (ACode.regS noT_ok names_ok mix (t' := ?_) (L' := ?_) [0, 1, 2, 3, 4, 5, 6, 7, 8, 9] (by rfl) ?_ ?_)
      rotate_left 2
      · iterate 5 (refine sq rfl rfl rfl (by simp [go_sem, xl, xs, xe, xa, xi, xo, xb, xv, xc, xk, t2, t4, sc, bx, hel, h40, h40', h40'', Try.f30]; rfl) ?_)
        iterate 4 (refine sk rfl rfl (by simp [go_sem, xl, xs, xe, xa, xi, xo, xb, xv, xc, xk, t2, t4, sc, bx, hel, h40, h40', h40'', Try.f30]) ?_)
        refine sq rfl rfl rfl (by simp [go_sem, xl, xs, xe, xa, xi, xo, xb, xv, xc, xk, t2, t4, sc, bx, hel, h40, h40', h40'', Try.f30]; rfl) ?_
        rfl
      refine ACode.condF (by simp [tget_set, opd]) (ACode.exit ?_)
      refine ⟨rfl, rfl, by simp [tget_set, t0], by simp [tget_set, t2], by simp [tget_set, t4], .inr ⟨rfl, ?_⟩⟩
      rw [show 40 - out.length = 0 by omega]
      rfl
  clear t0 t2 t4 t
  rintro x t d' L' ⟨rfl, rfl, t0, t2, t4, hx2⟩
  rcases hx2 with ⟨rfl, h40, hne⟩ | ⟨rfl, hend⟩
  rotate_left 1
  ·
    show ACode _ _ _ _ _ _ _
    rw [hend] at hout htot
    simp only [List.append_nil, Nat.add_zero] at hout htot
    subst htot
    have hvl := h.len
    have hdl : (bs.drop (scN bs)).length = bs.length - scN bs := List.length_drop
    have hws : IntKind.i64.wrap ((bs.length : Int) - (((bs.drop (scN bs)).length : Nat) : Int)) = (bs.length : Int) - (((bs.drop (scN bs)).length : Nat) : Int) := Go.IntWalk.i64_in _ (by omega)
    generalize (bs.drop (scN bs)).length = bl at *
    have hscs : (scC bs (.slice (L.next + 4) 0 (suN bs) 0 true) ev).all V.scalar = true := by
      rcases hO with ⟨rfl, _⟩ | ⟨_, m, rfl, _⟩ <;> rfl
    have hevs : ev.scalar = true ∧ ev.cells = [ev] := by
      rcases hO with ⟨rfl, _⟩ | ⟨_, m, rfl, _⟩ <;> exact ⟨rfl, rfl⟩
    obtain ⟨hev1, hev2⟩ := hevs
    have hev1' := hev1
    refine ACode.seq (ACode.regD (oneT_okP cl) names_ok mix (t' := ?_) (L' := ?_) [0,0,2,0,8,24,62,57,255] [0,1,2,3,4,5,6,7,8] (by decide +kernel) (by decide +kernel) (by decide +kernel) ?_ ?_)
    rotate_left 2
    · refine dr rfl rfl rfl rfl (by simp [go_sem, xl, xs, xe, xa, xi, xo, xb, xv, xc, sc, bx, t0, t2, t4, hvl, hws, hev1, scal1, scal2, scal3, oneT_sameP, Try.f30]; rfl) ?_
      refine dq rfl rfl rfl rfl (by simp [go_sem, xl, xs, xe, xa, xi, xo, xb, xv, xc, sc, bx, t0, t2, t4, hvl, hws, hev1, scal1, scal2, scal3, oneT_sameP, Try.f30]; rfl) ?_
      refine dr rfl rfl rfl rfl (by simp [go_sem, xl, xs, xe, xa, xi, xo, xb, xv, xc, sc, bx, t0, t2, t4, hvl, hws, hev1, scal1, scal2, scal3, oneT_sameP, Try.f30]; rfl) ?_
      refine dq rfl rfl rfl rfl (by simp [go_sem, xl, xs, xe, xa, xi, xo, xb, xv, xc, sc, bx, t0, t2, t4, hvl, hws, hev1, scal1, scal2, scal3, oneT_sameP, Try.f30]; rfl) ?_
      refine dr rfl rfl rfl rfl (by simp [go_sem, xl, xs, xe, xa, xi, xo, xb, xv, xc, sc, bx, t0, t2, t4, hvl, hws, hev1, scal1, scal2, scal3, oneT_sameP, Try.f30]; rfl) ?_
      refine dl rfl rfl rfl rfl (by simp [go_sem, xl, xs, xe, xa, xi, xo, xb, xv, xc, sc, bx, t0, t2, t4, hvl, hws, hev1, scal1, scal2, scal3, oneT_sameP, Try.f30]; rfl) (by rfl) (by simp [go_sem, xl, xs, xe, xa, xi, xo, xb, xv, xc, sc, bx, t0, t2, t4, hvl, hws, hev1, scal1, scal2, scal3, oneT_sameP, Try.f30]) ?_
      refine dq rfl rfl rfl rfl (by simp [go_sem, xl, xs, xe, xa, xi, xo, xb, xv, xc, sc, bx, t0, t2, t4, hvl, hws, hev1, scal1, scal2, scal3, oneT_sameP, Try.f30]; rfl) ?_
      refine dl rfl rfl rfl rfl (by simp [go_sem, xl, xs, xe, xa, xi, xo, xb, xv, xc, sc, bx, t0, t2, t4, hvl, hws, hev1, scal1, scal2, scal3, oneT_sameP, Try.f30]; rfl) (by rfl) (by simp [go_sem, xl, xs, xe, xa, xi, xo, xb, xv, xc, sc, bx, t0, t2, t4, hvl, hws, hev1, scal1, scal2, scal3, oneT_sameP, Try.f30]) ?_
      refine dq rfl rfl rfl rfl (by simp [go_sem, xl, xs, xe, xa, xi, xo, xb, xv, xc, sc, bx, t0, t2, t4, hvl, hws, hev1, scal1, scal2, scal3, oneT_sameP, Try.f30]; rfl) ?_
      rfl
    have hm4 : L'.t.get (L.next + 4) = some (.cells (rowFrom ((suSrcs bs).map srcF) 0) (suN bs) 6 true false) := hs
    show ACode _ _ _ _ _ _ _
    change ACode _ _ _ _ _ ⟨L'.t.set L.next (scB (scC bs (.slice (L.next + 4) 0 (suN bs) 0 true) ev)), L'.next⟩ _
    have hsc5 : (T.set L'.t L.next (scB (scC bs (.slice (L.next + 4) 0 (suN bs) 0 true) ev))).get L.next = some (scB (scC bs (.slice (L.next + 4) 0 (suN bs) 0 true) ev)) := T.get_set_same _ _ _
    have hs5 : (T.set L'.t L.next (scB (scC bs (.slice (L.next + 4) 0 (suN bs) 0 true) ev))).get (L.next + 4) = some (.cells (rowFrom ((suSrcs bs).map srcF) 0) (suN bs) 6 true false) := by rw [T.get_set_ne _ _ (by omega)]; exact hs
    have hold5 : ∀ n, n < L.next → (T.set L'.t L.next (scB (scC bs (.slice (L.next + 4) 0 (suN bs) 0 true) ev))).get n = L.t.get n := fun n hlt => by rw [T.get_set_ne _ _ (by omega)]; exact hP.old n hlt
    have hO5 : OwnP 9 evF (L.next + 5) ⟨L'.t.set L.next (scB (scC bs (.slice (L.next + 4) 0 (suN bs) 0 true) ev)), L'.next⟩ ev out := hO.still (Nat.le_refl _) (fun m hm => T.get_set_ne _ _ (by have := (hO.nm_lt hm).1; omega))
    have hchg : ∀ n b, n < L.next → (T.set L'.t L.next (scB (scC bs (.slice (L.next + 4) 0 (suN bs) 0 true) ev))).get n = some b → L.t.get n = some b ∨ b.low L.next := fun n b hlt hb => by rw [hold5 n hlt] at hb; exact .inl hb
    have hres : scV L bs = scC bs (.slice L.next 0 (suN bs) 0 true) (rowsVP ⟨L.t.set L.next (.cells (rowFrom ((suSrcs bs).map srcF) 0) (suN bs) 6 true false), L.next + 1⟩ out) := by
      unfold scV; rw [hvL, hhL, ← hout]
    have hheap : scH L bs = rowsHP 9 evF ⟨L.t.set L.next (.cells (rowFrom ((suSrcs bs).map srcF) 0) (suN bs) 6 true false), L.next + 1⟩ out := by
      unfold scH; rw [hhL, ← hout]
    rw [hres, hheap]
    have hvals : ∀ (t : T V), tget t 2 = .ptr L.next 0 → tget t 3 = .int .i64 ((bs.length : Int) - (bl : Int)) → resVals Try.prog t ⟨L'.t.set L.next (scB (scC bs (.slice (L.next + 4) 0 (suN bs) 0 true) ev)), L'.next⟩ Try.f30.results.toList = some [.agg (scC bs (.slice (L.next + 4) 0 (suN bs) 0 true) ev), .int .i64 ((bs.length : Int) - (bl : Int))] := by
      intro t h2 h3
      simp [Try.f30, resVals, h2, h3, Heap.load, Heap.elem, T.get_set, Ev.part, ps57, pa57, takeN, Ev.V.asPtr, scB, scC]
    rcases hO5 with ⟨rfl, rfl⟩ | ⟨hne, m2, rfl, hm1, hm2, hm3⟩
    · refine ACode.ret ⟨.inr rfl, _, _, [L.next + 4], rfl, hvals _ (by simp [tget_set, t2]) (by simp [tget_set, hws]), Tidy2.one (T0 := L.t) (fun n hlt => (hold5 n hlt).symm) hchg (fun _ _ => rfl) (by omega) hs5 (rows_low (fun _ => rfl) _ _ _ _), fun κ1 z hz => sc_VR (fun z hz => ?_) (fun z hz => VR_plain (κ := κ1) _ _ rfl hz) _ hz⟩
      exact VR_slice_newP hz
    · cases out with
      | nil => exact absurd rfl hne
      | cons o1 or =>
        refine ACode.ret ⟨.inr rfl, _, _, [L.next + 4, m2], rfl, hvals _ (by simp [tget_set, t2]) (by simp [tget_set, hws]), Tidy2.two (T0 := L.t) (fun n hlt => (hold5 n hlt).symm) hchg (fun _ _ => rfl) (by omega) (by omega) (by omega) hs5 hm3 (rows_low (fun _ => rfl) _ _ _ _) (rows_low (fun _ => rfl) _ _ _ _), fun κ1 z hz => sc_VR (fun z hz => ?_) (fun z hz => ?_) _ hz⟩
        · exact VR_slice_at (i := 0) rfl hz
        · exact VR_slice_at (i := 1) rfl hz
  show ACode _ _ _ _ _ _ _
  have c3 := event_ok hR
  obtain ⟨b, bt, hbt⟩ : ∃ b bt, bs.drop pos = b :: bt := by
    cases hh : bs.drop pos with
    | nil => exact absurd hh hne
    | cons b bt => exact ⟨b, bt, rfl⟩
  have hstep : evsP (40 - out.length) (bs.drop pos) = (evE (bs.drop pos) :: (evsP (40 - (out.length + 1)) (bs.drop (pos + (evP (bs.drop pos)).2))).1, (evP (bs.drop pos)).2 + (evsP (40 - (out.length + 1)) (bs.drop (pos + (evP (bs.drop pos)).2))).2) := by
    have h1 : 40 - out.length = (40 - (out.length + 1)) + 1 := by omega
    rw [h1]
    conv => lhs; rw [hbt]
    simp only [evsP]
    rw [← hbt, List.drop_drop]
  rw [hstep] at hout htot
  rw [ev_eq, advV_add] at c3
  generalize evE (bs.drop pos) = e at *
  generalize (evP (bs.drop pos)).2 = j at *
  have hlc : L.next + 1 < L'.next := by omega
  have hP5 : PS L (setRd L' (L.next + 1) (advV (pos + j) v)) v (pos + j) (scC bs (.slice (L.next + 4) 0 (suN bs) 0 true) ev) := hP.adv rfl (Nat.le_refl _) (T.get_set_same _ _ _) (fun n _ hn => T.get_set_ne _ _ hn)
  have hk5 := KX.setRd (L.next + 1) L' (advV (pos + j) v)
  have hn5 : (setRd L' (L.next + 1) (advV (pos + j) v)).next = L'.next := rfl
  have hs5 : (setRd L' (L.next + 1) (advV (pos + j) v)).t.get (L.next + 4) = some (.cells (rowFrom ((suSrcs bs).map srcF) 0) (suN bs) 6 true false) := by rw [hk5.2 _ (by omega) (by omega)]; exact hs
  have hO5 : OwnP 9 evF (L.next + 5) (setRd L' (L.next + 1) (advV (pos + j) v)) ev out := hO.keep (by omega) hk5
  generalize setRd L' (L.next + 1) (advV (pos + j) v) = A5 at *
  have hO6 : OwnP 9 evF (L.next + 5) ⟨A5.t.set A5.next (.cells (T.set .leaf 0 (evF e)) 1 9 false false), A5.next + 1⟩ ev out := hO5.still (Nat.le_succ _) (fun m hm => T.get_set_ne _ _ (by have := (hO5.nm_lt hm).2; omega))
  have hsrc : srcElems ⟨A5.t.set A5.next (.cells (T.set .leaf 0 (evF e)) 1 9 false false), A5.next + 1⟩ 9 (.slice A5.next 0 1 1 false) = some ([e].map evF) := by
    simp [srcElems, Heap.elems, Heap.elem, T.get_set, takeN, evF]
  obtain ⟨ev', A7, ha, hO7, hn7, hk7, _⟩ := append_P (sz := 9) (f := evF) (by decide) (fun _ => rfl) (fun _ => rfl) pt55 ps86 b_86 (by decide) pz86 rfl hO6 (by simp only; omega) hsrc (by simp only [List.length_cons, List.length_nil]; omega)
  simp only at hn7
  have hget7 : ∀ n, n < L.next + 5 → A7.t.get n = A5.t.get n := fun n hlt => by
    rw [hk7 n (by simp only; omega) (fun e => by have := (hO5.nm_lt e).1; omega)]
    exact T.get_set_ne _ _ (by omega)
  have hP7 : PS L A7 v (pos + j) (scC bs (.slice (L.next + 4) 0 (suN bs) 0 true) ev) := {
    cell := by rw [hget7 _ (by omega)]; exact hP5.cell
    sc := by rw [hget7 _ (by omega)]; exact hP5.sc
    box := by rw [hget7 _ (by omega)]; exact hP5.box
    next := by omega
    old := fun n hlt => by rw [hget7 _ (by omega)]; exact hP5.old n hlt }
  have hP8 := hP7.put (scC bs (.slice (L.next + 4) 0 (suN bs) 0 true) ev')
  have hev' : ev'.scalar = true ∧ ev'.cells = [ev'] := by
    rcases hO7 with ⟨rfl, _⟩ | ⟨_, m, rfl, _⟩ <;> exact ⟨rfl, rfl⟩
  obtain ⟨hev1, hev2⟩ := hev'
  have hov : Ev.over [ev'] [ev] = some [ev'] := rfl
  have sc5 := hP5.sc
  have sc7 := hP7.sc
  unfold scB scC at sc5 sc7
  simp only [evF] at ha c3
  unfold rdV at c3
  refine ACode.block ?_
  refine ACode.regD (oneT_okP c3) names_ok mix (t' := ?_) (L' := ?_) [0,1,0,4,12,31,63,127] [0,1,2,3,4,5,6,7] (by decide +kernel) (by decide +kernel) (by decide +kernel) ?_ ?_
  rotate_left 2
  · refine dq rfl rfl rfl rfl (by simp [go_sem, xl, xs, xe, xa, xi, xo, xb, xq, xv, sc, bx, sc5, sc7, t2, t4, ha, pi55, hev1, hev2, hov, cellsAgg, scal1, scal2, scal3, scal4, oneT_sameP, Try.f30]; rfl) ?_
    iterate 2 (refine dr rfl rfl rfl rfl (by simp [go_sem, xl, xs, xe, xa, xi, xo, xb, xq, xv, sc, bx, sc5, sc7, t2, t4, ha, pi55, hev1, hev2, hov, cellsAgg, scal1, scal2, scal3, scal4, oneT_sameP, Try.f30]; rfl) ?_)
    refine dl rfl rfl rfl rfl (by simp [go_sem, xl, xs, xe, xa, xi, xo, xb, xq, xv, sc, bx, sc5, sc7, t2, t4, ha, pi55, hev1, hev2, hov, cellsAgg, scal1, scal2, scal3, scal4, oneT_sameP, Try.f30]; rfl) (by rfl) (by simp [go_sem, xl, xs, xe, xa, xi, xo, xb, xq, xv, sc, bx, sc5, sc7, t2, t4, ha, pi55, hev1, hev2, hov, cellsAgg, scal1, scal2, scal3, scal4, oneT_sameP, Try.f30]) ?_
    refine dm rfl rfl rfl rfl (by simp [go_sem, xl, xs, xe, xa, xi, xo, xb, xq, xv, sc, bx, sc5, sc7, t2, t4, ha, pi55, hev1, hev2, hov, cellsAgg, scal1, scal2, scal3, scal4, oneT_sameP, Try.f30]; rfl) ?_
    refine dl rfl rfl rfl rfl (by simp [go_sem, xl, xs, xe, xa, xi, xo, xb, xq, xv, sc, bx, sc5, sc7, t2, t4, ha, pi55, hev1, hev2, hov, cellsAgg, scal1, scal2, scal3, scal4, oneT_sameP, Try.f30]; rfl) (by rfl) (by simp [go_sem, xl, xs, xe, xa, xi, xo, xb, xq, xv, sc, bx, sc5, sc7, t2, t4, ha, pi55, hev1, hev2, hov, cellsAgg, scal1, scal2, scal3, scal4, oneT_sameP, Try.f30]) ?_
    refine dq rfl rfl rfl rfl (by simp [go_sem, xl, xs, xe, xa, xi, xo, xb, xq, xv, sc, bx, sc5, sc7, t2, t4, ha, pi55, hev1, hev2, hov, cellsAgg, scal1, scal2, scal3, scal4, oneT_sameP, Try.f30]; rfl) ?_
    refine dl rfl rfl rfl rfl (by simp [go_sem, xl, xs, xe, xa, xi, xo, xb, xq, xv, sc, bx, sc5, sc7, t2, t4, ha, pi55, hev1, hev2, hov, cellsAgg, scal1, scal2, scal3, scal4, oneT_sameP, Try.f30]; rfl) (by rfl) (by simp [go_sem, xl, xs, xe, xa, xi, xo, xb, xq, xv, sc, bx, sc5, sc7, t2, t4, ha, pi55, hev1, hev2, hov, cellsAgg, scal1, scal2, scal3, scal4, oneT_sameP, Try.f30]) ?_
    rfl
  refine ⟨40 - (out ++ [e]).length, by simp only [List.length_append, List.length_cons, List.length_nil]; omega, rfl, pos + j, out ++ [e], ev', by simp only [List.length_append, List.length_cons, List.length_nil]; omega, rfl, by simp [tget_set, t0], by simp [tget_set, t2], by simp [tget_set, t4], hP8, ?_, ?_, ?_, ?_, ?_⟩
  · exact hO7.still (Nat.le_refl _) (fun m hm => T.get_set_ne _ _ (by have := (hO7.nm_lt hm).1; omega))
  · show L.next + 5 ≤ A7.next; omega
  · show T.get (T.set _ _ _) _ = _
    rw [T.get_set_ne _ _ (by omega), hget7 _ (by omega)]; exact hs5
  · rw [← hout]; simp only [List.length_append, List.length_cons, List.length_nil, List.append_assoc, List.singleton_append]
  · rw [← htot]; simp only [List.length_append, List.length_cons, List.length_nil, Nat.zero_add]; omega
end Go.Proofs.Ytpfmoolpeecobaa
