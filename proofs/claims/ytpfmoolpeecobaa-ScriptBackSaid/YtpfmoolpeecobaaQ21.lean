/- What the law ScriptBack answers. -/
import Derived.Test.YtpfmoolpeecobaaQ20
import Derived.Test.YtpfmoolpeecobaaQ0

namespace Go.Proofs.Ytpfmoolpeecobaa
open Go Go.Proofs Go.Proofs.Ytpfmoolpeecobaa.Ev
set_option linter.unusedVariables false
set_option linter.unusedSimpArgs false
set_option maxRecDepth 100000
set_option maxHeartbeats 4000000

theorem slP_sc2 {v : V} {α : Type} {sz : Nat} {eT : TypeId} {f : α → List V} {L : Heap} {l : List α} (h : SlP sz eT f L v l) : v.scalar = true ∧ v.cells = [v] := by
  rcases h with ⟨rfl, _⟩ | ⟨n, o, cap, q, rfl, _⟩ <;> exact ⟨rfl, rfl⟩
theorem slP_toG {L : Heap} {v : V} {l : List (Int × Int × Int × Int × Int)} : SlP 6 83 srcF L v l ↔ SlP 6 83 srcG L v (l.map toG) := by
  unfold SlP
  simp only [List.map_eq_nil_iff, List.length_map, List.getElem?_map, Option.map_eq_some_iff, forall_exists_index, and_imp, forall_apply_eq_imp_iff₂]
  constructor
  · rintro (h | ⟨n, o, cap, q, h1, h2, h3, h4⟩)
    · exact .inl h
    · exact .inr ⟨n, o, cap, q, h1, h2, h3, fun i x hx => h4 i x hx⟩
  · rintro (h | ⟨n, o, cap, q, h1, h2, h3, h4⟩)
    · exact .inl h
    · exact .inr ⟨n, o, cap, q, h1, h2, h3, fun i x hx => h4 i x hx⟩
theorem RowS.bs {L : Heap} {v : V} {l : List Int} {sl : Nat} (h : RowS L v l sl) : Bs L.next L v l := by
  rcases h with ⟨rfl, rfl, _⟩ | ⟨m, c, rfl, h1, h2, h3, h4⟩
  · exact .inl ⟨rfl, rfl⟩
  · refine .inr ⟨m, 0, 0, true, rfl, h1, h1, fun h => (by cases h), fun i x hx => ?_⟩
    simp [Heap.load, Heap.elem, h2, Nat.mod_one, h3 i x hx, Ev.part, ps5, pa5]
theorem RowS.conv {L : Heap} {v : V} {l : List Int} {sl : Nat} (h : RowS L v l sl) (hr : ∀ b ∈ l, 0 ≤ b ∧ b ≤ 255) : convQ Try.prog 38 9 v L = some (.str (l.map Int.toNat)) := by
  rcases h with ⟨rfl, rfl, _⟩ | ⟨m, c, rfl, h1, h2, h3, h4⟩
  · simp [convQ, pt38, pstr9, guardO, Try.underlying5]
  · have he := elems_S h2 h3 l.length 0 (by simp)
    rw [List.drop_zero] at he
    simp [convQ, pt38, pstr9, guardO, Try.underlying5, he, bytes_ofP l hr]
theorem stripesG (r c : Int) (n : Nat) (hr : 2 ≤ r ∧ r ≤ 12) (hc : 1 ≤ c ∧ c ≤ 40) (hn : 1 ≤ n ∧ n ≤ 4) (hnr : (n : Int) < r) (B : Heap) :
    ∃ pv B', ACall Try.prog 68 [.int .i64 r, .int .i64 c, .int .i64 (n : Int)] B pv B' ∧ SlP 4 81 rectV B' pv (stripesP n 1 (r - 1) c) ∧ B.next ≤ B'.next ∧ (∀ n, n < B.next → B'.t.get n = B.t.get n) ∧ ∀ m, nmP pv = some m → B.next ≤ m := by
  refine ⟨_, _, stripes_ok r c n hr hc hn hnr B, rows_slP (z := .nils) ps81 pa81 (by decide) (fun _ => rfl) _, rowsHP_next _ _ _ _, fun k hk => rowsHP_old _ _ _ _ hk, ?_⟩
  intro m hm
  generalize stripesP n 1 (r - 1) c = l at hm
  cases l with
  | nil => cases hm
  | cons a t => simp only [rowsVP, nmP, Option.some.injEq] at hm; omega
/-- Put of what Parse made -/
theorem put_parsed {L : Heap} {sv ev : V} {bs : List Int} (h : ∀ x ∈ bs, 0 ≤ x ∧ x ≤ 255) (hs : SlP 6 83 srcG L sv (srcsOf bs)) (he : SlP 9 86 evF L ev (scEvs bs)) :
    ∃ L' pv sl, ACall Try.prog 33 [.agg (scL (suRows bs) (suCols bs) sv (suBits bs % 2) (suBits bs / 2 % 2) (suBits bs / 4 % 2) (suBits bs / 8 % 2) (suBits bs / 16 % 2) (suRing bs) ev)] L (.tuple [pv, .int .i64 0]) L' ∧ RowS L' pv (putB bs) sl ∧ L.next ≤ L'.next ∧ ∀ n, n < L.next → L'.t.get n = L.t.get n := by
  have hn := suN_range (bs := bs)
  have hr : 2 ≤ suRows bs ∧ suRows bs ≤ 12 := by unfold suRows; omega
  have hc : 1 ≤ suCols bs ∧ suCols bs ≤ 40 := by unfold suCols; omega
  have hsl := srcsOf_len bs
  have hb := bits_range h
  refine put_ok (ps := stripesP (suN bs) 1 (suRows bs - 1) (suCols bs)) hs he (by omega) (by rw [stripes_len]; omega) (by omega) (by omega) ?_ ?_ (back_good h) (fun e hm => (back_evs h e hm).2) (fun e hm => (back_evs h e hm).1)
  · intro g hg
    simp only [List.mem_cons, List.not_mem_nil, or_false] at hg
    omega
  · rw [hsl]
    exact stripesG _ _ _ hr hc ⟨hn.1, hn.2.1⟩ hn.2.2

theorem over_all : ∀ (xs ys : List V), xs.length = ys.length → Ev.over xs ys = some xs
  | [], [], h => rfl
  | x :: xs, [], h => by simp at h
  | [], y :: ys, h => by simp at h
  | x :: xs, y :: ys, h => by simp [Ev.over, over_all xs ys (by simpa using h)]
theorem back_ok {L : Heap} {v0 : V} {bs0 : List Int} (h0 : Bs L.next L v0 bs0) (hr0 : ∀ x ∈ bs0, 0 ≤ x ∧ x ≤ 255) : ACall Try.prog 12 [v0] L (.bool true) L := by
  obtain ⟨w0, cf0, hb⟩ := fewS_ok h0 600
  have hrb : ∀ x ∈ bs0.take 600, 0 ≤ x ∧ x ≤ 255 := fun x hx => hr0 x (List.mem_of_mem_take hx)
  have hbl : (bs0.take 600).length ≤ 600 := by rw [List.length_take]; omega
  have hbl0 : (bs0.take 600).length ≤ bs0.length := by rw [List.length_take]; omega
  have hlen0 := h0.len
  refine ACall.of_body Try.func12 rfl ?_
  refine ACode.seq (ACode.regS noT_ok names_ok mix (t' := ?_) (L' := ?_) [0] (by rfl) ?_ ?_)
  rotate_left 2
  · refine seqE_cons rfl rfl rfl (by simp (config := {decide := false}) [EVT, Ev.seqE, Ev.drawE, Ev.fits, Ev.wantedE, Ev.oneE, Ev.cls, Ev.quiet, Ev.making, Ev.setParts, Ev.rowOf, Ev.loud, Ev.opd, Ev.opds, Ev.optOpd, Ev.pairs, Ev.putD, Ev.builtinQ, Ev.argsT, Ev.isAnc, Ev.index, Ev.indexAddr, Ev.sliceOp, Ev.bound, Ev.NV.mk, Ev.Heap.load, Ev.Heap.store, Ev.Heap.elem, Ev.V.cells, Ev.V.scalar, Ev.V.asPtr, Ev.V.asBool, Ev.V.asInt, Ev.V.asStr, Ev.V.asAgg, Ev.V.asTup, Ev.V.asMap, Ev.build, Ev.fillCells, Ev.splice, Ev.over, Ev.takeN, Ev.part, Ev.unV, Ev.binV, Ev.isShift, Ev.isConstO, Ev.fieldAddr, Ev.placeS, Ev.placeA, Ev.goal, Ev.recT, Ev.recR, Ev.recheck, Ev.undefV, Ev.convQ, Ev.convNew, TYA, TYB, Try.f12]; rfl) (by rfl) (by simp only [Ev.putD]; rfl) ?_
    rfl
  refine ACode.seq ?_
  refine ACode.seq (ACode.regS (oneT_okP (works28_ok L)) names_ok mix (t' := ?_) (L' := ?_) [0, 1] (by rfl) ?_ ?_)
  rotate_left 2
  · iterate 2 (refine seqE_cons rfl rfl rfl (by simp (config := {decide := false}) [EVT, Ev.seqE, Ev.drawE, Ev.fits, Ev.wantedE, Ev.oneE, Ev.cls, Ev.quiet, Ev.making, Ev.setParts, Ev.rowOf, Ev.loud, Ev.opd, Ev.opds, Ev.optOpd, Ev.pairs, Ev.putD, Ev.builtinQ, Ev.argsT, Ev.isAnc, Ev.index, Ev.indexAddr, Ev.sliceOp, Ev.bound, Ev.NV.mk, Ev.Heap.load, Ev.Heap.store, Ev.Heap.elem, Ev.V.cells, Ev.V.scalar, Ev.V.asPtr, Ev.V.asBool, Ev.V.asInt, Ev.V.asStr, Ev.V.asAgg, Ev.V.asTup, Ev.V.asMap, Ev.build, Ev.fillCells, Ev.splice, Ev.over, Ev.takeN, Ev.part, Ev.unV, Ev.binV, Ev.isShift, Ev.isConstO, Ev.fieldAddr, Ev.placeS, Ev.placeA, Ev.goal, Ev.recT, Ev.recR, Ev.recheck, Ev.undefV, Ev.convQ, Ev.convNew, TYA, TYB, oneT_sameP, Try.f12]; rfl) (by rfl) (by simp only [Ev.putD]; rfl) ?_)
    rfl
  refine ACode.condF (by simp [tget_set, opd]) (ACode.skip ?_)
  show ACode _ _ _ _ _ _ _
  generalize bs0.take 600 = bs at *
  obtain ⟨A1, sv, ev, cp, hn1, hk1, hS1, hE1⟩ := parse_at hb hrb (by omega)
  have qs := (slP_sc2 hS1).1
  have qe := (slP_sc2 hE1).1
  generalize hn1v : min (scN bs) bs.length = n1 at *
  have hS1g := slP_toG.1 hS1
  generalize hsc : scL (suRows bs) (suCols bs) sv (suBits bs % 2) (suBits bs / 2 % 2) (suBits bs / 4 % 2) (suBits bs / 8 % 2) (suBits bs / 16 % 2) (suRing bs) ev = sc1 at *
  have hsc10 : sc1.length = 10 := by rw [← hsc]; rfl
  have hsca : sc1.all V.scalar = true := by rw [← hsc]; simp [scL, qs, qe, scal1]
  have hov1 := over_all sc1 [.int .i64 0, .int .i64 0, .nils, .int .u8 0, .int .u8 0, .int .u8 0, .int .u8 0, .int .u8 0, .int .i64 0, .nils] hsc10
  -- the first script's block
  obtain ⟨A2, hA2⟩ : ∃ A : Heap, A = ⟨A1.t.set A1.next (scB sc1), A1.next + 1⟩ := ⟨_, rfl⟩
  have hg2 : A2.t.get A1.next = some (scB sc1) := by rw [hA2]; exact T.get_set_same _ _ _
  have hk2 : ∀ n, n < A1.next → A2.t.get n = A1.t.get n := fun n hn => by rw [hA2]; exact T.get_set_ne _ _ (by omega)
  have hn2 : A2.next = A1.next + 1 := by rw [hA2]
  obtain ⟨A3, x, sl1, c33, hx3, hn3, hk3⟩ := put_parsed (L := A2) hrb (hS1g.keep (by omega) hk2) (hE1.keep (by omega) hk2)
  rw [hsc] at c33
  have hX := back_range hrb
  have hXl := back_len hrb
  have hXs := back_short bs
  obtain ⟨e1, e2, e3, e4, e5⟩ := back_su hrb
  have e6 := back_srcs hrb
  obtain ⟨e7, e8⟩ := back_scEvs hrb
  have hscn : scN bs ≤ 1000 := by
    have := evs_short 40 (bs.drop (5 + suN bs))
    have hd := List.length_drop (i := 5 + suN bs) (l := bs)
    have : scN bs = 5 + suN bs + (evsP 40 (bs.drop (5 + suN bs))).2 := rfl
    have := (suN_range (bs := bs)).2.1
    omega
  obtain ⟨A4, sv2, ev2, cp2, hn4, hk4, hS4, hE4⟩ := parse_at hx3.bs hX (by omega)
  rw [e1, e2, e4, e5, e8, Nat.min_self] at cp2
  rw [show suBits bs % 32 % 2 = suBits bs % 2 by omega, show suBits bs % 32 / 2 % 2 = suBits bs / 2 % 2 by omega, show suBits bs % 32 / 4 % 2 = suBits bs / 4 % 2 by omega, show suBits bs % 32 / 8 % 2 = suBits bs / 8 % 2 by omega, show suBits bs % 32 / 16 % 2 = suBits bs / 16 % 2 by omega] at cp2
  have hS4g := slP_toG.1 hS4
  rw [show (suSrcs (putB bs)).map toG = srcsOf bs from e6] at hS4g
  rw [e7] at hE4
  have qs2 := (slP_sc2 hS4g).1
  have qe2 := (slP_sc2 hE4).1
  have hS4f : SlP 6 83 srcF A4 sv2 (suSrcs bs) := slP_toG.2 hS4g
  generalize hsc2 : scL (suRows bs) (suCols bs) sv2 (suBits bs % 2) (suBits bs / 2 % 2) (suBits bs / 4 % 2) (suBits bs / 8 % 2) (suBits bs / 16 % 2) (suRing bs) ev2 = sc2 at *
  have hsc20 : sc2.length = 10 := by rw [← hsc2]; rfl
  have hscb : sc2.all V.scalar = true := by rw [← hsc2]; simp [scL, qs2, qe2, scal1]
  have hov2 := over_all sc2 [.int .i64 0, .int .i64 0, .nils, .int .u8 0, .int .u8 0, .int .u8 0, .int .u8 0, .int .u8 0, .int .i64 0, .nils] hsc20
  obtain ⟨A5, hA5⟩ : ∃ A : Heap, A = ⟨A4.t.set A4.next (scB sc2), A4.next + 1⟩ := ⟨_, rfl⟩
  have hg5 : A5.t.get A4.next = some (scB sc2) := by rw [hA5]; exact T.get_set_same _ _ _
  have hk5 : ∀ n, n < A4.next → A5.t.get n = A4.t.get n := fun n hn => by rw [hA5]; exact T.get_set_ne _ _ (by omega)
  have hn5 : A5.next = A4.next + 1 := by rw [hA5]
  obtain ⟨A6, y, sl2, c33b, hy6, hn6, hk6⟩ := put_parsed (L := A5) hrb (hS4g.keep (by omega) hk5) (hE4.keep (by omega) hk5)
  rw [hsc2] at c33b
  have k63 : ∀ n, n < A3.next → A6.t.get n = A3.t.get n := fun n hn => by rw [hk6 n (by omega), hk5 n (by omega), hk4 n hn]
  have k62 : ∀ n, n < A2.next → A6.t.get n = A2.t.get n := fun n hn => by rw [k63 n (by omega), hk3 n hn]
  have k61 : ∀ n, n < A1.next → A6.t.get n = A1.t.get n := fun n hn => by rw [k62 n (by omega), hk2 n hn]
  have hx6 : RowS A6 x (putB bs) sl1 := hx3.still (by omega) fun m hm => k63 m (hx3.nm_lt hm)
  have hsame := sameS_ok (L := A6) (r := suRows bs) (c := suCols bs) (g0 := suBits bs % 2) (g1 := suBits bs / 2 % 2) (g2 := suBits bs / 4 % 2) (g3 := suBits bs / 8 % 2) (g4 := suBits bs / 16 % 2) (ring := suRing bs)
    (hS1.keep (by omega) k61) (hS4f.keep (by omega) fun n hn => by rw [hk6 n (by omega), hk5 n hn]) (hE1.keep (by omega) k61) (hE4.keep (by omega) fun n hn => by rw [hk6 n (by omega), hk5 n hn])
    (by rw [show suSrcs bs = srcsP _ _ _ from rfl, srcsP_len]; have := suN_range (bs := bs); omega) (by have := evs_le 40 (bs.drop (5 + suN bs)); show (scEvs bs).length ≤ 1000; unfold scEvs; omega)
  rw [hsc, hsc2] at hsame
  have hg6a : A6.t.get A1.next = some (scB sc1) := by rw [k62 _ (by omega)]; exact hg2
  have hg6b : A6.t.get A4.next = some (scB sc2) := by rw [hk6 _ (by omega)]; exact hg5
  have hl6a : Heap.load Try.prog A6 57 A1.next 0 = some (.agg sc1) := by
    have htk : takeN 10 sc1 = some sc1 := by rw [← hsc10]; exact takeN_all sc1
    unfold scB at hg6a
    simp [Heap.load, Heap.elem, hg6a, T.get_set, Ev.part, pa57, ps57, htk]
  have hl6b : Heap.load Try.prog A6 57 A4.next 0 = some (.agg sc2) := by
    have htk : takeN 10 sc2 = some sc2 := by rw [← hsc20]; exact takeN_all sc2
    unfold scB at hg6b
    simp [Heap.load, Heap.elem, hg6b, T.get_set, Ev.part, pa57, ps57, htk]
  have hl2 : Heap.load Try.prog A2 57 A1.next 0 = some (.agg sc1) := by
    have htk : takeN 10 sc1 = some sc1 := by rw [← hsc10]; exact takeN_all sc1
    unfold scB at hg2
    simp [Heap.load, Heap.elem, hg2, T.get_set, Ev.part, pa57, ps57, htk]
  have hl5 : Heap.load Try.prog A5 57 A4.next 0 = some (.agg sc2) := by
    have htk : takeN 10 sc2 = some sc2 := by rw [← hsc20]; exact takeN_all sc2
    unfold scB at hg5
    simp [Heap.load, Heap.elem, hg5, T.get_set, Ev.part, pa57, ps57, htk]
  refine ACode.seq (ACode.regS ((oneT_okP cf0).or (oneT_okP cp)) names_ok mix (t' := ?_) (L' := ?_) [0, 1, 2, 3, 4, 5, 6, 7, 8] (by rfl) ?_ ?_)
  rotate_left 2
  · iterate 9 (refine seqE_cons rfl rfl rfl (by simp (config := {decide := false}) [EVT, Ev.seqE, Ev.drawE, Ev.fits, Ev.wantedE, Ev.oneE, Ev.cls, Ev.quiet, Ev.making, Ev.setParts, Ev.rowOf, Ev.loud, Ev.opd, Ev.opds, Ev.optOpd, Ev.pairs, Ev.putD, Ev.builtinQ, Ev.argsT, Ev.isAnc, Ev.index, Ev.indexAddr, Ev.sliceOp, Ev.bound, Ev.NV.mk, Ev.Heap.load, Ev.Heap.store, Ev.Heap.elem, Ev.V.asPtr, Ev.V.asBool, Ev.V.asInt, Ev.V.asStr, Ev.V.asAgg, Ev.V.asTup, Ev.V.asMap, Ev.build, Ev.fillCells, Ev.splice, Ev.over, Ev.takeN, Ev.part, Ev.unV, Ev.binV, Ev.isShift, Ev.isConstO, Ev.fieldAddr, Ev.placeS, Ev.placeA, Ev.goal, Ev.recT, Ev.recR, Ev.recheck, Ev.undefV, Ev.convQ, Ev.convNew, TYA, TYB, cellsAgg, cellsI, orT, oneT_sameP, oneT_neP, hsca, hsc10, hov1, Try.f12]; rfl) (by rfl) (by simp only [Ev.putD]; rfl) ?_)
    rfl
  change ACode _ _ _ _ _ ⟨A1.t.set A1.next (scB sc1), A1.next + 1⟩ _
  rw [← hA2]
  refine ACode.seq (ACode.regS (oneT_okP c33) names_ok mix (t' := ?_) (L' := ?_) [0, 1, 2, 3, 4, 5, 6] (by rfl) ?_ ?_)
  rotate_left 2
  · iterate 7 (refine seqE_cons rfl rfl rfl (by simp (config := {decide := false}) [EVT, Ev.seqE, Ev.drawE, Ev.fits, Ev.wantedE, Ev.oneE, Ev.cls, Ev.quiet, Ev.making, Ev.setParts, Ev.rowOf, Ev.loud, Ev.opd, Ev.opds, Ev.optOpd, Ev.pairs, Ev.putD, Ev.builtinQ, Ev.argsT, Ev.isAnc, Ev.index, Ev.indexAddr, Ev.sliceOp, Ev.bound, Ev.NV.mk, Ev.Heap.store, Ev.Heap.elem, Ev.V.cells, Ev.V.scalar, Ev.V.asPtr, Ev.V.asBool, Ev.V.asInt, Ev.V.asStr, Ev.V.asAgg, Ev.V.asTup, Ev.V.asMap, Ev.build, Ev.fillCells, Ev.splice, Ev.over, Ev.takeN, Ev.part, Ev.unV, Ev.binV, Ev.isShift, Ev.isConstO, Ev.fieldAddr, Ev.placeS, Ev.placeA, Ev.goal, Ev.recT, Ev.recR, Ev.recheck, Ev.undefV, Ev.convQ, Ev.convNew, TYA, TYB, hl2, oneT_sameP, Try.f12]; rfl) (by rfl) (by simp only [Ev.putD]; rfl) ?_)
    rfl
  refine ACode.seq (ACode.regS (oneT_okP cp2) names_ok mix (t' := ?_) (L' := ?_) [0, 1, 2, 3, 4, 5, 6, 7] (by rfl) ?_ ?_)
  rotate_left 2
  · iterate 8 (refine seqE_cons rfl rfl rfl (by simp (config := {decide := false}) [EVT, Ev.seqE, Ev.drawE, Ev.fits, Ev.wantedE, Ev.oneE, Ev.cls, Ev.quiet, Ev.making, Ev.setParts, Ev.rowOf, Ev.loud, Ev.opd, Ev.opds, Ev.optOpd, Ev.pairs, Ev.putD, Ev.builtinQ, Ev.argsT, Ev.isAnc, Ev.index, Ev.indexAddr, Ev.sliceOp, Ev.bound, Ev.NV.mk, Ev.Heap.load, Ev.Heap.store, Ev.Heap.elem, Ev.V.asPtr, Ev.V.asBool, Ev.V.asInt, Ev.V.asStr, Ev.V.asAgg, Ev.V.asTup, Ev.V.asMap, Ev.build, Ev.fillCells, Ev.splice, Ev.over, Ev.takeN, Ev.part, Ev.unV, Ev.binV, Ev.isShift, Ev.isConstO, Ev.fieldAddr, Ev.placeS, Ev.placeA, Ev.goal, Ev.recT, Ev.recR, Ev.recheck, Ev.undefV, Ev.convQ, Ev.convNew, TYA, TYB, cellsAgg, cellsI, oneT_sameP, hscb, hsc20, hov2, Try.f12]; rfl) (by rfl) (by simp only [Ev.putD]; rfl) ?_)
    rfl
  change ACode _ _ _ _ _ ⟨A4.t.set A4.next (scB sc2), A4.next + 1⟩ _
  rw [← hA5]
  refine ACode.seq (ACode.regS (oneT_okP c33b) names_ok mix (t' := ?_) (L' := ?_) [0, 1, 2, 3, 4, 5, 6] (by rfl) ?_ ?_)
  rotate_left 2
  · iterate 7 (refine seqE_cons rfl rfl rfl (by simp (config := {decide := false}) [EVT, Ev.seqE, Ev.drawE, Ev.fits, Ev.wantedE, Ev.oneE, Ev.cls, Ev.quiet, Ev.making, Ev.setParts, Ev.rowOf, Ev.loud, Ev.opd, Ev.opds, Ev.optOpd, Ev.pairs, Ev.putD, Ev.builtinQ, Ev.argsT, Ev.isAnc, Ev.index, Ev.indexAddr, Ev.sliceOp, Ev.bound, Ev.NV.mk, Ev.Heap.store, Ev.Heap.elem, Ev.V.cells, Ev.V.scalar, Ev.V.asPtr, Ev.V.asBool, Ev.V.asInt, Ev.V.asStr, Ev.V.asAgg, Ev.V.asTup, Ev.V.asMap, Ev.build, Ev.fillCells, Ev.splice, Ev.over, Ev.takeN, Ev.part, Ev.unV, Ev.binV, Ev.isShift, Ev.isConstO, Ev.fieldAddr, Ev.placeS, Ev.placeA, Ev.goal, Ev.recT, Ev.recR, Ev.recheck, Ev.undefV, Ev.convQ, Ev.convNew, TYA, TYB, hl5, oneT_sameP, Try.f12]; rfl) (by rfl) (by simp only [Ev.putD]; rfl) ?_)
    rfl
  have hlenx := hx6.len
  have hcx := hx6.conv hX
  have hcy := hy6.conv hX
  generalize (putB bs).map Int.toNat = str at *
  have hxl : ((putB bs).length : Int) = (scN bs : Int) := by rw [hXl]
  have hmax : ∀ B, Ev.builtinQ Try.prog .max #[3, 3] [.int .i64 9, .int .i64 (n1 : Int)] B = some (.int .i64 ((max 9 n1 : Nat) : Int)) := fun B => by
    have : (if (n1 : Int) > 9 then (n1 : Int) else 9) = ((max 9 n1 : Nat) : Int) := by split <;> omega
    simp only [Ev.builtinQ, Ev.V.asInt, Ev.maxL, Option.bind_some, Option.map_some, this]
  have hw70 : IntKind.i64.wrap (((max 9 n1 : Nat) : Int) + 70) = ((max 9 n1 : Nat) : Int) + 70 := Go.IntWalk.i64_in _ (by omega)
  have hle1 : ((putB bs).length : Int) ≤ ((max 9 n1 : Nat) : Int) + 70 := by omega
  have hle2 : (n1 : Int) ≤ (bs0.length : Int) := by omega
  generalize ((max 9 n1 : Nat) : Int) = mx at *
  clear hxl hXl hXs
  generalize ((putB bs).length : Int) = lx at *
  generalize hn1c : (n1 : Int) = n1i at *
  generalize (bs0.length : Int) = lb at *
  have hbs : Ev.binS .eql str str = some (.bool true) := by
    have : Ev.strEq str str = true := Ev.strEq_iff.2 rfl
    simp [Ev.binS, this]
  refine ACode.seq (ACode.regS (oneT_okP hsame) names_ok mix (t' := ?_) (L' := ?_) [0, 1, 2, 3, 4, 5, 6, 7, 8, 9, 10, 11, 12, 13, 14, 15, 16, 17, 18, 19, 20, 21, 22, 23, 24, 25, 26, 27, 28, 29, 30, 31, 32, 33, 34, 35, 36, 37, 38] (by rfl) ?_ ?_)
  rotate_left 2
  · iterate 3 (refine seqE_cons rfl rfl rfl (by simp (config := {decide := false}) [EVT, Ev.seqE, Ev.drawE, Ev.fits, Ev.wantedE, Ev.oneE, Ev.cls, Ev.quiet, Ev.making, Ev.setParts, Ev.rowOf, Ev.loud, Ev.opd, Ev.opds, Ev.optOpd, Ev.pairs, Ev.putD, Ev.argsT, Ev.isAnc, Ev.index, Ev.indexAddr, Ev.sliceOp, Ev.bound, Ev.NV.mk, Ev.Heap.store, Ev.Heap.elem, Ev.V.cells, Ev.V.scalar, Ev.V.asPtr, Ev.V.asBool, Ev.V.asInt, Ev.V.asStr, Ev.V.asAgg, Ev.V.asTup, Ev.V.asMap, Ev.build, Ev.fillCells, Ev.splice, Ev.over, Ev.takeN, Ev.part, Ev.unV, Ev.binV, Ev.isShift, Ev.isConstO, Ev.fieldAddr, Ev.placeS, Ev.placeA, Ev.goal, Ev.recT, Ev.recR, Ev.recheck, Ev.undefV, Ev.convNew, TYA, TYB, hl6a, hl6b, oneT_sameP, hlenx, hlen0, hcx, hcy, hmax, hw70, hle1, hle2, hbs, Try.f12]; rfl) (by rfl) (by simp only [Ev.putD]; rfl) ?_)
    iterate 2 (refine seqE_cons rfl rfl (by simp [EVT, Ev.seqE, Ev.drawE, Ev.fits, Ev.wantedE, Ev.oneE, Ev.cls, Ev.quiet, Ev.making, Ev.setParts, Ev.rowOf, Ev.loud, Ev.opd, Ev.opds, Ev.optOpd, Ev.pairs, Ev.putD, Ev.argsT, Ev.isAnc, Ev.index, Ev.indexAddr, Ev.sliceOp, Ev.bound, Ev.NV.mk, Ev.Heap.store, Ev.Heap.elem, Ev.V.cells, Ev.V.scalar, Ev.V.asPtr, Ev.V.asBool, Ev.V.asInt, Ev.V.asStr, Ev.V.asAgg, Ev.V.asTup, Ev.V.asMap, Ev.build, Ev.fillCells, Ev.splice, Ev.over, Ev.takeN, Ev.part, Ev.unV, Ev.binV, Ev.isShift, Ev.isConstO, Ev.fieldAddr, Ev.placeS, Ev.placeA, Ev.goal, Ev.recT, Ev.recR, Ev.recheck, Ev.undefV, Ev.convNew, TYA, TYB, hl6a, hl6b, oneT_sameP, hlenx, hlen0, hcx, hcy, hmax, hw70, hle1, hle2, hbs, Try.f12]) (by simp (config := {decide := false}) [EVT, Ev.seqE, Ev.drawE, Ev.fits, Ev.wantedE, Ev.oneE, Ev.cls, Ev.quiet, Ev.making, Ev.setParts, Ev.rowOf, Ev.loud, Ev.opd, Ev.opds, Ev.optOpd, Ev.pairs, Ev.putD, Ev.argsT, Ev.isAnc, Ev.index, Ev.indexAddr, Ev.sliceOp, Ev.bound, Ev.NV.mk, Ev.Heap.store, Ev.Heap.elem, Ev.V.cells, Ev.V.scalar, Ev.V.asPtr, Ev.V.asBool, Ev.V.asInt, Ev.V.asStr, Ev.V.asAgg, Ev.V.asTup, Ev.V.asMap, Ev.build, Ev.fillCells, Ev.splice, Ev.over, Ev.takeN, Ev.part, Ev.unV, Ev.binV, Ev.isShift, Ev.isConstO, Ev.fieldAddr, Ev.placeS, Ev.placeA, Ev.goal, Ev.recT, Ev.recR, Ev.recheck, Ev.undefV, Ev.convNew, TYA, TYB, hl6a, hl6b, oneT_sameP, hlenx, hlen0, hcx, hcy, hmax, hw70, hle1, hle2, hbs, Try.f12]; rfl) (by rfl) (by simp only [Ev.putD]; rfl) ?_)
    iterate 2 (refine seqE_cons rfl rfl rfl (by simp (config := {decide := false}) [EVT, Ev.seqE, Ev.drawE, Ev.fits, Ev.wantedE, Ev.oneE, Ev.cls, Ev.quiet, Ev.making, Ev.setParts, Ev.rowOf, Ev.loud, Ev.opd, Ev.opds, Ev.optOpd, Ev.pairs, Ev.putD, Ev.argsT, Ev.isAnc, Ev.index, Ev.indexAddr, Ev.sliceOp, Ev.bound, Ev.NV.mk, Ev.Heap.store, Ev.Heap.elem, Ev.V.cells, Ev.V.scalar, Ev.V.asPtr, Ev.V.asBool, Ev.V.asInt, Ev.V.asStr, Ev.V.asAgg, Ev.V.asTup, Ev.V.asMap, Ev.build, Ev.fillCells, Ev.splice, Ev.over, Ev.takeN, Ev.part, Ev.unV, Ev.binV, Ev.isShift, Ev.isConstO, Ev.fieldAddr, Ev.placeS, Ev.placeA, Ev.goal, Ev.recT, Ev.recR, Ev.recheck, Ev.undefV, Ev.convNew, TYA, TYB, hl6a, hl6b, oneT_sameP, hlenx, hlen0, hcx, hcy, hmax, hw70, hle1, hle2, hbs, Try.f12]; rfl) (by rfl) (by simp only [Ev.putD]; rfl) ?_)
    iterate 3 (refine seqE_cons rfl rfl (by simp [EVT, Ev.seqE, Ev.drawE, Ev.fits, Ev.wantedE, Ev.oneE, Ev.cls, Ev.quiet, Ev.making, Ev.setParts, Ev.rowOf, Ev.loud, Ev.opd, Ev.opds, Ev.optOpd, Ev.pairs, Ev.putD, Ev.argsT, Ev.isAnc, Ev.index, Ev.indexAddr, Ev.sliceOp, Ev.bound, Ev.NV.mk, Ev.Heap.store, Ev.Heap.elem, Ev.V.cells, Ev.V.scalar, Ev.V.asPtr, Ev.V.asBool, Ev.V.asInt, Ev.V.asStr, Ev.V.asAgg, Ev.V.asTup, Ev.V.asMap, Ev.build, Ev.fillCells, Ev.splice, Ev.over, Ev.takeN, Ev.part, Ev.unV, Ev.binV, Ev.isShift, Ev.isConstO, Ev.fieldAddr, Ev.placeS, Ev.placeA, Ev.goal, Ev.recT, Ev.recR, Ev.recheck, Ev.undefV, Ev.convNew, TYA, TYB, hl6a, hl6b, oneT_sameP, hlenx, hlen0, hcx, hcy, hmax, hw70, hle1, hle2, hbs, Try.f12]) (by simp (config := {decide := false}) [EVT, Ev.seqE, Ev.drawE, Ev.fits, Ev.wantedE, Ev.oneE, Ev.cls, Ev.quiet, Ev.making, Ev.setParts, Ev.rowOf, Ev.loud, Ev.opd, Ev.opds, Ev.optOpd, Ev.pairs, Ev.putD, Ev.argsT, Ev.isAnc, Ev.index, Ev.indexAddr, Ev.sliceOp, Ev.bound, Ev.NV.mk, Ev.Heap.store, Ev.Heap.elem, Ev.V.cells, Ev.V.scalar, Ev.V.asPtr, Ev.V.asBool, Ev.V.asInt, Ev.V.asStr, Ev.V.asAgg, Ev.V.asTup, Ev.V.asMap, Ev.build, Ev.fillCells, Ev.splice, Ev.over, Ev.takeN, Ev.part, Ev.unV, Ev.binV, Ev.isShift, Ev.isConstO, Ev.fieldAddr, Ev.placeS, Ev.placeA, Ev.goal, Ev.recT, Ev.recR, Ev.recheck, Ev.undefV, Ev.convNew, TYA, TYB, hl6a, hl6b, oneT_sameP, hlenx, hlen0, hcx, hcy, hmax, hw70, hle1, hle2, hbs, Try.f12]; rfl) (by rfl) (by simp only [Ev.putD]; rfl) ?_)
    iterate 2 (refine seqE_cons rfl rfl rfl (by simp (config := {decide := false}) [EVT, Ev.seqE, Ev.drawE, Ev.fits, Ev.wantedE, Ev.oneE, Ev.cls, Ev.quiet, Ev.making, Ev.setParts, Ev.rowOf, Ev.loud, Ev.opd, Ev.opds, Ev.optOpd, Ev.pairs, Ev.putD, Ev.argsT, Ev.isAnc, Ev.index, Ev.indexAddr, Ev.sliceOp, Ev.bound, Ev.NV.mk, Ev.Heap.store, Ev.Heap.elem, Ev.V.cells, Ev.V.scalar, Ev.V.asPtr, Ev.V.asBool, Ev.V.asInt, Ev.V.asStr, Ev.V.asAgg, Ev.V.asTup, Ev.V.asMap, Ev.build, Ev.fillCells, Ev.splice, Ev.over, Ev.takeN, Ev.part, Ev.unV, Ev.binV, Ev.isShift, Ev.isConstO, Ev.fieldAddr, Ev.placeS, Ev.placeA, Ev.goal, Ev.recT, Ev.recR, Ev.recheck, Ev.undefV, Ev.convNew, TYA, TYB, hl6a, hl6b, oneT_sameP, hlenx, hlen0, hcx, hcy, hmax, hw70, hle1, hle2, hbs, Try.f12]; rfl) (by rfl) (by simp only [Ev.putD]; rfl) ?_)
    iterate 4 (refine seqE_cons rfl rfl (by simp [EVT, Ev.seqE, Ev.drawE, Ev.fits, Ev.wantedE, Ev.oneE, Ev.cls, Ev.quiet, Ev.making, Ev.setParts, Ev.rowOf, Ev.loud, Ev.opd, Ev.opds, Ev.optOpd, Ev.pairs, Ev.putD, Ev.argsT, Ev.isAnc, Ev.index, Ev.indexAddr, Ev.sliceOp, Ev.bound, Ev.NV.mk, Ev.Heap.store, Ev.Heap.elem, Ev.V.cells, Ev.V.scalar, Ev.V.asPtr, Ev.V.asBool, Ev.V.asInt, Ev.V.asStr, Ev.V.asAgg, Ev.V.asTup, Ev.V.asMap, Ev.build, Ev.fillCells, Ev.splice, Ev.over, Ev.takeN, Ev.part, Ev.unV, Ev.binV, Ev.isShift, Ev.isConstO, Ev.fieldAddr, Ev.placeS, Ev.placeA, Ev.goal, Ev.recT, Ev.recR, Ev.recheck, Ev.undefV, Ev.convNew, TYA, TYB, hl6a, hl6b, oneT_sameP, hlenx, hlen0, hcx, hcy, hmax, hw70, hle1, hle2, hbs, Try.f12]) (by simp (config := {decide := false}) [EVT, Ev.seqE, Ev.drawE, Ev.fits, Ev.wantedE, Ev.oneE, Ev.cls, Ev.quiet, Ev.making, Ev.setParts, Ev.rowOf, Ev.loud, Ev.opd, Ev.opds, Ev.optOpd, Ev.pairs, Ev.putD, Ev.argsT, Ev.isAnc, Ev.index, Ev.indexAddr, Ev.sliceOp, Ev.bound, Ev.NV.mk, Ev.Heap.store, Ev.Heap.elem, Ev.V.cells, Ev.V.scalar, Ev.V.asPtr, Ev.V.asBool, Ev.V.asInt, Ev.V.asStr, Ev.V.asAgg, Ev.V.asTup, Ev.V.asMap, Ev.build, Ev.fillCells, Ev.splice, Ev.over, Ev.takeN, Ev.part, Ev.unV, Ev.binV, Ev.isShift, Ev.isConstO, Ev.fieldAddr, Ev.placeS, Ev.placeA, Ev.goal, Ev.recT, Ev.recR, Ev.recheck, Ev.undefV, Ev.convNew, TYA, TYB, hl6a, hl6b, oneT_sameP, hlenx, hlen0, hcx, hcy, hmax, hw70, hle1, hle2, hbs, Try.f12]; rfl) (by rfl) (by simp only [Ev.putD]; rfl) ?_)
    iterate 2 (refine seqE_cons rfl rfl rfl (by simp (config := {decide := false}) [EVT, Ev.seqE, Ev.drawE, Ev.fits, Ev.wantedE, Ev.oneE, Ev.cls, Ev.quiet, Ev.making, Ev.setParts, Ev.rowOf, Ev.loud, Ev.opd, Ev.opds, Ev.optOpd, Ev.pairs, Ev.putD, Ev.argsT, Ev.isAnc, Ev.index, Ev.indexAddr, Ev.sliceOp, Ev.bound, Ev.NV.mk, Ev.Heap.store, Ev.Heap.elem, Ev.V.cells, Ev.V.scalar, Ev.V.asPtr, Ev.V.asBool, Ev.V.asInt, Ev.V.asStr, Ev.V.asAgg, Ev.V.asTup, Ev.V.asMap, Ev.build, Ev.fillCells, Ev.splice, Ev.over, Ev.takeN, Ev.part, Ev.unV, Ev.binV, Ev.isShift, Ev.isConstO, Ev.fieldAddr, Ev.placeS, Ev.placeA, Ev.goal, Ev.recT, Ev.recR, Ev.recheck, Ev.undefV, Ev.convNew, TYA, TYB, hl6a, hl6b, oneT_sameP, hlenx, hlen0, hcx, hcy, hmax, hw70, hle1, hle2, hbs, Try.f12]; rfl) (by rfl) (by simp only [Ev.putD]; rfl) ?_)
    iterate 5 (refine seqE_cons rfl rfl (by simp [EVT, Ev.seqE, Ev.drawE, Ev.fits, Ev.wantedE, Ev.oneE, Ev.cls, Ev.quiet, Ev.making, Ev.setParts, Ev.rowOf, Ev.loud, Ev.opd, Ev.opds, Ev.optOpd, Ev.pairs, Ev.putD, Ev.argsT, Ev.isAnc, Ev.index, Ev.indexAddr, Ev.sliceOp, Ev.bound, Ev.NV.mk, Ev.Heap.store, Ev.Heap.elem, Ev.V.cells, Ev.V.scalar, Ev.V.asPtr, Ev.V.asBool, Ev.V.asInt, Ev.V.asStr, Ev.V.asAgg, Ev.V.asTup, Ev.V.asMap, Ev.build, Ev.fillCells, Ev.splice, Ev.over, Ev.takeN, Ev.part, Ev.unV, Ev.binV, Ev.isShift, Ev.isConstO, Ev.fieldAddr, Ev.placeS, Ev.placeA, Ev.goal, Ev.recT, Ev.recR, Ev.recheck, Ev.undefV, Ev.convNew, TYA, TYB, hl6a, hl6b, oneT_sameP, hlenx, hlen0, hcx, hcy, hmax, hw70, hle1, hle2, hbs, Try.f12]) (by simp (config := {decide := false}) [EVT, Ev.seqE, Ev.drawE, Ev.fits, Ev.wantedE, Ev.oneE, Ev.cls, Ev.quiet, Ev.making, Ev.setParts, Ev.rowOf, Ev.loud, Ev.opd, Ev.opds, Ev.optOpd, Ev.pairs, Ev.putD, Ev.argsT, Ev.isAnc, Ev.index, Ev.indexAddr, Ev.sliceOp, Ev.bound, Ev.NV.mk, Ev.Heap.store, Ev.Heap.elem, Ev.V.cells, Ev.V.scalar, Ev.V.asPtr, Ev.V.asBool, Ev.V.asInt, Ev.V.asStr, Ev.V.asAgg, Ev.V.asTup, Ev.V.asMap, Ev.build, Ev.fillCells, Ev.splice, Ev.over, Ev.takeN, Ev.part, Ev.unV, Ev.binV, Ev.isShift, Ev.isConstO, Ev.fieldAddr, Ev.placeS, Ev.placeA, Ev.goal, Ev.recT, Ev.recR, Ev.recheck, Ev.undefV, Ev.convNew, TYA, TYB, hl6a, hl6b, oneT_sameP, hlenx, hlen0, hcx, hcy, hmax, hw70, hle1, hle2, hbs, Try.f12]; rfl) (by rfl) (by simp only [Ev.putD]; rfl) ?_)
    iterate 2 (refine seqE_cons rfl rfl rfl (by simp (config := {decide := false}) [EVT, Ev.seqE, Ev.drawE, Ev.fits, Ev.wantedE, Ev.oneE, Ev.cls, Ev.quiet, Ev.making, Ev.setParts, Ev.rowOf, Ev.loud, Ev.opd, Ev.opds, Ev.optOpd, Ev.pairs, Ev.putD, Ev.argsT, Ev.isAnc, Ev.index, Ev.indexAddr, Ev.sliceOp, Ev.bound, Ev.NV.mk, Ev.Heap.store, Ev.Heap.elem, Ev.V.cells, Ev.V.scalar, Ev.V.asPtr, Ev.V.asBool, Ev.V.asInt, Ev.V.asStr, Ev.V.asAgg, Ev.V.asTup, Ev.V.asMap, Ev.build, Ev.fillCells, Ev.splice, Ev.over, Ev.takeN, Ev.part, Ev.unV, Ev.binV, Ev.isShift, Ev.isConstO, Ev.fieldAddr, Ev.placeS, Ev.placeA, Ev.goal, Ev.recT, Ev.recR, Ev.recheck, Ev.undefV, Ev.convNew, TYA, TYB, hl6a, hl6b, oneT_sameP, hlenx, hlen0, hcx, hcy, hmax, hw70, hle1, hle2, hbs, Try.f12]; rfl) (by rfl) (by simp only [Ev.putD]; rfl) ?_)
    iterate 6 (refine seqE_cons rfl rfl (by simp [EVT, Ev.seqE, Ev.drawE, Ev.fits, Ev.wantedE, Ev.oneE, Ev.cls, Ev.quiet, Ev.making, Ev.setParts, Ev.rowOf, Ev.loud, Ev.opd, Ev.opds, Ev.optOpd, Ev.pairs, Ev.putD, Ev.argsT, Ev.isAnc, Ev.index, Ev.indexAddr, Ev.sliceOp, Ev.bound, Ev.NV.mk, Ev.Heap.store, Ev.Heap.elem, Ev.V.cells, Ev.V.scalar, Ev.V.asPtr, Ev.V.asBool, Ev.V.asInt, Ev.V.asStr, Ev.V.asAgg, Ev.V.asTup, Ev.V.asMap, Ev.build, Ev.fillCells, Ev.splice, Ev.over, Ev.takeN, Ev.part, Ev.unV, Ev.binV, Ev.isShift, Ev.isConstO, Ev.fieldAddr, Ev.placeS, Ev.placeA, Ev.goal, Ev.recT, Ev.recR, Ev.recheck, Ev.undefV, Ev.convNew, TYA, TYB, hl6a, hl6b, oneT_sameP, hlenx, hlen0, hcx, hcy, hmax, hw70, hle1, hle2, hbs, Try.f12]) (by simp (config := {decide := false}) [EVT, Ev.seqE, Ev.drawE, Ev.fits, Ev.wantedE, Ev.oneE, Ev.cls, Ev.quiet, Ev.making, Ev.setParts, Ev.rowOf, Ev.loud, Ev.opd, Ev.opds, Ev.optOpd, Ev.pairs, Ev.putD, Ev.argsT, Ev.isAnc, Ev.index, Ev.indexAddr, Ev.sliceOp, Ev.bound, Ev.NV.mk, Ev.Heap.store, Ev.Heap.elem, Ev.V.cells, Ev.V.scalar, Ev.V.asPtr, Ev.V.asBool, Ev.V.asInt, Ev.V.asStr, Ev.V.asAgg, Ev.V.asTup, Ev.V.asMap, Ev.build, Ev.fillCells, Ev.splice, Ev.over, Ev.takeN, Ev.part, Ev.unV, Ev.binV, Ev.isShift, Ev.isConstO, Ev.fieldAddr, Ev.placeS, Ev.placeA, Ev.goal, Ev.recT, Ev.recR, Ev.recheck, Ev.undefV, Ev.convNew, TYA, TYB, hl6a, hl6b, oneT_sameP, hlenx, hlen0, hcx, hcy, hmax, hw70, hle1, hle2, hbs, Try.f12]; rfl) (by rfl) (by simp only [Ev.putD]; rfl) ?_)
    iterate 2 (refine seqE_cons rfl rfl rfl (by simp (config := {decide := false}) [EVT, Ev.seqE, Ev.drawE, Ev.fits, Ev.wantedE, Ev.oneE, Ev.cls, Ev.quiet, Ev.making, Ev.setParts, Ev.rowOf, Ev.loud, Ev.opd, Ev.opds, Ev.optOpd, Ev.pairs, Ev.putD, Ev.argsT, Ev.isAnc, Ev.index, Ev.indexAddr, Ev.sliceOp, Ev.bound, Ev.NV.mk, Ev.Heap.store, Ev.Heap.elem, Ev.V.cells, Ev.V.scalar, Ev.V.asPtr, Ev.V.asBool, Ev.V.asInt, Ev.V.asStr, Ev.V.asAgg, Ev.V.asTup, Ev.V.asMap, Ev.build, Ev.fillCells, Ev.splice, Ev.over, Ev.takeN, Ev.part, Ev.unV, Ev.binV, Ev.isShift, Ev.isConstO, Ev.fieldAddr, Ev.placeS, Ev.placeA, Ev.goal, Ev.recT, Ev.recR, Ev.recheck, Ev.undefV, Ev.convNew, TYA, TYB, hl6a, hl6b, oneT_sameP, hlenx, hlen0, hcx, hcy, hmax, hw70, hle1, hle2, hbs, Try.f12]; rfl) (by rfl) (by simp only [Ev.putD]; rfl) ?_)
    iterate 4 (refine seqE_cons rfl rfl (by simp [EVT, Ev.seqE, Ev.drawE, Ev.fits, Ev.wantedE, Ev.oneE, Ev.cls, Ev.quiet, Ev.making, Ev.setParts, Ev.rowOf, Ev.loud, Ev.opd, Ev.opds, Ev.optOpd, Ev.pairs, Ev.putD, Ev.argsT, Ev.isAnc, Ev.index, Ev.indexAddr, Ev.sliceOp, Ev.bound, Ev.NV.mk, Ev.Heap.store, Ev.Heap.elem, Ev.V.cells, Ev.V.scalar, Ev.V.asPtr, Ev.V.asBool, Ev.V.asInt, Ev.V.asStr, Ev.V.asAgg, Ev.V.asTup, Ev.V.asMap, Ev.build, Ev.fillCells, Ev.splice, Ev.over, Ev.takeN, Ev.part, Ev.unV, Ev.binV, Ev.isShift, Ev.isConstO, Ev.fieldAddr, Ev.placeS, Ev.placeA, Ev.goal, Ev.recT, Ev.recR, Ev.recheck, Ev.undefV, Ev.convNew, TYA, TYB, hl6a, hl6b, oneT_sameP, hlenx, hlen0, hcx, hcy, hmax, hw70, hle1, hle2, hbs, Try.f12]) (by simp (config := {decide := false}) [EVT, Ev.seqE, Ev.drawE, Ev.fits, Ev.wantedE, Ev.oneE, Ev.cls, Ev.quiet, Ev.making, Ev.setParts, Ev.rowOf, Ev.loud, Ev.opd, Ev.opds, Ev.optOpd, Ev.pairs, Ev.putD, Ev.argsT, Ev.isAnc, Ev.index, Ev.indexAddr, Ev.sliceOp, Ev.bound, Ev.NV.mk, Ev.Heap.store, Ev.Heap.elem, Ev.V.cells, Ev.V.scalar, Ev.V.asPtr, Ev.V.asBool, Ev.V.asInt, Ev.V.asStr, Ev.V.asAgg, Ev.V.asTup, Ev.V.asMap, Ev.build, Ev.fillCells, Ev.splice, Ev.over, Ev.takeN, Ev.part, Ev.unV, Ev.binV, Ev.isShift, Ev.isConstO, Ev.fieldAddr, Ev.placeS, Ev.placeA, Ev.goal, Ev.recT, Ev.recR, Ev.recheck, Ev.undefV, Ev.convNew, TYA, TYB, hl6a, hl6b, oneT_sameP, hlenx, hlen0, hcx, hcy, hmax, hw70, hle1, hle2, hbs, Try.f12]; rfl) (by rfl) (by simp only [Ev.putD]; rfl) ?_)
    iterate 2 (refine seqE_cons rfl rfl rfl (by simp (config := {decide := false}) [EVT, Ev.seqE, Ev.drawE, Ev.fits, Ev.wantedE, Ev.oneE, Ev.cls, Ev.quiet, Ev.making, Ev.setParts, Ev.rowOf, Ev.loud, Ev.opd, Ev.opds, Ev.optOpd, Ev.pairs, Ev.putD, Ev.argsT, Ev.isAnc, Ev.index, Ev.indexAddr, Ev.sliceOp, Ev.bound, Ev.NV.mk, Ev.Heap.store, Ev.Heap.elem, Ev.V.cells, Ev.V.scalar, Ev.V.asPtr, Ev.V.asBool, Ev.V.asInt, Ev.V.asStr, Ev.V.asAgg, Ev.V.asTup, Ev.V.asMap, Ev.build, Ev.fillCells, Ev.splice, Ev.over, Ev.takeN, Ev.part, Ev.unV, Ev.binV, Ev.isShift, Ev.isConstO, Ev.fieldAddr, Ev.placeS, Ev.placeA, Ev.goal, Ev.recT, Ev.recR, Ev.recheck, Ev.undefV, Ev.convNew, TYA, TYB, hl6a, hl6b, oneT_sameP, hlenx, hlen0, hcx, hcy, hmax, hw70, hle1, hle2, hbs, Try.f12]; rfl) (by rfl) (by simp only [Ev.putD]; rfl) ?_)
    rfl
  exact ACode.ret ⟨.inr rfl, _, [.bool true], [], rfl, by simp [Try.f12, resVals, tget_set], Tidy.zero (fun n hn => by rw [k61 n (by omega)]; exact hk1 n hn), fun κ1 z hz => VR_plain (κ := κ1) _ _ rfl hz⟩
end Go.Proofs.Ytpfmoolpeecobaa
