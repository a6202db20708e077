/- An event of bytes. -/
import Derived.Test.YtpfmoolpeecobaaV1
namespace Go.Proofs.Ytpfmoolpeecobaa
open Go Go.Proofs Go.Proofs.Ytpfmoolpeecobaa.Ev
set_option linter.unusedVariables false
set_option linter.unusedSimpArgs false
set_option maxRecDepth 100000
set_option maxHeartbeats 4000000

theorem ofVal_nilm : Ev.ofVal (.map none) = some .nilm := rfl
theorem tm140 : tyMap Try.prog 140 = some (3, 138) := by kernel_rfl
theorem z138 : zeroV Try.prog 138 = some .nilf := by kernel_rfl
theorem eqN3 (f : Nat) (x y : Int) : equalN Try.prog (f + 1) 3 (.int .i64 x) (.int .i64 y) = some (decide (x = y)) := by
  simp only [equalN, pu3]; rfl
theorem eqN3' (x y : Int) : equalN Try.prog 20 3 (.int .i64 x) (.int .i64 y) = some (decide (x = y)) := eqN3 19 x y
def partsL : List Ent := [⟨.int .i64 0, .func 96 [] []⟩, ⟨.int .i64 4, .func 96 [] []⟩, ⟨.int .i64 3, .func 97 [] []⟩, ⟨.int .i64 5, .func 98 [] []⟩, ⟨.int .i64 6, .func 99 [] []⟩, ⟨.int .i64 7, .func 100 [] []⟩]
noncomputable def partsH (L : Heap) : Heap := ⟨L.t.set L.next (.map partsL), L.next + 1⟩
theorem parts_ok (L : Heap) : ACall Try.prog 71 [] L (.map L.next) (partsH L) := by
  refine ACall.of_body_same Try.func71 rfl ?_
  refine ACode.seq (ACode.regS noT_ok names_ok mix (t' := ?_) (L' := ?_) [0] (by rfl) ?_ ?_)
  rotate_left 2
  · refine sq rfl rfl rfl (by simp [go_sem, X, ofVal_nilm, Try.f71]; rfl) ?_
    rfl
  refine ACode.seq (ACode.regS noT_ok names_ok mix (t' := ?_) (L' := ?_) [0, 1, 2, 3, 4, 5, 6, 7, 8] (by rfl) ?_ ?_)
  rotate_left 2
  · iterate 9 (refine sq rfl rfl rfl (by simp [go_sem, X, Ev.mapInsert, Ev.findEnt, eqN3', tm140, Try.f71]; rfl) ?_)
    rfl
  refine ACode.ret ⟨.inr rfl, [.map L.next], rfl, by simp [Try.f71, resVals, tget_set], rfl⟩

/-- an event of bytes: its cells, and how many bytes it takes -/
def evP (bs : List Int) : List V × Nat :=
  if hd0 bs % 9 = 0 ∨ hd0 bs % 9 = 4 then ([.int .i64 (hd0 bs % 9), .int .i64 (hd0 bs / 9 % 5), .str (textP bs.tail), .int .u8 0, .int .i64 0, .int .i64 0, .int .i64 0, .int .i64 0, .int .i64 0], 2 + tlen bs.tail)
  else if hd0 bs % 9 = 3 then ([.int .i64 (hd0 bs % 9), .int .i64 (hd0 bs / 9 % 5), .str (textP bs.tail.tail), .int .u8 (hd0 bs.tail % 3), .int .i64 0, .int .i64 0, .int .i64 0, .int .i64 0, .int .i64 0], 3 + tlen bs.tail.tail)
  else if hd0 bs % 9 = 5 then ([.int .i64 (hd0 bs % 9), .int .i64 (hd0 bs / 9 % 5), .str [], .int .u8 0, .int .i64 (hd0 bs.tail % 16), .int .i64 (hd0 bs.tail.tail % 48), .int .i64 (hd0 (bs.tail.drop 2) % 16), .int .i64 (hd0 (bs.tail.drop 3) % 48), .int .i64 0], 5)
  else if hd0 bs % 9 = 6 then ([.int .i64 (hd0 bs % 9), .int .i64 (hd0 bs / 9 % 5), .str [], .int .u8 0, .int .i64 0, .int .i64 0, .int .i64 (hd0 bs.tail % 16), .int .i64 (hd0 bs.tail.tail % 48), .int .i64 0], 3)
  else if hd0 bs % 9 = 7 then ([.int .i64 (hd0 bs % 9), .int .i64 (hd0 bs / 9 % 5), .str [], .int .u8 0, .int .i64 0, .int .i64 0, .int .i64 0, .int .i64 0, .int .i64 (hd0 bs.tail % 8)], 2)
  else ([.int .i64 (hd0 bs % 9), .int .i64 (hd0 bs / 9 % 5), .str [], .int .u8 0, .int .i64 0, .int .i64 0, .int .i64 0, .int .i64 0, .int .i64 0], 1)

theorem event_ok {L : Heap} {c : Nat} {v : V} {bs : List Int} (h : Rd L c v bs) : ACall Try.prog 47 [rdV c] L (.agg (evP bs).1) (setRd L c (advV (evP bs).2 v)) := by
  have hhd := h.head
  have hmod9 : (hd0 bs).tmod 9 = hd0 bs % 9 := Int.tmod_eq_emod_of_nonneg hhd.1
  have hdiv9 : (hd0 bs).tdiv 9 = hd0 bs / 9 := Int.tdiv_eq_ediv_of_nonneg hhd.1
  have hmod5 : (hd0 bs / 9).tmod 5 = hd0 bs / 9 % 5 := Int.tmod_eq_emod_of_nonneg (by omega)
  have hwd : IntKind.i64.wrap (hd0 bs / 9) = hd0 bs / 9 := Go.IntWalk.i64_in _ (by omega)
  have hlt := h.lt
  refine ACall.of_body2 Try.func47 rfl ?_
  unfold rdV
  refine ACode.seq (ACode.regS noT_ok names_ok mix (t' := ?_) (L' := ?_) [0, 1] (by rfl) ?_ ?_)
  rotate_left 2
  · iterate 2 (refine sq rfl rfl rfl (by simp [go_sem, X, Try.f47]; rfl) ?_)
    rfl
  change ACode _ _ _ _ _ ⟨(L.t.set L.next (boxB c)).set (L.next + 1) (evB [.int .i64 0, .int .i64 0, .str [], .int .u8 0, .int .i64 0, .int .i64 0, .int .i64 0, .int .i64 0, .int .i64 0]), L.next + 2⟩ _
  have hk0 : KX c L ⟨(L.t.set L.next (boxB c)).set (L.next + 1) (evB [.int .i64 0, .int .i64 0, .str [], .int .u8 0, .int .i64 0, .int .i64 0, .int .i64 0, .int .i64 0, .int .i64 0]), L.next + 2⟩ := (KX.new c L (boxB c)).trans (KX.new c _ _)
  have hr0 := (h.new (boxB c)).new (evB [.int .i64 0, .int .i64 0, .str [], .int .u8 0, .int .i64 0, .int .i64 0, .int .i64 0, .int .i64 0, .int .i64 0])
  have hbx0 : (T.set (T.set L.t L.next (boxB c)) (L.next + 1) (evB [.int .i64 0, .int .i64 0, .str [], .int .u8 0, .int .i64 0, .int .i64 0, .int .i64 0, .int .i64 0, .int .i64 0])).get L.next = some (boxB c) := by rw [T.get_set_ne _ _ (by omega)]; exact T.get_set_same _ _ _
  have he0 : (T.set (T.set L.t L.next (boxB c)) (L.next + 1) (evB [.int .i64 0, .int .i64 0, .str [], .int .u8 0, .int .i64 0, .int .i64 0, .int .i64 0, .int .i64 0, .int .i64 0])).get (L.next + 1) = some (evB [.int .i64 0, .int .i64 0, .str [], .int .u8 0, .int .i64 0, .int .i64 0, .int .i64 0, .int .i64 0, .int .i64 0]) := T.get_set_same _ _ _
  generalize hA : (⟨(L.t.set L.next (boxB c)).set (L.next + 1) (evB [.int .i64 0, .int .i64 0, .str [], .int .u8 0, .int .i64 0, .int .i64 0, .int .i64 0, .int .i64 0, .int .i64 0]), L.next + 2⟩ : Heap) = A at *
  have e1 : (L.t.set L.next (boxB c)).set (L.next + 1) (evB [.int .i64 0, .int .i64 0, .str [], .int .u8 0, .int .i64 0, .int .i64 0, .int .i64 0, .int .i64 0, .int .i64 0]) = A.t := by rw [← hA]
  have e2 : L.next + 2 = A.next := by rw [← hA]
  change (L.t.set L.next (boxB c) |>.set (L.next + 1) _).get L.next = _ at hbx0
  rw [e1] at hbx0 he0
  have c1 := next_ok hr0
  have hR1 := hr0.next
  have hk1 := KX.setRd c A (nextV v)
  have hbx1 : (setRd A c (nextV v)).t.get L.next = some (boxB c) := by rw [hk1.2 _ (by omega) (by omega)]; exact hbx0
  have he1 : (setRd A c (nextV v)).t.get (L.next + 1) = some (evB [.int .i64 0, .int .i64 0, .str [], .int .u8 0, .int .i64 0, .int .i64 0, .int .i64 0, .int .i64 0, .int .i64 0]) := by rw [hk1.2 _ (by omega) (by omega)]; exact he0
  have hn1 : (setRd A c (nextV v)).next = A.next := rfl
  generalize setRd A c (nextV v) = A1 at *
  have hbx0' := hbx0
  unfold boxB at hbx0'
  refine ACode.seq (ACode.regS (oneT_okP c1) names_ok mix (t' := ?_) (L' := ?_) [0, 1, 2, 3] (by rfl) ?_ ?_)
  rotate_left 2
  · iterate 4 (refine sq rfl rfl rfl (by simp [go_sem, X, hbx0', oneT_sameP, Try.f47]; rfl) ?_)
    rfl
  have he1' := he1
  unfold evB at he1'
  refine ACode.seq (ACode.regS noT_ok names_ok mix (t' := ?_) (L' := ?_) [0, 1, 2, 3, 4, 5, 6, 7, 8] (by rfl) ?_ ?_)
  rotate_left 2
  · iterate 9 (refine sq rfl rfl rfl (by simp [go_sem, X, he1', hmod9, hdiv9, hmod5, hwd, Try.f47]; rfl) ?_)
    rfl
  change ACode _ _ _ _ _ ⟨A1.t.set (L.next + 1) (evB [.int .i64 (hd0 bs % 9), .int .i64 (hd0 bs / 9 % 5), .str [], .int .u8 0, .int .i64 0, .int .i64 0, .int .i64 0, .int .i64 0, .int .i64 0]), A1.next⟩ _
  have hR2 : Rd ⟨A1.t.set (L.next + 1) (evB [.int .i64 (hd0 bs % 9), .int .i64 (hd0 bs / 9 % 5), .str [], .int .u8 0, .int .i64 0, .int .i64 0, .int .i64 0, .int .i64 0, .int .i64 0]), A1.next⟩ c (nextV v) bs.tail :=
    ⟨by show T.get (T.set _ _ _) _ = _; rw [T.get_set_ne _ _ (by omega)]; exact hR1.cell, hR1.lt, hR1.row.still (Nat.le_refl _) (fun n hn _ => T.get_set_ne _ _ (by omega)), hR1.range⟩
  have hbx2 : (T.set A1.t (L.next + 1) (evB [.int .i64 (hd0 bs % 9), .int .i64 (hd0 bs / 9 % 5), .str [], .int .u8 0, .int .i64 0, .int .i64 0, .int .i64 0, .int .i64 0, .int .i64 0])).get L.next = some (boxB c) := by rw [T.get_set_ne _ _ (by omega)]; exact hbx1
  have he2 : (T.set A1.t (L.next + 1) (evB [.int .i64 (hd0 bs % 9), .int .i64 (hd0 bs / 9 % 5), .str [], .int .u8 0, .int .i64 0, .int .i64 0, .int .i64 0, .int .i64 0, .int .i64 0])).get (L.next + 1) = some (evB [.int .i64 (hd0 bs % 9), .int .i64 (hd0 bs / 9 % 5), .str [], .int .u8 0, .int .i64 0, .int .i64 0, .int .i64 0, .int .i64 0, .int .i64 0]) := T.get_set_same _ _ _
  have hko : ∀ n, n < L.next → n ≠ c → (T.set A1.t (L.next + 1) (evB [.int .i64 (hd0 bs % 9), .int .i64 (hd0 bs / 9 % 5), .str [], .int .u8 0, .int .i64 0, .int .i64 0, .int .i64 0, .int .i64 0, .int .i64 0])).get n = L.t.get n := fun n hn hc => by rw [T.get_set_ne _ _ (by omega), hk1.2 n (by omega) hc, hk0.2 n hn hc]
  generalize hA2 : (⟨A1.t.set (L.next + 1) (evB [.int .i64 (hd0 bs % 9), .int .i64 (hd0 bs / 9 % 5), .str [], .int .u8 0, .int .i64 0, .int .i64 0, .int .i64 0, .int .i64 0, .int .i64 0]), A1.next⟩ : Heap) = A2 at *
  have e3 : A1.t.set (L.next + 1) (evB [.int .i64 (hd0 bs % 9), .int .i64 (hd0 bs / 9 % 5), .str [], .int .u8 0, .int .i64 0, .int .i64 0, .int .i64 0, .int .i64 0, .int .i64 0]) = A2.t := by rw [← hA2]
  have e4 : A1.next = A2.next := by rw [← hA2]
  rw [e3] at hbx2 he2 hko
  -- the map of the parts
  have c2 := parts_ok A2
  have hk3 : KX c A2 (partsH A2) := KX.new c A2 _
  have hR3 : Rd (partsH A2) c (nextV v) bs.tail := hR2.new _
  have hbx3 : (partsH A2).t.get L.next = some (boxB c) := by rw [hk3.2 _ (by omega) (by omega)]; exact hbx2
  have he3 : (partsH A2).t.get (L.next + 1) = some (evB [.int .i64 (hd0 bs % 9), .int .i64 (hd0 bs / 9 % 5), .str [], .int .u8 0, .int .i64 0, .int .i64 0, .int .i64 0, .int .i64 0, .int .i64 0]) := by rw [hk3.2 _ (by omega) (by omega)]; exact he2
  have hm3 : (partsH A2).t.get A2.next = some (.map partsL) := T.get_set_same _ _ _
  have hko3 : ∀ n, n < L.next → n ≠ c → (partsH A2).t.get n = L.t.get n := fun n hn hc => by rw [hk3.2 n (by omega) hc, hko n hn hc]
  have hel3 : L.next + 1 < (partsH A2).next := by show _ < A2.next + 1; omega
  generalize partsH A2 = A3 at *
  have hbx2' := hbx2
  have hbx3' := hbx3
  have he2' := he2
  have he3' := he3
  unfold boxB at hbx2' hbx3'
  unfold evB at he2' he3'
  unfold partsL at hm3
  refine ACode.seq (ACode.mono (K := fun x t' d' L4 => x = .normal ∧ d' = [] ∧ tget t' 2 = .ptr (L.next + 1) 0 ∧ L4.t.get c = some (rcell (advV (evP bs).2 v)) ∧ L4.t.get (L.next + 1) = some (evB (evP bs).1) ∧ (∀ n, n < L.next → n ≠ c → L4.t.get n = L.t.get n)) ?_ ?_)
  rotate_left 1
  ·
    have hev : ∃ k s b lv r1 r2 r3 r4 wh, (evP bs).1 = [k, s, b, lv, r1, r2, r3, r4, wh] ∧ V.plains [k, s, b, lv, r1, r2, r3, r4, wh] = true := by
      unfold evP
      repeat (first | exact ⟨_, _, _, _, _, _, _, _, _, rfl, rfl⟩ | split)
    clear hbx0 hbx1 hbx2 hbx3 he0 he1 he2 he3 he1' he2' he3' hm3 c1 c2 hR1 hR2 hR3 hr0 hA hA2 e1 e2 e3 e4 hko hko3
    rintro x t d' L4 ⟨rfl, rfl, t2, hc4, he4, hk4⟩
    obtain ⟨k, s, b, lv, r1, r2, r3, r4, wh, hev, hpl⟩ := hev
    rw [hev] at he4 ⊢
    have hsc : V.scalar k = true ∧ V.scalar s = true ∧ V.scalar b = true ∧ V.scalar lv = true ∧ V.scalar r1 = true ∧ V.scalar r2 = true ∧ V.scalar r3 = true ∧ V.scalar r4 = true ∧ V.scalar wh = true := by
      have := hev
      unfold evP at this
      repeat (first | (simp only [List.cons.injEq, and_true] at this; obtain ⟨rfl, rfl, rfl, rfl, rfl, rfl, rfl, rfl, rfl⟩ := this; exact ⟨rfl, rfl, rfl, rfl, rfl, rfl, rfl, rfl, rfl⟩) | split at this)
    obtain ⟨s1, s2, s3, s4, s5, s6, s7, s8, s9⟩ := hsc
    have he4' := he4
    unfold evB at he4'
    show ACode _ _ _ _ _ _ _
    refine ACode.seq (ACode.regS noT_ok names_ok mix (t' := ?_) (L' := ?_) [0, 1] (by rfl) ?_ ?_)
    rotate_left 2
    · iterate 2 (refine sq rfl rfl rfl (by simp [go_sem, xl, xs, xe, xa, xi, xo, xb, xq, xv, xc, t2, he4', s1, s2, s3, s4, s5, s6, s7, s8, s9, Try.f47]; rfl) ?_)
      rfl
    refine ACode.ret ⟨.inr rfl, ⟨L4.t.set (L.next + 1) (evB [k, s, b, lv, r1, r2, r3, r4, wh]), L4.next⟩, [.agg [k, s, b, lv, r1, r2, r3, r4, wh]], [], rfl, by simp [Try.f47, resVals, tget_set, t2, Heap.load, Heap.elem, T.get_set, evB, Ev.part, ps86, pa86, takeN, Ev.V.asPtr], ?_, fun κ1 z hz => VR_plain (κ := κ1) _ _ (by simp only [V.plain]; exact hpl) hz⟩
    refine tidyR hlt (by rw [advV_low]; exact h.low) ?_ ?_
    · show T.get (T.set _ _ _) _ = _
      rw [T.get_set_ne _ _ (by omega)]; exact hc4
    · intro n hn hc
      show T.get (T.set _ _ _) _ = _
      rw [T.get_set_ne _ _ (by omega)]; exact hk4 n hn hc
  rcases (show hd0 bs % 9 = 0 ∨ hd0 bs % 9 = 1 ∨ hd0 bs % 9 = 2 ∨ hd0 bs % 9 = 3 ∨ hd0 bs % 9 = 4 ∨ hd0 bs % 9 = 5 ∨ hd0 bs % 9 = 6 ∨ hd0 bs % 9 = 7 ∨ hd0 bs % 9 = 8 by omega) with hk | hk | hk | hk | hk | hk | hk | hk | hk
  ·
    rw [hk] at he2' he3' he3
    refine ACode.seq (ACode.regD (oneT_okP c2) names_ok mix (t' := ?_) (L' := ?_) [0,0,2,7,15,31,31,63,255] [1,2,0,3,4,5,6,7,8] (by decide +kernel) (by decide +kernel) (by decide +kernel) ?_ ?_)
    rotate_left 2
    · refine dq rfl rfl rfl rfl (by simp [go_sem, X, he2', he3', hm3, Ev.lookup, Ev.findEnt, eqN3', tm140, z138, oneT_sameP, Try.f47]; rfl) ?_
      refine dr rfl rfl rfl rfl (by simp [go_sem, X, he2', he3', hm3, Ev.lookup, Ev.findEnt, eqN3', tm140, z138, oneT_sameP, Try.f47]; rfl) ?_
      refine dl rfl rfl rfl rfl (by simp [go_sem, X, he2', he3', hm3, Ev.lookup, Ev.findEnt, eqN3', tm140, z138, oneT_sameP, Try.f47]; rfl) (by rfl) (by simp [go_sem, X, he2', he3', hm3, Ev.lookup, Ev.findEnt, eqN3', tm140, z138, oneT_sameP, Try.f47]) ?_
      refine dr rfl rfl rfl rfl (by simp [go_sem, X, he2', he3', hm3, Ev.lookup, Ev.findEnt, eqN3', tm140, z138, oneT_sameP, Try.f47]; rfl) ?_
      iterate 5 (refine dq rfl rfl rfl rfl (by simp [go_sem, X, he2', he3', hm3, Ev.lookup, Ev.findEnt, eqN3', tm140, z138, oneT_sameP, Try.f47]; rfl) ?_)
      rfl
    refine ACode.seq (ACode.regS noT_ok names_ok mix (t' := ?_) (L' := ?_) [0] (by rfl) ?_ ?_)
    rotate_left 2
    · refine sq rfl rfl rfl (by simp [go_sem, X, Try.f47]; rfl) ?_
      rfl
    refine ACode.condT (by simp [tget_set, opd]) ?_
    have c3 := text_ok hR3 he3 hel3 (by omega) rfl
    have hat := fun cs => setRE_at (L := A3) (v := advV (1 + tlen bs.tail) (nextV v)) (cs := cs) (show L.next + 1 ≠ c by omega)
    have hadv : advV (1 + tlen bs.tail) (nextV v) = advV (1 + (1 + tlen bs.tail)) v := advV_add 1 v _
    unfold rdV at c3
    refine ACode.regS (oneT_okP c3) names_ok mix (t' := ?_) (L' := ?_) [0, 1, 2] (by rfl) ?_ ?_
    rotate_left 2
    · iterate 3 (refine sq rfl rfl rfl (by simp [go_sem, X, hbx3', oneT_sameP, Try.f47]; rfl) ?_)
      rfl
    refine ⟨rfl, rfl, by simp [tget_set], ?_, ?_, ?_⟩
    · rw [(hat _).1, hadv]; congr 3; simp [evP, hk]; omega
    · rw [(hat _).2]; congr 2; simp [evP, hk]
    · intro n hn hc
      show T.get (T.set (T.set _ _ _) _ _) _ = _
      rw [T.get_set_ne _ _ (by omega), T.get_set_ne _ _ hc]; exact hko3 n hn hc
  ·
    rw [hk] at he2' he3' he3
    refine ACode.seq (ACode.regD (oneT_okP c2) names_ok mix (t' := ?_) (L' := ?_) [0,0,2,7,15,31,31,63,255] [1,2,0,3,4,5,6,7,8] (by decide +kernel) (by decide +kernel) (by decide +kernel) ?_ ?_)
    rotate_left 2
    · refine dq rfl rfl rfl rfl (by simp [go_sem, X, he2', he3', hm3, Ev.lookup, Ev.findEnt, eqN3', tm140, z138, oneT_sameP, Try.f47]; rfl) ?_
      refine dr rfl rfl rfl rfl (by simp [go_sem, X, he2', he3', hm3, Ev.lookup, Ev.findEnt, eqN3', tm140, z138, oneT_sameP, Try.f47]; rfl) ?_
      refine dl rfl rfl rfl rfl (by simp [go_sem, X, he2', he3', hm3, Ev.lookup, Ev.findEnt, eqN3', tm140, z138, oneT_sameP, Try.f47]; rfl) (by rfl) (by simp [go_sem, X, he2', he3', hm3, Ev.lookup, Ev.findEnt, eqN3', tm140, z138, oneT_sameP, Try.f47]) ?_
      refine dr rfl rfl rfl rfl (by simp [go_sem, X, he2', he3', hm3, Ev.lookup, Ev.findEnt, eqN3', tm140, z138, oneT_sameP, Try.f47]; rfl) ?_
      iterate 5 (refine dq rfl rfl rfl rfl (by simp [go_sem, X, he2', he3', hm3, Ev.lookup, Ev.findEnt, eqN3', tm140, z138, oneT_sameP, Try.f47]; rfl) ?_)
      rfl
    refine ACode.seq (ACode.regS noT_ok names_ok mix (t' := ?_) (L' := ?_) [0] (by rfl) ?_ ?_)
    rotate_left 2
    · refine sq rfl rfl rfl (by simp [go_sem, X, Try.f47]; rfl) ?_
      rfl
    refine ACode.condF (by simp [tget_set, opd]) (ACode.skip ?_)
    refine ⟨rfl, rfl, by simp [tget_set], ?_, ?_, hko3⟩
    · rw [hR3.cell]; congr 2; simp [evP, hk]; rfl
    · rw [he3]; congr 2; simp [evP, hk]
  ·
    rw [hk] at he2' he3' he3
    refine ACode.seq (ACode.regD (oneT_okP c2) names_ok mix (t' := ?_) (L' := ?_) [0,0,2,7,15,31,31,63,255] [1,2,0,3,4,5,6,7,8] (by decide +kernel) (by decide +kernel) (by decide +kernel) ?_ ?_)
    rotate_left 2
    · refine dq rfl rfl rfl rfl (by simp [go_sem, X, he2', he3', hm3, Ev.lookup, Ev.findEnt, eqN3', tm140, z138, oneT_sameP, Try.f47]; rfl) ?_
      refine dr rfl rfl rfl rfl (by simp [go_sem, X, he2', he3', hm3, Ev.lookup, Ev.findEnt, eqN3', tm140, z138, oneT_sameP, Try.f47]; rfl) ?_
      refine dl rfl rfl rfl rfl (by simp [go_sem, X, he2', he3', hm3, Ev.lookup, Ev.findEnt, eqN3', tm140, z138, oneT_sameP, Try.f47]; rfl) (by rfl) (by simp [go_sem, X, he2', he3', hm3, Ev.lookup, Ev.findEnt, eqN3', tm140, z138, oneT_sameP, Try.f47]) ?_
      refine dr rfl rfl rfl rfl (by simp [go_sem, X, he2', he3', hm3, Ev.lookup, Ev.findEnt, eqN3', tm140, z138, oneT_sameP, Try.f47]; rfl) ?_
      iterate 5 (refine dq rfl rfl rfl rfl (by simp [go_sem, X, he2', he3', hm3, Ev.lookup, Ev.findEnt, eqN3', tm140, z138, oneT_sameP, Try.f47]; rfl) ?_)
      rfl
    refine ACode.seq (ACode.regS noT_ok names_ok mix (t' := ?_) (L' := ?_) [0] (by rfl) ?_ ?_)
    rotate_left 2
    · refine sq rfl rfl rfl (by simp [go_sem, X, Try.f47]; rfl) ?_
      rfl
    refine ACode.condF (by simp [tget_set, opd]) (ACode.skip ?_)
    refine ⟨rfl, rfl, by simp [tget_set], ?_, ?_, hko3⟩
    · rw [hR3.cell]; congr 2; simp [evP, hk]; rfl
    · rw [he3]; congr 2; simp [evP, hk]
  ·
    rw [hk] at he2' he3' he3
    refine ACode.seq (ACode.regD (oneT_okP c2) names_ok mix (t' := ?_) (L' := ?_) [0,0,2,7,15,31,31,63,255] [1,2,0,3,4,5,6,7,8] (by decide +kernel) (by decide +kernel) (by decide +kernel) ?_ ?_)
    rotate_left 2
    · refine dq rfl rfl rfl rfl (by simp [go_sem, X, he2', he3', hm3, Ev.lookup, Ev.findEnt, eqN3', tm140, z138, oneT_sameP, Try.f47]; rfl) ?_
      refine dr rfl rfl rfl rfl (by simp [go_sem, X, he2', he3', hm3, Ev.lookup, Ev.findEnt, eqN3', tm140, z138, oneT_sameP, Try.f47]; rfl) ?_
      refine dl rfl rfl rfl rfl (by simp [go_sem, X, he2', he3', hm3, Ev.lookup, Ev.findEnt, eqN3', tm140, z138, oneT_sameP, Try.f47]; rfl) (by rfl) (by simp [go_sem, X, he2', he3', hm3, Ev.lookup, Ev.findEnt, eqN3', tm140, z138, oneT_sameP, Try.f47]) ?_
      refine dr rfl rfl rfl rfl (by simp [go_sem, X, he2', he3', hm3, Ev.lookup, Ev.findEnt, eqN3', tm140, z138, oneT_sameP, Try.f47]; rfl) ?_
      iterate 5 (refine dq rfl rfl rfl rfl (by simp [go_sem, X, he2', he3', hm3, Ev.lookup, Ev.findEnt, eqN3', tm140, z138, oneT_sameP, Try.f47]; rfl) ?_)
      rfl
    refine ACode.seq (ACode.regS noT_ok names_ok mix (t' := ?_) (L' := ?_) [0] (by rfl) ?_ ?_)
    rotate_left 2
    · refine sq rfl rfl rfl (by simp [go_sem, X, Try.f47]; rfl) ?_
      rfl
    refine ACode.condT (by simp [tget_set, opd]) ?_
    have c3 := paste_ok hR3 he3 hel3 (by omega) rfl
    have hat := fun cs => setRE_at (L := A3) (v := advV (2 + tlen bs.tail.tail) (nextV v)) (cs := cs) (show L.next + 1 ≠ c by omega)
    have hadv : advV (2 + tlen bs.tail.tail) (nextV v) = advV (1 + (2 + tlen bs.tail.tail)) v := advV_add 1 v _
    unfold rdV at c3
    refine ACode.regS (oneT_okP c3) names_ok mix (t' := ?_) (L' := ?_) [0, 1, 2] (by rfl) ?_ ?_
    rotate_left 2
    · iterate 3 (refine sq rfl rfl rfl (by simp [go_sem, X, hbx3', oneT_sameP, Try.f47]; rfl) ?_)
      rfl
    refine ⟨rfl, rfl, by simp [tget_set], ?_, ?_, ?_⟩
    · rw [(hat _).1, hadv]; congr 3; simp [evP, hk]; omega
    · rw [(hat _).2]; congr 2; simp [evP, hk]
    · intro n hn hc
      show T.get (T.set (T.set _ _ _) _ _) _ = _
      rw [T.get_set_ne _ _ (by omega), T.get_set_ne _ _ hc]; exact hko3 n hn hc
  ·
    rw [hk] at he2' he3' he3
    refine ACode.seq (ACode.regD (oneT_okP c2) names_ok mix (t' := ?_) (L' := ?_) [0,0,2,7,15,31,31,63,255] [1,2,0,3,4,5,6,7,8] (by decide +kernel) (by decide +kernel) (by decide +kernel) ?_ ?_)
    rotate_left 2
    · refine dq rfl rfl rfl rfl (by simp [go_sem, X, he2', he3', hm3, Ev.lookup, Ev.findEnt, eqN3', tm140, z138, oneT_sameP, Try.f47]; rfl) ?_
      refine dr rfl rfl rfl rfl (by simp [go_sem, X, he2', he3', hm3, Ev.lookup, Ev.findEnt, eqN3', tm140, z138, oneT_sameP, Try.f47]; rfl) ?_
      refine dl rfl rfl rfl rfl (by simp [go_sem, X, he2', he3', hm3, Ev.lookup, Ev.findEnt, eqN3', tm140, z138, oneT_sameP, Try.f47]; rfl) (by rfl) (by simp [go_sem, X, he2', he3', hm3, Ev.lookup, Ev.findEnt, eqN3', tm140, z138, oneT_sameP, Try.f47]) ?_
      refine dr rfl rfl rfl rfl (by simp [go_sem, X, he2', he3', hm3, Ev.lookup, Ev.findEnt, eqN3', tm140, z138, oneT_sameP, Try.f47]; rfl) ?_
      iterate 5 (refine dq rfl rfl rfl rfl (by simp [go_sem, X, he2', he3', hm3, Ev.lookup, Ev.findEnt, eqN3', tm140, z138, oneT_sameP, Try.f47]; rfl) ?_)
      rfl
    refine ACode.seq (ACode.regS noT_ok names_ok mix (t' := ?_) (L' := ?_) [0] (by rfl) ?_ ?_)
    rotate_left 2
    · refine sq rfl rfl rfl (by simp [go_sem, X, Try.f47]; rfl) ?_
      rfl
    refine ACode.condT (by simp [tget_set, opd]) ?_
    have c3 := text_ok hR3 he3 hel3 (by omega) rfl
    have hat := fun cs => setRE_at (L := A3) (v := advV (1 + tlen bs.tail) (nextV v)) (cs := cs) (show L.next + 1 ≠ c by omega)
    have hadv : advV (1 + tlen bs.tail) (nextV v) = advV (1 + (1 + tlen bs.tail)) v := advV_add 1 v _
    unfold rdV at c3
    refine ACode.regS (oneT_okP c3) names_ok mix (t' := ?_) (L' := ?_) [0, 1, 2] (by rfl) ?_ ?_
    rotate_left 2
    · iterate 3 (refine sq rfl rfl rfl (by simp [go_sem, X, hbx3', oneT_sameP, Try.f47]; rfl) ?_)
      rfl
    refine ⟨rfl, rfl, by simp [tget_set], ?_, ?_, ?_⟩
    · rw [(hat _).1, hadv]; congr 3; simp [evP, hk]; omega
    · rw [(hat _).2]; congr 2; simp [evP, hk]
    · intro n hn hc
      show T.get (T.set (T.set _ _ _) _ _) _ = _
      rw [T.get_set_ne _ _ (by omega), T.get_set_ne _ _ hc]; exact hko3 n hn hc
  ·
    rw [hk] at he2' he3' he3
    refine ACode.seq (ACode.regD (oneT_okP c2) names_ok mix (t' := ?_) (L' := ?_) [0,0,2,7,15,31,31,63,255] [1,2,0,3,4,5,6,7,8] (by decide +kernel) (by decide +kernel) (by decide +kernel) ?_ ?_)
    rotate_left 2
    · refine dq rfl rfl rfl rfl (by simp [go_sem, X, he2', he3', hm3, Ev.lookup, Ev.findEnt, eqN3', tm140, z138, oneT_sameP, Try.f47]; rfl) ?_
      refine dr rfl rfl rfl rfl (by simp [go_sem, X, he2', he3', hm3, Ev.lookup, Ev.findEnt, eqN3', tm140, z138, oneT_sameP, Try.f47]; rfl) ?_
      refine dl rfl rfl rfl rfl (by simp [go_sem, X, he2', he3', hm3, Ev.lookup, Ev.findEnt, eqN3', tm140, z138, oneT_sameP, Try.f47]; rfl) (by rfl) (by simp [go_sem, X, he2', he3', hm3, Ev.lookup, Ev.findEnt, eqN3', tm140, z138, oneT_sameP, Try.f47]) ?_
      refine dr rfl rfl rfl rfl (by simp [go_sem, X, he2', he3', hm3, Ev.lookup, Ev.findEnt, eqN3', tm140, z138, oneT_sameP, Try.f47]; rfl) ?_
      iterate 5 (refine dq rfl rfl rfl rfl (by simp [go_sem, X, he2', he3', hm3, Ev.lookup, Ev.findEnt, eqN3', tm140, z138, oneT_sameP, Try.f47]; rfl) ?_)
      rfl
    refine ACode.seq (ACode.regS noT_ok names_ok mix (t' := ?_) (L' := ?_) [0] (by rfl) ?_ ?_)
    rotate_left 2
    · refine sq rfl rfl rfl (by simp [go_sem, X, Try.f47]; rfl) ?_
      rfl
    refine ACode.condT (by simp [tget_set, opd]) ?_
    have c3 := move_ok hR3 he3 hel3 (by omega) rfl
    have hat := fun cs => setRE_at (L := A3) (v := advV (4) (nextV v)) (cs := cs) (show L.next + 1 ≠ c by omega)
    have hadv : advV (4) (nextV v) = advV (1 + (4)) v := advV_add 1 v _
    unfold rdV at c3
    refine ACode.regS (oneT_okP c3) names_ok mix (t' := ?_) (L' := ?_) [0, 1, 2] (by rfl) ?_ ?_
    rotate_left 2
    · iterate 3 (refine sq rfl rfl rfl (by simp [go_sem, X, hbx3', oneT_sameP, Try.f47]; rfl) ?_)
      rfl
    refine ⟨rfl, rfl, by simp [tget_set], ?_, ?_, ?_⟩
    · rw [(hat _).1, hadv]; congr 3; simp [evP, hk]
    · rw [(hat _).2]; congr 2; simp [evP, hk]
    · intro n hn hc
      show T.get (T.set (T.set _ _ _) _ _) _ = _
      rw [T.get_set_ne _ _ (by omega), T.get_set_ne _ _ hc]; exact hko3 n hn hc
  ·
    rw [hk] at he2' he3' he3
    refine ACode.seq (ACode.regD (oneT_okP c2) names_ok mix (t' := ?_) (L' := ?_) [0,0,2,7,15,31,31,63,255] [1,2,0,3,4,5,6,7,8] (by decide +kernel) (by decide +kernel) (by decide +kernel) ?_ ?_)
    rotate_left 2
    · refine dq rfl rfl rfl rfl (by simp [go_sem, X, he2', he3', hm3, Ev.lookup, Ev.findEnt, eqN3', tm140, z138, oneT_sameP, Try.f47]; rfl) ?_
      refine dr rfl rfl rfl rfl (by simp [go_sem, X, he2', he3', hm3, Ev.lookup, Ev.findEnt, eqN3', tm140, z138, oneT_sameP, Try.f47]; rfl) ?_
      refine dl rfl rfl rfl rfl (by simp [go_sem, X, he2', he3', hm3, Ev.lookup, Ev.findEnt, eqN3', tm140, z138, oneT_sameP, Try.f47]; rfl) (by rfl) (by simp [go_sem, X, he2', he3', hm3, Ev.lookup, Ev.findEnt, eqN3', tm140, z138, oneT_sameP, Try.f47]) ?_
      refine dr rfl rfl rfl rfl (by simp [go_sem, X, he2', he3', hm3, Ev.lookup, Ev.findEnt, eqN3', tm140, z138, oneT_sameP, Try.f47]; rfl) ?_
      iterate 5 (refine dq rfl rfl rfl rfl (by simp [go_sem, X, he2', he3', hm3, Ev.lookup, Ev.findEnt, eqN3', tm140, z138, oneT_sameP, Try.f47]; rfl) ?_)
      rfl
    refine ACode.seq (ACode.regS noT_ok names_ok mix (t' := ?_) (L' := ?_) [0] (by rfl) ?_ ?_)
    rotate_left 2
    · refine sq rfl rfl rfl (by simp [go_sem, X, Try.f47]; rfl) ?_
      rfl
    refine ACode.condT (by simp [tget_set, opd]) ?_
    have c3 := size_ok hR3 he3 hel3 (by omega) rfl
    have hat := fun cs => setRE_at (L := A3) (v := advV (2) (nextV v)) (cs := cs) (show L.next + 1 ≠ c by omega)
    have hadv : advV (2) (nextV v) = advV (1 + (2)) v := advV_add 1 v _
    unfold rdV at c3
    refine ACode.regS (oneT_okP c3) names_ok mix (t' := ?_) (L' := ?_) [0, 1, 2] (by rfl) ?_ ?_
    rotate_left 2
    · iterate 3 (refine sq rfl rfl rfl (by simp [go_sem, X, hbx3', oneT_sameP, Try.f47]; rfl) ?_)
      rfl
    refine ⟨rfl, rfl, by simp [tget_set], ?_, ?_, ?_⟩
    · rw [(hat _).1, hadv]; congr 3; simp [evP, hk]
    · rw [(hat _).2]; congr 2; simp [evP, hk]
    · intro n hn hc
      show T.get (T.set (T.set _ _ _) _ _) _ = _
      rw [T.get_set_ne _ _ (by omega), T.get_set_ne _ _ hc]; exact hko3 n hn hc
  ·
    rw [hk] at he2' he3' he3
    refine ACode.seq (ACode.regD (oneT_okP c2) names_ok mix (t' := ?_) (L' := ?_) [0,0,2,7,15,31,31,63,255] [1,2,0,3,4,5,6,7,8] (by decide +kernel) (by decide +kernel) (by decide +kernel) ?_ ?_)
    rotate_left 2
    · refine dq rfl rfl rfl rfl (by simp [go_sem, X, he2', he3', hm3, Ev.lookup, Ev.findEnt, eqN3', tm140, z138, oneT_sameP, Try.f47]; rfl) ?_
      refine dr rfl rfl rfl rfl (by simp [go_sem, X, he2', he3', hm3, Ev.lookup, Ev.findEnt, eqN3', tm140, z138, oneT_sameP, Try.f47]; rfl) ?_
      refine dl rfl rfl rfl rfl (by simp [go_sem, X, he2', he3', hm3, Ev.lookup, Ev.findEnt, eqN3', tm140, z138, oneT_sameP, Try.f47]; rfl) (by rfl) (by simp [go_sem, X, he2', he3', hm3, Ev.lookup, Ev.findEnt, eqN3', tm140, z138, oneT_sameP, Try.f47]) ?_
      refine dr rfl rfl rfl rfl (by simp [go_sem, X, he2', he3', hm3, Ev.lookup, Ev.findEnt, eqN3', tm140, z138, oneT_sameP, Try.f47]; rfl) ?_
      iterate 5 (refine dq rfl rfl rfl rfl (by simp [go_sem, X, he2', he3', hm3, Ev.lookup, Ev.findEnt, eqN3', tm140, z138, oneT_sameP, Try.f47]; rfl) ?_)
      rfl
    refine ACode.seq (ACode.regS noT_ok names_ok mix (t' := ?_) (L' := ?_) [0] (by rfl) ?_ ?_)
    rotate_left 2
    · refine sq rfl rfl rfl (by simp [go_sem, X, Try.f47]; rfl) ?_
      rfl
    refine ACode.condT (by simp [tget_set, opd]) ?_
    have c3 := what_ok hR3 he3 hel3 (by omega) rfl
    have hat := fun cs => setRE_at (L := A3) (v := advV (1) (nextV v)) (cs := cs) (show L.next + 1 ≠ c by omega)
    have hadv : advV (1) (nextV v) = advV (1 + (1)) v := advV_add 1 v _
    unfold rdV at c3
    refine ACode.regS (oneT_okP c3) names_ok mix (t' := ?_) (L' := ?_) [0, 1, 2] (by rfl) ?_ ?_
    rotate_left 2
    · iterate 3 (refine sq rfl rfl rfl (by simp [go_sem, X, hbx3', oneT_sameP, Try.f47]; rfl) ?_)
      rfl
    refine ⟨rfl, rfl, by simp [tget_set], ?_, ?_, ?_⟩
    · rw [(hat _).1, hadv]; congr 3; simp [evP, hk]
    · rw [(hat _).2]; congr 2; simp [evP, hk]
    · intro n hn hc
      show T.get (T.set (T.set _ _ _) _ _) _ = _
      rw [T.get_set_ne _ _ (by omega), T.get_set_ne _ _ hc]; exact hko3 n hn hc
  ·
    rw [hk] at he2' he3' he3
    refine ACode.seq (ACode.regD (oneT_okP c2) names_ok mix (t' := ?_) (L' := ?_) [0,0,2,7,15,31,31,63,255] [1,2,0,3,4,5,6,7,8] (by decide +kernel) (by decide +kernel) (by decide +kernel) ?_ ?_)
    rotate_left 2
    · refine dq rfl rfl rfl rfl (by simp [go_sem, X, he2', he3', hm3, Ev.lookup, Ev.findEnt, eqN3', tm140, z138, oneT_sameP, Try.f47]; rfl) ?_
      refine dr rfl rfl rfl rfl (by simp [go_sem, X, he2', he3', hm3, Ev.lookup, Ev.findEnt, eqN3', tm140, z138, oneT_sameP, Try.f47]; rfl) ?_
      refine dl rfl rfl rfl rfl (by simp [go_sem, X, he2', he3', hm3, Ev.lookup, Ev.findEnt, eqN3', tm140, z138, oneT_sameP, Try.f47]; rfl) (by rfl) (by simp [go_sem, X, he2', he3', hm3, Ev.lookup, Ev.findEnt, eqN3', tm140, z138, oneT_sameP, Try.f47]) ?_
      refine dr rfl rfl rfl rfl (by simp [go_sem, X, he2', he3', hm3, Ev.lookup, Ev.findEnt, eqN3', tm140, z138, oneT_sameP, Try.f47]; rfl) ?_
      iterate 5 (refine dq rfl rfl rfl rfl (by simp [go_sem, X, he2', he3', hm3, Ev.lookup, Ev.findEnt, eqN3', tm140, z138, oneT_sameP, Try.f47]; rfl) ?_)
      rfl
    refine ACode.seq (ACode.regS noT_ok names_ok mix (t' := ?_) (L' := ?_) [0] (by rfl) ?_ ?_)
    rotate_left 2
    · refine sq rfl rfl rfl (by simp [go_sem, X, Try.f47]; rfl) ?_
      rfl
    refine ACode.condF (by simp [tget_set, opd]) (ACode.skip ?_)
    refine ⟨rfl, rfl, by simp [tget_set], ?_, ?_, hko3⟩
    · rw [hR3.cell]; congr 2; simp [evP, hk]; rfl
    · rw [he3]; congr 2; simp [evP, hk]
end Go.Proofs.Ytpfmoolpeecobaa
