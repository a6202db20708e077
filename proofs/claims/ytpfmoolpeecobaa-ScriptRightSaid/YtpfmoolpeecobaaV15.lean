/- A page and its base (131, 130, 123, 109). A terminal, a source (110, 88, 57). -/
import Derived.Test.YtpfmoolpeecobaaV14
namespace Go.Proofs.Ytpfmoolpeecobaa
open Go Go.Proofs Go.Proofs.Ytpfmoolpeecobaa.Ev
set_option linter.unusedVariables false
set_option linter.unusedSimpArgs false
set_option maxRecDepth 100000
set_option maxHeartbeats 4000000

theorem qz21 : zeroV Try.prog 21 = some (.int .i32 0) := by kernel_rfl
theorem qs21 : sizeT Try.prog 21 = some 1 := by kernel_rfl
theorem qa21 : isAggT Try.prog 21 = some false := by kernel_rfl
theorem qt21 : tySlice Try.prog 21 = none := by kernel_rfl
theorem qi21 : tyInt Try.prog 21 = some .i32 := by kernel_rfl
theorem qz197 : zeroV Try.prog 197 = some (.nilp) := by kernel_rfl
theorem qs197 : sizeT Try.prog 197 = some 1 := by kernel_rfl
theorem qa197 : isAggT Try.prog 197 = some false := by kernel_rfl
theorem qt197 : tySlice Try.prog 197 = none := by kernel_rfl
theorem qi197 : tyInt Try.prog 197 = none := by kernel_rfl
theorem qz228 : zeroV Try.prog 228 = some (.agg [.int .i64 0, .int .i64 0, .int .i64 0, .int .i64 0, .bool false, .int .u8 0]) := by kernel_rfl
theorem qs228 : sizeT Try.prog 228 = some 6 := by kernel_rfl
theorem qa228 : isAggT Try.prog 228 = some true := by kernel_rfl
theorem qt228 : tySlice Try.prog 228 = none := by kernel_rfl
theorem qi228 : tyInt Try.prog 228 = none := by kernel_rfl
theorem qf228 : tyStruct Try.prog 228 = some #[{ name := "Area", type := 225, offset := 0, embedded := true, tag := "", pkgPath := "", byteOffset := 0 }] := by kernel_rfl
theorem qz232 : zeroV Try.prog 232 = some (.agg [.nilp, .nilp]) := by kernel_rfl
theorem qs232 : sizeT Try.prog 232 = some 2 := by kernel_rfl
theorem qa232 : isAggT Try.prog 232 = some true := by kernel_rfl
theorem qt232 : tySlice Try.prog 232 = none := by kernel_rfl
theorem qi232 : tyInt Try.prog 232 = none := by kernel_rfl
theorem qr232 : tyArray Try.prog 232 = some (2, 231) := by kernel_rfl
theorem qz236 : zeroV Try.prog 236 = some (.agg [.int .u64 0, .int .u64 0, .int .u64 0, .int .u64 0, .int .u64 0, .int .u64 0, .int .u64 0, .int .u64 0, .int .i64 0, .int .u8 0, .int .u8 0]) := by kernel_rfl
theorem qs236 : sizeT Try.prog 236 = some 11 := by kernel_rfl
theorem qa236 : isAggT Try.prog 236 = some true := by kernel_rfl
theorem qt236 : tySlice Try.prog 236 = none := by kernel_rfl
theorem qi236 : tyInt Try.prog 236 = none := by kernel_rfl
theorem qf236 : tyStruct Try.prog 236 = some #[{ name := "at", type := 234, offset := 0, embedded := false, tag := "", pkgPath := "marquee/tabs", byteOffset := 0 }, { name := "cols", type := 3, offset := 8, embedded := false, tag := "", pkgPath := "marquee/tabs", byteOffset := 64 }, { name := "label", type := 51, offset := 9, embedded := false, tag := "", pkgPath := "marquee/tabs", byteOffset := 72 }, { name := "base", type := 51, offset := 10, embedded := false, tag := "", pkgPath := "marquee/tabs", byteOffset := 73 }] := by kernel_rfl
theorem qz239 : zeroV Try.prog 239 = some (.agg [.int .u16 0]) := by kernel_rfl
theorem qs239 : sizeT Try.prog 239 = some 1 := by kernel_rfl
theorem qa239 : isAggT Try.prog 239 = some true := by kernel_rfl
theorem qt239 : tySlice Try.prog 239 = none := by kernel_rfl
theorem qi239 : tyInt Try.prog 239 = none := by kernel_rfl
theorem qf239 : tyStruct Try.prog 239 = some #[{ name := "set", type := 237, offset := 0, embedded := false, tag := "", pkgPath := "marquee/mode", byteOffset := 0 }] := by kernel_rfl
theorem qz241 : zeroV Try.prog 241 = some (.agg [.int .i64 0, .int .i64 0, .int .i64 0, .int .i64 0, .bool false, .int .u8 0, .int .i64 0, .int .i64 0, .bool false, .int .u8 0, .nilp, .nilp, .nilp, .int .i64 0, .int .u64 0, .int .u64 0, .int .u64 0, .int .u64 0, .int .u64 0, .int .u64 0, .int .u64 0, .int .u64 0, .int .i64 0, .int .u8 0, .int .u8 0, .int .u16 0, .int .u8 0, .int .u8 0, .int .u8 0, .int .u8 0, .int .u8 0, .int .u8 0, .int .u8 0, .int .u8 0, .int .u16 0, .int .i32 0, .int .u8 0]) := by kernel_rfl
theorem qs241 : sizeT Try.prog 241 = some 37 := by kernel_rfl
theorem qa241 : isAggT Try.prog 241 = some true := by kernel_rfl
theorem qt241 : tySlice Try.prog 241 = none := by kernel_rfl
theorem qi241 : tyInt Try.prog 241 = none := by kernel_rfl
theorem qf241 : tyStruct Try.prog 241 = some #[{ name := "bounds", type := 228, offset := 0, embedded := true, tag := "", pkgPath := "marquee/page", byteOffset := 0 }, { name := "cur", type := 203, offset := 6, embedded := false, tag := "", pkgPath := "marquee/page", byteOffset := 40 }, { name := "grids", type := 232, offset := 10, embedded := false, tag := "", pkgPath := "marquee/page", byteOffset := 64 }, { name := "lines", type := 229, offset := 12, embedded := false, tag := "", pkgPath := "marquee/page", byteOffset := 80 }, { name := "room", type := 3, offset := 13, embedded := false, tag := "", pkgPath := "marquee/page", byteOffset := 88 }, { name := "tabs", type := 236, offset := 14, embedded := false, tag := "", pkgPath := "marquee/page", byteOffset := 96 }, { name := "modes", type := 239, offset := 25, embedded := false, tag := "", pkgPath := "marquee/page", byteOffset := 176 }, { name := "attr", type := 207, offset := 26, embedded := false, tag := "", pkgPath := "marquee/page", byteOffset := 178 }, { name := "last", type := 21, offset := 35, embedded := false, tag := "", pkgPath := "marquee/page", byteOffset := 188 }, { name := "known", type := 51, offset := 36, embedded := false, tag := "", pkgPath := "marquee/page", byteOffset := 192 }] := by kernel_rfl
theorem qz249 : zeroV Try.prog 249 = some (.nilf) := by kernel_rfl
theorem qs249 : sizeT Try.prog 249 = some 1 := by kernel_rfl
theorem qa249 : isAggT Try.prog 249 = some false := by kernel_rfl
theorem qt249 : tySlice Try.prog 249 = none := by kernel_rfl
theorem qi249 : tyInt Try.prog 249 = none := by kernel_rfl
set_option linter.defProp false in
/-- facts of types, in one -/
def TYJ := And.intro @qz21 (And.intro @qs21 (And.intro @qa21 (And.intro @qt21 (And.intro @qi21 (And.intro @Try.underlying21 (And.intro @qz197 (And.intro @qs197 (And.intro @qa197 (And.intro @qt197 (And.intro @qi197 (And.intro @Try.underlying197 (And.intro @qz228 (And.intro @qs228 (And.intro @qa228 (And.intro @qt228 (And.intro @qi228 (And.intro @qf228 (And.intro @Try.underlying228 (And.intro @qz232 (And.intro @qs232 (And.intro @qa232 (And.intro @qt232 (And.intro @qi232 (And.intro @qr232 (And.intro @Try.underlying232 (And.intro @qz236 (And.intro @qs236 (And.intro @qa236 (And.intro @qt236 (And.intro @qi236 (And.intro @qf236 (And.intro @Try.underlying236 (And.intro @qz239 (And.intro @qs239 (And.intro @qa239 (And.intro @qt239 (And.intro @qi239 (And.intro @qf239 (And.intro @Try.underlying239 (And.intro @qz241 (And.intro @qs241 (And.intro @qa241 (And.intro @qt241 (And.intro @qi241 (And.intro @qf241 (And.intro @Try.underlying241 (And.intro @qz249 (And.intro @qs249 (And.intro @qa249 (And.intro @qt249 (And.intro @qi249 (@Try.underlying249))))))))))))))))))))))))))))))))))))))))))))))))))))
attribute [go_sem] TYJ

theorem load_keep {L L' : Heap} {ty : TypeId} {p o : Nat} (h : L'.t.get p = L.t.get p) : Heap.load Try.prog L' ty p o = Heap.load Try.prog L ty p o := by
  simp only [Heap.load, Heap.elem, h]
theorem base1_ok {L : Heap} {b p : Nat} {l : Int} (hb : Heap.load Try.prog L 197 b 0 = some (.ptr p 0)) (hl : Heap.load Try.prog L 51 p 5 = some (.int .u8 l)) : ACall Try.prog 131 [.ptr b 0] L (.int .u8 l) L := by
  refine ACall.of_body_same Try.func131 rfl ?_
  refine ACode.seq (ACode.regS noT_ok names_ok mix (t' := ?_) (L' := ?_) [0] (by rfl) ?_ ?_)
  rotate_left 2
  · refine sq rfl rfl rfl (by simp [go_sem, X, Try.f131]; rfl) ?_
    rfl
  refine ACode.seq (ACode.regS noT_ok names_ok mix (t' := ?_) (L' := ?_) [0, 1, 2, 3, 4, 5, 6] (by rfl) ?_ ?_)
  rotate_left 2
  · iterate 7 (refine sq rfl rfl rfl (by simp [go_sem, xs, xe, xa, xi, xo, xb, xq, xv, xc, xk, hb, hl, Try.f131]; rfl) ?_)
    rfl
  exact ACode.ret ⟨.inr rfl, [.int .u8 l], rfl, by simp [Try.f131, resVals, tget_set], rfl⟩
theorem baseOf_ok {L : Heap} {b p : Nat} {l : Int} (hb : Heap.load Try.prog L 197 b 0 = some (.ptr p 0)) (hl : Heap.load Try.prog L 51 p 5 = some (.int .u8 l)) : ACall Try.prog 130 [.ptr p 0, .func 131 [] [.ptr b 0]] L (.int .u8 l) L := by
  have hc := base1_ok hb hl
  have hz : Ev.ofVal (.pointer none) = some .nilp := rfl
  refine ACall.of_body_same Try.func130 rfl ?_
  refine ACode.seq (ACode.regS noT_ok names_ok mix (t' := ?_) (L' := ?_) [0] (by rfl) ?_ ?_)
  rotate_left 2
  · refine sq rfl rfl rfl (by simp [go_sem, X, Try.f130]; rfl) ?_
    rfl
  refine ACode.seq ?_
  refine ACode.seq (ACode.regS noT_ok names_ok mix (t' := ?_) (L' := ?_) [0, 1] (by rfl) ?_ ?_)
  rotate_left 2
  · iterate 2 (refine sq rfl rfl rfl (by simp [go_sem, X, hz, Ev.equalV, Try.f130]; rfl) ?_)
    rfl
  refine ACode.condT (by simp [tget_set, opd]) ?_
  refine ACode.regS (oneT_okP hc) names_ok mix (t' := ?_) (L' := ?_) [0, 1, 2] (by rfl) ?_ ?_
  rotate_left 2
  · iterate 3 (refine sq rfl rfl rfl (by simp [go_sem, X, oneT_sameP, Try.f130]; rfl) ?_)
    rfl
  show ACode _ _ _ _ _ _ _
  refine ACode.seq (ACode.regS noT_ok names_ok mix (t' := ?_) (L' := ?_) [0, 1] (by rfl) ?_ ?_)
  rotate_left 2
  · iterate 2 (refine sq rfl rfl rfl (by simp [go_sem, X, Try.f130]; rfl) ?_)
    rfl
  exact ACode.ret ⟨.inr rfl, [.int .u8 l], rfl, by simp [Try.f130, resVals, tget_set], rfl⟩
theorem base_ok {L : Heap} {p : Nat} {l : Int} (hp : p < L.next) (hl : Heap.load Try.prog L 51 p 5 = some (.int .u8 l)) : ACall Try.prog 123 [.ptr p 0] L (.int .u8 l) L := by
  obtain ⟨A, hA⟩ : ∃ A : Heap, A = ⟨L.t.set L.next (.cells (T.set .leaf 0 [.ptr p 0]) 1 1 false false), L.next + 1⟩ := ⟨_, rfl⟩
  have gA : A.t.get L.next = some (.cells (T.set .leaf 0 [.ptr p 0]) 1 1 false false) := by rw [hA]; exact T.get_set_same _ _ _
  have kA : ∀ k, k < L.next → A.t.get k = L.t.get k := fun k hk => by rw [hA]; exact T.get_set_ne _ _ (by omega)
  have hb : Heap.load Try.prog A 197 L.next 0 = some (.ptr p 0) := by simp [Heap.load, Heap.elem, gA, T.get_set, Ev.part, qa197]
  have hc := baseOf_ok hb (by rw [load_keep (kA p hp)]; exact hl)
  refine ACall.of_body Try.func123 rfl ?_
  refine ACode.seq (ACode.regS noT_ok names_ok mix (t' := ?_) (L' := ?_) [0, 1] (by rfl) ?_ ?_)
  rotate_left 2
  · iterate 2 (refine sq rfl rfl rfl (by simp [go_sem, X, Try.f123]; rfl) ?_)
    rfl
  change ACode _ _ _ _ _ ⟨L.t.set L.next (.cells (T.set .leaf 0 [.ptr p 0]) 1 1 false false), L.next + 1⟩ _
  rw [← hA]
  refine ACode.seq (ACode.regS (oneT_okP hc) names_ok mix (t' := ?_) (L' := ?_) [0, 1, 2, 3] (by rfl) ?_ ?_)
  rotate_left 2
  · iterate 4 (refine sq rfl rfl rfl (by simp [go_sem, xs, xe, xa, xi, xo, xb, xq, xv, xc, xk, hb, oneT_sameP, Try.f123]; rfl) ?_)
    rfl
  exact ACode.ret (tidy0 (.inr rfl) (vs := [.int .u8 l]) (by simp [Try.f123, resVals, tget_set]) rfl rfl kA)
theorem eleven_of {cs : List V} (h : cs.length = 11) : ∃ x0 x1 x2 x3 x4 x5 x6 x7 x8 x9 x10, cs = [x0, x1, x2, x3, x4, x5, x6, x7, x8, x9, x10] := by
  match cs, h with
  | [x0, x1, x2, x3, x4, x5, x6, x7, x8, x9, x10], _ => exact ⟨x0, x1, x2, x3, x4, x5, x6, x7, x8, x9, x10, rfl⟩
theorem one_of {cs : List V} (h : cs.length = 1) : ∃ x, cs = [x] := by
  match cs, h with
  | [x], _ => exact ⟨x, rfl⟩
/-- page.New: the page stands, with its base -/
theorem pageNew_ok (n w : Nat) (l most : Int) (hn : 1 ≤ n ∧ n ≤ 512) (hw : 1 ≤ w ∧ w ≤ 40) (hl : 0 ≤ l ∧ l ≤ 1) (hm : 0 ≤ most ∧ most ≤ 1000) (L : Heap) :
    ∃ L' p, ACall Try.prog 109 [.int .i64 (n : Int), .int .i64 (w : Int), .int .u8 l, .int .i64 most] L (.ptr p 0) L' ∧ L.next ≤ p ∧ p < L'.next ∧ (∀ k, k < L.next → L'.t.get k = L.t.get k) ∧ Heap.load Try.prog L' 51 p 5 = some (.int .u8 l) := by
  obtain ⟨tb, ct, lt, st⟩ := tabsNew_ok (w : Int) l (by omega) hl
  obtain ⟨x0, x1, x2, x3, x4, x5, x6, x7, x8, x9, x10, rfl⟩ := eleven_of lt
  obtain ⟨md, cm, lm, sm⟩ := modeNew_ok
  obtain ⟨m0, rfl⟩ := one_of lm
  simp only [List.all_cons, List.all_nil, Bool.and_true, Bool.and_eq_true] at st sm
  have ca := areaNew_ok (n : Int) (w : Int) l (by omega) (by omega) L
  have cr := ringNew_ok most l hm L
  obtain ⟨A1, hA1⟩ : ∃ A : Heap, A = ⟨L.t.set (L.next + 1) (.cells (T.set .leaf 0 [.int .i64 (n : Int), .int .i64 (w : Int), .int .i64 0, .int .i64 ((n : Int) - 1), .bool false, .int .u8 l, .int .i64 0, .int .i64 0, .bool false, .int .u8 0, .nilp, .nilp, .ptr L.next 0, .int .i64 most, .int .u64 0, .int .u64 0, .int .u64 0, .int .u64 0, .int .u64 0, .int .u64 0, .int .u64 0, .int .u64 0, .int .i64 0, .int .u8 0, .int .u8 0, .int .u16 0, .int .u8 0, .int .u8 0, .int .u8 0, .int .u8 0, .int .u8 0, .int .u8 0, .int .u8 0, .int .u8 0, .int .u16 0, .int .i32 0, .int .u8 l]) 1 37 false false), L.next + 2⟩ := ⟨_, rfl⟩
  have g1 : A1.t.get (L.next + 1) = some (.cells (T.set .leaf 0 [.int .i64 (n : Int), .int .i64 (w : Int), .int .i64 0, .int .i64 ((n : Int) - 1), .bool false, .int .u8 l, .int .i64 0, .int .i64 0, .bool false, .int .u8 0, .nilp, .nilp, .ptr L.next 0, .int .i64 most, .int .u64 0, .int .u64 0, .int .u64 0, .int .u64 0, .int .u64 0, .int .u64 0, .int .u64 0, .int .u64 0, .int .i64 0, .int .u8 0, .int .u8 0, .int .u16 0, .int .u8 0, .int .u8 0, .int .u8 0, .int .u8 0, .int .u8 0, .int .u8 0, .int .u8 0, .int .u8 0, .int .u16 0, .int .i32 0, .int .u8 l]) 1 37 false false) := by rw [hA1]; exact T.get_set_same _ _ _
  have k1 : ∀ k, k < L.next → A1.t.get k = L.t.get k := fun k hk => by rw [hA1]; exact T.get_set_ne _ _ (by omega)
  have n1 : A1.next = L.next + 2 := by rw [hA1]
  have cg1 := gridNew_ok n w hn (by omega) [.int .i32 0, .int .i32 0, .int .i32 0, .int .u8 0, .int .u8 0, .int .u8 0, .int .u8 0, .int .u8 0, .int .u8 0, .int .u8 0, .int .u8 0, .int .u8 0, .int .u16 0, .int .u8 l] rfl rfl A1
  obtain ⟨A2, hA2⟩ : ∃ A : Heap, A = ⟨A1.t.set (L.next + 1) (.cells (T.set .leaf 0 [.int .i64 (n : Int), .int .i64 (w : Int), .int .i64 0, .int .i64 ((n : Int) - 1), .bool false, .int .u8 l, .int .i64 0, .int .i64 0, .bool false, .int .u8 0, .ptr (L.next + 2) 0, .nilp, .ptr L.next 0, .int .i64 most, .int .u64 0, .int .u64 0, .int .u64 0, .int .u64 0, .int .u64 0, .int .u64 0, .int .u64 0, .int .u64 0, .int .i64 0, .int .u8 0, .int .u8 0, .int .u16 0, .int .u8 0, .int .u8 0, .int .u8 0, .int .u8 0, .int .u8 0, .int .u8 0, .int .u8 0, .int .u8 0, .int .u16 0, .int .i32 0, .int .u8 l]) 1 37 false false), L.next + 3⟩ := ⟨_, rfl⟩
  have g2 : A2.t.get (L.next + 1) = some (.cells (T.set .leaf 0 [.int .i64 (n : Int), .int .i64 (w : Int), .int .i64 0, .int .i64 ((n : Int) - 1), .bool false, .int .u8 l, .int .i64 0, .int .i64 0, .bool false, .int .u8 0, .ptr (L.next + 2) 0, .nilp, .ptr L.next 0, .int .i64 most, .int .u64 0, .int .u64 0, .int .u64 0, .int .u64 0, .int .u64 0, .int .u64 0, .int .u64 0, .int .u64 0, .int .i64 0, .int .u8 0, .int .u8 0, .int .u16 0, .int .u8 0, .int .u8 0, .int .u8 0, .int .u8 0, .int .u8 0, .int .u8 0, .int .u8 0, .int .u8 0, .int .u16 0, .int .i32 0, .int .u8 l]) 1 37 false false) := by rw [hA2]; exact T.get_set_same _ _ _
  have k2 : ∀ k, k < L.next → A2.t.get k = L.t.get k := fun k hk => by rw [hA2]; show T.get (T.set _ _ _) _ = _; rw [T.get_set_ne _ _ (by omega)]; exact k1 k hk
  have n2 : A2.next = L.next + 3 := by rw [hA2]
  have cg2 := gridNew_ok n w hn (by omega) [.int .i32 0, .int .i32 0, .int .i32 0, .int .u8 0, .int .u8 0, .int .u8 0, .int .u8 0, .int .u8 0, .int .u8 0, .int .u8 0, .int .u8 0, .int .u8 0, .int .u16 0, .int .u8 l] rfl rfl A2
  obtain ⟨A3, hA3⟩ : ∃ A : Heap, A = ⟨A2.t.set (L.next + 1) (.cells (T.set .leaf 0 [.int .i64 (n : Int), .int .i64 (w : Int), .int .i64 0, .int .i64 ((n : Int) - 1), .bool false, .int .u8 l, .int .i64 0, .int .i64 0, .bool false, .int .u8 0, .ptr (L.next + 2) 0, .ptr (L.next + 3) 0, .ptr L.next 0, .int .i64 most, .int .u64 0, .int .u64 0, .int .u64 0, .int .u64 0, .int .u64 0, .int .u64 0, .int .u64 0, .int .u64 0, .int .i64 0, .int .u8 0, .int .u8 0, .int .u16 0, .int .u8 0, .int .u8 0, .int .u8 0, .int .u8 0, .int .u8 0, .int .u8 0, .int .u8 0, .int .u8 0, .int .u16 0, .int .i32 0, .int .u8 l]) 1 37 false false), L.next + 4⟩ := ⟨_, rfl⟩
  have g3 : A3.t.get (L.next + 1) = some (.cells (T.set .leaf 0 [.int .i64 (n : Int), .int .i64 (w : Int), .int .i64 0, .int .i64 ((n : Int) - 1), .bool false, .int .u8 l, .int .i64 0, .int .i64 0, .bool false, .int .u8 0, .ptr (L.next + 2) 0, .ptr (L.next + 3) 0, .ptr L.next 0, .int .i64 most, .int .u64 0, .int .u64 0, .int .u64 0, .int .u64 0, .int .u64 0, .int .u64 0, .int .u64 0, .int .u64 0, .int .i64 0, .int .u8 0, .int .u8 0, .int .u16 0, .int .u8 0, .int .u8 0, .int .u8 0, .int .u8 0, .int .u8 0, .int .u8 0, .int .u8 0, .int .u8 0, .int .u16 0, .int .i32 0, .int .u8 l]) 1 37 false false) := by rw [hA3]; exact T.get_set_same _ _ _
  have k3 : ∀ k, k < L.next → A3.t.get k = L.t.get k := fun k hk => by rw [hA3]; show T.get (T.set _ _ _) _ = _; rw [T.get_set_ne _ _ (by omega)]; exact k2 k hk
  have n3 : A3.next = L.next + 4 := by rw [hA3]
  have ch := home_ok (n : Int) (w : Int) 0 ((n : Int) - 1) l (by omega) (by omega) A3
  have ct3 := ct A3
  have cm3 := cm A3
  unfold arV at ca ch
  unfold crV at ch
  rw [n1] at cg1
  rw [n2] at cg2
  obtain ⟨A4, hA4⟩ : ∃ A : Heap, A = ⟨A3.t.set (L.next + 1) (.cells (T.set .leaf 0 [.int .i64 (n : Int), .int .i64 (w : Int), .int .i64 0, .int .i64 ((n : Int) - 1), .bool false, .int .u8 l, .int .i64 0, .int .i64 0, .bool false, .int .u8 l, .ptr (L.next + 2) 0, .ptr (L.next + 3) 0, .ptr L.next 0, .int .i64 most, x0, x1, x2, x3, x4, x5, x6, x7, x8, x9, x10, m0, .int .u8 0, .int .u8 0, .int .u8 0, .int .u8 0, .int .u8 0, .int .u8 0, .int .u8 0, .int .u8 0, .int .u16 0, .int .i32 0, .int .u8 l]) 1 37 false false), L.next + 4⟩ := ⟨_, rfl⟩
  refine ⟨A4, L.next + 1, ?_, by omega, by rw [hA4]; show L.next + 1 < L.next + 4; omega, fun k hk => by rw [hA4]; show T.get (T.set _ _ _) _ = _; rw [T.get_set_ne _ _ (by omega)]; exact k3 k hk, by rw [hA4]; simp [Heap.load, Heap.elem, T.get_set, Ev.part, pa51]⟩
  have hz : Ev.ofVal (.pointer none) = some .nilp := rfl
  refine ACall.of_body_same Try.func109 rfl ?_
  refine ACode.seq (ACode.regS noT_ok names_ok mix (t' := ?_) (L' := ?_) [0] (by rfl) ?_ ?_)
  rotate_left 2
  · refine sq rfl rfl rfl (by simp [go_sem, X, hz, Try.f109]; rfl) ?_
    rfl
  refine ACode.seq (ACode.regS ((oneT_okP ca).or (oneT_okP cr)) names_ok mix (t' := ?_) (L' := ?_) [0, 1, 2, 3, 4, 5, 6, 7, 8, 9, 10, 11, 12] (by rfl) ?_ ?_)
  rotate_left 2
  · iterate 13 (refine sq rfl rfl rfl (by simp [go_sem, X, orT, oneT_sameP, oneT_neP, nx, Try.f109]; rfl) ?_)
    rfl
  change ACode _ _ _ _ _ ⟨L.t.set (L.next + 1) (.cells (T.set .leaf 0 [.int .i64 (n : Int), .int .i64 (w : Int), .int .i64 0, .int .i64 ((n : Int) - 1), .bool false, .int .u8 l, .int .i64 0, .int .i64 0, .bool false, .int .u8 0, .nilp, .nilp, .ptr L.next 0, .int .i64 most, .int .u64 0, .int .u64 0, .int .u64 0, .int .u64 0, .int .u64 0, .int .u64 0, .int .u64 0, .int .u64 0, .int .i64 0, .int .u8 0, .int .u8 0, .int .u16 0, .int .u8 0, .int .u8 0, .int .u8 0, .int .u8 0, .int .u8 0, .int .u8 0, .int .u8 0, .int .u8 0, .int .u16 0, .int .i32 0, .int .u8 l]) 1 37 false false), L.next + 2⟩ _
  rw [← hA1]
  refine ACode.seq ?_
  refine ACode.seq (ACode.regS noT_ok names_ok mix (t' := ?_) (L' := ?_) [0] (by rfl) ?_ ?_)
  rotate_left 2
  · refine sq rfl rfl rfl (by simp [go_sem, X, Try.f109]; rfl) ?_
    rfl
  refine ACode.block (ACode.loop (fun t d A N => d = [] ∧ ∃ i : Nat, i ≤ 2 ∧ N = 2 - i ∧ (i = 0 → A = A1) ∧ (i = 1 → A = A2) ∧ (i = 2 → A = A3) ∧ tget t 0 = .int .i64 (n : Int) ∧ tget t 1 = .int .i64 (w : Int) ∧ tget t 2 = .int .u8 l ∧ tget t 9 = .ptr (L.next + 1) 0 ∧ tget t 23 = .int .i64 (i : Int)) (N := 2)
    ⟨rfl, 0, by omega, rfl, fun _ => rfl, fun h => (by cases h), fun h => (by cases h), by simp [tget_set, argsT], by simp [tget_set, argsT], by simp [tget_set, argsT], by simp [tget_set], by simp [tget_set]⟩ ?_)
  rintro t d A N ⟨rfl, i, hi, rfl, e0, e1, e2, t0, t1, t2, t9, t23⟩
  refine ACode.seq (ACode.regS noT_ok names_ok mix (t' := ?_) (L' := ?_) [0] (by rfl) ?_ ?_)
  rotate_left 2
  · refine sq rfl rfl rfl (by simp [go_sem, X, t23, Try.f109]; rfl) ?_
    rfl
  refine ACode.seq (ACode.cond (p := (i : Int) < 2) (by simp [tget_set, opd]) (fun hil => ACode.skip ?_) (fun hge => ACode.exit ?_))
  rotate_left 1
  ·
    obtain rfl : i = 2 := by omega
    obtain rfl := e2 rfl
    clear e0 e1
    show ACode _ _ (Code.seq (Code.seq (Code.region _ _ _) _) _) _ _ _ _
    refine ACode.seq ?_
    refine ACode.seq (ACode.regS noT_ok names_ok mix (t' := ?_) (L' := ?_) [0, 1, 2, 3, 4, 5, 6, 7, 8, 9, 10, 11, 12] (by rfl) ?_ ?_)
    rotate_left 2
    · iterate 7 (refine sq rfl rfl rfl (by simp [go_sem, X, t9, g3, hz, Ev.equalV, Try.f109]; rfl) ?_)
      iterate 5 (refine sq rfl rfl (by simp [go_sem, X, t9, g3, hz, Ev.equalV, Try.f109]) (by simp [go_sem, X, t9, g3, hz, Ev.equalV, Try.f109]; rfl) ?_)
      refine sq rfl rfl rfl (by simp [go_sem, X, t9, g3, hz, Ev.equalV, Try.f109]; rfl) ?_
      rfl
    refine ACode.condF (by simp [tget_set, opd]) (ACode.skip ?_)
    show ACode _ _ (Code.seq (Code.region _ _ _) _) _ _ _ _
    refine ACode.seq (ACode.regS ((oneT_okP ch).or ((oneT_okP ct3).or (oneT_okP cm3))) names_ok mix (t' := ?_) (L' := ?_) [0, 1, 2, 3, 4, 5, 6, 7, 8, 9, 10, 11, 12, 13, 14, 15, 16, 17, 18, 19, 20, 21] (by rfl) ?_ ?_)
    rotate_left 2
    · iterate 22 (refine sq rfl rfl rfl (by simp [go_sem, X, t1, t2, t9, g3, st, sm, orT, oneT_sameP, oneT_neP, Try.f109]; rfl) ?_)
      rfl
    refine ACode.seq (ACode.regS noT_ok names_ok mix (t' := ?_) (L' := ?_) [0, 1] (by rfl) ?_ ?_)
    rotate_left 2
    · iterate 2 (refine sq rfl rfl rfl (by simp [go_sem, X, t9, Try.f109]; rfl) ?_)
      rfl
    exact ACode.ret ⟨.inr rfl, [.ptr (L.next + 1) 0], by rw [hA4, ← n3]; rfl, by simp [Try.f109, resVals, tget_set], rfl⟩
  have h01 : i = 0 ∨ i = 1 := by omega
  refine ACode.seq (ACode.block ?_)
  rcases h01 with rfl | rfl
  ·
    obtain rfl := e0 rfl
    clear e1 e2
    have hw1 : IntKind.i64.wrap (((0 : Nat) : Int) + 1) = 1 := rfl
    have e23 : ((0 : Nat) : Int) = 0 := rfl
    rw [e23] at t23 hw1
    refine ACode.seq (ACode.regS noT_ok names_ok mix (t' := ?_) (L' := ?_) [0, 1] (by rfl) ?_ ?_)
    rotate_left 2
    · iterate 2 (refine sq rfl rfl rfl (by simp [go_sem, X, t23, Try.f109]; rfl) ?_)
      rfl
    show ACode _ _ (Code.region _ _ _) _ _ _ _
    refine ACode.regD (oneT_okP cg1) names_ok mix (t' := ?_) (L' := ?_) [0,0,0,0,0,16,60,1,129,511,1023] [0,1,2,3,4,5,7,8,6,9,10] (by decide +kernel) (by decide +kernel) (by decide +kernel) ?_ ?_
    rotate_left 2
    · iterate 8 (refine dq rfl rfl rfl rfl (by simp [go_sem, X, t0, t1, t2, t9, g1, oneT_sameP, nx, Try.f109]; rfl) ?_)
      refine dl rfl rfl (by simp [go_sem, X, t0, t1, t2, t9, g1, oneT_sameP, nx, Try.f109]) rfl (by simp [go_sem, X, t0, t1, t2, t9, g1, oneT_sameP, nx, Try.f109]; rfl) (by rfl) (by simp [go_sem, X, t0, t1, t2, t9, g1, oneT_sameP, nx, Try.f109]) ?_
      refine dq rfl rfl rfl rfl (by simp [go_sem, X, t0, t1, t2, t9, g1, oneT_sameP, nx, Try.f109]; rfl) ?_
      refine dl rfl rfl rfl rfl (by simp [go_sem, X, t0, t1, t2, t9, g1, oneT_sameP, nx, Try.f109]; rfl) (by rfl) (by simp [go_sem, X, t0, t1, t2, t9, g1, oneT_sameP, nx, Try.f109]) ?_
      rfl
    show ACode _ _ (Code.region _ _ _) _ _ _ _
    refine ACode.regS noT_ok names_ok mix (t' := ?_) (L' := ?_) [0, 1] (by rfl) ?_ ?_
    rotate_left 2
    · iterate 2 (refine sq rfl rfl rfl (by simp [go_sem, X, t23, hw1, Try.f109]; rfl) ?_)
      rfl
    refine ⟨2 - (0 + 1), by omega, rfl, 1, by omega, rfl, fun h => (by cases h), fun _ => ?_, fun h => (by cases h), by simp [tget_set, t0], by simp [tget_set, t1], by simp [tget_set, t2], by simp [tget_set, t9], by simp [tget_set]⟩
    rw [hA2, n1]
  ·
    obtain rfl := e1 rfl
    clear e0 e2
    have hw1 : IntKind.i64.wrap (((1 : Nat) : Int) + 1) = 2 := rfl
    have e23 : ((1 : Nat) : Int) = 1 := rfl
    rw [e23] at t23 hw1
    refine ACode.seq (ACode.regS noT_ok names_ok mix (t' := ?_) (L' := ?_) [0, 1] (by rfl) ?_ ?_)
    rotate_left 2
    · iterate 2 (refine sq rfl rfl rfl (by simp [go_sem, X, t23, Try.f109]; rfl) ?_)
      rfl
    show ACode _ _ (Code.region _ _ _) _ _ _ _
    refine ACode.regD (oneT_okP cg2) names_ok mix (t' := ?_) (L' := ?_) [0,0,0,0,0,16,60,1,129,511,1023] [0,1,2,3,4,5,7,8,6,9,10] (by decide +kernel) (by decide +kernel) (by decide +kernel) ?_ ?_
    rotate_left 2
    · iterate 8 (refine dq rfl rfl rfl rfl (by simp [go_sem, X, t0, t1, t2, t9, g2, oneT_sameP, nx, Try.f109]; rfl) ?_)
      refine dl rfl rfl (by simp [go_sem, X, t0, t1, t2, t9, g2, oneT_sameP, nx, Try.f109]) rfl (by simp [go_sem, X, t0, t1, t2, t9, g2, oneT_sameP, nx, Try.f109]; rfl) (by rfl) (by simp [go_sem, X, t0, t1, t2, t9, g2, oneT_sameP, nx, Try.f109]) ?_
      refine dq rfl rfl rfl rfl (by simp [go_sem, X, t0, t1, t2, t9, g2, oneT_sameP, nx, Try.f109]; rfl) ?_
      refine dl rfl rfl rfl rfl (by simp [go_sem, X, t0, t1, t2, t9, g2, oneT_sameP, nx, Try.f109]; rfl) (by rfl) (by simp [go_sem, X, t0, t1, t2, t9, g2, oneT_sameP, nx, Try.f109]) ?_
      rfl
    show ACode _ _ (Code.region _ _ _) _ _ _ _
    refine ACode.regS noT_ok names_ok mix (t' := ?_) (L' := ?_) [0, 1] (by rfl) ?_ ?_
    rotate_left 2
    · iterate 2 (refine sq rfl rfl rfl (by simp [go_sem, X, t23, hw1, Try.f109]; rfl) ?_)
      rfl
    refine ⟨2 - (1 + 1), by omega, rfl, 2, by omega, rfl, fun h => (by cases h), fun h => (by cases h), fun _ => ?_, by simp [tget_set, t0], by simp [tget_set, t1], by simp [tget_set, t2], by simp [tget_set, t9], by simp [tget_set]⟩
    rw [hA3, n2]
end Go.Proofs.Ytpfmoolpeecobaa
namespace Go.Proofs.Ytpfmoolpeecobaa
open Go Go.Proofs Go.Proofs.Ytpfmoolpeecobaa.Ev
set_option linter.unusedVariables false
set_option linter.unusedSimpArgs false
set_option maxRecDepth 100000
set_option maxHeartbeats 4000000

theorem qz76 : zeroV Try.prog 76 = some (.nilp) := by kernel_rfl
theorem qs76 : sizeT Try.prog 76 = some 1 := by kernel_rfl
theorem qa76 : isAggT Try.prog 76 = some false := by kernel_rfl
theorem qt76 : tySlice Try.prog 76 = none := by kernel_rfl
theorem qi76 : tyInt Try.prog 76 = none := by kernel_rfl
theorem qz118 : zeroV Try.prog 118 = some (.nils) := by kernel_rfl
theorem qs118 : sizeT Try.prog 118 = some 1 := by kernel_rfl
theorem qa118 : isAggT Try.prog 118 = some false := by kernel_rfl
theorem qt118 : tySlice Try.prog 118 = some 121 := by kernel_rfl
theorem qi118 : tyInt Try.prog 118 = none := by kernel_rfl
theorem qz120 : zeroV Try.prog 120 = some (.agg [.nilp, .int .i64 0, .int .i64 0, .int .i64 0, .int .i64 0, .nils, .nilp, .nilp]) := by kernel_rfl
theorem qs120 : sizeT Try.prog 120 = some 8 := by kernel_rfl
theorem qa120 : isAggT Try.prog 120 = some true := by kernel_rfl
theorem qt120 : tySlice Try.prog 120 = none := by kernel_rfl
theorem qi120 : tyInt Try.prog 120 = none := by kernel_rfl
theorem qf120 : tyStruct Try.prog 120 = some #[{ name := "queues", type := 112, offset := 0, embedded := true, tag := "", pkgPath := "marquee/mux", byteOffset := 0 }, { name := "rows", type := 3, offset := 1, embedded := false, tag := "", pkgPath := "marquee/mux", byteOffset := 8 }, { name := "cols", type := 3, offset := 2, embedded := false, tag := "", pkgPath := "marquee/mux", byteOffset := 16 }, { name := "lines", type := 3, offset := 3, embedded := false, tag := "", pkgPath := "marquee/mux", byteOffset := 24 }, { name := "focus", type := 3, offset := 4, embedded := false, tag := "", pkgPath := "marquee/mux", byteOffset := 32 }, { name := "sources", type := 118, offset := 5, embedded := false, tag := "", pkgPath := "marquee/mux", byteOffset := 40 }, { name := "regs", type := 114, offset := 6, embedded := false, tag := "", pkgPath := "marquee/mux", byteOffset := 64 }, { name := "banner", type := 116, offset := 7, embedded := false, tag := "", pkgPath := "marquee/mux", byteOffset := 72 }] := by kernel_rfl
theorem qz121 : zeroV Try.prog 121 = some (.nilp) := by kernel_rfl
theorem qs121 : sizeT Try.prog 121 = some 1 := by kernel_rfl
theorem qa121 : isAggT Try.prog 121 = some false := by kernel_rfl
theorem qt121 : tySlice Try.prog 121 = none := by kernel_rfl
theorem qi121 : tyInt Try.prog 121 = none := by kernel_rfl
theorem qz177 : zeroV Try.prog 177 = some (.nilp) := by kernel_rfl
theorem qs177 : sizeT Try.prog 177 = some 1 := by kernel_rfl
theorem qa177 : isAggT Try.prog 177 = some false := by kernel_rfl
theorem qt177 : tySlice Try.prog 177 = none := by kernel_rfl
theorem qi177 : tyInt Try.prog 177 = none := by kernel_rfl
theorem qz182 : zeroV Try.prog 182 = some (.agg [.int .u8 0, .bool false, .int .i64 0, .int .i64 0, .int .i64 0, .int .i64 0, .nilp, .nilp]) := by kernel_rfl
theorem qs182 : sizeT Try.prog 182 = some 8 := by kernel_rfl
theorem qa182 : isAggT Try.prog 182 = some true := by kernel_rfl
theorem qt182 : tySlice Try.prog 182 = none := by kernel_rfl
theorem qi182 : tyInt Try.prog 182 = none := by kernel_rfl
theorem qf182 : tyStruct Try.prog 182 = some #[{ name := "setup", type := 83, offset := 0, embedded := true, tag := "", pkgPath := "marquee/source", byteOffset := 0 }, { name := "parser", type := 179, offset := 6, embedded := false, tag := "", pkgPath := "marquee/source", byteOffset := 40 }, { name := "term", type := 177, offset := 7, embedded := false, tag := "", pkgPath := "marquee/source", byteOffset := 48 }] := by kernel_rfl
theorem qz201 : zeroV Try.prog 201 = some (.agg [.int .u8 0, .int .u8 0, .int .u8 0, .int .u8 0, .int .u8 0, .int .u8 0]) := by kernel_rfl
theorem qs201 : sizeT Try.prog 201 = some 6 := by kernel_rfl
theorem qa201 : isAggT Try.prog 201 = some true := by kernel_rfl
theorem qt201 : tySlice Try.prog 201 = none := by kernel_rfl
theorem qi201 : tyInt Try.prog 201 = none := by kernel_rfl
theorem qf201 : tyStruct Try.prog 201 = some #[{ name := "sets", type := 133, offset := 0, embedded := false, tag := "", pkgPath := "marquee/charset", byteOffset := 0 }, { name := "locked", type := 5, offset := 4, embedded := false, tag := "", pkgPath := "marquee/charset", byteOffset := 4 }, { name := "next", type := 199, offset := 5, embedded := false, tag := "", pkgPath := "marquee/charset", byteOffset := 5 }] := by kernel_rfl
theorem qz209 : zeroV Try.prog 209 = some (.agg [.int .i64 0, .int .i64 0, .bool false, .int .u8 0, .int .u8 0, .int .u8 0, .int .u8 0, .int .u8 0, .int .u8 0, .int .u8 0, .int .u8 0, .int .u8 0, .int .u16 0, .bool false, .int .u8 0, .int .u8 0, .int .u8 0, .int .u8 0, .int .u8 0, .int .u8 0]) := by kernel_rfl
theorem qs209 : sizeT Try.prog 209 = some 20 := by kernel_rfl
theorem qa209 : isAggT Try.prog 209 = some true := by kernel_rfl
theorem qt209 : tySlice Try.prog 209 = none := by kernel_rfl
theorem qi209 : tyInt Try.prog 209 = none := by kernel_rfl
theorem qf209 : tyStruct Try.prog 209 = some #[{ name := "Cursor", type := 203, offset := 0, embedded := false, tag := "", pkgPath := "", byteOffset := 0 }, { name := "Attr", type := 207, offset := 4, embedded := false, tag := "", pkgPath := "", byteOffset := 24 }, { name := "Origin", type := 4, offset := 13, embedded := false, tag := "", pkgPath := "", byteOffset := 34 }, { name := "Set", type := 201, offset := 14, embedded := false, tag := "", pkgPath := "", byteOffset := 35 }] := by kernel_rfl
theorem qz210 : zeroV Try.prog 210 = some (.agg [.int .i64 0, .int .i64 0, .bool false, .int .u8 0, .int .u8 0, .int .u8 0, .int .u8 0, .int .u8 0, .int .u8 0, .int .u8 0, .int .u8 0, .int .u8 0, .int .u16 0, .bool false, .int .u8 0, .int .u8 0, .int .u8 0, .int .u8 0, .int .u8 0, .int .u8 0, .int .i64 0, .int .i64 0, .bool false, .int .u8 0, .int .u8 0, .int .u8 0, .int .u8 0, .int .u8 0, .int .u8 0, .int .u8 0, .int .u8 0, .int .u8 0, .int .u16 0, .bool false, .int .u8 0, .int .u8 0, .int .u8 0, .int .u8 0, .int .u8 0, .int .u8 0]) := by kernel_rfl
theorem qs210 : sizeT Try.prog 210 = some 40 := by kernel_rfl
theorem qa210 : isAggT Try.prog 210 = some true := by kernel_rfl
theorem qt210 : tySlice Try.prog 210 = none := by kernel_rfl
theorem qi210 : tyInt Try.prog 210 = none := by kernel_rfl
theorem qr210 : tyArray Try.prog 210 = some (2, 209) := by kernel_rfl
theorem qz212 : zeroV Try.prog 212 = some (.agg [.nilp, .int .u8 0, .int .u8 0, .int .u8 0, .int .u8 0, .int .u8 0, .int .u8 0, .int .i64 0, .int .i64 0, .bool false, .int .u8 0, .int .u8 0, .int .u8 0, .int .u8 0, .int .u8 0, .int .u8 0, .int .u8 0, .int .u8 0, .int .u8 0, .int .u16 0, .bool false, .int .u8 0, .int .u8 0, .int .u8 0, .int .u8 0, .int .u8 0, .int .u8 0, .int .i64 0, .int .i64 0, .bool false, .int .u8 0, .int .u8 0, .int .u8 0, .int .u8 0, .int .u8 0, .int .u8 0, .int .u8 0, .int .u8 0, .int .u8 0, .int .u16 0, .bool false, .int .u8 0, .int .u8 0, .int .u8 0, .int .u8 0, .int .u8 0, .int .u8 0]) := by kernel_rfl
theorem qs212 : sizeT Try.prog 212 = some 47 := by kernel_rfl
theorem qa212 : isAggT Try.prog 212 = some true := by kernel_rfl
theorem qt212 : tySlice Try.prog 212 = none := by kernel_rfl
theorem qi212 : tyInt Try.prog 212 = none := by kernel_rfl
theorem qf212 : tyStruct Try.prog 212 = some #[{ name := "sheet", type := 197, offset := 0, embedded := true, tag := "", pkgPath := "marquee/vt", byteOffset := 0 }, { name := "choice", type := 201, offset := 1, embedded := false, tag := "", pkgPath := "marquee/vt", byteOffset := 8 }, { name := "saved", type := 210, offset := 7, embedded := false, tag := "", pkgPath := "marquee/vt", byteOffset := 16 }] := by kernel_rfl
set_option linter.defProp false in
/-- facts of types, in one -/
def TYK := And.intro @qz76 (And.intro @qs76 (And.intro @qa76 (And.intro @qt76 (And.intro @qi76 (And.intro @Try.underlying76 (And.intro @qz118 (And.intro @qs118 (And.intro @qa118 (And.intro @qt118 (And.intro @qi118 (And.intro @Try.underlying118 (And.intro @qz120 (And.intro @qs120 (And.intro @qa120 (And.intro @qt120 (And.intro @qi120 (And.intro @qf120 (And.intro @Try.underlying120 (And.intro @qz121 (And.intro @qs121 (And.intro @qa121 (And.intro @qt121 (And.intro @qi121 (And.intro @Try.underlying121 (And.intro @qz177 (And.intro @qs177 (And.intro @qa177 (And.intro @qt177 (And.intro @qi177 (And.intro @Try.underlying177 (And.intro @qz182 (And.intro @qs182 (And.intro @qa182 (And.intro @qt182 (And.intro @qi182 (And.intro @qf182 (And.intro @Try.underlying182 (And.intro @qz201 (And.intro @qs201 (And.intro @qa201 (And.intro @qt201 (And.intro @qi201 (And.intro @qf201 (And.intro @Try.underlying201 (And.intro @qz209 (And.intro @qs209 (And.intro @qa209 (And.intro @qt209 (And.intro @qi209 (And.intro @qf209 (And.intro @Try.underlying209 (And.intro @qz210 (And.intro @qs210 (And.intro @qa210 (And.intro @qt210 (And.intro @qi210 (And.intro @qr210 (And.intro @Try.underlying210 (And.intro @qz212 (And.intro @qs212 (And.intro @qa212 (And.intro @qt212 (And.intro @qi212 (And.intro @qf212 (@Try.underlying212)))))))))))))))))))))))))))))))))))))))))))))))))))))))))))))))))
attribute [go_sem] TYK

def plV (l : Int) : List V := ((.int .i64 0) :: (.int .i64 0) :: (.bool false) :: (.int .u8 l) :: (.int .u8 0) :: (.int .u8 0) :: (.int .u8 0) :: (.int .u8 0) :: (.int .u8 0) :: (.int .u8 0) :: (.int .u8 0) :: (.int .u8 0) :: (.int .u16 0) :: (.bool false) :: (.int .u8 0) :: (.int .u8 0) :: (.int .u8 0) :: (.int .u8 0) :: (.int .u8 0) :: (.int .u8 0) :: [])
def tmV (p : Nat) : List V := ((.ptr p 0) :: (.int .u8 0) :: (.int .u8 0) :: (.int .u8 0) :: (.int .u8 0) :: (.int .u8 0) :: (.int .u8 0) :: (.int .i64 0) :: (.int .i64 0) :: (.bool false) :: (.int .u8 0) :: (.int .u8 0) :: (.int .u8 0) :: (.int .u8 0) :: (.int .u8 0) :: (.int .u8 0) :: (.int .u8 0) :: (.int .u8 0) :: (.int .u8 0) :: (.int .u16 0) :: (.bool false) :: (.int .u8 0) :: (.int .u8 0) :: (.int .u8 0) :: (.int .u8 0) :: (.int .u8 0) :: (.int .u8 0) :: (.int .i64 0) :: (.int .i64 0) :: (.bool false) :: (.int .u8 0) :: (.int .u8 0) :: (.int .u8 0) :: (.int .u8 0) :: (.int .u8 0) :: (.int .u8 0) :: (.int .u8 0) :: (.int .u8 0) :: (.int .u8 0) :: (.int .u16 0) :: (.bool false) :: (.int .u8 0) :: (.int .u8 0) :: (.int .u8 0) :: (.int .u8 0) :: (.int .u8 0) :: (.int .u8 0) :: [])
def tm2V (p : Nat) (l : Int) : List V := ((.ptr p 0) :: (.int .u8 0) :: (.int .u8 0) :: (.int .u8 0) :: (.int .u8 0) :: (.int .u8 0) :: (.int .u8 0) :: (.int .i64 0) :: (.int .i64 0) :: (.bool false) :: (.int .u8 l) :: (.int .u8 0) :: (.int .u8 0) :: (.int .u8 0) :: (.int .u8 0) :: (.int .u8 0) :: (.int .u8 0) :: (.int .u8 0) :: (.int .u8 0) :: (.int .u16 0) :: (.bool false) :: (.int .u8 0) :: (.int .u8 0) :: (.int .u8 0) :: (.int .u8 0) :: (.int .u8 0) :: (.int .u8 0) :: (.int .i64 0) :: (.int .i64 0) :: (.bool false) :: (.int .u8 l) :: (.int .u8 0) :: (.int .u8 0) :: (.int .u8 0) :: (.int .u8 0) :: (.int .u8 0) :: (.int .u8 0) :: (.int .u8 0) :: (.int .u8 0) :: (.int .u16 0) :: (.bool false) :: (.int .u8 0) :: (.int .u8 0) :: (.int .u8 0) :: (.int .u8 0) :: (.int .u8 0) :: (.int .u8 0) :: [])
theorem plain_ok {L : Heap} {p q : Nat} {l : Int} (hp : p < L.next) (hq : q < L.next) (hl : Heap.load Try.prog L 51 p 5 = some (.int .u8 l)) (h : L.t.get q = some (.cells (T.set .leaf 0 (tmV p)) 1 47 false false)) :
    ACall Try.prog 110 [.ptr q 0] L (.tuple []) ⟨(L.t.set L.next (.cells (T.set .leaf 0 (plV l)) 1 20 false false)).set q (.cells (T.set .leaf 0 (tm2V p l)) 1 47 false false), L.next + 1⟩ := by
  have hb := base_ok hp hl
  obtain ⟨A, hA⟩ : ∃ A : Heap, A = ⟨L.t.set L.next (.cells (T.set .leaf 0 (plV l)) 1 20 false false), L.next + 1⟩ := ⟨_, rfl⟩
  have gA : A.t.get L.next = some (.cells (T.set .leaf 0 (plV l)) 1 20 false false) := by rw [hA]; exact T.get_set_same _ _ _
  have gq : A.t.get q = some (.cells (T.set .leaf 0 (tmV p)) 1 47 false false) := by rw [hA]; show T.get (T.set _ _ _) _ = _; rw [T.get_set_ne _ _ (by omega)]; exact h
  have tA : L.t.set L.next (.cells (T.set .leaf 0 (plV l)) 1 20 false false) = A.t := by rw [hA]
  have nA : L.next + 1 = A.next := by rw [hA]
  rw [tA, nA]
  unfold plV at *
  unfold tmV at *
  unfold tm2V at *
  refine ACall.of_body_same Try.func110 rfl ?_
  refine ACode.seq (ACode.regS (oneT_okP hb) names_ok mix (t' := ?_) (L' := ?_) [0, 1, 2, 3, 4, 5, 6, 7, 8] (by rfl) ?_ ?_)
  rotate_left 2
  · iterate 9 (refine sq rfl rfl rfl (by simp [go_sem, X, h, oneT_sameP, Try.f110]; rfl) ?_)
    rfl
  change ACode _ _ _ _ _ ⟨L.t.set L.next (.cells (T.set .leaf 0 ((.int .i64 0) :: (.int .i64 0) :: (.bool false) :: (.int .u8 l) :: (.int .u8 0) :: (.int .u8 0) :: (.int .u8 0) :: (.int .u8 0) :: (.int .u8 0) :: (.int .u8 0) :: (.int .u8 0) :: (.int .u8 0) :: (.int .u16 0) :: (.bool false) :: (.int .u8 0) :: (.int .u8 0) :: (.int .u8 0) :: (.int .u8 0) :: (.int .u8 0) :: (.int .u8 0) :: [])) 1 20 false false), L.next + 1⟩ _
  rw [← hA]
  have hqn : (L.next = q) = False := eq_false (by omega)
  refine ACode.regD noT_ok names_ok mix (t' := ?_) (L' := ?_) [0,0,0,0,0,24,5,69,197,511,1023,2047] [0,1,2,3,4,5,6,7,8,9,10,11] (by decide +kernel) (by decide +kernel) (by decide +kernel) ?_ ?_
  rotate_left 2
  · iterate 3 (refine dq rfl rfl rfl rfl (by simp [go_sem, X, gA, gq, hqn, Try.f110]; rfl) ?_)
    iterate 2 (refine dr rfl rfl rfl rfl (by simp [go_sem, X, gA, gq, hqn, Try.f110]; rfl) ?_)
    iterate 3 (refine dq rfl rfl rfl rfl (by simp [go_sem, X, gA, gq, hqn, Try.f110]; rfl) ?_)
    refine dl rfl rfl rfl rfl (by simp [go_sem, X, gA, gq, hqn, Try.f110]; rfl) (by rfl) (by simp [go_sem, X, gA, gq, hqn, Try.f110]) ?_
    iterate 2 (refine dq rfl rfl rfl rfl (by simp [go_sem, X, gA, gq, hqn, Try.f110]; rfl) ?_)
    refine dl rfl rfl rfl rfl (by simp [go_sem, X, gA, gq, hqn, Try.f110]; rfl) (by rfl) (by simp [go_sem, X, gA, gq, hqn, Try.f110]) ?_
    rfl
  exact ⟨.inl rfl, [], rfl, by simp [Try.f110, resVals], rfl⟩
/-- vt.New -/
theorem vtNew_ok (n w : Nat) (l most : Int) (hn : 1 ≤ n ∧ n ≤ 512) (hw : 1 ≤ w ∧ w ≤ 40) (hl : 0 ≤ l ∧ l ≤ 1) (hm : 0 ≤ most ∧ most ≤ 1000) (L : Heap) :
    ACall Try.prog 88 [.int .i64 (n : Int), .int .i64 (w : Int), .int .u8 l, .int .i64 most] L (.ptr L.next 0) (nx L) := by
  obtain ⟨A, p, cp, hp1, hp2, kA, hb⟩ := pageNew_ok n w l most hn hw hl hm L
  obtain ⟨B, hB⟩ : ∃ B : Heap, B = ⟨A.t.set A.next (.cells (T.set .leaf 0 (tmV p)) 1 47 false false), A.next + 1⟩ := ⟨_, rfl⟩
  have gB : B.t.get A.next = some (.cells (T.set .leaf 0 (tmV p)) 1 47 false false) := by rw [hB]; exact T.get_set_same _ _ _
  have kB : ∀ k, k < A.next → B.t.get k = A.t.get k := fun k hk => by rw [hB]; exact T.get_set_ne _ _ (by omega)
  have nB : B.next = A.next + 1 := by rw [hB]
  have cpl := plain_ok (L := B) (p := p) (q := A.next) (l := l) (by omega) (by omega) (by rw [load_keep (kB p hp2)]; exact hb) gB
  have hz : Ev.ofVal (.pointer none) = some .nilp := rfl
  refine ACall.of_body_forget Try.func88 rfl ?_
  refine ACode.seq (ACode.regS noT_ok names_ok mix (t' := ?_) (L' := ?_) [0] (by rfl) ?_ ?_)
  rotate_left 2
  · refine sq rfl rfl rfl (by simp [go_sem, X, hz, Try.f88]; rfl) ?_
    rfl
  refine ACode.seq (ACode.regS (oneT_okP cp) names_ok mix (t' := ?_) (L' := ?_) [0, 1, 2, 3, 4, 5] (by rfl) ?_ ?_)
  rotate_left 2
  · iterate 6 (refine sq rfl rfl rfl (by simp [go_sem, X, oneT_sameP, Try.f88]; rfl) ?_)
    rfl
  refine ACode.seq ?_
  refine ACode.seq (ACode.regS noT_ok names_ok mix (t' := ?_) (L' := ?_) [0, 1] (by rfl) ?_ ?_)
  rotate_left 2
  · iterate 2 (refine sq rfl rfl rfl (by simp [go_sem, X, hz, Ev.equalV, Try.f88]; rfl) ?_)
    rfl
  refine ACode.condF (by simp [tget_set, opd]) (ACode.skip ?_)
  show ACode _ _ (Code.seq (Code.region _ _ _) _) _ _ _ _
  refine ACode.seq (ACode.regS noT_ok names_ok mix (t' := ?_) (L' := ?_) [0, 1, 2, 3] (by rfl) ?_ ?_)
  rotate_left 2
  · iterate 4 (refine sq rfl rfl rfl (by simp [go_sem, X, Try.f88]; rfl) ?_)
    rfl
  change ACode _ _ _ _ _ ⟨A.t.set A.next (.cells (T.set .leaf 0 (tmV p)) 1 47 false false), A.next + 1⟩ _
  rw [← hB]
  refine ACode.seq (ACode.regS (oneT_okP cpl) names_ok mix (t' := ?_) (L' := ?_) [0, 1] (by rfl) ?_ ?_)
  rotate_left 2
  · iterate 2 (refine sq rfl rfl rfl (by simp [go_sem, X, oneT_sameP, Try.f88]; rfl) ?_)
    rfl
  refine ACode.seq (ACode.regS noT_ok names_ok mix (t' := ?_) (L' := ?_) [0, 1] (by rfl) ?_ ?_)
  rotate_left 2
  · iterate 2 (refine sq rfl rfl rfl (by simp [go_sem, X, Try.f88]; rfl) ?_)
    rfl
  refine ACode.ret ⟨.inr rfl, _, [.ptr A.next 0], A.next, rfl, by simp [Try.f88, resVals, tget_set], fun k hk => ?_, fun κ1 z hz => VR_ptr_f hz⟩
  show T.get (T.set (T.set _ _ _) _ _) _ = _
  rw [T.get_set_ne _ _ (by omega), T.get_set_ne _ _ (by omega), kB k (by omega)]
  exact kA k hk
/-- source.New -/
theorem sourceNew_ok (lv : Int) (tr : Bool) (a b : Int) (n w : Nat) (most : Int) (hn : 1 ≤ n ∧ n ≤ 512) (hw : 1 ≤ w ∧ w ≤ 40) (hl : 0 ≤ lv ∧ lv ≤ 1) (hm : 0 ≤ most ∧ most ≤ 1000) (L : Heap) :
    ACall Try.prog 57 [.agg (srcG2 ⟨lv, tr, (a, b, (n : Int), (w : Int))⟩), .int .i64 most] L (.tuple [.ptr L.next 0, .int .i64 0]) (nx L) := by
  unfold srcG2
  simp only
  obtain ⟨A1, hA1⟩ : ∃ A : Heap, A = ⟨L.t.set L.next (.cells (T.set .leaf 0 [.int .u8 lv, .bool tr, .int .i64 a, .int .i64 b, .int .i64 (n : Int), .int .i64 (w : Int)]) 1 6 false false), L.next + 1⟩ := ⟨_, rfl⟩
  have g1 : A1.t.get L.next = some (.cells (T.set .leaf 0 [.int .u8 lv, .bool tr, .int .i64 a, .int .i64 b, .int .i64 (n : Int), .int .i64 (w : Int)]) 1 6 false false) := by rw [hA1]; exact T.get_set_same _ _ _
  have k1 : ∀ k, k < L.next → A1.t.get k = L.t.get k := fun k hk => by rw [hA1]; exact T.get_set_ne _ _ (by omega)
  have n1 : A1.next = L.next + 1 := by rw [hA1]
  obtain ⟨A2, hA2⟩ : ∃ A : Heap, A = ⟨A1.t.set A1.next (.cells (T.set .leaf 0 [.int .u8 lv]) 1 1 false false), A1.next + 1⟩ := ⟨_, rfl⟩
  have g2 : A2.t.get A1.next = some (.cells (T.set .leaf 0 [.int .u8 lv]) 1 1 false false) := by rw [hA2]; exact T.get_set_same _ _ _
  have g21 : A2.t.get L.next = some (.cells (T.set .leaf 0 [.int .u8 lv, .bool tr, .int .i64 a, .int .i64 b, .int .i64 (n : Int), .int .i64 (w : Int)]) 1 6 false false) := by rw [hA2]; show T.get (T.set _ _ _) _ = _; rw [T.get_set_ne _ _ (by omega)]; exact g1
  have k2 : ∀ k, k < L.next → A2.t.get k = L.t.get k := fun k hk => by rw [hA2]; show T.get (T.set _ _ _) _ = _; rw [T.get_set_ne _ _ (by omega)]; exact k1 k hk
  have n2 : A2.next = L.next + 2 := by rw [hA2, n1]
  have hr := right_ok (lvs_one g2) (by simpa using hl) (by simp)
  rw [hA2] at hr
  have cv := vtNew_ok n w lv most hn hw hl hm A2
  have cp := parseNew_ok (nx A2)
  have hz : Ev.ofVal (.pointer none) = some .nilp := rfl
  refine ACall.of_body_forget Try.func57 rfl ?_
  refine ACode.seq (ACode.regS noT_ok names_ok mix (t' := ?_) (L' := ?_) [0, 1, 2] (by rfl) ?_ ?_)
  rotate_left 2
  · iterate 3 (refine sq rfl rfl rfl (by simp [go_sem, X, hz, Try.f57]; rfl) ?_)
    rfl
  change ACode _ _ _ _ _ ⟨L.t.set L.next (.cells (T.set .leaf 0 [.int .u8 lv, .bool tr, .int .i64 a, .int .i64 b, .int .i64 (n : Int), .int .i64 (w : Int)]) 1 6 false false), L.next + 1⟩ _
  rw [← hA1]
  refine ACode.seq ?_
  refine ACode.seq (ACode.regS (oneT_okP hr) names_ok mix (t' := ?_) (L' := ?_) [0, 1, 2, 3, 4] (by rfl) ?_ ?_)
  rotate_left 2
  · iterate 5 (refine sq rfl rfl rfl (by simp [go_sem, X, g1, oneT_sameP, Try.f57]; rfl) ?_)
    rfl
  rw [← hA2]
  refine ACode.condF (by simp [tget_set, opd]) (ACode.skip ?_)
  show ACode _ _ (Code.seq (Code.region _ _ _) _) _ _ _ _
  refine ACode.seq (ACode.regS (oneT_okP cv) names_ok mix (t' := ?_) (L' := ?_) [0, 1, 2, 3, 4, 5, 6, 7, 8, 9, 10] (by rfl) ?_ ?_)
  rotate_left 2
  · iterate 11 (refine sq rfl rfl rfl (by simp [go_sem, X, g21, oneT_sameP, Try.f57]; rfl) ?_)
    rfl
  refine ACode.seq ?_
  refine ACode.seq (ACode.regS noT_ok names_ok mix (t' := ?_) (L' := ?_) [0, 1] (by rfl) ?_ ?_)
  rotate_left 2
  · iterate 2 (refine sq rfl rfl rfl (by simp [go_sem, X, hz, Ev.equalV, Try.f57]; rfl) ?_)
    rfl
  refine ACode.condF (by simp [tget_set, opd]) (ACode.skip ?_)
  show ACode _ _ (Code.seq (Code.region _ _ _) _) _ _ _ _
  have g22 : (nx A2).t.get L.next = some (.cells (T.set .leaf 0 [.int .u8 lv, .bool tr, .int .i64 a, .int .i64 b, .int .i64 (n : Int), .int .i64 (w : Int)]) 1 6 false false) := g21
  have g23 : (nx (nx A2)).t.get L.next = some (.cells (T.set .leaf 0 [.int .u8 lv, .bool tr, .int .i64 a, .int .i64 b, .int .i64 (n : Int), .int .i64 (w : Int)]) 1 6 false false) := g21
  refine ACode.seq (ACode.regD (oneT_okP cp) names_ok mix (t' := ?_) (L' := ?_) [0,0,0,7,15,31,63] [0,2,1,3,4,5,6] (by decide +kernel) (by decide +kernel) (by decide +kernel) ?_ ?_)
  rotate_left 2
  · refine dr rfl rfl rfl rfl (by simp [go_sem, X, g22, g23, oneT_sameP, Try.f57]; rfl) ?_
    refine dq rfl rfl rfl rfl (by simp [go_sem, X, g22, g23, oneT_sameP, Try.f57]; rfl) ?_
    refine dl rfl rfl (by simp [go_sem, X, g22, g23, oneT_sameP, Try.f57]) rfl (by simp [go_sem, X, g22, g23, oneT_sameP, Try.f57]; rfl) (by rfl) (by simp [go_sem, X, g22, g23, oneT_sameP, Try.f57]) ?_
    refine dq rfl rfl rfl rfl (by simp [go_sem, X, g22, g23, oneT_sameP, Try.f57]; rfl) ?_
    refine dm rfl rfl rfl rfl (by simp [go_sem, X, g22, g23, oneT_sameP, Try.f57]; rfl) ?_
    iterate 2 (refine dq rfl rfl rfl rfl (by simp [go_sem, X, g22, g23, oneT_sameP, Try.f57]; rfl) ?_)
    rfl
  refine ACode.ret ⟨.inr rfl, _, [.ptr ((nx (nx A2)).next) 0, .int .i64 0], (nx (nx A2)).next, rfl, by simp [Try.f57, resVals, tget_set], fun k hk => ?_, fun κ1 z hz => VR_ptr_int_f hz⟩
  show T.get (T.set _ _ _) _ = _
  rw [T.get_set_ne _ _ (by show k ≠ A2.next + 1 + 1; omega)]
  exact k2 k hk
end Go.Proofs.Ytpfmoolpeecobaa
