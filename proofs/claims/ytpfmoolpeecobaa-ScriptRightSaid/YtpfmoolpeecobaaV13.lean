/- The first palette, the guards, the registers (83, 86, 55). -/
import Derived.Test.YtpfmoolpeecobaaV12
namespace Go.Proofs.Ytpfmoolpeecobaa
open Go Go.Proofs Go.Proofs.Ytpfmoolpeecobaa.Ev
set_option linter.unusedVariables false
set_option linter.unusedSimpArgs false
set_option maxRecDepth 100000
set_option maxHeartbeats 4000000

theorem qz114 : zeroV Try.prog 114 = some (.nilp) := by kernel_rfl
theorem qs114 : sizeT Try.prog 114 = some 1 := by kernel_rfl
theorem qa114 : isAggT Try.prog 114 = some false := by kernel_rfl
theorem qt114 : tySlice Try.prog 114 = none := by kernel_rfl
theorem qi114 : tyInt Try.prog 114 = none := by kernel_rfl
theorem qz155 : zeroV Try.prog 155 = some (.nils) := by kernel_rfl
theorem qs155 : sizeT Try.prog 155 = some 1 := by kernel_rfl
theorem qa155 : isAggT Try.prog 155 = some false := by kernel_rfl
theorem qt155 : tySlice Try.prog 155 = some 162 := by kernel_rfl
theorem qi155 : tyInt Try.prog 155 = none := by kernel_rfl
theorem qz158 : zeroV Try.prog 158 = some (.agg [.int .u8 0]) := by kernel_rfl
theorem qs158 : sizeT Try.prog 158 = some 1 := by kernel_rfl
theorem qa158 : isAggT Try.prog 158 = some true := by kernel_rfl
theorem qt158 : tySlice Try.prog 158 = none := by kernel_rfl
theorem qi158 : tyInt Try.prog 158 = none := by kernel_rfl
theorem qf158 : tyStruct Try.prog 158 = some #[{ name := "level", type := 51, offset := 0, embedded := false, tag := "", pkgPath := "marquee/reg", byteOffset := 0 }] := by kernel_rfl
theorem qz160 : zeroV Try.prog 160 = some (.agg [.int .u8 0, .nils]) := by kernel_rfl
theorem qs160 : sizeT Try.prog 160 = some 2 := by kernel_rfl
theorem qa160 : isAggT Try.prog 160 = some true := by kernel_rfl
theorem qt160 : tySlice Try.prog 160 = none := by kernel_rfl
theorem qi160 : tyInt Try.prog 160 = none := by kernel_rfl
theorem qf160 : tyStruct Try.prog 160 = some #[{ name := "guard", type := 158, offset := 0, embedded := true, tag := "", pkgPath := "marquee/reg", byteOffset := 0 }, { name := "is", type := 155, offset := 1, embedded := false, tag := "", pkgPath := "marquee/reg", byteOffset := 8 }] := by kernel_rfl
theorem qz162 : zeroV Try.prog 162 = some (.agg [.int .u16 0, .int .u16 0, .int .u16 0]) := by kernel_rfl
theorem qs162 : sizeT Try.prog 162 = some 3 := by kernel_rfl
theorem qa162 : isAggT Try.prog 162 = some true := by kernel_rfl
theorem qt162 : tySlice Try.prog 162 = none := by kernel_rfl
theorem qi162 : tyInt Try.prog 162 = none := by kernel_rfl
theorem qr162 : tyArray Try.prog 162 = some (3, 48) := by kernel_rfl
theorem qz164 : zeroV Try.prog 164 = some (.agg [.int .u16 0, .int .u16 0, .int .u16 0, .int .u16 0, .int .u16 0, .int .u16 0]) := by kernel_rfl
theorem qs164 : sizeT Try.prog 164 = some 6 := by kernel_rfl
theorem qa164 : isAggT Try.prog 164 = some true := by kernel_rfl
theorem qt164 : tySlice Try.prog 164 = none := by kernel_rfl
theorem qi164 : tyInt Try.prog 164 = none := by kernel_rfl
theorem qr164 : tyArray Try.prog 164 = some (2, 162) := by kernel_rfl
theorem qz166 : zeroV Try.prog 166 = some (.agg [.int .u8 0, .int .u16 0, .int .u16 0, .int .u16 0, .int .u16 0, .int .u16 0, .int .u16 0]) := by kernel_rfl
theorem qs166 : sizeT Try.prog 166 = some 7 := by kernel_rfl
theorem qa166 : isAggT Try.prog 166 = some true := by kernel_rfl
theorem qt166 : tySlice Try.prog 166 = none := by kernel_rfl
theorem qi166 : tyInt Try.prog 166 = none := by kernel_rfl
theorem qf166 : tyStruct Try.prog 166 = some #[{ name := "guard", type := 158, offset := 0, embedded := true, tag := "", pkgPath := "marquee/reg", byteOffset := 0 }, { name := "is", type := 164, offset := 1, embedded := false, tag := "", pkgPath := "marquee/reg", byteOffset := 2 }] := by kernel_rfl
theorem qz168 : zeroV Try.prog 168 = some (.agg [.int .u8 0, .str []]) := by kernel_rfl
theorem qs168 : sizeT Try.prog 168 = some 2 := by kernel_rfl
theorem qa168 : isAggT Try.prog 168 = some true := by kernel_rfl
theorem qt168 : tySlice Try.prog 168 = none := by kernel_rfl
theorem qi168 : tyInt Try.prog 168 = none := by kernel_rfl
theorem qf168 : tyStruct Try.prog 168 = some #[{ name := "guard", type := 158, offset := 0, embedded := true, tag := "", pkgPath := "marquee/reg", byteOffset := 0 }, { name := "is", type := 9, offset := 1, embedded := false, tag := "", pkgPath := "marquee/reg", byteOffset := 8 }] := by kernel_rfl
theorem qz170 : zeroV Try.prog 170 = some (.agg [.int .u8 0, .str [], .int .u8 0, .str [], .int .u8 0, .str [], .int .u8 0, .nils, .int .u8 0, .int .u16 0, .int .u16 0, .int .u16 0, .int .u16 0, .int .u16 0, .int .u16 0]) := by kernel_rfl
theorem qs170 : sizeT Try.prog 170 = some 15 := by kernel_rfl
theorem qa170 : isAggT Try.prog 170 = some true := by kernel_rfl
theorem qt170 : tySlice Try.prog 170 = none := by kernel_rfl
theorem qi170 : tyInt Try.prog 170 = none := by kernel_rfl
theorem qf170 : tyStruct Try.prog 170 = some #[{ name := "title", type := 168, offset := 0, embedded := false, tag := "", pkgPath := "marquee/reg", byteOffset := 0 }, { name := "clip", type := 168, offset := 2, embedded := false, tag := "", pkgPath := "marquee/reg", byteOffset := 24 }, { name := "choice", type := 168, offset := 4, embedded := false, tag := "", pkgPath := "marquee/reg", byteOffset := 48 }, { name := "palette", type := 160, offset := 6, embedded := false, tag := "", pkgPath := "marquee/reg", byteOffset := 72 }, { name := "colors", type := 166, offset := 8, embedded := false, tag := "", pkgPath := "marquee/reg", byteOffset := 104 }] := by kernel_rfl
theorem qz171 : zeroV Try.prog 171 = some (.nilp) := by kernel_rfl
theorem qs171 : sizeT Try.prog 171 = some 1 := by kernel_rfl
theorem qa171 : isAggT Try.prog 171 = some false := by kernel_rfl
theorem qt171 : tySlice Try.prog 171 = none := by kernel_rfl
theorem qi171 : tyInt Try.prog 171 = none := by kernel_rfl
theorem qz172 : zeroV Try.prog 172 = some (.agg [.nilp, .nilp, .nilp, .nilp, .nilp]) := by kernel_rfl
theorem qs172 : sizeT Try.prog 172 = some 5 := by kernel_rfl
theorem qa172 : isAggT Try.prog 172 = some true := by kernel_rfl
theorem qt172 : tySlice Try.prog 172 = none := by kernel_rfl
theorem qi172 : tyInt Try.prog 172 = none := by kernel_rfl
theorem qr172 : tyArray Try.prog 172 = some (5, 171) := by kernel_rfl
set_option linter.defProp false in
/-- facts of types, in one -/
def TYG := And.intro @qz114 (And.intro @qs114 (And.intro @qa114 (And.intro @qt114 (And.intro @qi114 (And.intro @Try.underlying114 (And.intro @qz155 (And.intro @qs155 (And.intro @qa155 (And.intro @qt155 (And.intro @qi155 (And.intro @Try.underlying155 (And.intro @qz158 (And.intro @qs158 (And.intro @qa158 (And.intro @qt158 (And.intro @qi158 (And.intro @qf158 (And.intro @Try.underlying158 (And.intro @qz160 (And.intro @qs160 (And.intro @qa160 (And.intro @qt160 (And.intro @qi160 (And.intro @qf160 (And.intro @Try.underlying160 (And.intro @qz162 (And.intro @qs162 (And.intro @qa162 (And.intro @qt162 (And.intro @qi162 (And.intro @qr162 (And.intro @Try.underlying162 (And.intro @qz164 (And.intro @qs164 (And.intro @qa164 (And.intro @qt164 (And.intro @qi164 (And.intro @qr164 (And.intro @Try.underlying164 (And.intro @qz166 (And.intro @qs166 (And.intro @qa166 (And.intro @qt166 (And.intro @qi166 (And.intro @qf166 (And.intro @Try.underlying166 (And.intro @qz168 (And.intro @qs168 (And.intro @qa168 (And.intro @qt168 (And.intro @qi168 (And.intro @qf168 (And.intro @Try.underlying168 (And.intro @qz170 (And.intro @qs170 (And.intro @qa170 (And.intro @qt170 (And.intro @qi170 (And.intro @qf170 (And.intro @Try.underlying170 (And.intro @qz171 (And.intro @qs171 (And.intro @qa171 (And.intro @qt171 (And.intro @qi171 (And.intro @Try.underlying171 (And.intro @qz172 (And.intro @qs172 (And.intro @qa172 (And.intro @qt172 (And.intro @qi172 (And.intro @qr172 (@Try.underlying172)))))))))))))))))))))))))))))))))))))))))))))))))))))))))))))))))))))))))
attribute [go_sem] TYG
theorem qb162 : bytesT Try.prog 162 = some 6 := by kernel_rfl
def coV (q : Int × Int × Int) : List V := [.int .u16 q.1, .int .u16 q.2.1, .int .u16 q.2.2]
theorem first83_ok (L : Heap) : ACall Try.prog 83 [] L (.slice L.next 0 256 0 true) (nx L) := by
  refine ACall.of_body_forget Try.func83 rfl ?_
  refine ACode.seq (ACode.regS noT_ok names_ok mix (t' := ?_) (L' := ?_) [0] (by rfl) ?_ ?_)
  rotate_left 2
  · refine sq rfl rfl rfl (by simp [go_sem, X, Try.f83]; rfl) ?_
    rfl
  refine ACode.seq ?_
  refine ACode.seq (ACode.regS noT_ok names_ok mix (t' := ?_) (L' := ?_) [0] (by rfl) ?_ ?_)
  rotate_left 2
  · refine sq rfl rfl rfl (by simp [go_sem, X, Try.f83]; rfl) ?_
    rfl
  refine ACode.block (ACode.loop (fun t d A N => d = [] ∧ ∃ (i : Nat) (l : List (Int × Int × Int)), i ≤ 256 ∧ N = 256 - i ∧ l.length = i ∧ L.next ≤ A.next ∧ (∀ k, k < L.next → A.t.get k = L.t.get k) ∧ OwnP 3 coV L.next A (tget t 0) l ∧ tget t 4 = .int .i64 (i : Int)) (N := 256)
    ⟨rfl, 0, [], by omega, rfl, rfl, Nat.le_refl _, fun _ _ => rfl, .inl ⟨by simp [tget_set], rfl⟩, by simp [tget_set]⟩ ?_)
  rintro t d A N ⟨rfl, i, l, hi, rfl, hl, hnx, hkp, hO, t4⟩
  refine ACode.seq (ACode.regS noT_ok names_ok mix (t' := ?_) (L' := ?_) [0] (by rfl) ?_ ?_)
  rotate_left 2
  · refine sq rfl rfl rfl (by simp [go_sem, X, t4, Try.f83]; rfl) ?_
    rfl
  refine ACode.seq (ACode.cond (p := (i : Int) < 256) (by simp [tget_set, opd]) (fun hil => ACode.skip ?_) (fun hge => ACode.exit ?_))
  rotate_left 1
  ·
    have hi2 : i = 256 := by omega
    subst hi2
    show ACode _ _ _ _ _ _ _
    generalize hv : tget t 0 = v at *
    rcases hO with ⟨rfl, rfl⟩ | ⟨hne, m, rfl, h1, h2, h3⟩
    · simp at hl
    rw [hl] at hv
    refine ACode.seq (ACode.regS noT_ok names_ok mix (t' := ?_) (L' := ?_) [0, 1] (by rfl) ?_ ?_)
    rotate_left 2
    · iterate 2 (refine sq rfl rfl rfl (by simp [go_sem, X, hv, Try.f83]; rfl) ?_)
      rfl
    exact ACode.ret ⟨.inr rfl, _, [.slice m 0 256 0 true], m, rfl, by simp [Try.f83, resVals, tget_set], hkp, fun κ1 z hz => VR_slice_f hz⟩
  have hil' : i < 256 := by omega
  have hw : IntKind.i64.wrap ((i : Int) + 1) = ((i + 1 : Nat) : Int) := by rw [Go.IntWalk.i64_in _ (by omega)]; omega
  obtain ⟨⟨a, b, c⟩, q, hc⟩ := color_ok i hil'
  simp only at hc
  generalize hv : tget t 0 = v at *
  refine ACode.seq (ACode.block ?_)
  refine ACode.seq (ACode.regS noT_ok names_ok mix (t' := ?_) (L' := ?_) [0, 1] (by rfl) ?_ ?_)
  rotate_left 2
  · iterate 2 (refine sq rfl rfl rfl (by simp [go_sem, X, t4, Try.f83]; rfl) ?_)
    rfl
  refine ACode.seq (ACode.regS (oneT_okP (hc A)) names_ok mix (t' := ?_) (L' := ?_) [0, 1, 2, 3, 4, 5, 6, 7] (by rfl) ?_ ?_)
  rotate_left 2
  · iterate 8 (refine sq rfl rfl rfl (by simp [go_sem, X, oneT_sameP, Try.f83]; rfl) ?_)
    rfl
  obtain ⟨B, hB⟩ : ∃ B : Heap, B = ⟨A.t.set A.next (.cells (T.set .leaf 0 (coV (a, b, c))) 1 3 false false), A.next + 1⟩ := ⟨_, rfl⟩
  change ACode _ _ _ _ _ ⟨A.t.set A.next (.cells (T.set .leaf 0 (coV (a, b, c))) 1 3 false false), A.next + 1⟩ _
  have gB : B.t.get A.next = some (.cells (T.set .leaf 0 (coV (a, b, c))) 1 3 false false) := by rw [hB]; exact T.get_set_same _ _ _
  have kB : ∀ k, k < A.next → B.t.get k = A.t.get k := fun k hk => by rw [hB]; exact T.get_set_ne _ _ (by omega)
  have nB : B.next = A.next + 1 := by rw [hB]
  rw [← hB]
  have hOB : OwnP 3 coV L.next B v l := hO.still (by omega) fun m hm => kB m (hO.nm_lt hm).2
  have hOC : OwnP 3 coV L.next ⟨B.t.set B.next (.cells (T.set .leaf 0 (coV (a, b, c))) 1 3 false false), B.next + 1⟩ v l := hOB.still (Nat.le_succ _) fun m hm => T.get_set_ne _ _ (by have := (hOB.nm_lt hm).2; omega)
  have hsrc : srcElems ⟨B.t.set B.next (.cells (T.set .leaf 0 (coV (a, b, c))) 1 3 false false), B.next + 1⟩ 3 (.slice B.next 0 1 1 false) = some ([(a, b, c)].map coV) := by
    simp [srcElems, Heap.elems, Heap.elem, T.get_set, takeN, coV]
  obtain ⟨v6, E, ha, hO3, hn3, hk3, _⟩ := append_P (sz := 3) (f := coV) (by decide) (fun _ => rfl) (fun _ => rfl) qt155 qs162 qb162 (by decide) qz162 rfl hOC (by simp only; omega) hsrc (by simp only [List.length_cons, List.length_nil]; omega)
  simp only [coV] at ha gB
  simp only at hn3 hk3
  show ACode _ _ (Code.region _ _ _) _ _ _ _
  refine ACode.regS noT_ok names_ok mix (t' := ?_) (L' := ?_) [0, 1, 2, 3, 4] (by rfl) ?_ ?_
  rotate_left 2
  · iterate 5 (refine sq rfl rfl rfl (by simp [go_sem, X, hv, gB, ha, qi155, Try.f83]; rfl) ?_)
    rfl
  show ACode _ _ (Code.region _ _ _) _ _ _ _
  refine ACode.regS noT_ok names_ok mix (t' := ?_) (L' := ?_) [0, 1] (by rfl) ?_ ?_
  rotate_left 2
  · iterate 2 (refine sq rfl rfl rfl (by simp [go_sem, X, t4, hw, Try.f83]; rfl) ?_)
    rfl
  refine ⟨256 - (i + 1), by omega, rfl, i + 1, l ++ [(a, b, c)], by omega, rfl, by simp [hl], by omega, fun k hk => ?_, by simpa [tget_set] using hO3, by simp [tget_set]⟩
  rw [hk3 k (by omega) (fun e => by have := (hO.nm_lt e).1; omega)]
  show T.get (T.set _ _ _) _ = _
  rw [T.get_set_ne _ _ (by omega), kB k (by omega)]
  exact hkp k hk
def gdV (p : Nat) : List V := [.ptr p 0, .ptr p 2, .ptr p 4, .ptr p 6, .ptr p 8]
theorem guards_ok {L : Heap} {p : Nat} (hp : p < L.next) : ACall Try.prog 86 [.ptr p 0] L (.agg (gdV p)) L := by
  have hlow : V.low L.next (.agg (gdV p)) = true := by simp [V.low, V.lows, gdV, hp]
  refine ACall.of_body Try.func86 rfl ?_
  refine ACode.seq (ACode.regS noT_ok names_ok mix (t' := ?_) (L' := ?_) [0] (by rfl) ?_ ?_)
  rotate_left 2
  · refine sq rfl rfl rfl (by simp [go_sem, X, Try.f86]; rfl) ?_
    rfl
  refine ACode.seq (ACode.regD noT_ok names_ok mix (t' := ?_) (L' := ?_) [0,1,3,7,0,16,48,112,0,256,768,1792,0,4096,12288,28672,0,65536,196608,458752,1048575,2097151] [0,1,2,3,4,5,6,7,8,9,10,11,12,13,14,15,16,17,18,19,20,21] (by decide +kernel) (by decide +kernel) (by decide +kernel) ?_ ?_)
  rotate_left 2
  · iterate 21 (refine dq rfl rfl rfl rfl (by simp [go_sem, X, Try.f86]; rfl) ?_)
    refine dl rfl rfl rfl rfl (by simp [go_sem, X, Try.f86]; rfl) (by rfl) (by simp [go_sem, X, Try.f86]) ?_
    rfl
  refine ACode.ret ⟨.inr rfl, _, [.agg (gdV p)], [], rfl, ?_, Tidy.zero ?_, ?_⟩
  · simp [Try.f86, resVals, tget_set, V.asPtr, Heap.load, Heap.elem, T.get_set, Ev.part, qa172, qs172, takeN, gdV]
  · intro k hk
    show T.get _ k = _
    repeat rw [T.get_set_ne _ _ (by omega)]
  · intro κ1 z hz
    exact VR_low (fun n hn => tidyK_lt hn) _ _ hlow hz
/-- the registers' cells -/
def rgV (w0 w1 w2 w3 w4 : Int) (pl x y z x' y' z' : V) : List V := [.int .u8 w0, .str [], .int .u8 w1, .str [], .int .u8 w2, .str [], .int .u8 w3, pl, .int .u8 w4, x, y, z, x', y', z']
theorem three_of {cs : List V} (h : cs.length = 3) : ∃ x y z, cs = [x, y, z] := by
  match cs, h with
  | [x, y, z], _ => exact ⟨x, y, z, rfl⟩
theorem regNew_ok (g0 g1 g2 g3 g4 : Int) (L : Heap) : ACall Try.prog 55 [.agg [.int .u8 g0, .int .u8 g1, .int .u8 g2, .int .u8 g3, .int .u8 g4]] L (.ptr L.next 0) (nx L) := by
  obtain ⟨ct, c84, lt, st⟩ := textC_ok
  obtain ⟨cg, c85, lg, sg⟩ := groundC_ok
  obtain ⟨x, y, z, rfl⟩ := three_of lt
  obtain ⟨x', y', z', rfl⟩ := three_of lg
  simp only [List.all_cons, List.all_nil, Bool.and_true, Bool.and_eq_true] at st sg
  obtain ⟨A1, hA1⟩ : ∃ A : Heap, A = ⟨L.t.set L.next (.cells (T.set .leaf 0 [.int .u8 g0, .int .u8 g1, .int .u8 g2, .int .u8 g3, .int .u8 g4]) 1 5 false false), L.next + 1⟩ := ⟨_, rfl⟩
  have n1 : A1.next = L.next + 1 := by rw [hA1]
  have g1' : A1.t.get L.next = some (.cells (T.set .leaf 0 [.int .u8 g0, .int .u8 g1, .int .u8 g2, .int .u8 g3, .int .u8 g4]) 1 5 false false) := by rw [hA1]; exact T.get_set_same _ _ _
  have k1 : ∀ k, k < L.next → A1.t.get k = L.t.get k := fun k hk => by rw [hA1]; exact T.get_set_ne _ _ (by omega)
  have c83 := first83_ok A1
  obtain ⟨B, hB⟩ : ∃ B : Heap, B = ⟨A1.t.set (A1.next + 1) (.cells (T.set .leaf 0 (rgV 0 0 0 0 0 (.slice A1.next 0 256 0 true) x y z x' y' z')) 1 15 false false), A1.next + 2⟩ := ⟨_, rfl⟩
  have nB : B.next = A1.next + 2 := by rw [hB]
  have gB : B.t.get (A1.next + 1) = some (.cells (T.set .leaf 0 (rgV 0 0 0 0 0 (.slice A1.next 0 256 0 true) x y z x' y' z')) 1 15 false false) := by rw [hB]; exact T.get_set_same _ _ _
  have kB : ∀ k, k < A1.next → B.t.get k = A1.t.get k := fun k hk => by rw [hB]; exact T.get_set_ne _ _ (by omega)
  have hgd := guards_ok (show A1.next + 1 < B.next by omega)
  refine ACall.of_body_forget Try.func55 rfl ?_
  refine ACode.seq (ACode.regS noT_ok names_ok mix (t' := ?_) (L' := ?_) [0, 1] (by rfl) ?_ ?_)
  rotate_left 2
  · iterate 2 (refine sq rfl rfl rfl (by simp [go_sem, X, Try.f55]; rfl) ?_)
    rfl
  change ACode _ _ _ _ _ ⟨L.t.set L.next (.cells (T.set .leaf 0 [.int .u8 g0, .int .u8 g1, .int .u8 g2, .int .u8 g3, .int .u8 g4]) 1 5 false false), L.next + 1⟩ _
  rw [← hA1]
  refine ACode.seq (ACode.regS ((oneT_okP c83).or ((oneT_okP (c84 (nx A1))).or (oneT_okP (c85 (nx A1))))) names_ok mix (t' := ?_) (L' := ?_) [0, 1, 2, 3, 4, 5, 6, 7, 8] (by rfl) ?_ ?_)
  rotate_left 2
  · iterate 9 (refine sq rfl rfl rfl (by simp [go_sem, X, orT, oneT_sameP, oneT_neP, Try.f55]; rfl) ?_)
    rfl
  change ACode _ _ _ _ _ ⟨A1.t.set (A1.next + 1) (.cells (T.set .leaf 0 (rgV 0 0 0 0 0 (.slice A1.next 0 256 0 true) x y z x' y' z')) 1 15 false false), A1.next + 2⟩ _
  rw [← hB]
  refine ACode.seq ?_
  have nA : (nx A1).next = A1.next + 1 := rfl
  refine ACode.seq (ACode.regS (oneT_okP hgd) names_ok mix (t' := ?_) (L' := ?_) [0, 1, 2] (by rfl) ?_ ?_)
  rotate_left 2
  · iterate 3 (refine sq rfl rfl rfl (by simp [go_sem, X, nA, oneT_sameP, Try.f55]; rfl) ?_)
    rfl
  generalize hp : A1.next + 1 = p at *
  generalize V.slice A1.next 0 256 0 true = pl at *
  refine ACode.block (ACode.loop (fun t d A N => d = [] ∧ ∃ (i : Nat) (w0 w1 w2 w3 w4 : Int), i ≤ 5 ∧ N = 5 - i ∧ B.next ≤ A.next ∧ (∀ k, k < A1.next → A.t.get k = A1.t.get k) ∧ A.t.get p = some (.cells (T.set .leaf 0 (rgV w0 w1 w2 w3 w4 pl x y z x' y' z')) 1 15 false false) ∧ tget t 1 = .ptr L.next 0 ∧ tget t 3 = .ptr p 0 ∧ tget t 15 = .agg (gdV p) ∧ tget t 16 = .int .i64 (i : Int)) (N := 5)
    ⟨rfl, 0, 0, 0, 0, 0, 0, by omega, rfl, Nat.le_refl _, kB, gB, by simp [tget_set], by simp [tget_set, nA], by simp [tget_set], by simp [tget_set]⟩ ?_)
  rintro t d A N ⟨rfl, i, w0, w1, w2, w3, w4, hi, rfl, hnx, hkp, hR, t1, t3, t15, t16⟩
  refine ACode.seq (ACode.regS noT_ok names_ok mix (t' := ?_) (L' := ?_) [0] (by rfl) ?_ ?_)
  rotate_left 2
  · refine sq rfl rfl rfl (by simp [go_sem, X, t16, Try.f55]; rfl) ?_
    rfl
  refine ACode.seq (ACode.cond (p := (i : Int) < 5) (by simp [tget_set, opd]) (fun hil => ACode.skip ?_) (fun hge => ACode.exit ?_))
  rotate_left 1
  ·
    show ACode _ _ _ _ _ _ _
    refine ACode.seq (ACode.regS noT_ok names_ok mix (t' := ?_) (L' := ?_) [0, 1] (by rfl) ?_ ?_)
    rotate_left 2
    · iterate 2 (refine sq rfl rfl rfl (by simp [go_sem, X, t3, Try.f55]; rfl) ?_)
      rfl
    exact ACode.ret ⟨.inr rfl, _, [.ptr p 0], p, rfl, by simp [Try.f55, resVals, tget_set], fun k hk => by rw [hkp k (by omega)]; exact k1 k hk, fun κ1 z hz => VR_ptr_f hz⟩
  have hL : A.t.get L.next = some (.cells (T.set .leaf 0 [.int .u8 g0, .int .u8 g1, .int .u8 g2, .int .u8 g3, .int .u8 g4]) 1 5 false false) := by rw [hkp _ (by omega)]; exact g1'
  have hpn : ∀ k, k < A1.next → k ≠ p := fun k hk => by omega
  have hpA : p < A.next := by omega
  refine ACode.seq (ACode.block ?_)
  unfold gdV at t15
  have key : ∀ g : Int, ∃ y, ACall Try.prog 87 [.slice A.next 0 1 1 false] ⟨A.t.set A.next (.cells (T.set .leaf 0 [.int .u8 g]) 1 1 false false), A.next + 1⟩ (.int .u8 y) ⟨A.t.set A.next (.cells (T.set .leaf 0 [.int .u8 g]) 1 1 false false), A.next + 1⟩ := fun g => join_ok (lvs_one (T.get_set_same _ _ _))
  have hR2 := hR
  have hpne : (p = A.next) = False := eq_false (by omega)
  unfold rgV at hR2
  have hi5 : i = 0 ∨ i = 1 ∨ i = 2 ∨ i = 3 ∨ i = 4 := by omega
  rcases hi5 with rfl | rfl | rfl | rfl | rfl
  ·
    obtain ⟨q, hj⟩ := key g0
    refine ACode.seq (ACode.regS noT_ok names_ok mix (t' := ?_) (L' := ?_) [0, 1, 2, 3] (by rfl) ?_ ?_)
    rotate_left 2
    · iterate 4 (refine sq rfl rfl rfl (by simp [go_sem, X, t15, t16, Try.f55]; rfl) ?_)
      rfl
    show ACode _ _ (Code.region _ _ _) _ _ _ _
    have e16 : ((0 : Nat) : Int) = 0 := rfl
    refine ACode.regS (oneT_okP hj) names_ok mix (t' := ?_) (L' := ?_) [0, 1, 2, 3, 4, 5, 6, 7, 8] (by rfl) ?_ ?_
    rotate_left 2
    · iterate 9 (refine sq rfl rfl rfl (by simp [go_sem, X, t1, hL, hpne, hR2, oneT_sameP, Try.f55]; rfl) ?_)
      rfl
    show ACode _ _ (Code.region _ _ _) _ _ _ _
    have hw : IntKind.i64.wrap (0 + 1) = 1 := rfl
    refine ACode.regS noT_ok names_ok mix (t' := ?_) (L' := ?_) [0, 1] (by rfl) ?_ ?_
    rotate_left 2
    · iterate 2 (refine sq rfl rfl rfl (by simp [go_sem, X, t16, hw, Try.f55]; rfl) ?_)
      rfl
    refine ⟨5 - (0 + 1), by omega, rfl, 1, q, w1, w2, w3, w4, by omega, rfl, by simp only; omega, fun k hk => ?_, T.get_set_same _ _ _, by simp [tget_set, t1], by simp [tget_set, t3], by simp [tget_set, t15, gdV], by simp [tget_set]⟩
    show T.get (T.set _ _ _) _ = _
    rw [T.get_set_ne _ _ (hpn k hk), T.get_set_ne _ _ (by omega)]
    exact hkp k hk
  ·
    obtain ⟨q, hj⟩ := key g1
    refine ACode.seq (ACode.regS noT_ok names_ok mix (t' := ?_) (L' := ?_) [0, 1, 2, 3] (by rfl) ?_ ?_)
    rotate_left 2
    · iterate 4 (refine sq rfl rfl rfl (by simp [go_sem, X, t15, t16, Try.f55]; rfl) ?_)
      rfl
    show ACode _ _ (Code.region _ _ _) _ _ _ _
    have e16 : ((1 : Nat) : Int) = 1 := rfl
    refine ACode.regS (oneT_okP hj) names_ok mix (t' := ?_) (L' := ?_) [0, 1, 2, 3, 4, 5, 6, 7, 8] (by rfl) ?_ ?_
    rotate_left 2
    · iterate 9 (refine sq rfl rfl rfl (by simp [go_sem, X, t1, hL, hpne, hR2, oneT_sameP, Try.f55]; rfl) ?_)
      rfl
    show ACode _ _ (Code.region _ _ _) _ _ _ _
    have hw : IntKind.i64.wrap (1 + 1) = 2 := rfl
    refine ACode.regS noT_ok names_ok mix (t' := ?_) (L' := ?_) [0, 1] (by rfl) ?_ ?_
    rotate_left 2
    · iterate 2 (refine sq rfl rfl rfl (by simp [go_sem, X, t16, hw, Try.f55]; rfl) ?_)
      rfl
    refine ⟨5 - (1 + 1), by omega, rfl, 2, w0, q, w2, w3, w4, by omega, rfl, by simp only; omega, fun k hk => ?_, T.get_set_same _ _ _, by simp [tget_set, t1], by simp [tget_set, t3], by simp [tget_set, t15, gdV], by simp [tget_set]⟩
    show T.get (T.set _ _ _) _ = _
    rw [T.get_set_ne _ _ (hpn k hk), T.get_set_ne _ _ (by omega)]
    exact hkp k hk
  ·
    obtain ⟨q, hj⟩ := key g2
    refine ACode.seq (ACode.regS noT_ok names_ok mix (t' := ?_) (L' := ?_) [0, 1, 2, 3] (by rfl) ?_ ?_)
    rotate_left 2
    · iterate 4 (refine sq rfl rfl rfl (by simp [go_sem, X, t15, t16, Try.f55]; rfl) ?_)
      rfl
    show ACode _ _ (Code.region _ _ _) _ _ _ _
    have e16 : ((2 : Nat) : Int) = 2 := rfl
    refine ACode.regS (oneT_okP hj) names_ok mix (t' := ?_) (L' := ?_) [0, 1, 2, 3, 4, 5, 6, 7, 8] (by rfl) ?_ ?_
    rotate_left 2
    · iterate 9 (refine sq rfl rfl rfl (by simp [go_sem, X, t1, hL, hpne, hR2, oneT_sameP, Try.f55]; rfl) ?_)
      rfl
    show ACode _ _ (Code.region _ _ _) _ _ _ _
    have hw : IntKind.i64.wrap (2 + 1) = 3 := rfl
    refine ACode.regS noT_ok names_ok mix (t' := ?_) (L' := ?_) [0, 1] (by rfl) ?_ ?_
    rotate_left 2
    · iterate 2 (refine sq rfl rfl rfl (by simp [go_sem, X, t16, hw, Try.f55]; rfl) ?_)
      rfl
    refine ⟨5 - (2 + 1), by omega, rfl, 3, w0, w1, q, w3, w4, by omega, rfl, by simp only; omega, fun k hk => ?_, T.get_set_same _ _ _, by simp [tget_set, t1], by simp [tget_set, t3], by simp [tget_set, t15, gdV], by simp [tget_set]⟩
    show T.get (T.set _ _ _) _ = _
    rw [T.get_set_ne _ _ (hpn k hk), T.get_set_ne _ _ (by omega)]
    exact hkp k hk
  ·
    obtain ⟨q, hj⟩ := key g3
    refine ACode.seq (ACode.regS noT_ok names_ok mix (t' := ?_) (L' := ?_) [0, 1, 2, 3] (by rfl) ?_ ?_)
    rotate_left 2
    · iterate 4 (refine sq rfl rfl rfl (by simp [go_sem, X, t15, t16, Try.f55]; rfl) ?_)
      rfl
    show ACode _ _ (Code.region _ _ _) _ _ _ _
    have e16 : ((3 : Nat) : Int) = 3 := rfl
    refine ACode.regS (oneT_okP hj) names_ok mix (t' := ?_) (L' := ?_) [0, 1, 2, 3, 4, 5, 6, 7, 8] (by rfl) ?_ ?_
    rotate_left 2
    · iterate 9 (refine sq rfl rfl rfl (by simp [go_sem, X, t1, hL, hpne, hR2, oneT_sameP, Try.f55]; rfl) ?_)
      rfl
    show ACode _ _ (Code.region _ _ _) _ _ _ _
    have hw : IntKind.i64.wrap (3 + 1) = 4 := rfl
    refine ACode.regS noT_ok names_ok mix (t' := ?_) (L' := ?_) [0, 1] (by rfl) ?_ ?_
    rotate_left 2
    · iterate 2 (refine sq rfl rfl rfl (by simp [go_sem, X, t16, hw, Try.f55]; rfl) ?_)
      rfl
    refine ⟨5 - (3 + 1), by omega, rfl, 4, w0, w1, w2, q, w4, by omega, rfl, by simp only; omega, fun k hk => ?_, T.get_set_same _ _ _, by simp [tget_set, t1], by simp [tget_set, t3], by simp [tget_set, t15, gdV], by simp [tget_set]⟩
    show T.get (T.set _ _ _) _ = _
    rw [T.get_set_ne _ _ (hpn k hk), T.get_set_ne _ _ (by omega)]
    exact hkp k hk
  ·
    obtain ⟨q, hj⟩ := key g4
    refine ACode.seq (ACode.regS noT_ok names_ok mix (t' := ?_) (L' := ?_) [0, 1, 2, 3] (by rfl) ?_ ?_)
    rotate_left 2
    · iterate 4 (refine sq rfl rfl rfl (by simp [go_sem, X, t15, t16, Try.f55]; rfl) ?_)
      rfl
    show ACode _ _ (Code.region _ _ _) _ _ _ _
    have e16 : ((4 : Nat) : Int) = 4 := rfl
    refine ACode.regS (oneT_okP hj) names_ok mix (t' := ?_) (L' := ?_) [0, 1, 2, 3, 4, 5, 6, 7, 8] (by rfl) ?_ ?_
    rotate_left 2
    · iterate 9 (refine sq rfl rfl rfl (by simp [go_sem, X, t1, hL, hpne, hR2, oneT_sameP, Try.f55]; rfl) ?_)
      rfl
    show ACode _ _ (Code.region _ _ _) _ _ _ _
    have hw : IntKind.i64.wrap (4 + 1) = 5 := rfl
    refine ACode.regS noT_ok names_ok mix (t' := ?_) (L' := ?_) [0, 1] (by rfl) ?_ ?_
    rotate_left 2
    · iterate 2 (refine sq rfl rfl rfl (by simp [go_sem, X, t16, hw, Try.f55]; rfl) ?_)
      rfl
    refine ⟨5 - (4 + 1), by omega, rfl, 5, w0, w1, w2, w3, q, by omega, rfl, by simp only; omega, fun k hk => ?_, T.get_set_same _ _ _, by simp [tget_set, t1], by simp [tget_set, t3], by simp [tget_set, t15, gdV], by simp [tget_set]⟩
    show T.get (T.set _ _ _) _ = _
    rw [T.get_set_ne _ _ (hpn k hk), T.get_set_ne _ _ (by omega)]
    exact hkp k hk
end Go.Proofs.Ytpfmoolpeecobaa
