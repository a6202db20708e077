/- - - - - - -/
import Derived.Test.YtpfmoolpeecobaaU19
namespace Go.Proofs.Ytpfmoolpeecobaa
open Go Go.Proofs Go.Proofs.Ytpfmoolpeecobaa.Ev
set_option linter.unusedVariables false
set_option linter.unusedSimpArgs false
set_option maxRecDepth 100000
set_option maxHeartbeats 4000000

noncomputable def sfx34b : Code := cSnd sfx34
noncomputable def x34r : Code := cFst (cSnd sfx34b)
noncomputable def sfx34c : Code := cSnd (cSnd sfx34b)
noncomputable def x34s : Code := cFst (cSnd (cSnd sfx34c))
noncomputable def x34e : Code := cFst (cSnd (cSnd (cSnd sfx34c)))
noncomputable def x34z : Code := cSnd (cSnd (cSnd (cSnd sfx34c)))
/-- the document's bits -/
def rBits (gs : List Int) : Nat → Int
  | 0 => 0
  | i + 1 => IntKind.i64.wrap (rBits gs i + ishl .i64 (gs.getD i 0) i)
theorem rbits_fin : ∀ a b c d e : Fin 2, lowB (rBits [(a.val : Int), (b.val : Int), (c.val : Int), (d.val : Int), (e.val : Int)] 5) = lowB (gBits [(a.val : Int), (b.val : Int), (c.val : Int), (d.val : Int), (e.val : Int)] 5) := by decide +kernel
theorem rbits_eq {a b c d e : Int} (hg : ∀ g ∈ [a, b, c, d, e], 0 ≤ g ∧ g ≤ 255) (hb : gBad [a, b, c, d, e] 5 = false) : lowB (rBits [a, b, c, d, e] 5) = lowB (gBits [a, b, c, d, e] 5) := by
  have h1 : ∀ g ∈ [a, b, c, d, e], 0 ≤ g ∧ g ≤ 1 := by
    intro g hm
    refine ⟨(hg g hm).1, ?_⟩
    unfold gBad at hb
    rw [List.any_eq_false] at hb
    have := hb g (by simpa using hm)
    simp at this
    omega
  simp only [List.mem_cons, List.not_mem_nil, or_false, forall_eq_or_imp, forall_eq] at h1
  obtain ⟨ha, hb', hc, hd, he⟩ := h1
  have := rbits_fin ⟨a.toNat, by omega⟩ ⟨b.toNat, by omega⟩ ⟨c.toNat, by omega⟩ ⟨d.toNat, by omega⟩ ⟨e.toNat, by omega⟩
  simp only at this
  rwa [show ((a.toNat : Nat) : Int) = a by omega, show ((b.toNat : Nat) : Int) = b by omega, show ((c.toNat : Nat) : Int) = c by omega, show ((d.toNat : Nat) : Int) = d by omega, show ((e.toNat : Nat) : Int) = e by omega] at this
theorem gBad_at {gs : List Int} {i : Nat} {g : Int} (h : gs[i]? = some g) (hi : i < 5) (hg : 1 < g) : gBad gs 5 = true := by
  unfold gBad
  rw [List.any_eq_true]
  exact ⟨g, List.mem_of_getElem? (i := i) (by rw [List.getElem?_take_of_lt hi]; exact h), by simpa using hg⟩
section
variable {L : Heap} {r c ring g0 g1 g2 g3 g4 : Int} {sv ev : V} {srcs : List SrcG} {evs : List Evt} {cs : List V}
theorem rregs {A : Heap} {n : Int} (h : RP L A cs (suCs r c sv g0 g1 g2 g3 g4 ring)) (hg : ∀ g ∈ [g0, g1, g2, g3, g4], 0 ≤ g ∧ g ≤ 255) (t : T V) (t1 : tget t 1 = .ptr L.next 0) (t4 : tget t 4 = .ptr (L.next + 1) 0) (t5 : tget t 5 = .int .i64 n) (t6 : tget t 6 = .int .i64 0) :
    ACode Try.prog ⟨none, 166⟩ x34r t [] A (fun x t' d A' => d = [] ∧ A' = A ∧ (gBad [g0, g1, g2, g3, g4] 5 = true ∧ x = .ret ∧ tget t' 2 = .nils ∧ tget t' 3 = .int .i64 2 ∨
      gBad [g0, g1, g2, g3, g4] 5 = false ∧ x = .normal ∧ tget t' 1 = .ptr L.next 0 ∧ tget t' 4 = .ptr (L.next + 1) 0 ∧ tget t' 5 = .int .i64 n ∧ tget t' 6 = .int .i64 (rBits [g0, g1, g2, g3, g4] 5))) := by
  have hE := h.su
  have hlen : [g0, g1, g2, g3, g4].length = 5 := rfl
  unfold evB suCs at hE
  have hix : ∀ i : Nat, i < 5 → ∀ g, [g0, g1, g2, g3, g4][i]? = some g → Ev.indexAddr Try.prog 52 (.ptr (L.next + 1) 3) (.int .i64 (i : Int)) = some (.ptr (L.next + 1) (3 + i)) ∧ Heap.load Try.prog A 51 (L.next + 1) (3 + i) = some (.int .u8 g) := by
    intro i hi g hgi
    refine ⟨by simp [Ev.indexAddr, par52, ps51, idx_nat, blt_dec, hi, guardO], ?_⟩
    have : i = 0 ∨ i = 1 ∨ i = 2 ∨ i = 3 ∨ i = 4 := by omega
    rcases this with rfl | rfl | rfl | rfl | rfl <;> (simp at hgi; subst hgi; simp [Heap.load, Heap.elem, hE, T.get_set, Ev.part, pa51])
  generalize hgs : [g0, g1, g2, g3, g4] = gs at *
  show ACode _ _ (Code.seq (Code.region _ _ _) (Code.block 0 _)) _ _ _ _
  refine ACode.seq (ACode.regS noT_ok names_ok mix (t' := ?_) (L' := ?_) [0] (by rfl) ?_ ?_)
  rotate_left 2
  · refine sq rfl rfl rfl (by simp [go_sem, X, Try.f34]; rfl) ?_
    rfl
  refine ACode.block (ACode.loop (fun t' d B N => d = [] ∧ B = A ∧ ∃ i, i ≤ 5 ∧ N = 5 - i ∧ gBad gs i = false ∧ tget t' 1 = .ptr L.next 0 ∧ tget t' 4 = .ptr (L.next + 1) 0 ∧ tget t' 5 = .int .i64 n ∧ tget t' 6 = .int .i64 (rBits gs i) ∧ tget t' 7 = .int .i64 (i : Int)) (N := 5)
    ⟨rfl, rfl, 0, by omega, rfl, by simp [gBad], by simp [tget_set, t1], by simp [tget_set, t4], by simp [tget_set, t5], by simp [tget_set, t6, rBits], by simp [tget_set]⟩ ?_)
  clear t1 t4 t5 t6
  rintro t1 d B N ⟨rfl, rfl, i, hi, rfl, hnb, u1, u4, u5, u6, u7⟩
  refine ACode.seq ?_
  refine ACode.seq (ACode.regS noT_ok names_ok mix (t' := ?_) (L' := ?_) [0, 1] (by rfl) ?_ ?_)
  rotate_left 2
  · iterate 2 (refine sq rfl rfl rfl (by simp [go_sem, X, u7, Try.f34]; rfl) ?_)
    rfl
  refine ACode.cond (p := (i : Int) < 5) (by simp [tget_set, opd]) (fun hil => ACode.skip ?_) (fun hge => ACode.exit ?_)
  rotate_left 1
  ·
    have hi5 : i = 5 := by omega
    subst hi5
    exact ⟨rfl, rfl, .inr ⟨hnb, rfl, by simp [tget_set, u1], by simp [tget_set, u4], by simp [tget_set, u5], by simp [tget_set, u6]⟩⟩
  have hi5 : i < 5 := by omega
  have hgi : gs[i]? = some (gs.getD i 0) := by
    rw [List.getD_eq_getElem?_getD, List.getElem?_eq_getElem (by rw [hlen]; exact hi5)]; rfl
  have hgr := hg _ (List.mem_of_getElem? hgi)
  obtain ⟨hx, hld⟩ := hix i hi5 _ hgi
  have hsucc := gBad_succ hgi
  have hbits : rBits gs (i + 1) = IntKind.i64.wrap (rBits gs i + ishl .i64 (gs.getD i 0) i) := rfl
  have hbad := gBad_at hgi hi5
  generalize gs.getD i 0 = g at *
  generalize rBits gs i = bt at *
  have hwg : IntKind.i64.wrap g = g := Go.IntWalk.i64_in _ (by omega)
  have hw1 : IntKind.i64.wrap ((i : Int) + 1) = (i : Int) + 1 := Go.IntWalk.i64_in _ (by omega)
  have hi0 : ¬ (i : Int) < 0 := by omega
  show ACode _ _ _ _ _ _ _
  refine ACode.seq (ACode.block ?_)
  refine ACode.seq ?_
  by_cases h1 : 1 < g
  ·
    refine ACode.seq (ACode.regS noT_ok names_ok mix (t' := ?_) (L' := ?_) [0, 1, 2, 3, 4] (by rfl) ?_ ?_)
    rotate_left 2
    · iterate 5 (refine sq rfl rfl rfl (by simp [go_sem, xs, xe, xi, xo, xb, xq, xv, xc, xk, u4, u7, hx, hld, h1, Try.f34]; rfl) ?_)
      rfl
    refine ACode.condT (by simp [tget_set, opd]) ?_
    refine ACode.seq (ACode.regS noT_ok names_ok mix (t' := ?_) (L' := ?_) [0, 1] (by rfl) ?_ ?_)
    rotate_left 2
    · iterate 2 (refine sq rfl rfl rfl (by simp [go_sem, X, Try.f34]; rfl) ?_)
      rfl
    exact ACode.ret ⟨rfl, rfl, .inl ⟨hbad h1, rfl, by simp [tget_set], by simp [tget_set]⟩⟩
  refine ACode.seq (ACode.regS noT_ok names_ok mix (t' := ?_) (L' := ?_) [0, 1, 2, 3, 4] (by rfl) ?_ ?_)
  rotate_left 2
  · iterate 5 (refine sq rfl rfl rfl (by simp [go_sem, xs, xe, xi, xo, xb, xq, xv, xc, xk, u4, u7, hx, hld, h1, Try.f34]; rfl) ?_)
    rfl
  refine ACode.condF (by simp [tget_set, opd]) (ACode.skip ?_)
  show ACode _ _ (Code.region _ _ _) _ _ _ _
  have hwb : IntKind.i64.wrap (bt + ishl .i64 g i) = rBits gs (i + 1) := hbits.symm
  refine ACode.regS noT_ok names_ok mix (t' := ?_) (L' := ?_) [0, 1, 2, 3, 4, 5, 6, 7, 8, 9] (by rfl) ?_ ?_
  rotate_left 2
  · iterate 10 (refine sq rfl rfl rfl (by simp [go_sem, xs, xe, xi, xo, xb, xq, xv, xc, xk, u4, u6, u7, hx, hld, hwg, hi0, hwb, Try.f34]; rfl) ?_)
    rfl
  show ACode _ _ (Code.region _ _ _) _ _ _ _
  refine ACode.regS noT_ok names_ok mix (t' := ?_) (L' := ?_) [0, 1, 2] (by rfl) ?_ ?_
  rotate_left 2
  · iterate 3 (refine sq rfl rfl rfl (by simp [go_sem, X, u7, hw1, Try.f34]; rfl) ?_)
    rfl
  exact ⟨5 - (i + 1), by omega, rfl, rfl, i + 1, by omega, rfl, by rw [hsucc, hnb]; simp [h1], by simp [tget_set, u1], by simp [tget_set, u4], by simp [tget_set, u5], by simp [tget_set], by simp [tget_set]⟩
end
end Go.Proofs.Ytpfmoolpeecobaa
namespace Go.Proofs.Ytpfmoolpeecobaa
open Go Go.Proofs Go.Proofs.Ytpfmoolpeecobaa.Ev
set_option linter.unusedVariables false
set_option linter.unusedSimpArgs false
set_option maxRecDepth 100000
set_option maxHeartbeats 4000000

noncomputable def x34sB : Code := cLoop (cBlk (cSnd x34s))
theorem srcK_add {x : SrcG} (h : 0 ≤ x.lv ∧ x.lv ≤ 1) : IntKind.u8.wrap (x.lv + 2) = ior .u8 x.lv 2 := by
  have : x.lv = 0 ∨ x.lv = 1 := by omega
  rcases this with h | h <;> rw [h] <;> rfl
section
variable {L : Heap} {r c ring g0 g1 g2 g3 g4 : Int} {sv ev : V} {srcs : List SrcG} {evs : List Evt} {cs : List V}
/-- a round over the sources -/
theorem rsround {A : Heap} {v pv : V} {out : List Int} {i n : Nat} {x : SrcG} {ps : List (Int × Int × Int × Int)} (h : RP L A cs (suCs r c sv g0 g1 g2 g3 g4 ring)) (hb : BaseU A v out) (hs : SlP 6 83 srcG A sv srcs) (hp : SlP 4 81 rectV A pv ps) (hx : srcs[i]? = some x) (hi : i < n) (hn : n ≤ 1000) (hpi : i < ps.length) (hxr : 0 ≤ x.lv ∧ x.lv ≤ 255)
    (t : T V) (t1 : tget t 1 = .ptr L.next 0) (t4 : tget t 4 = .ptr (L.next + 1) 0) (t5 : tget t 5 = .int .i64 (n : Int)) (t8 : tget t 8 = v) (t9 : tget t 9 = pv) (t10 : tget t 10 = .int .i64 (i : Int)) :
    (sBad ps i x = true → ACode Try.prog ⟨none, 166⟩ x34sB t [] A (fun y t' d A' => y = .ret ∧ d = [] ∧ A' = ⟨A.t.set A.next (srcBlk x), A.next + 1⟩ ∧ tget t' 2 = .nils ∧ tget t' 3 = .int .i64 2)) ∧
    (sBad ps i x = false → ∀ v' A2, Ev.append Try.prog 38 v (.slice (A.next + 1) 0 1 1 false) ⟨(A.t.set A.next (srcBlk x)).set (A.next + 1) (.cells (T.set .leaf 0 [.int .u8 (srcK x)]) 1 1 false false), A.next + 2⟩ = some (v', A2) →
      ACode Try.prog ⟨none, 166⟩ x34sB t [] A (fun y t' d A' => y = .normal ∧ d = [] ∧ A' = A2 ∧ tget t' 1 = .ptr L.next 0 ∧ tget t' 4 = .ptr (L.next + 1) 0 ∧ tget t' 5 = .int .i64 (n : Int) ∧ tget t' 8 = v' ∧ tget t' 9 = pv ∧ tget t' 10 = .int .i64 ((i + 1 : Nat) : Int))) := by
  have hE := h.su
  have hnx := h.nx
  obtain ⟨n1, off, _, hix, hld⟩ := hs.at' pt50 ps83 hx
  unfold evB suCs at hE
  have hlsv : Heap.load Try.prog A 50 (L.next + 1) 2 = some sv := by simp [Heap.load, Heap.elem, hE, T.get_set, Ev.part, pa50, ps50]
  have hX : (⟨A.t.set A.next (srcBlk x), A.next + 1⟩ : Heap).t.get A.next = some (srcBlk x) := T.get_set_same _ _ _
  have hp1 : SlP 4 81 rectV ⟨A.t.set A.next (srcBlk x), A.next + 1⟩ pv ps := hp.keep (Nat.le_succ _) fun k hk => T.get_set_ne _ _ (by omega)
  have hn1 : (⟨A.t.set A.next (srcBlk x), A.next + 1⟩ : Heap).next = A.next + 1 := rfl
  have ht1 : (⟨A.t.set A.next (srcBlk x), A.next + 1⟩ : Heap).t = A.t.set A.next (srcBlk x) := rfl
  rw [← ht1]
  generalize hA1 : (⟨A.t.set A.next (srcBlk x), A.next + 1⟩ : Heap) = A1 at *
  obtain ⟨n2, off2, _, hix2, hld2⟩ := hp1.at' pt79 ps81 (i := i) (x := ps[i]) (by simp [hpi])
  have h2' : ps[i]? = some ps[i] := by simp [hpi]
  have hev := ev81g false x.q ps[i]
  have hw1 : IntKind.i64.wrap ((i : Int) + 1) = ((i + 1 : Nat) : Int) := by rw [Go.IntWalk.i64_in _ (by omega)]; omega
  have hil : (i : Int) < (n : Int) := by omega
  unfold srcBlk at hX
  simp only [srcG] at hX hld
  have hl0 : Heap.load Try.prog A1 51 A.next 0 = some (.int .u8 x.lv) := by simp [Heap.load, Heap.elem, hX, T.get_set, Ev.part, pa51]
  have hl1 : Heap.load Try.prog A1 4 A.next 1 = some (.bool x.tr) := by simp [Heap.load, Heap.elem, hX, T.get_set, Ev.part, pa4]
  have hl2 : Heap.load Try.prog A1 81 A.next 2 = some (.agg (rectV x.q)) := by simp [Heap.load, Heap.elem, hX, T.get_set, Ev.part, pa81, ps81, takeN, rectV]
  have hbad : sBad ps i x = (decide (1 < x.lv) || !decide (x.q = ps[i])) := by simp [sBad, h2', eq_comm]
  have pre : ∀ K, (∀ t : T V, tget t 1 = .ptr L.next 0 → tget t 4 = .ptr (L.next + 1) 0 → tget t 5 = .int .i64 (n : Int) → tget t 8 = v → tget t 9 = pv → tget t 10 = .int .i64 (i : Int) → tget t 11 = .ptr A.next 0 →
      ACode Try.prog ⟨none, 166⟩ (cSnd (cBlk (cFst (cSnd x34sB)))) t [] A1 (blockK 3 (thenK (fun t d A => ACode Try.prog ⟨none, 166⟩ (cSnd (cSnd x34sB)) t d A K) K))) → ACode Try.prog ⟨none, 166⟩ x34sB t [] A K := by
    intro K hK
    show ACode _ _ (Code.seq (Code.seq (Code.region _ _ _) _) (Code.seq (Code.block 3 (Code.seq (Code.region _ _ _) _)) _)) _ _ _ _
    refine ACode.seq ?_
    refine ACode.seq (ACode.regS noT_ok names_ok mix (t' := ?_) (L' := ?_) [0, 1, 2] (by rfl) ?_ ?_)
    rotate_left 2
    · iterate 3 (refine sq rfl rfl rfl (by simp [go_sem, X, t5, t10, hil, Try.f34]; rfl) ?_)
      rfl
    refine ACode.condT (by simp [tget_set, opd]) (ACode.skip ?_)
    show ACode _ _ (Code.seq (Code.block 3 (Code.seq (Code.region _ _ _) _)) _) _ _ _ _
    refine ACode.seq (ACode.block ?_)
    refine ACode.seq (ACode.regS noT_ok names_ok mix (t' := ?_) (L' := ?_) [0, 1, 2, 3, 4, 5, 6] (by rfl) ?_ ?_)
    rotate_left 2
    · iterate 7 (refine sq rfl rfl rfl (by simp [go_sem, xs, xe, xi, xo, xb, xq, xv, xc, xk, t4, t10, hlsv, hix, hld, Try.f34]; rfl) ?_)
      rfl
    change ACode _ _ _ _ _ ⟨A.t.set A.next (srcBlk x), A.next + 1⟩ _
    rw [hA1]
    refine hK _ ?_ ?_ ?_ ?_ ?_ ?_ ?_
    · simp [tget_set, t1]
    · simp [tget_set, t4]
    · simp [tget_set, t5]
    · simp [tget_set, t8]
    · simp [tget_set, t9]
    · simp [tget_set, t10]
    · simp [tget_set]
  clear t1 t4 t5 t8 t9 t10
  refine ⟨fun hbd => pre _ ?_, fun hgd v' A2 happ => pre _ ?_⟩
  ·
    intro t1 u1 u4 u5 u8 u9 u10 u11
    show ACode _ _ (Code.seq (Code.seq (Code.region _ _ _) _) _) _ _ _ _
    refine ACode.seq ?_
    by_cases h1 : 1 < x.lv
    ·
      refine ACode.seq (ACode.regD noT_ok names_ok mix (t' := ?_) (L' := ?_) [0,1,3,7,15,31,15,15,207,463,1023,2047] [0,1,2,3,4,5,6,7,8,9,10,11] (by decide +kernel) (by decide +kernel) (by decide +kernel) ?_ ?_)
      rotate_left 2
      · refine dq rfl rfl rfl rfl (by simp [go_sem, xs, xe, xi, xo, xb, xq, xv, xc, xk, u9, u10, u11, hl0, h1, Try.f34]; rfl) ?_
        refine dr rfl rfl rfl rfl (by simp [go_sem, xs, xe, xi, xo, xb, xq, xv, xc, xk, u9, u10, u11, hl0, h1, Try.f34]; rfl) ?_
        iterate 2 (refine dq rfl rfl rfl rfl (by simp [go_sem, xs, xe, xi, xo, xb, xq, xv, xc, xk, u9, u10, u11, hl0, h1, Try.f34]; rfl) ?_)
        iterate 7 (refine ds rfl rfl (by simp [go_sem, xs, xe, xi, xo, xb, xq, xv, xc, xk, u9, u10, u11, hl0, h1, Try.f34]) ?_)
        refine dq rfl rfl rfl rfl (by simp [go_sem, xs, xe, xi, xo, xb, xq, xv, xc, xk, u9, u10, u11, hl0, h1, Try.f34]; rfl) ?_
        rfl
      refine ACode.condT (by simp [tget_set, opd]) ?_
      refine ACode.seq (ACode.regS noT_ok names_ok mix (t' := ?_) (L' := ?_) [0, 1] (by rfl) ?_ ?_)
      rotate_left 2
      · iterate 2 (refine sq rfl rfl rfl (by simp [go_sem, X, Try.f34]; rfl) ?_)
        rfl
      exact ACode.ret ⟨rfl, rfl, rfl, by simp [tget_set], by simp [tget_set]⟩
    have hq : decide (x.q = ps[i]) = false := by rw [hbad] at hbd; simpa [h1] using hbd
    rw [hq] at hev
    generalize rectV ps[i] = rc at *
    generalize rectV x.q = rx at *
    refine ACode.seq (ACode.regD noT_ok names_ok mix (t' := ?_) (L' := ?_) [0,1,3,7,15,31,15,15,207,463,1023,2047] [0,1,2,3,4,5,6,7,8,9,10,11] (by decide +kernel) (by decide +kernel) (by decide +kernel) ?_ ?_)
    rotate_left 2
    · refine dq rfl rfl rfl rfl (by simp [go_sem, xs, xe, xi, xo, xb, xq, xv, xc, xk, u9, u10, u11, hl0, hl2, hix2, hld2, hev, h1, Try.f34]; rfl) ?_
      refine dr rfl rfl rfl rfl (by simp [go_sem, xs, xe, xi, xo, xb, xq, xv, xc, xk, u9, u10, u11, hl0, hl2, hix2, hld2, hev, h1, Try.f34]; rfl) ?_
      iterate 2 (refine dq rfl rfl rfl rfl (by simp [go_sem, xs, xe, xi, xo, xb, xq, xv, xc, xk, u9, u10, u11, hl0, hl2, hix2, hld2, hev, h1, Try.f34]; rfl) ?_)
      refine dq rfl rfl (by simp [go_sem, xs, xe, xi, xo, xb, xq, xv, xc, xk, u9, u10, u11, hl0, hl2, hix2, hld2, hev, h1, Try.f34]) rfl (by simp [go_sem, xs, xe, xi, xo, xb, xq, xv, xc, xk, u9, u10, u11, hl0, hl2, hix2, hld2, hev, h1, Try.f34]; rfl) ?_
      refine dr rfl rfl (by simp [go_sem, xs, xe, xi, xo, xb, xq, xv, xc, xk, u9, u10, u11, hl0, hl2, hix2, hld2, hev, h1, Try.f34]) rfl (by simp [go_sem, xs, xe, xi, xo, xb, xq, xv, xc, xk, u9, u10, u11, hl0, hl2, hix2, hld2, hev, h1, Try.f34]; rfl) ?_
      iterate 3 (refine dq rfl rfl (by simp [go_sem, xs, xe, xi, xo, xb, xq, xv, xc, xk, u9, u10, u11, hl0, hl2, hix2, hld2, hev, h1, Try.f34]) rfl (by simp [go_sem, xs, xe, xi, xo, xb, xq, xv, xc, xk, u9, u10, u11, hl0, hl2, hix2, hld2, hev, h1, Try.f34]; rfl) ?_)
      refine dr rfl rfl (by simp [go_sem, xs, xe, xi, xo, xb, xq, xv, xc, xk, u9, u10, u11, hl0, hl2, hix2, hld2, hev, h1, Try.f34]) rfl (by simp [go_sem, xs, xe, xi, xo, xb, xq, xv, xc, xk, u9, u10, u11, hl0, hl2, hix2, hld2, hev, h1, Try.f34]; rfl) ?_
      refine dq rfl rfl (by simp [go_sem, xs, xe, xi, xo, xb, xq, xv, xc, xk, u9, u10, u11, hl0, hl2, hix2, hld2, hev, h1, Try.f34]) rfl (by simp [go_sem, xs, xe, xi, xo, xb, xq, xv, xc, xk, u9, u10, u11, hl0, hl2, hix2, hld2, hev, h1, Try.f34]; rfl) ?_
      refine dq rfl rfl rfl rfl (by simp [go_sem, xs, xe, xi, xo, xb, xq, xv, xc, xk, u9, u10, u11, hl0, hl2, hix2, hld2, hev, h1, Try.f34]; rfl) ?_
      rfl
    refine ACode.condT (by simp [tget_set, opd]) ?_
    refine ACode.seq (ACode.regS noT_ok names_ok mix (t' := ?_) (L' := ?_) [0, 1] (by rfl) ?_ ?_)
    rotate_left 2
    · iterate 2 (refine sq rfl rfl rfl (by simp [go_sem, X, Try.f34]; rfl) ?_)
      rfl
    exact ACode.ret ⟨rfl, rfl, rfl, by simp [tget_set], by simp [tget_set]⟩
  intro t1 u1 u4 u5 u8 u9 u10 u11
  have h1 : ¬ 1 < x.lv := by rw [hbad] at hgd; simp only [Bool.or_eq_false_iff, decide_eq_false_iff_not] at hgd; exact hgd.1
  have hq : decide (x.q = ps[i]) = true := by rw [hbad] at hgd; simp only [Bool.or_eq_false_iff] at hgd; simpa using hgd.2
  rw [hq] at hev
  have hka := srcK_add (x := x) ⟨hxr.1, by omega⟩
  have hsk : srcK x = if x.tr then ior .u8 x.lv 2 else x.lv := rfl
  generalize rectV ps[i] = rc at *
  generalize rectV x.q = rx at *
  show ACode _ _ (Code.seq (Code.seq (Code.region _ _ _) _) _) _ _ _ _
  refine ACode.seq ?_
  refine ACode.seq (ACode.regD noT_ok names_ok mix (t' := ?_) (L' := ?_) [0,1,3,7,15,31,15,15,207,463,1023,2047] [0,1,2,3,4,5,6,7,8,9,10,11] (by decide +kernel) (by decide +kernel) (by decide +kernel) ?_ ?_)
  rotate_left 2
  · refine dq rfl rfl rfl rfl (by simp [go_sem, xs, xe, xi, xo, xb, xq, xv, xc, xk, u9, u10, u11, hl0, hl2, hix2, hld2, hev, h1, Try.f34]; rfl) ?_
    refine dr rfl rfl rfl rfl (by simp [go_sem, xs, xe, xi, xo, xb, xq, xv, xc, xk, u9, u10, u11, hl0, hl2, hix2, hld2, hev, h1, Try.f34]; rfl) ?_
    iterate 2 (refine dq rfl rfl rfl rfl (by simp [go_sem, xs, xe, xi, xo, xb, xq, xv, xc, xk, u9, u10, u11, hl0, hl2, hix2, hld2, hev, h1, Try.f34]; rfl) ?_)
    refine dq rfl rfl (by simp [go_sem, xs, xe, xi, xo, xb, xq, xv, xc, xk, u9, u10, u11, hl0, hl2, hix2, hld2, hev, h1, Try.f34]) rfl (by simp [go_sem, xs, xe, xi, xo, xb, xq, xv, xc, xk, u9, u10, u11, hl0, hl2, hix2, hld2, hev, h1, Try.f34]; rfl) ?_
    refine dr rfl rfl (by simp [go_sem, xs, xe, xi, xo, xb, xq, xv, xc, xk, u9, u10, u11, hl0, hl2, hix2, hld2, hev, h1, Try.f34]) rfl (by simp [go_sem, xs, xe, xi, xo, xb, xq, xv, xc, xk, u9, u10, u11, hl0, hl2, hix2, hld2, hev, h1, Try.f34]; rfl) ?_
    iterate 3 (refine dq rfl rfl (by simp [go_sem, xs, xe, xi, xo, xb, xq, xv, xc, xk, u9, u10, u11, hl0, hl2, hix2, hld2, hev, h1, Try.f34]) rfl (by simp [go_sem, xs, xe, xi, xo, xb, xq, xv, xc, xk, u9, u10, u11, hl0, hl2, hix2, hld2, hev, h1, Try.f34]; rfl) ?_)
    refine dr rfl rfl (by simp [go_sem, xs, xe, xi, xo, xb, xq, xv, xc, xk, u9, u10, u11, hl0, hl2, hix2, hld2, hev, h1, Try.f34]) rfl (by simp [go_sem, xs, xe, xi, xo, xb, xq, xv, xc, xk, u9, u10, u11, hl0, hl2, hix2, hld2, hev, h1, Try.f34]; rfl) ?_
    refine dq rfl rfl (by simp [go_sem, xs, xe, xi, xo, xb, xq, xv, xc, xk, u9, u10, u11, hl0, hl2, hix2, hld2, hev, h1, Try.f34]) rfl (by simp [go_sem, xs, xe, xi, xo, xb, xq, xv, xc, xk, u9, u10, u11, hl0, hl2, hix2, hld2, hev, h1, Try.f34]; rfl) ?_
    refine dq rfl rfl rfl rfl (by simp [go_sem, xs, xe, xi, xo, xb, xq, xv, xc, xk, u9, u10, u11, hl0, hl2, hix2, hld2, hev, h1, Try.f34]; rfl) ?_
    rfl
  refine ACode.condF (by simp [tget_set, opd]) (ACode.skip ?_)
  show ACode _ _ (Code.seq (Code.region _ _ _) _) _ _ _ _
  refine ACode.seq (ACode.regS noT_ok names_ok mix (t' := ?_) (L' := ?_) [0, 1, 2] (by rfl) ?_ ?_)
  rotate_left 2
  · iterate 3 (refine sq rfl rfl rfl (by simp [go_sem, xs, xe, xa, xi, xo, xb, xq, xv, xc, xk, u11, hl0, Try.f34]; rfl) ?_)
    rfl
  refine ACode.seq (ACode.mono (K := fun y t' d' L' => y = .normal ∧ d' = [] ∧ L' = A1 ∧ tget t' 1 = .ptr L.next 0 ∧ tget t' 4 = .ptr (L.next + 1) 0 ∧ tget t' 5 = .int .i64 (n : Int) ∧ tget t' 8 = v ∧ tget t' 9 = pv ∧ tget t' 10 = .int .i64 (i : Int) ∧ tget t' 12 = .int .u8 (srcK x)) ?_ ?_)
  ·
    show ACode _ _ (Code.seq (Code.region _ _ _) _) _ _ _ _
    refine ACode.seq (ACode.regS noT_ok names_ok mix (t' := ?_) (L' := ?_) [0, 1] (by rfl) ?_ ?_)
    rotate_left 2
    · iterate 2 (refine sq rfl rfl rfl (by simp [go_sem, xs, xe, xa, xi, xo, xb, xq, xv, xc, xk, u11, hl1, Try.f34]; rfl) ?_)
      rfl
    cases htr : x.tr with
    | true =>
      refine ACode.condT (by simp [tget_set, opd, htr]) ?_
      refine ACode.regS noT_ok names_ok mix (t' := ?_) (L' := ?_) [0, 1, 2] (by rfl) ?_ ?_
      rotate_left 2
      · iterate 3 (refine sq rfl rfl rfl (by simp [go_sem, X, hka, Try.f34]; rfl) ?_)
        rfl
      exact ⟨rfl, rfl, rfl, by simp [tget_set, u1], by simp [tget_set, u4], by simp [tget_set, u5], by simp [tget_set, u8], by simp [tget_set, u9], by simp [tget_set, u10], by simp [tget_set, hsk, htr]⟩
    | false =>
      refine ACode.condF (by simp [tget_set, opd, htr]) (ACode.skip ?_)
      exact ⟨rfl, rfl, rfl, by simp [tget_set, u1], by simp [tget_set, u4], by simp [tget_set, u5], by simp [tget_set, u8], by simp [tget_set, u9], by simp [tget_set, u10], by simp [tget_set, hsk, htr]⟩
  clear u1 u4 u5 u8 u9 u10 u11
  rintro y t2 d2 L2 ⟨rfl, rfl, rfl, u1, u4, u5, u8, u9, u10, u12⟩
  show ACode _ _ (Code.region _ _ _) _ _ _ _
  rw [show A.next + 1 = L2.next from hn1.symm, show A.next + 2 = L2.next + 1 by omega] at happ
  refine ACode.regS noT_ok names_ok mix (t' := ?_) (L' := ?_) [0, 1, 2, 3, 4] (by rfl) ?_ ?_
  rotate_left 2
  · iterate 5 (refine sq rfl rfl rfl (by simp [go_sem, X, u8, u12, happ, pi38, Try.f34]; rfl) ?_)
    rfl
  show ACode _ _ (Code.region _ _ _) _ _ _ _
  refine ACode.regS noT_ok names_ok mix (t' := ?_) (L' := ?_) [0, 1, 2] (by rfl) ?_ ?_
  rotate_left 2
  · iterate 3 (refine sq rfl rfl rfl (by simp [go_sem, X, u10, hw1, Try.f34]; rfl) ?_)
    rfl
  exact ⟨rfl, rfl, rfl, by simp [tget_set, u1], by simp [tget_set, u4], by simp [tget_set, u5], by simp [tget_set], by simp [tget_set, u9], by simp [tget_set]⟩
end
end Go.Proofs.Ytpfmoolpeecobaa
namespace Go.Proofs.Ytpfmoolpeecobaa
open Go Go.Proofs Go.Proofs.Ytpfmoolpeecobaa.Ev
set_option linter.unusedVariables false
set_option linter.unusedSimpArgs false
set_option maxRecDepth 100000
set_option maxHeartbeats 4000000

theorem first_bad (p : Nat → Bool) : ∀ n : Nat, ∃ j, j ≤ n ∧ (∀ i, i < j → p i = false) ∧ (j = n ∨ p j = true)
  | 0 => ⟨0, Nat.le_refl _, fun i h => by omega, .inl rfl⟩
  | n + 1 => by
    obtain ⟨j, h1, h2, h3⟩ := first_bad p n
    rcases h3 with rfl | h3
    · cases hp : p j with
      | true => exact ⟨j, by omega, h2, .inr hp⟩
      | false => exact ⟨j + 1, Nat.le_refl _, fun i hi => by by_cases h : i = j; · rw [h]; exact hp
                                                             · exact h2 i (by omega), .inl rfl⟩
    · exact ⟨j, by omega, h2, .inr h3⟩
def sB1 (ps : List (Int × Int × Int × Int)) (srcs : List SrcG) (i : Nat) : Bool := match srcs[i]? with
  | some x => sBad ps i x
  | none => false
theorem sBads_all {ps : List (Int × Int × Int × Int)} {srcs : List SrcG} : ∀ n, (∀ i, i < n → sB1 ps srcs i = false) → sBads ps srcs n = false
  | 0, _ => rfl
  | n + 1, h => by
    have h1 := sBads_all n (fun i hi => h i (by omega))
    have h2 := h n (by omega)
    unfold sB1 at h2
    simp only [sBads, h1, Bool.false_or]
    exact h2
theorem sBads_one {ps : List (Int × Int × Int × Int)} {srcs : List SrcG} : ∀ n j, j < n → sB1 ps srcs j = true → sBads ps srcs n = true
  | 0, j, h, _ => by omega
  | n + 1, j, h, hj => by
    simp only [sBads, Bool.or_eq_true]
    by_cases e : j = n
    · subst e; exact .inr hj
    · exact .inl (sBads_one n j (by omega) hj)
section
variable {L : Heap} {r c ring g0 g1 g2 g3 g4 : Int} {sv ev : V} {srcs : List SrcG} {evs : List Evt} {cs : List V}
/-- where the sources are laid -/
structure RS (L A : Heap) (cs su : List V) (v : V) (out : List Int) (pv : V) (ps : List (Int × Int × Int × Int)) : Prop where
  rp : RP L A cs su
  row : BaseU A v out
  vlo : ∀ m, nmP v = some m → L.next + 2 ≤ m
  pp : SlP 4 81 rectV A pv ps
  pn : ∀ m, nmP pv = some m → nmP v ≠ some m
theorem rsrcs {A : Heap} {v pv : V} {out : List Int} {ps : List (Int × Int × Int × Int)} (h : RS L A cs (suCs r c sv g0 g1 g2 g3 g4 ring) v out pv ps) (hs : SlP 6 83 srcG L sv srcs) (hn : srcs.length ≤ 1000) (hpl : ps.length = srcs.length) (ho : out.length ≤ 1000000) (hxr : ∀ x ∈ srcs, 0 ≤ x.lv ∧ x.lv ≤ 255) :
    ∃ B v', RP L B cs (suCs r c sv g0 g1 g2 g3 g4 ring) ∧ (sBads ps srcs srcs.length = false → BaseU B v' (out ++ srcs.map srcK) ∧ ∀ m, nmP v' = some m → L.next + 2 ≤ m) ∧
      ∀ t : T V, tget t 1 = .ptr L.next 0 → tget t 4 = .ptr (L.next + 1) 0 → tget t 5 = .int .i64 (srcs.length : Int) → tget t 8 = v → tget t 9 = pv →
        ACode Try.prog ⟨none, 166⟩ x34s t [] A (fun x t' d A' => d = [] ∧ A' = B ∧ (sBads ps srcs srcs.length = true ∧ x = .ret ∧ tget t' 2 = .nils ∧ tget t' 3 = .int .i64 2 ∨
          sBads ps srcs srcs.length = false ∧ x = .normal ∧ tget t' 1 = .ptr L.next 0 ∧ tget t' 8 = v')) := by
  obtain ⟨j, hjn, hgj, hfin⟩ := first_bad (sB1 ps srcs) srcs.length
  have hat : ∀ i, (hi : i < srcs.length) → srcs[i]? = some srcs[i] := fun i hi => by simp [hi]
  have hp1 : ∀ i, (hi : i < srcs.length) → sB1 ps srcs i = sBad ps i srcs[i] := fun i hi => by unfold sB1; rw [hat i hi]
  obtain ⟨H, hH0, hI, hR⟩ := chain (α := Heap × V) j (fun i a => RS L a.1 cs (suCs r c sv g0 g1 g2 g3 g4 ring) a.2 (out ++ (srcs.take i).map srcK) pv ps)
    (fun i a a' => ∀ x, srcs[i]? = some x → Ev.append Try.prog 38 a.2 (.slice (a.1.next + 1) 0 1 1 false) ⟨(a.1.t.set a.1.next (srcBlk x)).set (a.1.next + 1) (.cells (T.set .leaf 0 [.int .u8 (srcK x)]) 1 1 false false), a.1.next + 2⟩ = some (a'.2, a'.1)) (A, v)
    (by simpa using h) (by
      rintro i ⟨A1, vi⟩ hi hr
      simp only at hr ⊢
      have hil : i < srcs.length := by omega
      have hb2 : BaseU ⟨(A1.t.set A1.next (srcBlk srcs[i])).set (A1.next + 1) (.cells (T.set .leaf 0 [.int .u8 (srcK srcs[i])]) 1 1 false false), A1.next + 2⟩ vi (out ++ (srcs.take i).map srcK) :=
        hr.row.still (by simp only; omega) fun m hm => by have := hr.row.nm_lt hm; show T.get (T.set _ _ _) _ = _; rw [T.get_set_ne _ _ (by omega), T.get_set_ne _ _ (by omega)]
      have hsrc : srcElems ⟨(A1.t.set A1.next (srcBlk srcs[i])).set (A1.next + 1) (.cells (T.set .leaf 0 [.int .u8 (srcK srcs[i])]) 1 1 false false), A1.next + 2⟩ 1 (.slice (A1.next + 1) 0 1 1 false) = some ([srcK srcs[i]].map u8c) :=
        oneB_src (T.get_set_same _ _ _)
      obtain ⟨v', A', ha, hb', hn', hk', hm'⟩ := append_B hb2 hsrc (by simp; omega)
      simp only at hn' hm'
      have hk2 : ∀ n, n < A1.next → nmP vi ≠ some n → A'.t.get n = A1.t.get n := fun n hlt hne => by
        rw [hk' n (by simp only; omega) hne]
        show T.get (T.set _ _ _) _ = _
        rw [T.get_set_ne _ _ (by omega), T.get_set_ne _ _ (by omega)]
      have hnx := hr.rp.nx
      refine ⟨(A', v'), ?_, hr.rp.keep (by simp only; omega) fun n hlt => hk2 n (by omega) fun e => by have := hr.vlo n e; omega, ?_, ?_, hr.pp.still (by simp only; omega) fun m hm => hk2 m (hr.pp.nm_lt hm) (hr.pn m hm), ?_⟩
      · intro x hx
        rw [hat i hil] at hx
        injection hx with hx
        subst hx
        exact ha
      · rw [List.take_add_one, hat i hil]
        simp only [Option.toList_some, List.map_append, List.map_cons, List.map_nil, ← List.append_assoc]
        exact hb'
      · intro m hm
        rcases hm' with e | e
        · exact hr.vlo m (by rw [← e]; exact hm)
        · rw [e] at hm; injection hm with hm; omega
      · intro m hm
        rcases hm' with e | e
        · rw [e]; exact hr.pn m hm
        · rw [e]; have := hr.pp.nm_lt hm; simp only [ne_eq, Option.some.injEq]; omega)
  obtain ⟨Bf, hBf, hrp⟩ : ∃ Bf, (j = srcs.length ∧ Bf = (H j).1 ∨ ∃ x, srcs[j]? = some x ∧ sBad ps j x = true ∧ Bf = ⟨(H j).1.t.set (H j).1.next (srcBlk x), (H j).1.next + 1⟩) ∧ RP L Bf cs (suCs r c sv g0 g1 g2 g3 g4 ring) := by
    have hr := hI j (Nat.le_refl _)
    rcases hfin with e | e
    · exact ⟨_, .inl ⟨e, rfl⟩, hr.rp⟩
    · unfold sB1 at e
      split at e
      · rename_i x hx
        exact ⟨_, .inr ⟨x, hx, e, rfl⟩, hr.rp.keep (Nat.le_succ _) fun n hn => T.get_set_ne _ _ (by have := hr.rp.nx; omega)⟩
      · cases e
  refine ⟨Bf, (H j).2, hrp, fun hgood => ?_, fun t t1 t4 t5 t8 t9 => ?_⟩
  · have hj : j = srcs.length := by
      rcases hfin with e | e
      · exact e
      · by_cases hl : j < srcs.length
        · rw [sBads_one _ j hl e] at hgood; cases hgood
        · omega
    have hr := hI j (Nat.le_refl _)
    rcases hBf with ⟨_, rfl⟩ | ⟨x, hx, _⟩
    · rw [hj, List.take_length] at hr
      rw [hj]
      exact ⟨hr.row, hr.vlo⟩
    · have := (List.getElem?_eq_some_iff.1 hx).1; omega
  show ACode _ _ (Code.seq (Code.region _ _ _) (Code.block 2 (Code.loop _))) _ _ _ _
  refine ACode.seq (ACode.regS noT_ok names_ok mix (t' := ?_) (L' := ?_) [0] (by rfl) ?_ ?_)
  rotate_left 2
  · refine sq rfl rfl rfl (by simp [go_sem, X, Try.f34]; rfl) ?_
    rfl
  refine ACode.block (ACode.loop (fun t' d B N => d = [] ∧ ∃ i, i ≤ j ∧ N = j - i ∧ B = (H i).1 ∧ tget t' 1 = .ptr L.next 0 ∧ tget t' 4 = .ptr (L.next + 1) 0 ∧ tget t' 5 = .int .i64 (srcs.length : Int) ∧ tget t' 8 = (H i).2 ∧ tget t' 9 = pv ∧ tget t' 10 = .int .i64 (i : Int)) (N := j)
    ⟨rfl, 0, Nat.zero_le _, rfl, by rw [hH0], by simp [tget_set, t1], by simp [tget_set, t4], by simp [tget_set, t5], by simp [tget_set, t8, hH0], by simp [tget_set, t9], by simp [tget_set]⟩ ?_)
  clear t1 t4 t5 t8 t9
  rintro t1 d B N ⟨rfl, i, hi, rfl, rfl, u1, u4, u5, u8, u9, u10⟩
  by_cases hil : i < srcs.length
  rotate_left 1
  ·
    have hij : i = j := by omega
    have hjl : j = srcs.length := by omega
    have hge : ¬ (i : Int) < (srcs.length : Int) := by omega
    have hB : Bf = (H i).1 := by
      rcases hBf with ⟨_, h⟩ | ⟨x, hx, _⟩
      · rw [h, hij]
      · have := (List.getElem?_eq_some_iff.1 hx).1; omega
    show ACode _ _ (Code.seq (Code.seq (Code.region _ _ _) _) _) _ _ _ _
    refine ACode.seq ?_
    refine ACode.seq (ACode.regS noT_ok names_ok mix (t' := ?_) (L' := ?_) [0, 1, 2] (by rfl) ?_ ?_)
    rotate_left 2
    · iterate 3 (refine sq rfl rfl rfl (by simp [go_sem, X, u5, u10, hge, Try.f34]; rfl) ?_)
      rfl
    refine ACode.condF (by simp [tget_set, opd]) (ACode.exit ?_)
    exact ⟨rfl, hB.symm, .inr ⟨sBads_all _ (by rw [← hjl]; exact hgj), rfl, by simp [tget_set, u1], by simp [tget_set, u8, hij]⟩⟩
  have hr := hI i hi
  have hs1 : SlP 6 83 srcG (H i).1 sv srcs := hs.keep (by have := hr.rp.nx; omega) hr.rp.old
  obtain ⟨hbd, hgd⟩ := rsround (n := srcs.length) hr.rp hr.row hs1 hr.pp (hat i hil) hil hn (by omega) (hxr _ (List.getElem_mem _)) t1 u1 u4 u5 u8 u9 u10
  by_cases hij : i < j
  ·
    have hg := hgj i hij
    rw [hp1 i hil] at hg
    refine (hgd hg _ _ (hR i hij _ (hat i hil))).mono ?_
    rintro y t' d A' ⟨rfl, rfl, rfl, w1, w4, w5, w8, w9, w10⟩
    exact ⟨j - (i + 1), by omega, rfl, i + 1, by omega, rfl, rfl, w1, w4, w5, w8, w9, w10⟩
  ·
    have hij' : i = j := by omega
    subst hij'
    rcases hBf with ⟨h, _⟩ | ⟨x, hx, hbx, hB⟩
    · omega
    rw [hat i hil] at hx
    injection hx with hx
    subst hx
    refine (hbd hbx).mono ?_
    rintro y t' d A' ⟨rfl, rfl, rfl, w2, w3⟩
    exact ⟨rfl, hB.symm, .inl ⟨sBads_one _ i hil (by rw [hp1 i hil]; exact hbx), rfl, w2, w3⟩⟩
end
end Go.Proofs.Ytpfmoolpeecobaa
namespace Go.Proofs.Ytpfmoolpeecobaa
open Go Go.Proofs Go.Proofs.Ytpfmoolpeecobaa.Ev
set_option linter.unusedVariables false
set_option linter.unusedSimpArgs false
set_option maxRecDepth 100000
set_option maxHeartbeats 4000000

noncomputable def x34eB : Code := cLoop (cBlk (cSnd x34e))
theorem pt109 : tySlice Try.prog 109 = none := by kernel_rfl
section
variable {L : Heap} {sv ev : V} {srcs : List SrcG} {evs : List Evt} {r c ring g0 g1 g2 g3 g4 : Int} {su : List V}
/-- a round over the events -/
theorem reround {A B : Heap} {v bv : V} {i : Nat} {e : Evt} {b : Bool} (h : RP L A (scL r c sv g0 g1 g2 g3 g4 ring ev) su) (hE : SlP 9 86 evF A ev evs) (hx : evs[i]? = some e) (hl : evs.length ≤ 1000) (h52 : ACall Try.prog 52 [.agg (evF e)] A (.tuple [bv, .bool b]) B)
    (t : T V) (t1 : tget t 1 = .ptr L.next 0) (t8 : tget t 8 = v) (t13 : tget t 13 = .int .i64 (i : Int)) :
    (b = false → ACode Try.prog ⟨none, 166⟩ x34eB t [] A (fun y t' d A' => y = .ret ∧ d = [] ∧ A' = B ∧ tget t' 2 = .nils ∧ tget t' 3 = .int .i64 2)) ∧
    (b = true → ∀ v' A2, Ev.append Try.prog 38 v bv B = some (v', A2) →
      ACode Try.prog ⟨none, 166⟩ x34eB t [] A (fun y t' d A' => y = .normal ∧ d = [] ∧ A' = A2 ∧ tget t' 1 = .ptr L.next 0 ∧ tget t' 8 = v' ∧ tget t' 13 = .int .i64 ((i + 1 : Nat) : Int))) := by
  have hS := h.sc
  have hlen := hE.len pt55
  obtain ⟨n1, off, _, hix, hld⟩ := hE.at' pt55 ps86 hx
  have hl9 : Heap.load Try.prog A 55 L.next 9 = some ev := by
    unfold scB scL at hS
    simp [Heap.load, Heap.elem, hS, T.get_set, Ev.part, pa55, ps55]
  have hil := (List.getElem?_eq_some_iff.1 hx).1
  have hil' : (i : Int) < (evs.length : Int) := by omega
  have hw1 : IntKind.i64.wrap ((i : Int) + 1) = ((i + 1 : Nat) : Int) := by rw [Go.IntWalk.i64_in _ (by omega)]; omega
  generalize evF e = ce at *
  refine ⟨fun hb => ?_, fun hb v' A2 happ => ?_⟩
  ·
    subst hb
    show ACode _ _ (Code.seq (Code.seq (Code.region _ _ _) _) (Code.seq (Code.block 5 (Code.seq (Code.region _ _ _) _)) _)) _ _ _ _
    refine ACode.seq ?_
    refine ACode.seq (ACode.regS noT_ok names_ok mix (t' := ?_) (L' := ?_) [0, 1, 2, 3, 4] (by rfl) ?_ ?_)
    rotate_left 2
    · iterate 5 (refine sq rfl rfl rfl (by simp [go_sem, xs, xe, xa, xi, xo, xb, xv, xc, xk, t1, t13, hl9, hlen, hil', Try.f34]; rfl) ?_)
      rfl
    refine ACode.condT (by simp [tget_set, opd]) (ACode.skip ?_)
    show ACode _ _ (Code.seq (Code.block 5 (Code.seq (Code.region _ _ _) _)) _) _ _ _ _
    refine ACode.seq (ACode.block ?_)
    refine ACode.seq (ACode.regS (oneT_okP h52) names_ok mix (t' := ?_) (L' := ?_) [0, 1, 2, 3, 4, 5, 6, 7, 8, 9, 10] (by rfl) ?_ ?_)
    rotate_left 2
    · iterate 11 (refine sq rfl rfl rfl (by simp [go_sem, xs, xe, xi, xo, xb, xq, xv, xc, xk, t1, t13, hl9, hix, hld, oneT_sameP, Try.f34]; rfl) ?_)
      rfl
    refine ACode.seq ?_
    refine ACode.seq (ACode.regS noT_ok names_ok mix (t' := ?_) (L' := ?_) [0, 1] (by rfl) ?_ ?_)
    rotate_left 2
    · iterate 2 (refine sq rfl rfl rfl (by simp [go_sem, X, Try.f34]; rfl) ?_)
      rfl
    refine ACode.condT (by simp [tget_set, opd]) ?_
    refine ACode.seq (ACode.regS noT_ok names_ok mix (t' := ?_) (L' := ?_) [0, 1] (by rfl) ?_ ?_)
    rotate_left 2
    · iterate 2 (refine sq rfl rfl rfl (by simp [go_sem, X, Try.f34]; rfl) ?_)
      rfl
    exact ACode.ret ⟨rfl, rfl, rfl, by simp [tget_set], by simp [tget_set]⟩
  subst hb
  show ACode _ _ (Code.seq (Code.seq (Code.region _ _ _) _) (Code.seq (Code.block 5 (Code.seq (Code.region _ _ _) _)) _)) _ _ _ _
  refine ACode.seq ?_
  refine ACode.seq (ACode.regS noT_ok names_ok mix (t' := ?_) (L' := ?_) [0, 1, 2, 3, 4] (by rfl) ?_ ?_)
  rotate_left 2
  · iterate 5 (refine sq rfl rfl rfl (by simp [go_sem, xs, xe, xa, xi, xo, xb, xv, xc, xk, t1, t13, hl9, hlen, hil', Try.f34]; rfl) ?_)
    rfl
  refine ACode.condT (by simp [tget_set, opd]) (ACode.skip ?_)
  show ACode _ _ (Code.seq (Code.block 5 (Code.seq (Code.region _ _ _) _)) _) _ _ _ _
  refine ACode.seq (ACode.block ?_)
  refine ACode.seq (ACode.regS (oneT_okP h52) names_ok mix (t' := ?_) (L' := ?_) [0, 1, 2, 3, 4, 5, 6, 7, 8, 9, 10] (by rfl) ?_ ?_)
  rotate_left 2
  · iterate 11 (refine sq rfl rfl rfl (by simp [go_sem, xs, xe, xi, xo, xb, xq, xv, xc, xk, t1, t13, hl9, hix, hld, oneT_sameP, Try.f34]; rfl) ?_)
    rfl
  refine ACode.seq ?_
  refine ACode.seq (ACode.regS noT_ok names_ok mix (t' := ?_) (L' := ?_) [0, 1] (by rfl) ?_ ?_)
  rotate_left 2
  · iterate 2 (refine sq rfl rfl rfl (by simp [go_sem, X, Try.f34]; rfl) ?_)
    rfl
  refine ACode.condF (by simp [tget_set, opd]) (ACode.skip ?_)
  show ACode _ _ (Code.region _ _ _) _ _ _ _
  refine ACode.regS noT_ok names_ok mix (t' := ?_) (L' := ?_) [0, 1, 2, 3] (by rfl) ?_ ?_
  rotate_left 2
  · iterate 4 (refine sq rfl rfl rfl (by simp [go_sem, X, t8, happ, pi38, Try.f34]; rfl) ?_)
    rfl
  show ACode _ _ (Code.region _ _ _) _ _ _ _
  refine ACode.regS noT_ok names_ok mix (t' := ?_) (L' := ?_) [0, 1, 2] (by rfl) ?_ ?_
  rotate_left 2
  · iterate 3 (refine sq rfl rfl rfl (by simp [go_sem, X, t13, hw1, Try.f34]; rfl) ?_)
    rfl
  exact ⟨rfl, rfl, rfl, by simp [tget_set, t1], by simp [tget_set], by simp [tget_set]⟩
theorem revs {A : Heap} {v : V} {out : List Int} (h : RP L A (scL r c sv g0 g1 g2 g3 g4 ring ev) su) (hb : BaseU A v out) (hv : ∀ m, nmP v = some m → L.next + 2 ≤ m) (he : SlP 9 86 evF L ev evs) (hl : evs.length ≤ 40) (ho : out.length ≤ 1000000) (hev : ∀ e ∈ evs, EvR e) :
    ∃ B v', RP L B (scL r c sv g0 g1 g2 g3 g4 ring ev) su ∧ (evs.any wBad = false → BaseU B v' (out ++ evs.flatMap wBytes)) ∧
      ∀ t : T V, tget t 1 = .ptr L.next 0 → tget t 8 = v →
        ACode Try.prog ⟨none, 166⟩ x34e t [] A (fun x t' d A' => d = [] ∧ A' = B ∧ (evs.any wBad = true ∧ x = .ret ∧ tget t' 2 = .nils ∧ tget t' 3 = .int .i64 2 ∨
          evs.any wBad = false ∧ x = .normal ∧ tget t' 8 = v')) := by
  let pb : Nat → Bool := fun i => match evs[i]? with
    | some e => wBad e
    | none => false
  obtain ⟨j, hjn, hgj, hfin⟩ := first_bad pb evs.length
  have hat : ∀ i, (hi : i < evs.length) → evs[i]? = some evs[i] := fun i hi => by simp [hi]
  have hp1 : ∀ i, (hi : i < evs.length) → pb i = wBad evs[i] := fun i hi => by simp only [pb]; rw [hat i hi]
  have hbl := bytes_le evs hev
  obtain ⟨H, hH0, hI, hR⟩ := chain (α := Heap × V) j (fun i a => RP L a.1 (scL r c sv g0 g1 g2 g3 g4 ring ev) su ∧ BaseU a.1 a.2 (out ++ (evs.take i).flatMap wBytes) ∧ ∀ m, nmP a.2 = some m → L.next + 2 ≤ m)
    (fun i a a' => ∀ e, evs[i]? = some e → ∃ B bv, ACall Try.prog 52 [.agg (evF e)] a.1 (.tuple [bv, .bool true]) B ∧ Ev.append Try.prog 38 a.2 bv B = some (a'.2, a'.1)) (A, v)
    ⟨h, by simpa using hb, hv⟩ (by
      rintro i ⟨A1, vi⟩ hi ⟨hr, hrow, hvlo⟩
      simp only at hr hrow hvlo ⊢
      have hil : i < evs.length := by omega
      obtain ⟨B, bv, c52, hBn, hBk, hBb⟩ := rbytes_ok (L := A1) (hev _ (List.getElem_mem hil))
      have hg : wBad evs[i] = false := by rw [← hp1 i hil]; exact hgj i hi
      rw [hg] at c52
      have hrow2 : BaseU B vi (out ++ (evs.take i).flatMap wBytes) := hrow.still hBn fun m hm => hBk m (hrow.nm_lt hm)
      have hlen : (out ++ (evs.take i).flatMap wBytes).length + (wBytes evs[i]).length ≤ 16777216 := by
        have h1 := hbl i
        have h2 := hbl (i + 1)
        rw [List.take_add_one, hat i hil] at h2
        simp only [Option.toList_some, List.flatMap_append, List.flatMap_cons, List.flatMap_nil, List.append_nil, List.length_append] at h2
        rw [List.length_append]
        have : i * 1010 ≤ 40 * 1010 := Nat.mul_le_mul_right _ (by omega)
        have : (i + 1) * 1010 ≤ 41 * 1010 := Nat.mul_le_mul_right _ (by omega)
        omega
      obtain ⟨v', A', ha, hb', hn', hk', hm'⟩ := append_B hrow2 (hBb hg).src hlen
      have hnx := hr.nx
      refine ⟨(A', v'), ?_, hr.keep (by simp only; omega) fun n hlt => ?_, ?_, ?_⟩
      · intro e hee
        rw [hat i hil] at hee
        injection hee with hee
        subst hee
        exact ⟨B, bv, c52, ha⟩
      · rw [hk' n (by omega) fun e => by have := hvlo n e; omega]
        exact hBk n (by omega)
      · rw [List.take_add_one, hat i hil]
        simp only [Option.toList_some, List.flatMap_append, List.flatMap_cons, List.flatMap_nil, List.append_nil, ← List.append_assoc]
        exact hb'
      · intro m hm
        rcases hm' with e | e
        · exact hvlo m (by rw [← e]; exact hm)
        · rw [e] at hm; injection hm with hm; omega)
  obtain ⟨Bf, hBf, hrp⟩ : ∃ Bf, (j = evs.length ∧ Bf = (H j).1 ∨ ∃ e, evs[j]? = some e ∧ wBad e = true ∧ ∃ bv, ACall Try.prog 52 [.agg (evF e)] (H j).1 (.tuple [bv, .bool false]) Bf) ∧ RP L Bf (scL r c sv g0 g1 g2 g3 g4 ring ev) su := by
    obtain ⟨hr, _, _⟩ := hI j (Nat.le_refl _)
    rcases hfin with e | e
    · exact ⟨_, .inl ⟨e, rfl⟩, hr⟩
    · simp only [pb] at e
      split at e
      · rename_i x hx
        obtain ⟨B, bv, c52, hBn, hBk, _⟩ := rbytes_ok (L := (H j).1) (hev _ (List.mem_of_getElem? hx))
        rw [e] at c52
        have hnx := hr.nx
        exact ⟨B, .inr ⟨x, hx, e, bv, c52⟩, hr.keep hBn fun n hn => hBk n (by omega)⟩
      · cases e
  have hany0 : j = evs.length → evs.any wBad = false := fun hj => by
    rw [List.any_eq_false]
    intro x hx
    obtain ⟨i, hi, rfl⟩ := List.mem_iff_getElem.1 hx
    have := hgj i (by omega)
    rw [hp1 i hi] at this
    simp [this]
  refine ⟨Bf, (H j).2, hrp, fun hgood => ?_, fun t t1 t8 => ?_⟩
  · obtain ⟨_, hr, _⟩ := hI j (Nat.le_refl _)
    rcases hBf with ⟨hj, rfl⟩ | ⟨x, hx, hbx, _⟩
    · rw [hj, List.take_length] at hr
      rw [hj]
      exact hr
    · rw [List.any_eq_false] at hgood
      exact absurd hbx (hgood x (List.mem_of_getElem? hx))
  show ACode _ _ (Code.seq (Code.region _ _ _) (Code.block 4 (Code.loop _))) _ _ _ _
  refine ACode.seq (ACode.regS noT_ok names_ok mix (t' := ?_) (L' := ?_) [0] (by rfl) ?_ ?_)
  rotate_left 2
  · refine sq rfl rfl rfl (by simp [go_sem, X, Try.f34]; rfl) ?_
    rfl
  refine ACode.block (ACode.loop (fun t' d B N => d = [] ∧ ∃ i, i ≤ j ∧ N = j - i ∧ B = (H i).1 ∧ tget t' 1 = .ptr L.next 0 ∧ tget t' 8 = (H i).2 ∧ tget t' 13 = .int .i64 (i : Int)) (N := j)
    ⟨rfl, 0, Nat.zero_le _, rfl, by rw [hH0], by simp [tget_set, t1], by simp [tget_set, t8, hH0], by simp [tget_set]⟩ ?_)
  clear t1 t8
  rintro t1 d B N ⟨rfl, i, hi, rfl, rfl, u1, u8, u13⟩
  obtain ⟨hr, hrow, hvlo⟩ := hI i hi
  have hE : SlP 9 86 evF (H i).1 ev evs := he.keep (by have := hr.nx; omega) hr.old
  by_cases hil : i < evs.length
  rotate_left 1
  ·
    have hij : i = j := by omega
    have hjl : j = evs.length := by omega
    have hge : ¬ (i : Int) < (evs.length : Int) := by omega
    have hB : Bf = (H i).1 := by
      rcases hBf with ⟨_, h⟩ | ⟨x, hx, _⟩
      · rw [h, hij]
      · have := (List.getElem?_eq_some_iff.1 hx).1; omega
    have hS := hr.sc
    have hl9 : Heap.load Try.prog (H i).1 55 L.next 9 = some ev := by
      unfold scB scL at hS
      simp [Heap.load, Heap.elem, hS, T.get_set, Ev.part, pa55, ps55]
    have hlen := hE.len pt55
    show ACode _ _ (Code.seq (Code.seq (Code.region _ _ _) _) _) _ _ _ _
    refine ACode.seq ?_
    refine ACode.seq (ACode.regS noT_ok names_ok mix (t' := ?_) (L' := ?_) [0, 1, 2, 3, 4] (by rfl) ?_ ?_)
    rotate_left 2
    · iterate 5 (refine sq rfl rfl rfl (by simp [go_sem, xs, xe, xa, xi, xo, xb, xv, xc, xk, u1, u13, hl9, hlen, hge, Try.f34]; rfl) ?_)
      rfl
    refine ACode.condF (by simp [tget_set, opd]) (ACode.exit ?_)
    exact ⟨rfl, hB.symm, .inr ⟨hany0 hjl, rfl, by simp [tget_set, u8, hij]⟩⟩
  by_cases hij : i < j
  ·
    obtain ⟨B, bv, c52, happ⟩ := hR i hij _ (hat i hil)
    refine ((reround hr hE (hat i hil) (by omega) c52 t1 u1 u8 u13).2 rfl _ _ happ).mono ?_
    rintro y t' d A' ⟨rfl, rfl, rfl, w1, w8, w13⟩
    exact ⟨j - (i + 1), by omega, rfl, i + 1, by omega, rfl, rfl, w1, w8, w13⟩
  ·
    have hij' : i = j := by omega
    subst hij'
    rcases hBf with ⟨h, _⟩ | ⟨x, hx, hbx, bv, c52⟩
    · omega
    refine ((reround hr hE hx (by omega) c52 t1 u1 u8 u13).1 rfl).mono ?_
    rintro y t' d A' ⟨rfl, rfl, rfl, w2, w3⟩
    exact ⟨rfl, rfl, .inl ⟨List.any_eq_true.2 ⟨x, List.mem_of_getElem? hx, hbx⟩, rfl, w2, w3⟩⟩
end
end Go.Proofs.Ytpfmoolpeecobaa
namespace Go.Proofs.Ytpfmoolpeecobaa
open Go Go.Proofs Go.Proofs.Ytpfmoolpeecobaa.Ev
set_option linter.unusedVariables false
set_option linter.unusedSimpArgs false
set_option maxRecDepth 100000
set_option maxHeartbeats 4000000

/-- a block of five bytes -/
noncomputable def fiveB (a b c d e : Int) : Blk := .cells (T.set (T.set (T.set (T.set (T.set (T.set (T.set (T.set (T.set (T.set .leaf 0 [.int .u8 0]) 1 [.int .u8 0]) 2 [.int .u8 0]) 3 [.int .u8 0]) 4 [.int .u8 0]) 0 [.int .u8 a]) 1 [.int .u8 b]) 2 [.int .u8 c]) 3 [.int .u8 d]) 4 [.int .u8 e]) 5 1 false false
theorem fiveB_row {A : Heap} {m : Nat} {a b c d e : Int} (h : A.t.get m = some (fiveB a b c d e)) (hm : m < A.next) : BaseU A (.slice m 0 5 5 false) [a, b, c, d, e] := by
  refine .inl ⟨m, _, rfl, hm, h, fun i x hx => ?_⟩
  have hi := (List.getElem?_eq_some_iff.1 hx).1
  simp only [List.length_cons, List.length_nil] at hi
  have : i = 0 ∨ i = 1 ∨ i = 2 ∨ i = 3 ∨ i = 4 := by omega
  rcases this with rfl | rfl | rfl | rfl | rfl <;> (simp at hx; subst hx; simp [T.get_set])
/-- sizes that can't be -/
def Szs (r c n ring ne : Int) : Prop := r < 2 ∨ 12 < r ∨ c < 1 ∨ 40 < c ∨ n < 1 ∨ 4 < n ∨ r - 1 < n ∨ ring < 0 ∨ 7 < ring ∨ 40 < ne
theorem bad_sizes {r c ring : Int} {gs : List Int} {srcs : List SrcG} {ps : List (Int × Int × Int × Int)} {ne : Nat} (h : Szs r c (srcs.length : Int) ring (ne : Int)) : (suBadG r c ring gs srcs ps || decide (40 < ne)) = true := by
  unfold Szs at h
  unfold suBadG out
  generalize gBad gs 5 = q1
  generalize sBads ps srcs srcs.length = q2
  simp only [Bool.or_eq_true, decide_eq_true_eq]
  by_cases h0 : 0 < r - 1
  · simp only [if_pos h0]
    by_cases h4 : r - 1 < 4
    · simp only [if_pos h4]; omega
    · simp only [if_neg h4]; omega
  · simp only [if_neg h0]
    omega
theorem good_sizes {r c ring : Int} {gs : List Int} {srcs : List SrcG} {ps : List (Int × Int × Int × Int)} {ne : Nat} (h : ¬ Szs r c (srcs.length : Int) ring (ne : Int)) (hg : gBad gs 5 = false) : (suBadG r c ring gs srcs ps || decide (40 < ne)) = sBads ps srcs srcs.length := by
  unfold Szs at h
  unfold suBadG
  have h1 : out 11 (r - 2) = false := out_in (by omega)
  have h2 : out 40 (c - 1) = false := out_in (by omega)
  have h3 : out (if (if 0 < r - 1 then r - 1 else 0) < 4 then (if 0 < r - 1 then r - 1 else 0) else 4) ((srcs.length : Int) - 1) = false := by
    rw [if_pos (show 0 < r - 1 by omega)]
    refine out_in ?_
    split <;> omega
  have h4 : out 8 ring = false := out_in (by omega)
  have h5 : decide (40 < ne) = false := decide_eq_false (by omega)
  rw [hg, h1, h2, h3, h4, h5]
  simp
/-- whether a script can't be laid -/
def pBad (r c ring : Int) (gs : List Int) (srcs : List SrcG) (evs : List Evt) : Bool := suBadG r c ring gs srcs (stG r c srcs.length) || decide (40 < evs.length) || evs.any wBad
section
variable {L : Heap} {sv ev : V} {srcs : List SrcG} {evs : List Evt} {r c ring g0 g1 g2 g3 g4 : Int}
/-- the document's Put -/
theorem rput_ok (hs : SlP 6 83 srcG L sv srcs) (he : SlP 9 86 evF L ev evs) (hr : -1000 ≤ r ∧ r ≤ 1000) (hc : -1000 ≤ c ∧ c ≤ 1000) (hg : ∀ g ∈ [g0, g1, g2, g3, g4], 0 ≤ g ∧ g ≤ 255) (hxr : ∀ x ∈ srcs, 0 ≤ x.lv ∧ x.lv ≤ 255) (hev : ∀ e ∈ evs, EvR e) :
    ∃ L' pv, ACall Try.prog 34 [.agg (scL r c sv g0 g1 g2 g3 g4 ring ev)] L (.tuple [pv, .int .i64 (if pBad r c ring [g0, g1, g2, g3, g4] srcs evs then 2 else 0)]) L' ∧
      (if pBad r c ring [g0, g1, g2, g3, g4] srcs evs then pv = .nils else BaseU L' pv (suB r c ring [g0, g1, g2, g3, g4] srcs ++ evs.flatMap wBytes)) ∧ L.next ≤ L'.next ∧ ∀ n, n < L.next → L'.t.get n = L.t.get n := by
  obtain ⟨A, hRP, hpre⟩ := rput_pre (r := r) (c := c) (ring := ring) (g0 := g0) (g1 := g1) (g2 := g2) (g3 := g3) (g4 := g4) hs he.scal
  have hsz := fun t h1 h4 h5 => rsizes (srcs := srcs) hRP he hr t h1 h4 h5
  have hnA := hRP.nx
  by_cases hS : Szs r c (srcs.length : Int) ring (evs.length : Int)
  · have hb : pBad r c ring [g0, g1, g2, g3, g4] srcs evs = true := by unfold pBad; rw [bad_sizes hS]; rfl
    rw [hb]
    refine ⟨A, .nils, hpre _ _ _ fun t t1 t4 t5 => ?_, rfl, by omega, hRP.old⟩
    show ACode _ _ (Code.seq (cFst sfx34) _) _ _ _ _
    refine ACode.seq ((hsz t t1 t4 t5).mono ?_)
    rintro x t' d' A' ⟨rfl, rfl, ⟨_, rfl, h2, h3⟩ | ⟨hn, _⟩⟩
    · exact ⟨rfl, rfl, rfl, h2, h3⟩
    · exact absurd hS hn
  -- the sizes are right
  have hwr : IntKind.i64.wrap (r - 2) = r - 2 := Go.IntWalk.i64_in _ (by omega)
  have hwc : IntKind.i64.wrap (c - 1) = c - 1 := Go.IntWalk.i64_in _ (by omega)
  unfold Szs at hS
  have hwn : IntKind.i64.wrap ((srcs.length : Int) - 1) = (srcs.length : Int) - 1 := Go.IntWalk.i64_in _ (by omega)
  have go1 : ∀ K, (∀ t : T V, tget t 1 = .ptr L.next 0 → tget t 4 = .ptr (L.next + 1) 0 → tget t 5 = .int .i64 (srcs.length : Int) → ACode Try.prog ⟨none, 166⟩ sfx34b t [] A K) → ∀ t : T V, tget t 1 = .ptr L.next 0 → tget t 4 = .ptr (L.next + 1) 0 → tget t 5 = .int .i64 (srcs.length : Int) → ACode Try.prog ⟨none, 166⟩ sfx34 t [] A K := by
    intro K hK t t1 t4 t5
    show ACode _ _ (Code.seq (cFst sfx34) _) _ _ _ _
    refine ACode.seq ((hsz t t1 t4 t5).mono ?_)
    rintro x t' d' A' ⟨rfl, rfl, ⟨hh, _⟩ | ⟨_, rfl, h1, h4, h5⟩⟩
    · exact absurd hh hS
    · exact hK t' h1 h4 h5
  have hregs := fun t h1 h4 h5 h6 => rregs (n := (srcs.length : Int)) hRP hg t h1 h4 h5 h6
  cases hgb : gBad [g0, g1, g2, g3, g4] 5 with
  | true =>
    have hb : pBad r c ring [g0, g1, g2, g3, g4] srcs evs = true := by unfold pBad suBadG; rw [hgb]; simp
    rw [hb]
    refine ⟨A, .nils, hpre _ _ _ (go1 _ fun t t1 t4 t5 => ?_), rfl, by omega, hRP.old⟩
    show ACode _ _ (Code.seq (Code.region _ _ _) (Code.seq x34r _)) _ _ _ _
    refine ACode.seq (ACode.regS noT_ok names_ok mix (t' := ?_) (L' := ?_) [0] (by rfl) ?_ ?_)
    rotate_left 2
    · refine sq rfl rfl rfl (by simp [go_sem, X, Try.f34]; rfl) ?_
      rfl
    refine ACode.seq ((hregs _ (by simp [tget_set, t1]) (by simp [tget_set, t4]) (by simp [tget_set, t5]) (by simp [tget_set])).mono ?_)
    rintro x t' d' A' ⟨rfl, rfl, ⟨_, rfl, h2, h3⟩ | ⟨hn, _⟩⟩
    · exact ⟨rfl, rfl, rfl, h2, h3⟩
    · rw [hgb] at hn; cases hn
  | false =>
  have hbits := rbits_eq hg hgb
  have hpb : pBad r c ring [g0, g1, g2, g3, g4] srcs evs = (sBads (stG r c srcs.length) srcs srcs.length || evs.any wBad) := by unfold pBad; rw [good_sizes hS hgb]
  -- the five bytes, the panes
  have hRP2 : RP L ⟨A.t.set A.next (fiveB (lowB (r - 2)) (lowB (c - 1)) (lowB ((srcs.length : Int) - 1)) (lowB (rBits [g0, g1, g2, g3, g4] 5)) (lowB ring)), A.next + 1⟩ (scL r c sv g0 g1 g2 g3 g4 ring ev) (suCs r c sv g0 g1 g2 g3 g4 ring) :=
    hRP.keep (Nat.le_succ _) fun n hn => T.get_set_ne _ _ (by omega)
  have hb2 : BaseU ⟨A.t.set A.next (fiveB (lowB (r - 2)) (lowB (c - 1)) (lowB ((srcs.length : Int) - 1)) (lowB (rBits [g0, g1, g2, g3, g4] 5)) (lowB ring)), A.next + 1⟩ (.slice A.next 0 5 5 false) [lowB (r - 2), lowB (c - 1), lowB ((srcs.length : Int) - 1), lowB (rBits [g0, g1, g2, g3, g4] 5), lowB ring] :=
    fiveB_row (T.get_set_same _ _ _) (Nat.lt_succ_self _)
  have hsu5 : ([lowB (r - 2), lowB (c - 1), lowB ((srcs.length : Int) - 1), lowB (rBits [g0, g1, g2, g3, g4] 5), lowB ring] ++ srcs.map srcK) = suB r c ring [g0, g1, g2, g3, g4] srcs := by unfold suB; rw [hbits]
  have hn2 : (⟨A.t.set A.next (fiveB (lowB (r - 2)) (lowB (c - 1)) (lowB ((srcs.length : Int) - 1)) (lowB (rBits [g0, g1, g2, g3, g4] 5)) (lowB ring)), A.next + 1⟩ : Heap).next = A.next + 1 := rfl
  generalize hA2 : (⟨A.t.set A.next (fiveB (lowB (r - 2)) (lowB (c - 1)) (lowB ((srcs.length : Int) - 1)) (lowB (rBits [g0, g1, g2, g3, g4] 5)) (lowB ring)), A.next + 1⟩ : Heap) = A2 at *
  have c51 := rstripes_ok r c srcs.length (by omega) (by omega) (by omega) (by omega) A2
  have hkeep3 := rowsHP_next 4 rectV A2 (stG r c srcs.length)
  have hold3 := fun (k : Nat) (hk : k < A2.next) => rowsHP_old 4 rectV A2 (stG r c srcs.length) hk
  have hRS : RS L (rowsHP 4 rectV A2 (stG r c srcs.length)) (scL r c sv g0 g1 g2 g3 g4 ring ev) (suCs r c sv g0 g1 g2 g3 g4 ring) (.slice A.next 0 5 5 false) [lowB (r - 2), lowB (c - 1), lowB ((srcs.length : Int) - 1), lowB (rBits [g0, g1, g2, g3, g4] 5), lowB ring] (rowsVP A2 (stG r c srcs.length)) (stG r c srcs.length) := by
    refine ⟨hRP2.keep hkeep3 fun n hn => hold3 n (by omega), hb2.still hkeep3 fun m hm => hold3 m (hb2.nm_lt hm), fun m hm => ?_, rows_slP (z := .nils) ps81 pa81 (by decide) (fun _ => rfl) _, fun m hm => ?_⟩
    · simp only [nmP, Option.some.injEq] at hm; omega
    · generalize stG r c srcs.length = l at hm
      cases l with
      | nil => cases hm
      | cons a t => simp only [rowsVP, nmP, Option.some.injEq] at hm; simp only [nmP, ne_eq, Option.some.injEq]; omega
  have hlst : (stG r c srcs.length).length = srcs.length := by
    unfold stG; rw [if_pos (by omega), stripes_len]
  generalize rowsVP A2 (stG r c srcs.length) = pv at *
  generalize rowsHP 4 rectV A2 (stG r c srcs.length) = A3 at *
  generalize stG r c srcs.length = ps at *
  obtain ⟨B, v', hRB, hgoodS, hwalkS⟩ := rsrcs hRS hs (by omega) hlst (by simp) hxr
  have go2 : ∀ K, (∀ t : T V, tget t 1 = .ptr L.next 0 → tget t 4 = .ptr (L.next + 1) 0 → tget t 5 = .int .i64 (srcs.length : Int) → tget t 8 = .slice A.next 0 5 5 false → tget t 9 = pv → ACode Try.prog ⟨none, 166⟩ (cSnd (cSnd sfx34c)) t [] A3 K) →
      ∀ t : T V, tget t 1 = .ptr L.next 0 → tget t 4 = .ptr (L.next + 1) 0 → tget t 5 = .int .i64 (srcs.length : Int) → ACode Try.prog ⟨none, 166⟩ sfx34 t [] A K := by
    intro K hK
    refine go1 K fun t t1 t4 t5 => ?_
    show ACode _ _ (Code.seq (Code.region _ _ _) (Code.seq x34r _)) _ _ _ _
    refine ACode.seq (ACode.regS noT_ok names_ok mix (t' := ?_) (L' := ?_) [0] (by rfl) ?_ ?_)
    rotate_left 2
    · refine sq rfl rfl rfl (by simp [go_sem, X, Try.f34]; rfl) ?_
      rfl
    refine ACode.seq ((hregs _ (by simp [tget_set, t1]) (by simp [tget_set, t4]) (by simp [tget_set, t5]) (by simp [tget_set])).mono ?_)
    clear t1 t4 t5
    rintro x t' d' A' ⟨rfl, rfl, ⟨hh, _⟩ | ⟨_, rfl, t1, t4, t5, t6⟩⟩
    · rw [hgb] at hh; cases hh
    have hE := hRP.su
    have hE2 := hRP2.su
    unfold evB suCs at hE hE2
    show ACode _ _ (Code.seq (Code.region _ _ _) (Code.seq (Code.region _ _ _) _)) _ _ _ _
    refine ACode.seq (ACode.regS noT_ok names_ok mix (t' := ?_) (L' := ?_) [0, 1, 2, 3, 4, 5, 6, 7, 8, 9, 10, 11, 12, 13, 14, 15, 16, 17] (by rfl) ?_ ?_)
    rotate_left 2
    · iterate 18 (refine sq rfl rfl rfl (by simp [go_sem, X, t4, t5, t6, hE, hwr, hwc, hwn, lowB_eq, Try.f34]; rfl) ?_)
      rfl
    change ACode _ _ _ _ _ ⟨A'.t.set A'.next (fiveB (lowB (r - 2)) (lowB (c - 1)) (lowB ((srcs.length : Int) - 1)) (lowB (rBits [g0, g1, g2, g3, g4] 5)) (lowB ring)), A'.next + 1⟩ _
    rw [hA2]
    refine ACode.seq (ACode.regS (oneT_okP c51) names_ok mix (t' := ?_) (L' := ?_) [0, 1, 2, 3, 4, 5, 6] (by rfl) ?_ ?_)
    rotate_left 2
    · iterate 7 (refine sq rfl rfl rfl (by simp [go_sem, X, t4, t5, hE2, oneT_sameP, Try.f34]; rfl) ?_)
      rfl
    refine hK _ ?_ ?_ ?_ ?_ ?_
    · simp [tget_set, t1]
    · simp [tget_set, t4]
    · simp [tget_set, t5]
    · simp [tget_set]
    · simp [tget_set]
  cases hsb : sBads ps srcs srcs.length with
  | true =>
    rw [hpb, hsb]
    refine ⟨B, .nils, hpre _ _ _ (go2 _ fun t t1 t4 t5 t8 t9 => ?_), rfl, by have := hRB.nx; omega, hRB.old⟩
    show ACode _ _ (Code.seq x34s _) _ _ _ _
    refine ACode.seq ((hwalkS t t1 t4 t5 t8 t9).mono ?_)
    rintro x t' d' A' ⟨rfl, rfl, ⟨_, rfl, h2, h3⟩ | ⟨hn, _⟩⟩
    · exact ⟨rfl, rfl, rfl, h2, h3⟩
    · rw [hsb] at hn; cases hn
  | false =>
  obtain ⟨hrowB, hvB⟩ := hgoodS hsb
  rw [hsu5] at hrowB
  obtain ⟨B2, v2, hRB2, hgoodE, hwalkE⟩ := revs hRB hrowB hvB he (by omega) (by unfold suB; simp; omega) hev
  have go3 : ∀ K, (∀ t : T V, tget t 1 = .ptr L.next 0 → tget t 8 = v' → ACode Try.prog ⟨none, 166⟩ (cSnd (cSnd (cSnd sfx34c))) t [] B K) → ∀ t : T V, tget t 1 = .ptr L.next 0 → tget t 4 = .ptr (L.next + 1) 0 → tget t 5 = .int .i64 (srcs.length : Int) → ACode Try.prog ⟨none, 166⟩ sfx34 t [] A K := by
    intro K hK
    refine go2 K fun t t1 t4 t5 t8 t9 => ?_
    show ACode _ _ (Code.seq x34s _) _ _ _ _
    refine ACode.seq ((hwalkS t t1 t4 t5 t8 t9).mono ?_)
    rintro x t' d' A' ⟨rfl, rfl, ⟨hh, _⟩ | ⟨_, rfl, h1, h8⟩⟩
    · rw [hsb] at hh; cases hh
    · exact hK t' h1 h8
  rw [hpb, hsb, Bool.false_or]
  refine ⟨B2, if evs.any wBad then .nils else v2, hpre _ _ _ (go3 _ fun t t1 t8 => ?_), ?_, by have := hRB2.nx; omega, hRB2.old⟩
  rotate_left 1
  · cases hany : evs.any wBad with
    | true => rfl
    | false => exact hgoodE hany
  show ACode _ _ (Code.seq x34e _) _ _ _ _
  refine ACode.seq ((hwalkE t t1 t8).mono ?_)
  rintro x t' d' A' ⟨rfl, rfl, ⟨hh, rfl, h2, h3⟩ | ⟨hn, rfl, h8⟩⟩
  · rw [hh]; exact ⟨rfl, rfl, rfl, h2, h3⟩
  show ACode _ _ (Code.seq (Code.region _ _ _) Code.ret) _ _ _ _
  refine ACode.seq (ACode.regS noT_ok names_ok mix (t' := ?_) (L' := ?_) [0, 1, 2] (by rfl) ?_ ?_)
  rotate_left 2
  · iterate 3 (refine sq rfl rfl rfl (by simp [go_sem, X, h8, Try.f34]; rfl) ?_)
    rfl
  refine ACode.ret ⟨rfl, rfl, rfl, ?_, ?_⟩
  · rw [hn]; simp [tget_set]
  · rw [hn]; simp [tget_set]
end
end Go.Proofs.Ytpfmoolpeecobaa
