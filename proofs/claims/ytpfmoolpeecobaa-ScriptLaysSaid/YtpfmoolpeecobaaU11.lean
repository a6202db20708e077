/- Chains of heaps; sources. The registers of a setup that is laid. A source of a setup that is laid. -/
import Derived.Test.YtpfmoolpeecobaaU10
namespace Go.Proofs.Ytpfmoolpeecobaa
open Go Go.Proofs Go.Proofs.Ytpfmoolpeecobaa.Ev
set_option linter.unusedVariables false
set_option linter.unusedSimpArgs false
set_option maxRecDepth 100000
set_option maxHeartbeats 4000000

def chainF {α : Type} (f : Nat → α → α) (a0 : α) : Nat → α
  | 0 => a0
  | i + 1 => f i (chainF f a0 i)
theorem chain {α : Type} (n : Nat) (I : Nat → α → Prop) (R : Nat → α → α → Prop) (a0 : α) (h0 : I 0 a0) (hs : ∀ i a, i < n → I i a → ∃ a', R i a a' ∧ I (i + 1) a') :
    ∃ H : Nat → α, H 0 = a0 ∧ (∀ i, i ≤ n → I i (H i)) ∧ ∀ i, i < n → R i (H i) (H (i + 1)) := by
  classical
  have hs' : ∀ i a, ∃ a', i < n → I i a → R i a a' ∧ I (i + 1) a' := by
    intro i a
    by_cases h : i < n ∧ I i a
    · obtain ⟨a', h'⟩ := hs i a h.1 h.2
      exact ⟨a', fun _ _ => h'⟩
    · exact ⟨a, fun h1 h2 => absurd ⟨h1, h2⟩ h⟩
  obtain ⟨f, hf⟩ : ∃ f : Nat → α → α, ∀ i a, i < n → I i a → R i a (f i a) ∧ I (i + 1) (f i a) := ⟨fun i a => Classical.choose (hs' i a), fun i a => Classical.choose_spec (hs' i a)⟩
  have h1 : ∀ i, i ≤ n → I i (chainF f a0 i) := by
    intro i
    induction i with
    | zero => intro _; exact h0
    | succ i ih => intro hi; exact (hf i _ (by omega) (ih (by omega))).2
  exact ⟨chainF f a0, rfl, h1, fun i hi => (hf i _ hi (h1 i (by omega))).1⟩

/-- a block that stands beside a writer -/
structure EW (L A : Heap) (W : Nat) (v0 v : V) (bad : Bool) (l : List Int) (sl E : Nat) (ce : List V) : Prop where
  wr : Wr A W v bad l sl
  ev : A.t.get E = some (evB ce)
  elt : E < A.next
  eW : E ≠ W
  old : Old W v0 L A v
theorem EW.step {L A A' : Heap} {W : Nat} {v0 v v' : V} {bad bad' : Bool} {l l' : List Int} {sl sl' E : Nat} {ce : List V} (h : EW L A W v0 v bad l sl E ce) (hw : Wr A' W v' bad' l' sl') (ho : Old W v A A' v') : EW L A' W v0 v' bad' l' sl' E ce :=
  ⟨hw, ho.at h.wr.row h.ev h.elt h.eW, Nat.lt_of_lt_of_le h.elt ho.next, h.eW, h.old.trans ho⟩
theorem EW.bad {L A : Heap} {W : Nat} {v0 v : V} {bad : Bool} {l : List Int} {sl E : Nat} {ce : List V} (h : EW L A W v0 v bad l sl E ce) (bad' : Bool) : EW L ⟨A.t.set W (wB v bad'), A.next⟩ W v0 v bad' l sl E ce :=
  h.step (h.wr.bad bad') (Old.put W v A _)
/-- a number is appended, at the code's own region -/
theorem EW.app {L A : Heap} {W : Nat} {v0 v : V} {bad : Bool} {l : List Int} {sl E : Nat} {ce : List V} (h : EW L A W v0 v bad l sl E ce) (y : Int) (hl : l.length ≤ 10000000) :
    ∃ v' A', Ev.append Try.prog 38 v (.slice A.next 0 1 1 false) ⟨A.t.set A.next (.cells (T.set .leaf 0 [.int .u8 y]) 1 1 false false), A.next + 1⟩ = some (v', A') ∧
      A'.t.get W = some (wB v bad) ∧ v'.cells = [v'] ∧ v'.scalar = true ∧ EW L ⟨A'.t.set W (wB v' bad), A'.next⟩ W v0 v' bad (l ++ [y]) (sl - 1) E ce := by
  have w1 := h.wr.new (oneB (.int .u8 y))
  have hy : (⟨A.t.set A.next (oneB (.int .u8 y)), A.next + 1⟩ : Heap).t.get A.next = some (oneB (.int .u8 y)) := T.get_set_same _ _ _
  obtain ⟨v', A', happ, hr, hn, hk, hm⟩ := append_one w1.row (oneB_src hy) (by omega)
  obtain ⟨w2, o2, hW⟩ := w1.app hr hn hk hm
  exact ⟨v', A', happ, hW, hr.cells.1, hr.cells.2, h.step w2 ((Old.new W v A _).trans o2)⟩

structure SrcG where
  lv : Int
  tr : Bool
  q : Int × Int × Int × Int
def srcG (x : SrcG) : List V := [.int .u8 x.lv, .bool x.tr, .int .i64 x.q.1, .int .i64 x.q.2.1, .int .i64 x.q.2.2.1, .int .i64 x.q.2.2.2]
theorem pg81 : (!Try.prog.eqGuardType Try.prog.depth 81) = true := by decide +kernel
theorem ev81g (cst : Bool) (x y : Int × Int × Int × Int) : equalV Try.prog 81 cst (.agg (rectV x)) (.agg (rectV y)) = some (decide (x = y)) := by
  unfold equalV
  simp only [Try.underlying81, pg81, Ev.guardO_true]
  rw [show (20 : Nat) = 18 + 2 from rfl, rectV, rectV, en81g]
  congr 1
  obtain ⟨a, b, c, d⟩ := x
  obtain ⟨a', b', c', d'⟩ := y
  exact decide_eq_decide.2 (by simp)

/-- regs: whether one can't be; their bits -/
def gBad (gs : List Int) (i : Nat) : Bool := (gs.take i).any fun g => decide (1 < g)
def gBits (gs : List Int) : Nat → Int
  | 0 => 0
  | i + 1 => ior .i64 (gBits gs i) (ishl .i64 (gs.getD i 0) i)
theorem gBad_succ {gs : List Int} {i : Nat} {g : Int} (h : gs[i]? = some g) : gBad gs (i + 1) = (gBad gs i || decide (1 < g)) := by
  unfold gBad
  rw [List.take_add_one, h]
  simp
def suCs (r c : Int) (sv : V) (g0 g1 g2 g3 g4 ring : Int) : List V := [.int .i64 r, .int .i64 c, sv, .int .u8 g0, .int .u8 g1, .int .u8 g2, .int .u8 g3, .int .u8 g4, .int .i64 ring]
end Go.Proofs.Ytpfmoolpeecobaa
namespace Go.Proofs.Ytpfmoolpeecobaa
open Go Go.Proofs Go.Proofs.Ytpfmoolpeecobaa.Ev
set_option linter.unusedVariables false
set_option linter.unusedSimpArgs false
set_option maxRecDepth 100000
set_option maxHeartbeats 4000000

noncomputable def b74 : Code := Try.f74.body.getD .skip
noncomputable def c74_1 : Code := cFst (cSnd (cSnd b74))
theorem T_get_put {α : Type} (t : T α) (n : Nat) (x : α) : (t.set n x).get n = some x := T.get_set_same _ _ _
theorem wregs_ok {L A : Heap} {W : Nat} {v0 v : V} {bad : Bool} {l : List Int} {sl E : Nat} {r c ring g0 g1 g2 g3 g4 : Int} {sv : V} (h : EW L A W v0 v bad l sl E (suCs r c sv g0 g1 g2 g3 g4 ring)) (hg : ∀ g ∈ [g0, g1, g2, g3, g4], 0 ≤ g ∧ g ≤ 255)
    (t : T V) (t0 : tget t 0 = .ptr W 0) (t3 : tget t 3 = .ptr E 0) (t5 : tget t 5 = .int .i64 0) :
    ACode Try.prog ⟨none, 135⟩ c74_1 t [] A (fun x t' d' A' => x = .normal ∧ d' = [] ∧ A' = ⟨A.t.set W (wB v (bad || gBad [g0, g1, g2, g3, g4] 5)), A.next⟩ ∧ tget t' 0 = .ptr W 0 ∧ tget t' 3 = .ptr E 0 ∧ tget t' 4 = tget t 4 ∧ tget t' 5 = .int .i64 (gBits [g0, g1, g2, g3, g4] 5)) := by
  have hE := h.ev
  have hcell := h.wr.cell
  have hlen : [g0, g1, g2, g3, g4].length = 5 := rfl
  unfold evB suCs at hE
  show ACode _ _ (Code.seq (Code.region _ _ _) (Code.block 0 _)) _ _ _ _
  refine ACode.seq (ACode.regS noT_ok names_ok mix (t' := ?_) (L' := ?_) [0, 1, 2] (by rfl) ?_ ?_)
  rotate_left 2
  · iterate 3 (refine sq rfl rfl rfl (by simp [go_sem, X, t0, t3, hE, Try.f74]; rfl) ?_)
    rfl
  have hix : ∀ i : Nat, i < 5 → ∀ g, [g0, g1, g2, g3, g4][i]? = some g → Ev.index Try.prog 52 (.agg [.int .u8 g0, .int .u8 g1, .int .u8 g2, .int .u8 g3, .int .u8 g4]) (.int .i64 (i : Int)) = some (.int .u8 g) := by
    intro i hi g hgi
    have : i = 0 ∨ i = 1 ∨ i = 2 ∨ i = 3 ∨ i = 4 := by omega
    rcases this with rfl | rfl | rfl | rfl | rfl <;> (simp at hgi; subst hgi; simp [Ev.index, par52, ps51, Ev.part, pa51]; rfl)
  generalize hagg : V.agg [.int .u8 g0, .int .u8 g1, .int .u8 g2, .int .u8 g3, .int .u8 g4] = ga at *
  generalize hgs : [g0, g1, g2, g3, g4] = gs at *
  have hself : (⟨A.t.set W (wB v (bad || gBad gs 0)), A.next⟩ : Heap) = A := by
    have : (bad || gBad gs 0) = bad := by simp [gBad]
    show (⟨_, _⟩ : Heap) = _
    rw [this, T_set_self _ _ _ hcell]
  refine ACode.block (ACode.loop (fun t' d B N => d = [] ∧ ∃ i, i ≤ 5 ∧ N = 5 - i ∧ B = ⟨A.t.set W (wB v (bad || gBad gs i)), A.next⟩ ∧ tget t' 0 = .ptr W 0 ∧ tget t' 3 = .ptr E 0 ∧ tget t' 4 = tget t 4 ∧ tget t' 5 = .int .i64 (gBits gs i) ∧ tget t' 16 = ga ∧ tget t' 17 = .int .i64 (i : Int)) (N := 5)
    ⟨rfl, 0, by omega, rfl, hself.symm, by simp [tget_set, t0], by simp [tget_set, t3], by simp [tget_set], by simp [tget_set, t5, gBits], by simp [tget_set, ← hagg], by simp [tget_set]⟩ ?_)
  clear t3 t5
  rintro t1 d B N ⟨rfl, i, hi, rfl, rfl, u0, u3, u4, u5, u16, u17⟩
  refine ACode.seq (ACode.regS noT_ok names_ok mix (t' := ?_) (L' := ?_) [0] (by rfl) ?_ ?_)
  rotate_left 2
  · refine sq rfl rfl rfl (by simp [go_sem, X, u17, Try.f74]; rfl) ?_
    rfl
  refine ACode.seq (ACode.cond (p := (i : Int) < 5) (by simp [tget_set, opd]) (fun hil => ACode.skip ?_) (fun hge => ACode.exit ?_))
  rotate_left 1
  ·
    show _ ∧ _
    have hi5 : i = 5 := by omega
    subst hi5
    exact ⟨rfl, rfl, rfl, by simp [tget_set, u0], by simp [tget_set, u3], by simp [tget_set, u4], by simp [tget_set, u5]⟩
  have hi5 : i < 5 := by omega
  have hgi : gs[i]? = some (gs.getD i 0) := by
    rw [List.getD_eq_getElem?_getD, List.getElem?_eq_getElem (by rw [hlen]; exact hi5)]; rfl
  have hgr := hg _ (List.mem_of_getElem? hgi)
  have hx := hix i hi5 _ hgi
  have hsucc := gBad_succ hgi
  have hbits : gBits gs (i + 1) = ior .i64 (gBits gs i) (ishl .i64 (gs.getD i 0) i) := rfl
  generalize gs.getD i 0 = g at *
  generalize gBits gs i = bt at *
  generalize hB : (⟨A.t.set W (wB v (bad || gBad gs i)), A.next⟩ : Heap) = B
  have hBW : B.t.get W = some (wB v (bad || gBad gs i)) := by rw [← hB]; exact T.get_set_same _ _ _
  have hBset : ∀ b, (⟨B.t.set W (.cells (T.set .leaf 0 [v, .bool b]) 1 2 false false), B.next⟩ : Heap) = ⟨A.t.set W (wB v b), A.next⟩ := fun b => by rw [← hB, T.set_set]; rfl
  clear hB
  unfold wB at hBW
  have hwg : IntKind.i64.wrap g = g := Go.IntWalk.i64_in _ (by omega)
  have hw1 : IntKind.i64.wrap ((i : Int) + 1) = (i : Int) + 1 := Go.IntWalk.i64_in _ (by omega)
  have hi0 : ¬ (i : Int) < 0 := by omega
  refine ACode.seq (ACode.block ?_)
  refine ACode.seq (ACode.regS noT_ok names_ok mix (t' := ?_) (L' := ?_) [0, 1, 2, 3] (by rfl) ?_ ?_)
  rotate_left 2
  · iterate 4 (refine sq rfl rfl rfl (by simp [go_sem, xl, xs, xe, xa, xo, xb, xq, xv, xc, xk, u16, u17, hx, Try.f74]; rfl) ?_)
    rfl
  refine ACode.seq (ACode.mono (K := fun x t' d' L' => x = .normal ∧ d' = [] ∧ L' = ⟨A.t.set W (wB v (bad || gBad gs (i + 1))), A.next⟩ ∧ tget t' 0 = .ptr W 0 ∧ tget t' 3 = .ptr E 0 ∧ tget t' 4 = tget t 4 ∧ tget t' 5 = .int .i64 bt ∧ tget t' 6 = .int .i64 i ∧ tget t' 7 = .int .u8 g ∧ tget t' 16 = ga ∧ tget t' 17 = .int .i64 (i : Int)) ?_ ?_)
  ·
    have hcs := h.wr.row.cells
    rw [hsucc]
    cases hbb : (bad || gBad gs i) with
    | true =>
      rw [hbb] at hBW
      refine ACode.regS noT_ok names_ok mix (t' := ?_) (L' := ?_) [0, 1, 2, 3, 4, 5, 6, 7, 8, 9, 10, 11] (by rfl) ?_ ?_
      rotate_left 2
      · iterate 6 (refine sq rfl rfl rfl (by simp [go_sem, X, u0, hBW, hcs, Try.f74]; rfl) ?_)
        iterate 2 (refine sk rfl rfl (by simp [go_sem, X, u0, hBW, hcs, Try.f74]) ?_)
        iterate 4 (refine sq rfl rfl rfl (by simp [go_sem, X, u0, hBW, hcs, Try.f74]; rfl) ?_)
        rfl
      exact ⟨rfl, rfl, by rw [hBset, ← Bool.or_assoc, hbb]; rfl, by simp [tget_set, u0], by simp [tget_set, u3], by simp [tget_set, u4], by simp [tget_set, u5], by simp [tget_set], by simp [tget_set], by simp [tget_set, u16], by simp [tget_set, u17]⟩
    | false =>
      rw [hbb] at hBW
      refine ACode.regS noT_ok names_ok mix (t' := ?_) (L' := ?_) [0, 1, 2, 3, 4, 5, 6, 7, 8, 9, 10, 11] (by rfl) ?_ ?_
      rotate_left 2
      · iterate 6 (refine sq rfl rfl rfl (by simp [go_sem, X, u0, hBW, hcs, Try.f74]; rfl) ?_)
        iterate 2 (refine sq rfl rfl (by simp [go_sem, X, u0, hBW, hcs, Try.f74]) (by simp [go_sem, X, u0, hBW, hcs, Try.f74]; rfl) ?_)
        iterate 4 (refine sq rfl rfl rfl (by simp [go_sem, X, u0, hBW, hcs, Try.f74]; rfl) ?_)
        rfl
      exact ⟨rfl, rfl, by rw [hBset, ← Bool.or_assoc, hbb]; rfl, by simp [tget_set, u0], by simp [tget_set, u3], by simp [tget_set, u4], by simp [tget_set, u5], by simp [tget_set], by simp [tget_set], by simp [tget_set, u16], by simp [tget_set, u17]⟩
  clear u0 u3 u4 u5 u16 u17
  rintro x t2 d2 L2 ⟨rfl, rfl, rfl, u0, u3, u4, u5, u6, u7, u16, u17⟩
  show ACode _ _ (Code.region _ _ _) _ _ _ _
  refine ACode.regS noT_ok names_ok mix (t' := ?_) (L' := ?_) [0, 1, 2, 3, 4, 5, 6] (by rfl) ?_ ?_
  rotate_left 2
  · iterate 7 (refine sq rfl rfl rfl (by simp [go_sem, X, u5, u6, u7, hwg, hi0, Try.f74]; rfl) ?_)
    rfl
  show ACode _ _ (Code.region _ _ _) _ _ _ _
  refine ACode.regS noT_ok names_ok mix (t' := ?_) (L' := ?_) [0, 1] (by rfl) ?_ ?_
  rotate_left 2
  · iterate 2 (refine sq rfl rfl rfl (by simp [go_sem, X, u17, hw1, Try.f74]; rfl) ?_)
    rfl
  exact ⟨5 - (i + 1), by omega, rfl, i + 1, by omega, rfl, rfl, by simp [tget_set, u0], by simp [tget_set, u3], by simp [tget_set, u4], by simp [tget_set, hbits], by simp [tget_set, u16], by simp [tget_set]⟩
end Go.Proofs.Ytpfmoolpeecobaa
namespace Go.Proofs.Ytpfmoolpeecobaa
open Go Go.Proofs Go.Proofs.Ytpfmoolpeecobaa.Ev
set_option linter.unusedVariables false
set_option linter.unusedSimpArgs false
set_option maxRecDepth 100000
set_option maxHeartbeats 4000000

theorem Wr.app1 {A : Heap} {W : Nat} {v : V} {bad : Bool} {l : List Int} {sl : Nat} (h : Wr A W v bad l sl) (y : Int) (hl : l.length ≤ 10000000) :
    ∃ v' A', Ev.append Try.prog 38 v (.slice A.next 0 1 1 false) ⟨A.t.set A.next (.cells (T.set .leaf 0 [.int .u8 y]) 1 1 false false), A.next + 1⟩ = some (v', A') ∧
      A'.t.get W = some (wB v bad) ∧ v'.cells = [v'] ∧ v'.scalar = true ∧ Wr ⟨A'.t.set W (wB v' bad), A'.next⟩ W v' bad (l ++ [y]) (sl - 1) ∧ Old W v A ⟨A'.t.set W (wB v' bad), A'.next⟩ v' := by
  have w1 := h.new (oneB (.int .u8 y))
  have hy : (⟨A.t.set A.next (oneB (.int .u8 y)), A.next + 1⟩ : Heap).t.get A.next = some (oneB (.int .u8 y)) := T.get_set_same _ _ _
  obtain ⟨v', A', happ, hr, hn, hk, hm⟩ := append_one w1.row (oneB_src hy) (by omega)
  obtain ⟨w2, o2, hW⟩ := w1.app hr hn hk hm
  exact ⟨v', A', happ, hW, hr.cells.1, hr.cells.2, w2, (Old.new W v A _).trans o2⟩
/-- a row that is neither the writer nor its own -/
def Ap (W : Nat) (v x : V) : Prop := ∀ m, nmP x = some m → m ≠ W ∧ nmP v ≠ some m
theorem SlP.old {α : Type} {sz : Nat} {eT : TypeId} {f : α → List V} {W : Nat} {v v' x : V} {A A' : Heap} {l : List α} (h : SlP sz eT f A x l) (ha : Ap W v x) (ho : Old W v A A' v') : SlP sz eT f A' x l := by
  rcases h with h | ⟨n, o, cap, q, rfl, hlt, hc, hx⟩
  · exact .inl h
  · obtain ⟨h1, h2⟩ := ha n rfl
    exact .inr ⟨n, o, cap, q, rfl, Nat.lt_of_lt_of_le hlt ho.next, hc, fun i x hi => by rw [load_same (ho.old n hlt h1 h2)]; exact hx i x hi⟩
theorem SlP.nm_lt {α : Type} {sz : Nat} {eT : TypeId} {f : α → List V} {x : V} {A : Heap} {l : List α} (h : SlP sz eT f A x l) {m : Nat} (hm : nmP x = some m) : m < A.next := by
  rcases h with ⟨rfl, _⟩ | ⟨n, o, cap, q, rfl, hlt, hc, hx⟩
  · cases hm
  · simp only [nmP, Option.some.injEq] at hm; subst hm; exact hlt

noncomputable def c74_9 : Code := cSnd (cSnd (cSnd (cSnd (cSnd (cSnd (cSnd (cSnd (cSnd b74))))))))
def cLoop : Code → Code
  | .loop b => b
  | c => c
noncomputable def c74_r : Code := cSnd (cSnd (cLoop (cBlk (cSnd c74_9))))
def sBad (ps : List (Int × Int × Int × Int)) (i : Nat) (x : SrcG) : Bool := decide (1 < x.lv) || decide (ps[i]? ≠ some x.q)
def srcK (x : SrcG) : Int := if x.tr then ior .u8 x.lv 2 else x.lv
noncomputable def srcBlk (x : SrcG) : Blk := .cells (T.set .leaf 0 (srcG x)) 1 6 false false
/-- a round over the sources -/
def SRd (W n : Nat) (sv pv : V) (i : Nat) (a a' : Heap × V) : Prop := ∀ t : T V, tget t 0 = .ptr W 0 → tget t 8 = pv → tget t 84 = sv → tget t 85 = .int .i64 (n : Int) → tget t 86 = .int .i64 (i : Int) →
  ACode Try.prog ⟨none, 135⟩ c74_r t [] a.1 (fun x t' d' A'' => x = .normal ∧ d' = [] ∧ A'' = a'.1 ∧ tget t' 0 = .ptr W 0 ∧ tget t' 8 = pv ∧ tget t' 84 = sv ∧ tget t' 85 = .int .i64 (n : Int) ∧ tget t' 86 = .int .i64 ((i + 1 : Nat) : Int))
theorem sround_ok {A : Heap} {W n i : Nat} {v sv pv : V} {bad : Bool} {l : List Int} {srcs : List SrcG} {ps : List (Int × Int × Int × Int)} {x : SrcG} (h : Wr A W v bad l 0) (hs : SlP 6 83 srcG A sv srcs) (hp : SlP 4 81 rectV A pv ps) (hap : Ap W v pv)
    (hi : srcs[i]? = some x) (hin : i < 1000) (hl : l.length ≤ 2000000) (hps : ps.length ≤ 1000) :
    ∃ A' v', SRd W n sv pv i (A, v) (A', v') ∧ Wr A' W v' (bad || sBad ps i x) (l ++ [srcK x]) 0 ∧ Old W v A A' v' := by
  have hcell := h.cell
  have w1 := h.new (srcBlk x)
  have o1 := Old.new W v A (srcBlk x)
  have hp1 := hp.old hap o1
  have hX : (⟨A.t.set A.next (srcBlk x), A.next + 1⟩ : Heap).t.get A.next = some (srcBlk x) := T.get_set_same _ _ _
  have hXW : A.next ≠ W := by have := h.lt; omega
  have hXlt : A.next < (⟨A.t.set A.next (srcBlk x), A.next + 1⟩ : Heap).next := Nat.lt_succ_self _
  obtain ⟨n1, off, _, hix, hld⟩ := hs.at' pt50 ps83 hi
  generalize hA1 : (⟨A.t.set A.next (srcBlk x), A.next + 1⟩ : Heap) = A1 at *
  have w2 := w1.bad (bad || sBad ps i x)
  have o2 := Old.put W v A1 (wB v (bad || sBad ps i x))
  have hX2 := o2.at w1.row hX hXlt hXW
  generalize hA2 : (⟨A1.t.set W (wB v (bad || sBad ps i x)), A1.next⟩ : Heap) = A2 at *
  obtain ⟨v', A3, happ, hW3, hc1, hc2, w3, o3⟩ := w2.app1 (srcK x) (by omega)
  refine ⟨⟨A3.t.set W (wB v' (bad || sBad ps i x)), A3.next⟩, v', ?_, w3, (o1.trans o2).trans o3⟩
  intro t t0 t8 t84 t85 t86
  have hA1W := w1.cell
  have hA2W := w2.cell
  have hcs := h.row.cells
  have hplen := hp1.len pt79
  have hw1 : IntKind.i64.wrap ((i : Int) + 1) = ((i + 1 : Nat) : Int) := by rw [Go.IntWalk.i64_in _ (by omega)]; omega
  unfold srcBlk srcG at hX
  simp only [srcG] at hX2 hld
  unfold wB at hA1W hA2W hW3
  show ACode _ _ (Code.seq (Code.block 3 (Code.seq (Code.region _ _ _) _)) _) _ _ _ _
  refine ACode.seq (ACode.block ?_)
  refine ACode.seq (ACode.regS noT_ok names_ok mix (t' := ?_) (L' := ?_) [0, 1, 2, 3, 4, 5] (by rfl) ?_ ?_)
  rotate_left 2
  · iterate 6 (refine sq rfl rfl rfl (by simp [go_sem, xs, xe, xi, xo, xb, xq, xv, xc, xk, t0, t84, t86, hix, hld, Try.f74]; rfl) ?_)
    rfl
  change ACode _ _ _ _ _ ⟨A.t.set A.next (srcBlk x), A.next + 1⟩ _
  rw [hA1]
  have hst : ∀ b, b = (bad || sBad ps i x) → (⟨A1.t.set W (.cells (T.set .leaf 0 [v, .bool b]) 1 2 false false), A1.next⟩ : Heap) = A2 := fun b e => by rw [← hA2, e]; rfl
  have hl0 : Heap.load Try.prog A1 51 A.next 0 = some (.int .u8 x.lv) := by simp [Heap.load, Heap.elem, hX, T.get_set, Ev.part, pa51]
  have hl1 : Heap.load Try.prog A1 81 A.next 2 = some (.agg (rectV x.q)) := by simp [Heap.load, Heap.elem, hX, T.get_set, Ev.part, pa81, ps81, takeN, rectV]
  have hlW : Heap.load Try.prog A1 4 W 1 = some (.bool bad) := by simp [Heap.load, Heap.elem, hA1W, T.get_set, Ev.part, pa4]
  refine ACode.at (fun t => tget t 0 = .ptr W 0 ∧ tget t 8 = pv ∧ tget t 9 = .int .i64 (i : Int) ∧ tget t 10 = .ptr A.next 0 ∧ tget t 84 = sv ∧ tget t 85 = .int .i64 (n : Int) ∧ tget t 86 = .int .i64 (i : Int)) (by simp [tget_set, t0, t8, t84, t85, t86]) ?_
  clear t0 t8 t84 t85 t86
  rintro t1 ⟨t0, t8, t9, t10, t84, t85, t86⟩
  refine ACode.seq (ACode.mono (K := fun y t' d' L' => y = .normal ∧ d' = [] ∧ L' = A2 ∧ tget t' 0 = .ptr W 0 ∧ tget t' 8 = pv ∧ tget t' 9 = .int .i64 (i : Int) ∧ tget t' 10 = .ptr A.next 0 ∧ tget t' 84 = sv ∧ tget t' 85 = .int .i64 (n : Int) ∧ tget t' 86 = .int .i64 (i : Int)) ?_ ?_)
  ·
    cases bad with
    | true =>
      refine ACode.regD noT_ok names_ok mix (t' := ?_) (L' := ?_) [0,0,2,6,14,30,62,126,254,510,1022,2046,2046,6142,16382,32766,65534,131070,262142,131070,131070,1703934,3801086,8388606,16777214,33554431,67108863,134217727] [0,1,2,3,4,5,6,7,8,9,10,11,12,13,14,15,16,17,18,19,20,21,22,23,24,25,26,27] (by decide +kernel) (by decide +kernel) (by decide +kernel) ?_ ?_
      rotate_left 2
      · iterate 4 (refine dq rfl rfl rfl rfl (by simp [go_sem, xs, xe, xi, xo, xb, xv, xc, xk, t0, t8, t9, t10, hA1W, hl0, hl1, hlW, hplen, hcs, Try.f74]; rfl) ?_)
        refine dr rfl rfl rfl rfl (by simp [go_sem, xs, xe, xi, xo, xb, xv, xc, xk, t0, t8, t9, t10, hA1W, hl0, hl1, hlW, hplen, hcs, Try.f74]; rfl) ?_
        refine dq rfl rfl rfl rfl (by simp [go_sem, xs, xe, xi, xo, xb, xv, xc, xk, t0, t8, t9, t10, hA1W, hl0, hl1, hlW, hplen, hcs, Try.f74]; rfl) ?_
        iterate 3 (refine ds rfl rfl (by simp [go_sem, xs, xe, xi, xo, xb, xv, xc, xk, t0, t8, t9, t10, hA1W, hl0, hl1, hlW, hplen, hcs, Try.f74]) ?_)
        iterate 2 (refine dq rfl rfl rfl rfl (by simp [go_sem, xs, xe, xi, xo, xb, xv, xc, xk, t0, t8, t9, t10, hA1W, hl0, hl1, hlW, hplen, hcs, Try.f74]; rfl) ?_)
        iterate 4 (refine ds rfl rfl (by simp [go_sem, xs, xe, xi, xo, xb, xv, xc, xk, t0, t8, t9, t10, hA1W, hl0, hl1, hlW, hplen, hcs, Try.f74]) ?_)
        iterate 2 (refine dq rfl rfl rfl rfl (by simp [go_sem, xs, xe, xi, xo, xb, xv, xc, xk, t0, t8, t9, t10, hA1W, hl0, hl1, hlW, hplen, hcs, Try.f74]; rfl) ?_)
        iterate 7 (refine ds rfl rfl (by simp [go_sem, xs, xe, xi, xo, xb, xv, xc, xk, t0, t8, t9, t10, hA1W, hl0, hl1, hlW, hplen, hcs, Try.f74]) ?_)
        iterate 3 (refine dq rfl rfl rfl rfl (by simp [go_sem, xs, xe, xi, xo, xb, xv, xc, xk, t0, t8, t9, t10, hA1W, hl0, hl1, hlW, hplen, hcs, Try.f74]; rfl) ?_)
        refine dl rfl rfl rfl rfl (by simp [go_sem, xs, xe, xi, xo, xb, xv, xc, xk, t0, t8, t9, t10, hA1W, hl0, hl1, hlW, hplen, hcs, Try.f74]; rfl) (by rfl) (by simp [go_sem, xs, xe, xi, xo, xb, xv, xc, xk, t0, t8, t9, t10, hA1W, hl0, hl1, hlW, hplen, hcs, Try.f74]) ?_
        rfl
      exact ⟨rfl, rfl, hst _ (by simp), by simp [tget_set, t0], by simp [tget_set, t8], by simp [tget_set, t9], by simp [tget_set, t10], by simp [tget_set, t84], by simp [tget_set, t85], by simp [tget_set, t86]⟩
    | false =>
      by_cases h1 : 1 < x.lv
      ·
        refine ACode.regD noT_ok names_ok mix (t' := ?_) (L' := ?_) [0,0,2,6,14,30,62,126,254,510,1022,2046,2046,6142,16382,32766,65534,131070,262142,131070,131070,1703934,3801086,8388606,16777214,33554431,67108863,134217727] [0,1,2,3,4,5,6,7,8,9,10,11,12,13,14,15,16,17,18,19,20,21,22,23,24,25,26,27] (by decide +kernel) (by decide +kernel) (by decide +kernel) ?_ ?_
        rotate_left 2
        · iterate 4 (refine dq rfl rfl rfl rfl (by simp [go_sem, xs, xe, xi, xo, xb, xv, xc, xk, t0, t8, t9, t10, hA1W, hl0, hl1, hlW, hplen, hcs, h1, Try.f74]; rfl) ?_)
          refine dr rfl rfl rfl rfl (by simp [go_sem, xs, xe, xi, xo, xb, xv, xc, xk, t0, t8, t9, t10, hA1W, hl0, hl1, hlW, hplen, hcs, h1, Try.f74]; rfl) ?_
          refine dq rfl rfl rfl rfl (by simp [go_sem, xs, xe, xi, xo, xb, xv, xc, xk, t0, t8, t9, t10, hA1W, hl0, hl1, hlW, hplen, hcs, h1, Try.f74]; rfl) ?_
          refine dq rfl rfl (by simp [go_sem, xs, xe, xi, xo, xb, xv, xc, xk, t0, t8, t9, t10, hA1W, hl0, hl1, hlW, hplen, hcs, h1, Try.f74]) rfl (by simp [go_sem, xs, xe, xi, xo, xb, xv, xc, xk, t0, t8, t9, t10, hA1W, hl0, hl1, hlW, hplen, hcs, h1, Try.f74]; rfl) ?_
          refine dr rfl rfl (by simp [go_sem, xs, xe, xi, xo, xb, xv, xc, xk, t0, t8, t9, t10, hA1W, hl0, hl1, hlW, hplen, hcs, h1, Try.f74]) rfl (by simp [go_sem, xs, xe, xi, xo, xb, xv, xc, xk, t0, t8, t9, t10, hA1W, hl0, hl1, hlW, hplen, hcs, h1, Try.f74]; rfl) ?_
          refine dq rfl rfl (by simp [go_sem, xs, xe, xi, xo, xb, xv, xc, xk, t0, t8, t9, t10, hA1W, hl0, hl1, hlW, hplen, hcs, h1, Try.f74]) rfl (by simp [go_sem, xs, xe, xi, xo, xb, xv, xc, xk, t0, t8, t9, t10, hA1W, hl0, hl1, hlW, hplen, hcs, h1, Try.f74]; rfl) ?_
          iterate 2 (refine dq rfl rfl rfl rfl (by simp [go_sem, xs, xe, xi, xo, xb, xv, xc, xk, t0, t8, t9, t10, hA1W, hl0, hl1, hlW, hplen, hcs, h1, Try.f74]; rfl) ?_)
          iterate 4 (refine ds rfl rfl (by simp [go_sem, xs, xe, xi, xo, xb, xv, xc, xk, t0, t8, t9, t10, hA1W, hl0, hl1, hlW, hplen, hcs, h1, Try.f74]) ?_)
          iterate 2 (refine dq rfl rfl rfl rfl (by simp [go_sem, xs, xe, xi, xo, xb, xv, xc, xk, t0, t8, t9, t10, hA1W, hl0, hl1, hlW, hplen, hcs, h1, Try.f74]; rfl) ?_)
          iterate 7 (refine ds rfl rfl (by simp [go_sem, xs, xe, xi, xo, xb, xv, xc, xk, t0, t8, t9, t10, hA1W, hl0, hl1, hlW, hplen, hcs, h1, Try.f74]) ?_)
          iterate 3 (refine dq rfl rfl rfl rfl (by simp [go_sem, xs, xe, xi, xo, xb, xv, xc, xk, t0, t8, t9, t10, hA1W, hl0, hl1, hlW, hplen, hcs, h1, Try.f74]; rfl) ?_)
          refine dl rfl rfl rfl rfl (by simp [go_sem, xs, xe, xi, xo, xb, xv, xc, xk, t0, t8, t9, t10, hA1W, hl0, hl1, hlW, hplen, hcs, h1, Try.f74]; rfl) (by rfl) (by simp [go_sem, xs, xe, xi, xo, xb, xv, xc, xk, t0, t8, t9, t10, hA1W, hl0, hl1, hlW, hplen, hcs, h1, Try.f74]) ?_
          rfl
        exact ⟨rfl, rfl, hst _ (by simp [sBad, h1]), by simp [tget_set, t0], by simp [tget_set, t8], by simp [tget_set, t9], by simp [tget_set, t10], by simp [tget_set, t84], by simp [tget_set, t85], by simp [tget_set, t86]⟩
      by_cases h2 : (ps.length : Int) ≤ (i : Int)
      ·
        have h2' : ps[i]? = none := List.getElem?_eq_none (by omega)
        refine ACode.regD noT_ok names_ok mix (t' := ?_) (L' := ?_) [0,0,2,6,14,30,62,126,254,510,1022,2046,2046,6142,16382,32766,65534,131070,262142,131070,131070,1703934,3801086,8388606,16777214,33554431,67108863,134217727] [0,1,2,3,4,5,6,7,8,9,10,11,12,13,14,15,16,17,18,19,20,21,22,23,24,25,26,27] (by decide +kernel) (by decide +kernel) (by decide +kernel) ?_ ?_
        rotate_left 2
        · iterate 4 (refine dq rfl rfl rfl rfl (by simp [go_sem, xs, xe, xi, xo, xb, xv, xc, xk, t0, t8, t9, t10, hA1W, hl0, hl1, hlW, hplen, hcs, h1, h2, Try.f74]; rfl) ?_)
          refine dr rfl rfl rfl rfl (by simp [go_sem, xs, xe, xi, xo, xb, xv, xc, xk, t0, t8, t9, t10, hA1W, hl0, hl1, hlW, hplen, hcs, h1, h2, Try.f74]; rfl) ?_
          refine dq rfl rfl rfl rfl (by simp [go_sem, xs, xe, xi, xo, xb, xv, xc, xk, t0, t8, t9, t10, hA1W, hl0, hl1, hlW, hplen, hcs, h1, h2, Try.f74]; rfl) ?_
          refine dq rfl rfl (by simp [go_sem, xs, xe, xi, xo, xb, xv, xc, xk, t0, t8, t9, t10, hA1W, hl0, hl1, hlW, hplen, hcs, h1, h2, Try.f74]) rfl (by simp [go_sem, xs, xe, xi, xo, xb, xv, xc, xk, t0, t8, t9, t10, hA1W, hl0, hl1, hlW, hplen, hcs, h1, h2, Try.f74]; rfl) ?_
          refine dr rfl rfl (by simp [go_sem, xs, xe, xi, xo, xb, xv, xc, xk, t0, t8, t9, t10, hA1W, hl0, hl1, hlW, hplen, hcs, h1, h2, Try.f74]) rfl (by simp [go_sem, xs, xe, xi, xo, xb, xv, xc, xk, t0, t8, t9, t10, hA1W, hl0, hl1, hlW, hplen, hcs, h1, h2, Try.f74]; rfl) ?_
          refine dq rfl rfl (by simp [go_sem, xs, xe, xi, xo, xb, xv, xc, xk, t0, t8, t9, t10, hA1W, hl0, hl1, hlW, hplen, hcs, h1, h2, Try.f74]) rfl (by simp [go_sem, xs, xe, xi, xo, xb, xv, xc, xk, t0, t8, t9, t10, hA1W, hl0, hl1, hlW, hplen, hcs, h1, h2, Try.f74]; rfl) ?_
          iterate 2 (refine dq rfl rfl rfl rfl (by simp [go_sem, xs, xe, xi, xo, xb, xv, xc, xk, t0, t8, t9, t10, hA1W, hl0, hl1, hlW, hplen, hcs, h1, h2, Try.f74]; rfl) ?_)
          iterate 2 (refine dq rfl rfl (by simp [go_sem, xs, xe, xi, xo, xb, xv, xc, xk, t0, t8, t9, t10, hA1W, hl0, hl1, hlW, hplen, hcs, h1, h2, Try.f74]) rfl (by simp [go_sem, xs, xe, xi, xo, xb, xv, xc, xk, t0, t8, t9, t10, hA1W, hl0, hl1, hlW, hplen, hcs, h1, h2, Try.f74]; rfl) ?_)
          refine dr rfl rfl (by simp [go_sem, xs, xe, xi, xo, xb, xv, xc, xk, t0, t8, t9, t10, hA1W, hl0, hl1, hlW, hplen, hcs, h1, h2, Try.f74]) rfl (by simp [go_sem, xs, xe, xi, xo, xb, xv, xc, xk, t0, t8, t9, t10, hA1W, hl0, hl1, hlW, hplen, hcs, h1, h2, Try.f74]; rfl) ?_
          refine dq rfl rfl (by simp [go_sem, xs, xe, xi, xo, xb, xv, xc, xk, t0, t8, t9, t10, hA1W, hl0, hl1, hlW, hplen, hcs, h1, h2, Try.f74]) rfl (by simp [go_sem, xs, xe, xi, xo, xb, xv, xc, xk, t0, t8, t9, t10, hA1W, hl0, hl1, hlW, hplen, hcs, h1, h2, Try.f74]; rfl) ?_
          iterate 2 (refine dq rfl rfl rfl rfl (by simp [go_sem, xs, xe, xi, xo, xb, xv, xc, xk, t0, t8, t9, t10, hA1W, hl0, hl1, hlW, hplen, hcs, h1, h2, Try.f74]; rfl) ?_)
          iterate 7 (refine ds rfl rfl (by simp [go_sem, xs, xe, xi, xo, xb, xv, xc, xk, t0, t8, t9, t10, hA1W, hl0, hl1, hlW, hplen, hcs, h1, h2, Try.f74]) ?_)
          iterate 3 (refine dq rfl rfl rfl rfl (by simp [go_sem, xs, xe, xi, xo, xb, xv, xc, xk, t0, t8, t9, t10, hA1W, hl0, hl1, hlW, hplen, hcs, h1, h2, Try.f74]; rfl) ?_)
          refine dl rfl rfl rfl rfl (by simp [go_sem, xs, xe, xi, xo, xb, xv, xc, xk, t0, t8, t9, t10, hA1W, hl0, hl1, hlW, hplen, hcs, h1, h2, Try.f74]; rfl) (by rfl) (by simp [go_sem, xs, xe, xi, xo, xb, xv, xc, xk, t0, t8, t9, t10, hA1W, hl0, hl1, hlW, hplen, hcs, h1, h2, Try.f74]) ?_
          rfl
        exact ⟨rfl, rfl, hst _ (by simp [sBad, h2']), by simp [tget_set, t0], by simp [tget_set, t8], by simp [tget_set, t9], by simp [tget_set, t10], by simp [tget_set, t84], by simp [tget_set, t85], by simp [tget_set, t86]⟩
      have h2l : i < ps.length := by omega
      obtain ⟨n2, off2, _, hix2, hld2⟩ := hp1.at' pt79 ps81 (i := i) (x := ps[i]) (by simp [h2l])
      have hev := ev81g false x.q ps[i]
      have h2' : ps[i]? = some ps[i] := by simp [h2l]
      have hfin : (!decide (x.q = ps[i])) = (false || sBad ps i x) := by
        simp [sBad, h1, h2', eq_comm]
      generalize rectV ps[i] = rc at *
      generalize rectV x.q = rx at *
      refine ACode.regD noT_ok names_ok mix (t' := ?_) (L' := ?_) [0,0,2,6,14,30,62,126,254,510,1022,2046,2046,6142,16382,32766,65534,131070,262142,131070,131070,1703934,3801086,8388606,16777214,33554431,67108863,134217727] [0,1,2,3,4,5,6,7,8,9,10,11,12,13,14,15,16,17,18,19,20,21,22,23,24,25,26,27] (by decide +kernel) (by decide +kernel) (by decide +kernel) ?_ ?_
      rotate_left 2
      · iterate 4 (refine dq rfl rfl rfl rfl (by simp [go_sem, xs, xe, xi, xo, xb, xv, xc, xk, t0, t8, t9, t10, hA1W, hl0, hl1, hlW, hplen, hcs, h1, h2, hix2, hld2, hev, Try.f74]; rfl) ?_)
        refine dr rfl rfl rfl rfl (by simp [go_sem, xs, xe, xi, xo, xb, xv, xc, xk, t0, t8, t9, t10, hA1W, hl0, hl1, hlW, hplen, hcs, h1, h2, hix2, hld2, hev, Try.f74]; rfl) ?_
        refine dq rfl rfl rfl rfl (by simp [go_sem, xs, xe, xi, xo, xb, xv, xc, xk, t0, t8, t9, t10, hA1W, hl0, hl1, hlW, hplen, hcs, h1, h2, hix2, hld2, hev, Try.f74]; rfl) ?_
        refine dq rfl rfl (by simp [go_sem, xs, xe, xi, xo, xb, xv, xc, xk, t0, t8, t9, t10, hA1W, hl0, hl1, hlW, hplen, hcs, h1, h2, hix2, hld2, hev, Try.f74]) rfl (by simp [go_sem, xs, xe, xi, xo, xb, xv, xc, xk, t0, t8, t9, t10, hA1W, hl0, hl1, hlW, hplen, hcs, h1, h2, hix2, hld2, hev, Try.f74]; rfl) ?_
        refine dr rfl rfl (by simp [go_sem, xs, xe, xi, xo, xb, xv, xc, xk, t0, t8, t9, t10, hA1W, hl0, hl1, hlW, hplen, hcs, h1, h2, hix2, hld2, hev, Try.f74]) rfl (by simp [go_sem, xs, xe, xi, xo, xb, xv, xc, xk, t0, t8, t9, t10, hA1W, hl0, hl1, hlW, hplen, hcs, h1, h2, hix2, hld2, hev, Try.f74]; rfl) ?_
        refine dq rfl rfl (by simp [go_sem, xs, xe, xi, xo, xb, xv, xc, xk, t0, t8, t9, t10, hA1W, hl0, hl1, hlW, hplen, hcs, h1, h2, hix2, hld2, hev, Try.f74]) rfl (by simp [go_sem, xs, xe, xi, xo, xb, xv, xc, xk, t0, t8, t9, t10, hA1W, hl0, hl1, hlW, hplen, hcs, h1, h2, hix2, hld2, hev, Try.f74]; rfl) ?_
        iterate 2 (refine dq rfl rfl rfl rfl (by simp [go_sem, xs, xe, xi, xo, xb, xv, xc, xk, t0, t8, t9, t10, hA1W, hl0, hl1, hlW, hplen, hcs, h1, h2, hix2, hld2, hev, Try.f74]; rfl) ?_)
        iterate 2 (refine dq rfl rfl (by simp [go_sem, xs, xe, xi, xo, xb, xv, xc, xk, t0, t8, t9, t10, hA1W, hl0, hl1, hlW, hplen, hcs, h1, h2, hix2, hld2, hev, Try.f74]) rfl (by simp [go_sem, xs, xe, xi, xo, xb, xv, xc, xk, t0, t8, t9, t10, hA1W, hl0, hl1, hlW, hplen, hcs, h1, h2, hix2, hld2, hev, Try.f74]; rfl) ?_)
        refine dr rfl rfl (by simp [go_sem, xs, xe, xi, xo, xb, xv, xc, xk, t0, t8, t9, t10, hA1W, hl0, hl1, hlW, hplen, hcs, h1, h2, hix2, hld2, hev, Try.f74]) rfl (by simp [go_sem, xs, xe, xi, xo, xb, xv, xc, xk, t0, t8, t9, t10, hA1W, hl0, hl1, hlW, hplen, hcs, h1, h2, hix2, hld2, hev, Try.f74]; rfl) ?_
        refine dq rfl rfl (by simp [go_sem, xs, xe, xi, xo, xb, xv, xc, xk, t0, t8, t9, t10, hA1W, hl0, hl1, hlW, hplen, hcs, h1, h2, hix2, hld2, hev, Try.f74]) rfl (by simp [go_sem, xs, xe, xi, xo, xb, xv, xc, xk, t0, t8, t9, t10, hA1W, hl0, hl1, hlW, hplen, hcs, h1, h2, hix2, hld2, hev, Try.f74]; rfl) ?_
        iterate 2 (refine dq rfl rfl rfl rfl (by simp [go_sem, xs, xe, xi, xo, xb, xv, xc, xk, t0, t8, t9, t10, hA1W, hl0, hl1, hlW, hplen, hcs, h1, h2, hix2, hld2, hev, Try.f74]; rfl) ?_)
        refine dq rfl rfl (by simp [go_sem, xs, xe, xi, xo, xb, xv, xc, xk, t0, t8, t9, t10, hA1W, hl0, hl1, hlW, hplen, hcs, h1, h2, hix2, hld2, hev, Try.f74]) rfl (by simp [go_sem, xs, xe, xi, xo, xb, xv, xc, xk, t0, t8, t9, t10, hA1W, hl0, hl1, hlW, hplen, hcs, h1, h2, hix2, hld2, hev, Try.f74]; rfl) ?_
        refine dr rfl rfl (by simp [go_sem, xs, xe, xi, xo, xb, xv, xc, xk, t0, t8, t9, t10, hA1W, hl0, hl1, hlW, hplen, hcs, h1, h2, hix2, hld2, hev, Try.f74]) rfl (by simp [go_sem, xs, xe, xi, xo, xb, xv, xc, xk, t0, t8, t9, t10, hA1W, hl0, hl1, hlW, hplen, hcs, h1, h2, hix2, hld2, hev, Try.f74]; rfl) ?_
        iterate 3 (refine dq rfl rfl (by simp [go_sem, xs, xe, xi, xo, xb, xv, xc, xk, t0, t8, t9, t10, hA1W, hl0, hl1, hlW, hplen, hcs, h1, h2, hix2, hld2, hev, Try.f74]) rfl (by simp [go_sem, xs, xe, xi, xo, xb, xv, xc, xk, t0, t8, t9, t10, hA1W, hl0, hl1, hlW, hplen, hcs, h1, h2, hix2, hld2, hev, Try.f74]; rfl) ?_)
        refine dr rfl rfl (by simp [go_sem, xs, xe, xi, xo, xb, xv, xc, xk, t0, t8, t9, t10, hA1W, hl0, hl1, hlW, hplen, hcs, h1, h2, hix2, hld2, hev, Try.f74]) rfl (by simp [go_sem, xs, xe, xi, xo, xb, xv, xc, xk, t0, t8, t9, t10, hA1W, hl0, hl1, hlW, hplen, hcs, h1, h2, hix2, hld2, hev, Try.f74]; rfl) ?_
        refine dq rfl rfl (by simp [go_sem, xs, xe, xi, xo, xb, xv, xc, xk, t0, t8, t9, t10, hA1W, hl0, hl1, hlW, hplen, hcs, h1, h2, hix2, hld2, hev, Try.f74]) rfl (by simp [go_sem, xs, xe, xi, xo, xb, xv, xc, xk, t0, t8, t9, t10, hA1W, hl0, hl1, hlW, hplen, hcs, h1, h2, hix2, hld2, hev, Try.f74]; rfl) ?_
        iterate 3 (refine dq rfl rfl rfl rfl (by simp [go_sem, xs, xe, xi, xo, xb, xv, xc, xk, t0, t8, t9, t10, hA1W, hl0, hl1, hlW, hplen, hcs, h1, h2, hix2, hld2, hev, Try.f74]; rfl) ?_)
        refine dl rfl rfl rfl rfl (by simp [go_sem, xs, xe, xi, xo, xb, xv, xc, xk, t0, t8, t9, t10, hA1W, hl0, hl1, hlW, hplen, hcs, h1, h2, hix2, hld2, hev, Try.f74]; rfl) (by rfl) (by simp [go_sem, xs, xe, xi, xo, xb, xv, xc, xk, t0, t8, t9, t10, hA1W, hl0, hl1, hlW, hplen, hcs, h1, h2, hix2, hld2, hev, Try.f74]) ?_
        rfl
      exact ⟨rfl, rfl, hst _ (hfin), by simp [tget_set, t0], by simp [tget_set, t8], by simp [tget_set, t9], by simp [tget_set, t10], by simp [tget_set, t84], by simp [tget_set, t85], by simp [tget_set, t86]⟩
  clear t0 t8 t9 t10 t84 t85 t86
  rintro y t2 d2 L2 ⟨rfl, rfl, rfl, t0, t8, t9, t10, t84, t85, t86⟩
  show ACode _ _ (Code.seq (Code.region _ _ _) _) _ _ _ _
  refine ACode.seq (ACode.regS noT_ok names_ok mix (t' := ?_) (L' := ?_) [0, 1, 2] (by rfl) ?_ ?_)
  rotate_left 2
  · iterate 3 (refine sq rfl rfl rfl (by simp [go_sem, X, t0, t10, hX2, Try.f74]; rfl) ?_)
    rfl
  refine ACode.seq (ACode.mono (K := fun y t' d' L' => y = .normal ∧ d' = [] ∧ L' = L2 ∧ tget t' 0 = .ptr W 0 ∧ tget t' 8 = pv ∧ tget t' 11 = .int .u8 (srcK x) ∧ tget t' 84 = sv ∧ tget t' 85 = .int .i64 (n : Int) ∧ tget t' 86 = .int .i64 (i : Int)) ?_ ?_)
  ·
    show ACode _ _ (Code.seq (Code.region _ _ _) _) _ _ _ _
    refine ACode.seq (ACode.regS noT_ok names_ok mix (t' := ?_) (L' := ?_) [0, 1] (by rfl) ?_ ?_)
    rotate_left 2
    · iterate 2 (refine sq rfl rfl rfl (by simp [go_sem, X, t10, hX2, Try.f74]; rfl) ?_)
      rfl
    cases htr : x.tr with
    | true =>
      refine ACode.condT (by simp [tget_set, opd, htr]) ?_
      refine ACode.regS noT_ok names_ok mix (t' := ?_) (L' := ?_) [0, 1, 2] (by rfl) ?_ ?_
      rotate_left 2
      · iterate 3 (refine sq rfl rfl rfl (by simp [go_sem, X, t10, hX2, Try.f74]; rfl) ?_)
        rfl
      exact ⟨rfl, rfl, rfl, by simp [tget_set, t0], by simp [tget_set, t8], by simp [tget_set, srcK, htr], by simp [tget_set, t84], by simp [tget_set, t85], by simp [tget_set, t86]⟩
    | false =>
      refine ACode.condF (by simp [tget_set, opd, htr]) (ACode.skip ?_)
      exact ⟨rfl, rfl, rfl, by simp [tget_set, t0], by simp [tget_set, t8], by simp [tget_set, srcK, htr], by simp [tget_set, t84], by simp [tget_set, t85], by simp [tget_set, t86]⟩
  clear t0 t8 t9 t10 t84 t85 t86
  rintro y t3 d3 L3 ⟨rfl, rfl, rfl, t0, t8, t11, t84, t85, t86⟩
  show ACode _ _ (Code.region _ _ _) _ _ _ _
  refine ACode.regS noT_ok names_ok mix (t' := ?_) (L' := ?_) [0, 1, 2, 3, 4, 5, 6, 7, 8, 9, 10] (by rfl) ?_ ?_
  rotate_left 2
  · iterate 11 (refine sq rfl rfl rfl (by simp [go_sem, xl, xs, xe, xa, xi, xo, xb, xq, xv, cellsI, scal1, scal2, scal3, t0, t11, hA2W, hW3, hc1, hc2, happ, Try.f74]; rfl) ?_)
    rfl
  show ACode _ _ (Code.region _ _ _) _ _ _ _
  refine ACode.regS noT_ok names_ok mix (t' := ?_) (L' := ?_) [0, 1] (by rfl) ?_ ?_
  rotate_left 2
  · iterate 2 (refine sq rfl rfl rfl (by simp [go_sem, X, t86, hw1, Try.f74]; rfl) ?_)
    rfl
  exact ⟨rfl, rfl, rfl, by simp [tget_set, t0], by simp [tget_set, t8], by simp [tget_set, t84], by simp [tget_set, t85], by simp [tget_set]⟩
end Go.Proofs.Ytpfmoolpeecobaa
