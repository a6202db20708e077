/- What must hold (81, 104, 79, 80, 82). mux.check (53). -/
import Derived.Test.YtpfmoolpeecobaaV9
import Derived.Test.YtpfmoolpeecobaaX20
import Derived.Test.YtpfmoolpeecobaaXB
namespace Go.Proofs.Ytpfmoolpeecobaa
open Go Go.Proofs Go.Proofs.Ytpfmoolpeecobaa.Ev
set_option linter.unusedVariables false
set_option linter.unusedSimpArgs false
set_option maxRecDepth 100000
set_option maxHeartbeats 4000000

structure SrcG2 where
  lv : Int
  tr : Bool
  q : Int × Int × Int × Int
def srcG2 (x : SrcG2) : List V := [.int .u8 x.lv, .bool x.tr, .int .i64 x.q.1, .int .i64 x.q.2.1, .int .i64 x.q.2.2.1, .int .i64 x.q.2.2.2]
noncomputable def mustH (L : Heap) (b : Bool) (e : Int) : Heap := ⟨(L.t.set L.next (.cells (T.set .leaf 0 [.bool b]) 1 1 false false)).set (L.next + 1) (.cells (T.set .leaf 0 [.int .i64 e]) 1 1 false false), L.next + 2⟩
theorem must_ok (b : Bool) (e : Int) (L : Heap) : ACall Try.prog 81 [.bool b, .int .i64 e] L (.func 104 [] [.ptr L.next 0, .ptr (L.next + 1) 0]) (mustH L b e) := by
  refine ACall.of_body_same Try.func81 rfl ?_
  have hz : Ev.ofVal .nilFunc = some .nilf := rfl
  refine ACode.seq (ACode.regS noT_ok names_ok mix (t' := ?_) (L' := ?_) [0, 1, 2] (by rfl) ?_ ?_)
  rotate_left 2
  · iterate 3 (refine sq rfl rfl rfl (by simp [go_sem, X, hz, Try.f81]; rfl) ?_)
    rfl
  refine ACode.seq (ACode.regS noT_ok names_ok mix (t' := ?_) (L' := ?_) [0, 1] (by rfl) ?_ ?_)
  rotate_left 2
  · iterate 2 (refine sq rfl rfl rfl (by simp [go_sem, X, Try.f81]; rfl) ?_)
    rfl
  exact ACode.ret ⟨.inr rfl, [_], rfl, by simp [Try.f81, resVals, tget_set], rfl⟩
theorem must1_ok {L : Heap} {p1 p2 : Nat} (h : L.t.get p1 = some (.cells (T.set .leaf 0 [.bool true]) 1 1 false false)) : ACall Try.prog 104 [.ptr p1 0, .ptr p2 0] L (.int .i64 0) L := by
  refine ACall.of_body_same Try.func104 rfl ?_
  refine ACode.seq (ACode.regS noT_ok names_ok mix (t' := ?_) (L' := ?_) [0] (by rfl) ?_ ?_)
  rotate_left 2
  · refine sq rfl rfl rfl (by simp [go_sem, X, Try.f104]; rfl) ?_
    rfl
  refine ACode.seq ?_
  refine ACode.seq (ACode.regS noT_ok names_ok mix (t' := ?_) (L' := ?_) [0] (by rfl) ?_ ?_)
  rotate_left 2
  · refine sq rfl rfl rfl (by simp [go_sem, X, h, Try.f104]; rfl) ?_
    rfl
  refine ACode.condT (by simp [tget_set, opd]) ?_
  refine ACode.seq (ACode.regS noT_ok names_ok mix (t' := ?_) (L' := ?_) [0] (by rfl) ?_ ?_)
  rotate_left 2
  · refine sq rfl rfl rfl (by simp [go_sem, X, Try.f104]; rfl) ?_
    rfl
  exact ACode.ret ⟨.inr rfl, [.int .i64 0], rfl, by simp [Try.f104, resVals, tget_set], rfl⟩
/-- mux.first, of what holds -/
theorem first_ok {L : Heap} {v : V} {n : Nat} (hlen : ∀ L', Ev.builtinQ Try.prog .len #[192] [v] L' = some (.int .i64 (n : Int))) (hn : n ≤ 1000)
    (hat : ∀ i : Nat, i < n → ∃ m o g cap, Ev.indexAddr Try.prog 192 v (.int .i64 (i : Int)) = some (.ptr m o) ∧ Heap.load Try.prog L 148 m o = some (.func g [] cap) ∧ ACall Try.prog g cap L (.int .i64 0) L) : ACall Try.prog 79 [v] L (.int .i64 0) L := by
  refine ACall.of_body_same Try.func79 rfl ?_
  refine ACode.seq (ACode.regS noT_ok names_ok mix (t' := ?_) (L' := ?_) [0] (by rfl) ?_ ?_)
  rotate_left 2
  · refine sq rfl rfl rfl (by simp [go_sem, X, Try.f79]; rfl) ?_
    rfl
  refine ACode.seq ?_
  refine ACode.seq (ACode.regS noT_ok names_ok mix (t' := ?_) (L' := ?_) [0, 1, 2] (by rfl) ?_ ?_)
  rotate_left 2
  · iterate 3 (refine sq rfl rfl rfl (by simp [go_sem, xl, xs, xe, xa, xi, xo, xb, xv, xc, xk, hlen, Try.f79]; rfl) ?_)
    rfl
  refine ACode.block (ACode.loop (fun t d A N => d = [] ∧ A = L ∧ ∃ i, i ≤ n ∧ N = n - i ∧ tget t 6 = v ∧ tget t 7 = .int .i64 (n : Int) ∧ tget t 8 = .int .i64 (i : Int)) (N := n)
    ⟨rfl, rfl, 0, Nat.zero_le _, by omega, by simp [tget_set, argsT], by simp [tget_set], by simp [tget_set]⟩ ?_)
  rintro t d A N ⟨rfl, rfl, i, hi, rfl, t6, t7, t8⟩
  refine ACode.seq (ACode.regS noT_ok names_ok mix (t' := ?_) (L' := ?_) [0] (by rfl) ?_ ?_)
  rotate_left 2
  · refine sq rfl rfl rfl (by simp [go_sem, X, t7, t8, Try.f79]; rfl) ?_
    rfl
  refine ACode.seq (ACode.cond (p := (i : Int) < (n : Int)) (by simp [tget_set, opd]) (fun hil => ACode.skip ?_) (fun hge => ACode.exit ?_))
  rotate_left 1
  ·
    show ACode _ _ _ _ _ _ _
    refine ACode.seq (ACode.regS noT_ok names_ok mix (t' := ?_) (L' := ?_) [0] (by rfl) ?_ ?_)
    rotate_left 2
    · refine sq rfl rfl rfl (by simp [go_sem, X, Try.f79]; rfl) ?_
      rfl
    exact ACode.ret ⟨.inr rfl, [.int .i64 0], rfl, by simp [Try.f79, resVals, tget_set], rfl⟩
  obtain ⟨m, o, g, cap, hx, hld, hc⟩ := hat i (by omega)
  have hw : IntKind.i64.wrap ((i : Int) + 1) = ((i + 1 : Nat) : Int) := by rw [Go.IntWalk.i64_in _ (by omega)]; omega
  refine ACode.seq (ACode.block ?_)
  refine ACode.seq (ACode.regS noT_ok names_ok mix (t' := ?_) (L' := ?_) [0, 1, 2] (by rfl) ?_ ?_)
  rotate_left 2
  · iterate 3 (refine sq rfl rfl rfl (by simp [go_sem, xs, xe, xi, xo, xb, xq, xv, xc, xk, t6, t8, hx, hld, Try.f79]; rfl) ?_)
    rfl
  refine ACode.seq (ACode.regS (oneT_okP hc) names_ok mix (t' := ?_) (L' := ?_) [0, 1, 2] (by rfl) ?_ ?_)
  rotate_left 2
  · iterate 3 (refine sq rfl rfl rfl (by simp [go_sem, X, oneT_sameP, Try.f79]; rfl) ?_)
    rfl
  refine ACode.seq (ACode.regS noT_ok names_ok mix (t' := ?_) (L' := ?_) [0, 1] (by rfl) ?_ ?_)
  rotate_left 2
  · iterate 2 (refine sq rfl rfl rfl (by simp [go_sem, X, Try.f79]; rfl) ?_)
    rfl
  refine ACode.condF (by simp [tget_set, opd]) (ACode.skip ?_)
  show ACode _ _ _ _ _ _ _
  refine ACode.regS noT_ok names_ok mix (t' := ?_) (L' := ?_) [0, 1] (by rfl) ?_ ?_
  rotate_left 2
  · iterate 2 (refine sq rfl rfl rfl (by simp [go_sem, X, t8, hw, Try.f79]; rfl) ?_)
    rfl
  exact ⟨n - (i + 1), by omega, rfl, rfl, i + 1, by omega, rfl, by simp [tget_set, t6], by simp [tget_set, t7], by simp [tget_set]⟩
/-- a setup that mux takes -/
structure SuR (r c ring g0 g1 g2 g3 g4 : Int) (srcs : List SrcG2) : Prop where
  hr : 2 ≤ r ∧ r ≤ 12
  hc : 1 ≤ c ∧ c ≤ 40
  hring : 0 ≤ ring ∧ ring ≤ 1000
  hg : ∀ g ∈ [g0, g1, g2, g3, g4], 0 ≤ g ∧ g ≤ 1
  hn : 1 ≤ srcs.length ∧ srcs.length ≤ 4
  hlv : ∀ x ∈ srcs, 0 ≤ x.lv ∧ x.lv ≤ 1
  hps : Below_ (srcs.map fun x => x.q) r c
def suC2 (r c : Int) (sv : V) (g0 g1 g2 g3 g4 ring : Int) : List V := [.int .i64 r, .int .i64 c, sv, .int .u8 g0, .int .u8 g1, .int .u8 g2, .int .u8 g3, .int .u8 g4, .int .i64 ring]
section
variable {L : Heap} {r c ring g0 g1 g2 g3 g4 : Int} {sv : V} {srcs : List SrcG2}
theorem chk1_ok {p : Nat} (h : L.t.get p = some (evB (suC2 r c sv g0 g1 g2 g3 g4 ring))) (hr : 2 ≤ r ∧ r ≤ 12) (hc : 1 ≤ c ∧ c ≤ 40) : ACall Try.prog 80 [.ptr p 0] L (.int .i64 0) L := by
  have hk := check_ok (v := .nils) (.inl ⟨rfl, rfl⟩) (nil_below r c) hr hc (by simp) (L := L)
  unfold evB suC2 at h
  refine ACall.of_body_same Try.func80 rfl ?_
  refine ACode.seq (ACode.regS noT_ok names_ok mix (t' := ?_) (L' := ?_) [0] (by rfl) ?_ ?_)
  rotate_left 2
  · refine sq rfl rfl rfl (by simp [go_sem, X, Try.f80]; rfl) ?_
    rfl
  refine ACode.seq (ACode.regS (oneT_okP hk) names_ok mix (t' := ?_) (L' := ?_) [0, 1, 2, 3, 4, 5] (by rfl) ?_ ?_)
  rotate_left 2
  · iterate 6 (refine sq rfl rfl rfl (by simp [go_sem, X, h, oneT_sameP, Try.f80]; rfl) ?_)
    rfl
  exact ACode.ret ⟨.inr rfl, [.int .i64 0], rfl, by simp [Try.f80, resVals, tget_set], rfl⟩
theorem chk2_ok {p p2 : Nat} {pv : V} {ps : List (Int × Int × Int × Int)} (h : L.t.get p = some (evB (suC2 r c sv g0 g1 g2 g3 g4 ring))) (h2 : L.t.get p2 = some (.cells (T.set .leaf 0 [pv]) 1 1 false false)) (hp : SlP 4 81 rectV L pv ps) (hb : Below_ ps r c) (hr : 2 ≤ r ∧ r ≤ 12) (hc : 1 ≤ c ∧ c ≤ 40) (hn : ps.length ≤ 1000) : ACall Try.prog 82 [.ptr p 0, .ptr p2 0] L (.int .i64 0) L := by
  have hk := check_ok hp hb hr hc hn
  unfold evB suC2 at h
  refine ACall.of_body_same Try.func82 rfl ?_
  refine ACode.seq (ACode.regS noT_ok names_ok mix (t' := ?_) (L' := ?_) [0] (by rfl) ?_ ?_)
  rotate_left 2
  · refine sq rfl rfl rfl (by simp [go_sem, X, Try.f82]; rfl) ?_
    rfl
  refine ACode.seq (ACode.regS (oneT_okP hk) names_ok mix (t' := ?_) (L' := ?_) [0, 1, 2, 3, 4, 5, 6] (by rfl) ?_ ?_)
  rotate_left 2
  · iterate 7 (refine sq rfl rfl rfl (by simp [go_sem, X, h, h2, oneT_sameP, Try.f82]; rfl) ?_)
    rfl
  exact ACode.ret ⟨.inr rfl, [.int .i64 0], rfl, by simp [Try.f82, resVals, tget_set], rfl⟩
end
end Go.Proofs.Ytpfmoolpeecobaa
namespace Go.Proofs.Ytpfmoolpeecobaa
open Go Go.Proofs Go.Proofs.Ytpfmoolpeecobaa.Ev
set_option linter.unusedVariables false
set_option linter.unusedSimpArgs false
set_option maxRecDepth 100000
set_option maxHeartbeats 4000000

theorem oneT_neA {f f' : FuncId} {args args' : List V} {L L0 : Heap} {v : V} {L' : Heap} (h : args' ≠ args) : oneTP f args L v L' f' args' L0 = none := by
  unfold oneTP
  rw [if_neg fun hc => h hc.2.1]
theorem slP_len4 {L : Heap} {v : V} {l : List (Int × Int × Int × Int)} (h : OwnP 4 rectV 0 L v l) : SlP 4 81 rectV L v l := by
  rcases h with ⟨rfl, rfl⟩ | ⟨hne, m, rfl, h1, h2, h3⟩
  · exact .inl ⟨rfl, rfl⟩
  · refine .inr ⟨m, 0, 0, true, rfl, h2, fun h => (by cases h), fun i y hi => ?_⟩
    have ht : takeN 4 ((rectV y).drop 0) = some (rectV y) := rfl
    have hc : (rowFrom (l.map rectV) 0).get i = some (rectV y) := by rw [rowFrom_getP]; simp only [Nat.zero_le, if_true, Nat.sub_zero, List.getElem?_map, hi, Option.map_some]
    simp only [Heap.load, Heap.elem, h3, Nat.zero_add, Nat.mul_div_cancel _ (show 0 < 4 by decide), Nat.mul_mod_left, Option.bind_some, hc, Option.map_some, Ev.part, pa81, ps81, ht]
theorem OwnP.lo0 {lo : Nat} {L : Heap} {v : V} {l : List (Int × Int × Int × Int)} (h : OwnP 4 rectV lo L v l) : OwnP 4 rectV 0 L v l := by
  rcases h with h | ⟨hne, m, rfl, h1, h2, h3⟩
  · exact .inl h
  · exact .inr ⟨hne, m, rfl, Nat.zero_le _, h2, h3⟩
theorem OwnP.scal {α : Type} {f : α → List V} {sz lo : Nat} {L : Heap} {v : V} {l : List α} (h : OwnP sz f lo L v l) : v.scalar = true ∧ v.cells = [v] := by
  rcases h with ⟨rfl, _⟩ | ⟨_, m, rfl, _⟩ <;> exact ⟨rfl, rfl⟩
section
variable {L : Heap} {r c ring g0 g1 g2 g3 g4 : Int} {sv : V} {srcs : List SrcG2}
theorem lvs_regs {A : Heap} {p : Nat} (h : A.t.get p = some (evB (suC2 r c sv g0 g1 g2 g3 g4 ring))) : Lvs A (.slice p 3 5 5 false) [g0, g1, g2, g3, g4] := by
  unfold evB suC2 at h
  refine ⟨fun L' => by simp [Ev.builtinQ, qt146], fun i y hi => ?_⟩
  have hlt := (List.getElem?_eq_some_iff.1 hi).1
  simp only [List.length_cons, List.length_nil] at hlt
  refine ⟨p, 3 + i, by simp [Ev.indexAddr, qt146, ps51, idx_nat, blt_dec, hlt, guardO], ?_⟩
  have : i = 0 ∨ i = 1 ∨ i = 2 ∨ i = 3 ∨ i = 4 := by omega
  rcases this with rfl | rfl | rfl | rfl | rfl <;> (simp at hi; subst hi; simp [Heap.load, Heap.elem, h, T.get_set, Ev.part, pa51])
def cSnd53 : Code → Code
  | .seq _ b => b
  | c => c
noncomputable def b53 : Code := Try.f53.body.getD .skip
/-- mux.check, behind its loop -/
theorem check53_end {A : Heap} {pv : V} {ps : List (Int × Int × Int × Int)} {p p2 : Nat} {n : Nat} (hpA : p < A.next) (hp2A : p2 < A.next) (h : A.t.get p = some (evB (suC2 r c sv g0 g1 g2 g3 g4 ring))) (h2 : A.t.get p2 = some (.cells (T.set .leaf 0 [pv]) 1 1 false false)) (hp : SlP 4 81 rectV A pv ps) (hb : Below_ ps r c) (hn : ps.length ≤ 1000)
    (hr : 2 ≤ r ∧ r ≤ 12) (hc : 1 ≤ c ∧ c ≤ 40) (hring : 0 ≤ ring ∧ ring ≤ 1000) (hlen : ∀ L', Ev.builtinQ Try.prog .len #[50] [sv] L' = some (.int .i64 (n : Int))) (hn1 : 1 ≤ n ∧ n ≤ 16) (t : T V) (t1 : tget t 1 = .ptr p 0) (t3 : tget t 3 = .bool true) (t4 : tget t 4 = .ptr p2 0) :
    ACode Try.prog ⟨none, 57⟩ (cSnd53 (cSnd53 (cSnd53 (cSnd53 b53)))) t [] A (fun x t' d A' => x = .ret ∧ d = [] ∧ (∀ k, k < A.next → A'.t.get k = A.t.get k) ∧ tget t' 2 = .int .i64 0) := by
  have c1 := must_ok true 5 A
  have kB : ∀ k, k < A.next → (mustH A true 5).t.get k = A.t.get k := fun k hk => by
    show T.get (T.set _ _ _) _ = _
    rw [T.get_set_ne _ _ (by omega), T.get_set_ne _ _ (by omega)]
  have gB : (mustH A true 5).t.get A.next = some (.cells (T.set .leaf 0 [.bool true]) 1 1 false false) := by
    show T.get (T.set _ _ _) _ = _
    rw [T.get_set_ne _ _ (by omega)]; exact T.get_set_same _ _ _
  have nB : (mustH A true 5).next = A.next + 2 := rfl
  generalize mustH A true 5 = B at *
  have c2 := must_ok true 2 B
  have kC : ∀ k, k < B.next → (mustH B true 2).t.get k = B.t.get k := fun k hk => by
    show T.get (T.set _ _ _) _ = _
    rw [T.get_set_ne _ _ (by omega), T.get_set_ne _ _ (by omega)]
  have gC : (mustH B true 2).t.get B.next = some (.cells (T.set .leaf 0 [.bool true]) 1 1 false false) := by
    show T.get (T.set _ _ _) _ = _
    rw [T.get_set_ne _ _ (by omega)]; exact T.get_set_same _ _ _
  have nC : (mustH B true 2).next = B.next + 2 := rfl
  generalize mustH B true 2 = C at *
  obtain ⟨D, hD⟩ : ∃ D : Heap, D = ⟨C.t.set C.next (.cells (T.set (T.set (T.set (T.set (T.set (T.set (T.set (T.set .leaf 0 [.nilf]) 1 [.nilf]) 2 [.nilf]) 3 [.nilf]) 0 [.func 80 [] [.ptr p 0]]) 1 [.func 104 [] [.ptr A.next 0, .ptr (A.next + 1) 0]]) 2 [.func 104 [] [.ptr B.next 0, .ptr (B.next + 1) 0]]) 3 [.func 82 [] [.ptr p 0, .ptr p2 0]]) 4 1 false false), C.next + 1⟩ := ⟨_, rfl⟩
  have kD : ∀ k, k < C.next → D.t.get k = C.t.get k := fun k hk => by rw [hD]; exact T.get_set_ne _ _ (by omega)
  have gD : D.t.get C.next = some (.cells (T.set (T.set (T.set (T.set (T.set (T.set (T.set (T.set .leaf 0 [.nilf]) 1 [.nilf]) 2 [.nilf]) 3 [.nilf]) 0 [.func 80 [] [.ptr p 0]]) 1 [.func 104 [] [.ptr A.next 0, .ptr (A.next + 1) 0]]) 2 [.func 104 [] [.ptr B.next 0, .ptr (B.next + 1) 0]]) 3 [.func 82 [] [.ptr p 0, .ptr p2 0]]) 4 1 false false) := by rw [hD]; exact T.get_set_same _ _ _
  have nD : D.next = C.next + 1 := by rw [hD]
  have kDA : ∀ k, k < A.next → D.t.get k = A.t.get k := fun k hk => by rw [kD k (by omega), kC k (by omega), kB k hk]
  have hfirst : ACall Try.prog 79 [.slice C.next 0 4 4 false] D (.int .i64 0) D := by
    refine first_ok (n := 4) (fun L' => by simp [Ev.builtinQ, qt192]) (by omega) fun i hi => ?_
    have hix : Ev.indexAddr Try.prog 192 (.slice C.next 0 4 4 false) (.int .i64 (i : Int)) = some (.ptr C.next i) := by simp [Ev.indexAddr, qt192, qs148, idx_nat, blt_dec, hi, guardO]
    have : i = 0 ∨ i = 1 ∨ i = 2 ∨ i = 3 := by omega
    rcases this with rfl | rfl | rfl | rfl
    · exact ⟨_, _, 80, [.ptr p 0], hix, by simp [Heap.load, Heap.elem, gD, T.get_set, Ev.part, qa148], chk1_ok (by rw [kDA _ hpA]; exact h) hr hc⟩
    · exact ⟨_, _, 104, [.ptr A.next 0, .ptr (A.next + 1) 0], hix, by simp [Heap.load, Heap.elem, gD, T.get_set, Ev.part, qa148], must1_ok (by rw [kD _ (by omega), kC _ (by omega)]; exact gB)⟩
    · exact ⟨_, _, 104, [.ptr B.next 0, .ptr (B.next + 1) 0], hix, by simp [Heap.load, Heap.elem, gD, T.get_set, Ev.part, qa148], must1_ok (by rw [kD _ (by omega)]; exact gC)⟩
    · exact ⟨_, _, 82, [.ptr p 0, .ptr p2 0], hix, by simp [Heap.load, Heap.elem, gD, T.get_set, Ev.part, qa148], chk2_ok (by rw [kDA _ hpA]; exact h) (by rw [kDA _ hp2A]; exact h2) (hp.keep (by omega) kDA) hb hr hc hn⟩
  rw [hD] at hfirst
  have hld : ∀ X : Heap, (∀ k, k < A.next → X.t.get k = A.t.get k) → Heap.load Try.prog X 3 p 8 = some (.int .i64 ring) ∧ Heap.load Try.prog X 50 p 2 = some sv := by
    intro X hX
    have hx := hX p hpA
    rw [h] at hx
    unfold evB suC2 at hx
    exact ⟨by simp [Heap.load, Heap.elem, hx, T.get_set, Ev.part, pa3], by simp [Heap.load, Heap.elem, hx, T.get_set, Ev.part, pa50]⟩
  obtain ⟨la1, la2⟩ := hld A fun _ _ => rfl
  obtain ⟨lb1, lb2⟩ := hld B kB
  obtain ⟨lc1, lc2⟩ := hld C fun k hk => by rw [kC k (by omega), kB k hk]
  have hne2 : ([.bool true, .int .i64 2] : List V) ≠ [.bool true, .int .i64 5] := by simp
  have na : oneTP 81 [.bool true, .int .i64 5] A (.func 104 [] [.ptr A.next 0, .ptr (A.next + 1) 0]) B 81 [.bool true, .int .i64 2] B = none := oneT_neA hne2
  have q1 : (1 : Int) ≤ (n : Int) := by omega
  have q2 : (n : Int) ≤ 16 := by omega
  generalize (n : Int) = ni at *
  show ACode _ _ (Code.seq (Code.region _ _ _) Code.ret) _ _ _ _
  refine ACode.seq (ACode.regD ((oneT_okP c1).or ((oneT_okP c2).or (oneT_okP hfirst))) names_ok mix (t' := ?_) (L' := ?_) [0,0,2,6,14,30,62,126,254,510,0,1024,3072,7168,16382,32766,65534,131070,262142,524286,1048574,2097150,4194302,8388606,0,33554431,67108863,134217727] [0,1,2,3,4,5,6,7,8,10,11,12,13,24,9,14,15,16,17,18,19,20,21,22,23,25,26,27] (by decide +kernel) (by decide +kernel) (by decide +kernel) ?_ ?_)
  rotate_left 2
  · iterate 2 (refine dq rfl rfl rfl rfl (by simp [go_sem, xs, xe, xa, xi, xo, xb, xv, xc, xk, t1, t3, t4, la1, la2, lb1, lb2, lc1, lc2, hlen, hring, q1, q2, orT, oneT_sameP, oneT_neP, na, Try.f53]; rfl) ?_)
    refine dr rfl rfl rfl rfl (by simp [go_sem, xs, xe, xa, xi, xo, xb, xv, xc, xk, t1, t3, t4, la1, la2, lb1, lb2, lc1, lc2, hlen, hring, q1, q2, orT, oneT_sameP, oneT_neP, na, Try.f53]; rfl) ?_
    iterate 2 (refine dq rfl rfl rfl rfl (by simp [go_sem, xs, xe, xa, xi, xo, xb, xv, xc, xk, t1, t3, t4, la1, la2, lb1, lb2, lc1, lc2, hlen, hring, q1, q2, orT, oneT_sameP, oneT_neP, na, Try.f53]; rfl) ?_)
    refine dq rfl rfl (by simp [go_sem, xs, xe, xa, xi, xo, xb, xv, xc, xk, t1, t3, t4, la1, la2, lb1, lb2, lc1, lc2, hlen, hring, q1, q2, orT, oneT_sameP, oneT_neP, na, Try.f53]) rfl (by simp [go_sem, xs, xe, xa, xi, xo, xb, xv, xc, xk, t1, t3, t4, la1, la2, lb1, lb2, lc1, lc2, hlen, hring, q1, q2, orT, oneT_sameP, oneT_neP, na, Try.f53]; rfl) ?_
    refine dr rfl rfl (by simp [go_sem, xs, xe, xa, xi, xo, xb, xv, xc, xk, t1, t3, t4, la1, la2, lb1, lb2, lc1, lc2, hlen, hring, q1, q2, orT, oneT_sameP, oneT_neP, na, Try.f53]) rfl (by simp [go_sem, xs, xe, xa, xi, xo, xb, xv, xc, xk, t1, t3, t4, la1, la2, lb1, lb2, lc1, lc2, hlen, hring, q1, q2, orT, oneT_sameP, oneT_neP, na, Try.f53]; rfl) ?_
    refine dq rfl rfl (by simp [go_sem, xs, xe, xa, xi, xo, xb, xv, xc, xk, t1, t3, t4, la1, la2, lb1, lb2, lc1, lc2, hlen, hring, q1, q2, orT, oneT_sameP, oneT_neP, na, Try.f53]) rfl (by simp [go_sem, xs, xe, xa, xi, xo, xb, xv, xc, xk, t1, t3, t4, la1, la2, lb1, lb2, lc1, lc2, hlen, hring, q1, q2, orT, oneT_sameP, oneT_neP, na, Try.f53]; rfl) ?_
    iterate 2 (refine dq rfl rfl rfl rfl (by simp [go_sem, xs, xe, xa, xi, xo, xb, xv, xc, xk, t1, t3, t4, la1, la2, lb1, lb2, lc1, lc2, hlen, hring, q1, q2, orT, oneT_sameP, oneT_neP, na, Try.f53]; rfl) ?_)
    iterate 2 (refine dr rfl rfl rfl rfl (by simp [go_sem, xs, xe, xa, xi, xo, xb, xv, xc, xk, t1, t3, t4, la1, la2, lb1, lb2, lc1, lc2, hlen, hring, q1, q2, orT, oneT_sameP, oneT_neP, na, Try.f53]; rfl) ?_)
    iterate 2 (refine dq rfl rfl rfl rfl (by simp [go_sem, xs, xe, xa, xi, xo, xb, xv, xc, xk, t1, t3, t4, la1, la2, lb1, lb2, lc1, lc2, hlen, hring, q1, q2, orT, oneT_sameP, oneT_neP, na, Try.f53]; rfl) ?_)
    refine dl rfl rfl (by simp [go_sem, xs, xe, xa, xi, xo, xb, xv, xc, xk, t1, t3, t4, la1, la2, lb1, lb2, lc1, lc2, hlen, hring, q1, q2, orT, oneT_sameP, oneT_neP, na, Try.f53]) rfl (by simp [go_sem, xs, xe, xa, xi, xo, xb, xv, xc, xk, t1, t3, t4, la1, la2, lb1, lb2, lc1, lc2, hlen, hring, q1, q2, orT, oneT_sameP, oneT_neP, na, Try.f53]; rfl) (by rfl) (by simp [go_sem, xs, xe, xa, xi, xo, xb, xv, xc, xk, t1, t3, t4, la1, la2, lb1, lb2, lc1, lc2, hlen, hring, q1, q2, orT, oneT_sameP, oneT_neP, na, Try.f53]) ?_
    refine dq rfl rfl rfl rfl (by simp [go_sem, xs, xe, xa, xi, xo, xb, xv, xc, xk, t1, t3, t4, la1, la2, lb1, lb2, lc1, lc2, hlen, hring, q1, q2, orT, oneT_sameP, oneT_neP, na, Try.f53]; rfl) ?_
    refine dq rfl rfl (by simp [go_sem, xs, xe, xa, xi, xo, xb, xv, xc, xk, t1, t3, t4, la1, la2, lb1, lb2, lc1, lc2, hlen, hring, q1, q2, orT, oneT_sameP, oneT_neP, na, Try.f53]) rfl (by simp [go_sem, xs, xe, xa, xi, xo, xb, xv, xc, xk, t1, t3, t4, la1, la2, lb1, lb2, lc1, lc2, hlen, hring, q1, q2, orT, oneT_sameP, oneT_neP, na, Try.f53]; rfl) ?_
    iterate 2 (refine dr rfl rfl (by simp [go_sem, xs, xe, xa, xi, xo, xb, xv, xc, xk, t1, t3, t4, la1, la2, lb1, lb2, lc1, lc2, hlen, hring, q1, q2, orT, oneT_sameP, oneT_neP, na, Try.f53]) rfl (by simp [go_sem, xs, xe, xa, xi, xo, xb, xv, xc, xk, t1, t3, t4, la1, la2, lb1, lb2, lc1, lc2, hlen, hring, q1, q2, orT, oneT_sameP, oneT_neP, na, Try.f53]; rfl) ?_)
    refine dq rfl rfl (by simp [go_sem, xs, xe, xa, xi, xo, xb, xv, xc, xk, t1, t3, t4, la1, la2, lb1, lb2, lc1, lc2, hlen, hring, q1, q2, orT, oneT_sameP, oneT_neP, na, Try.f53]) rfl (by simp [go_sem, xs, xe, xa, xi, xo, xb, xv, xc, xk, t1, t3, t4, la1, la2, lb1, lb2, lc1, lc2, hlen, hring, q1, q2, orT, oneT_sameP, oneT_neP, na, Try.f53]; rfl) ?_
    iterate 2 (refine dq rfl rfl rfl rfl (by simp [go_sem, xs, xe, xa, xi, xo, xb, xv, xc, xk, t1, t3, t4, la1, la2, lb1, lb2, lc1, lc2, hlen, hring, q1, q2, orT, oneT_sameP, oneT_neP, na, Try.f53]; rfl) ?_)
    refine dq rfl rfl (by simp [go_sem, xs, xe, xa, xi, xo, xb, xv, xc, xk, t1, t3, t4, la1, la2, lb1, lb2, lc1, lc2, hlen, hring, q1, q2, orT, oneT_sameP, oneT_neP, na, Try.f53]) rfl (by simp [go_sem, xs, xe, xa, xi, xo, xb, xv, xc, xk, t1, t3, t4, la1, la2, lb1, lb2, lc1, lc2, hlen, hring, q1, q2, orT, oneT_sameP, oneT_neP, na, Try.f53]; rfl) ?_
    refine dq rfl rfl rfl rfl (by simp [go_sem, xs, xe, xa, xi, xo, xb, xv, xc, xk, t1, t3, t4, la1, la2, lb1, lb2, lc1, lc2, hlen, hring, q1, q2, orT, oneT_sameP, oneT_neP, na, Try.f53]; rfl) ?_
    refine dl rfl rfl (by simp [go_sem, xs, xe, xa, xi, xo, xb, xv, xc, xk, t1, t3, t4, la1, la2, lb1, lb2, lc1, lc2, hlen, hring, q1, q2, orT, oneT_sameP, oneT_neP, na, Try.f53]) rfl (by simp [go_sem, xs, xe, xa, xi, xo, xb, xv, xc, xk, t1, t3, t4, la1, la2, lb1, lb2, lc1, lc2, hlen, hring, q1, q2, orT, oneT_sameP, oneT_neP, na, Try.f53]; rfl) (by rfl) (by simp [go_sem, xs, xe, xa, xi, xo, xb, xv, xc, xk, t1, t3, t4, la1, la2, lb1, lb2, lc1, lc2, hlen, hring, q1, q2, orT, oneT_sameP, oneT_neP, na, Try.f53]) ?_
    refine dm rfl rfl rfl rfl (by simp [go_sem, xs, xe, xa, xi, xo, xb, xv, xc, xk, t1, t3, t4, la1, la2, lb1, lb2, lc1, lc2, hlen, hring, q1, q2, orT, oneT_sameP, oneT_neP, na, Try.f53]; rfl) ?_
    refine dl rfl rfl (by simp [go_sem, xs, xe, xa, xi, xo, xb, xv, xc, xk, t1, t3, t4, la1, la2, lb1, lb2, lc1, lc2, hlen, hring, q1, q2, orT, oneT_sameP, oneT_neP, na, Try.f53]) rfl (by simp [go_sem, xs, xe, xa, xi, xo, xb, xv, xc, xk, t1, t3, t4, la1, la2, lb1, lb2, lc1, lc2, hlen, hring, q1, q2, orT, oneT_sameP, oneT_neP, na, Try.f53]; rfl) (by rfl) (by simp [go_sem, xs, xe, xa, xi, xo, xb, xv, xc, xk, t1, t3, t4, la1, la2, lb1, lb2, lc1, lc2, hlen, hring, q1, q2, orT, oneT_sameP, oneT_neP, na, Try.f53]) ?_
    refine dq rfl rfl rfl rfl (by simp [go_sem, xs, xe, xa, xi, xo, xb, xv, xc, xk, t1, t3, t4, la1, la2, lb1, lb2, lc1, lc2, hlen, hring, q1, q2, orT, oneT_sameP, oneT_neP, na, Try.f53]; rfl) ?_
    rfl
  refine ACode.ret ⟨rfl, rfl, fun k hk => ?_, by simp [tget_set]⟩
  have := kDA k hk
  rw [hD] at this
  exact this
theorem check53_ok (hs : SlP 6 83 srcG2 L sv srcs) (hu : SuR r c ring g0 g1 g2 g3 g4 srcs) : ACall Try.prog 53 [.agg (suC2 r c sv g0 g1 g2 g3 g4 ring)] L (.int .i64 0) L := by
  have q1 : sv.scalar = true ∧ sv.cells = [sv] := by rcases hs with ⟨rfl, _⟩ | ⟨n, o, cap, q, rfl, _⟩ <;> exact ⟨rfl, rfl⟩
  have hlen := hs.len pt50
  obtain ⟨A1, hA1⟩ : ∃ A : Heap, A = ⟨L.t.set L.next (evB (suC2 r c sv g0 g1 g2 g3 g4 ring)), L.next + 1⟩ := ⟨_, rfl⟩
  have g1' : A1.t.get L.next = some (evB (suC2 r c sv g0 g1 g2 g3 g4 ring)) := by rw [hA1]; exact T.get_set_same _ _ _
  have n1 : A1.next = L.next + 1 := by rw [hA1]
  have k1 : ∀ k, k < L.next → A1.t.get k = L.t.get k := fun k hk => by rw [hA1]; exact T.get_set_ne _ _ (by omega)
  have hrt := right_ok (lvs_regs g1') hu.hg (by simp)
  have hsl : Ev.sliceOp Try.prog 52 (.ptr L.next 3) none none none = some (.slice L.next 3 5 5 false) := by
    simp [Ev.sliceOp, par52, ps51, Ev.bound, guardO]
  refine ACall.of_body Try.func53 rfl ?_
  unfold suC2
  refine ACode.seq (ACode.regS noT_ok names_ok mix (t' := ?_) (L' := ?_) [0, 1] (by rfl) ?_ ?_)
  rotate_left 2
  · iterate 2 (refine sq rfl rfl rfl (by simp [go_sem, X, Try.f53]; rfl) ?_)
    rfl
  change ACode _ _ _ _ _ ⟨L.t.set L.next (evB (suC2 r c sv g0 g1 g2 g3 g4 ring)), L.next + 1⟩ _
  rw [← hA1]
  refine ACode.seq (ACode.regS (oneT_okP hrt) names_ok mix (t' := ?_) (L' := ?_) [0, 1, 2, 3] (by rfl) ?_ ?_)
  rotate_left 2
  · iterate 4 (refine sq rfl rfl rfl (by simp [go_sem, xl, xs, xe, xa, xi, xb, xq, xv, xc, xk, hsl, oneT_sameP, Try.f53]; rfl) ?_)
    rfl
  refine ACode.seq (ACode.regS noT_ok names_ok mix (t' := ?_) (L' := ?_) [0] (by rfl) ?_ ?_)
  rotate_left 2
  · refine sq rfl rfl rfl (by simp [go_sem, X, Try.f53]; rfl) ?_
    rfl
  change ACode _ _ _ _ _ ⟨A1.t.set A1.next (.cells (T.set .leaf 0 [.nils]) 1 1 false false), A1.next + 1⟩ _
  have hS1 : (A1.t.set A1.next (.cells (T.set .leaf 0 [.nils]) 1 1 false false)).get L.next = some (evB (suC2 r c sv g0 g1 g2 g3 g4 ring)) := by rw [T.get_set_ne _ _ (by omega)]; exact g1'
  have hP1 : (A1.t.set A1.next (.cells (T.set .leaf 0 [.nils]) 1 1 false false)).get (L.next + 1) = some (.cells (T.set .leaf 0 [.nils]) 1 1 false false) := by rw [show L.next + 1 = A1.next from n1.symm]; exact T.get_set_same _ _ _
  have hk1 : ∀ k, k < L.next → (A1.t.set A1.next (.cells (T.set .leaf 0 [.nils]) 1 1 false false)).get k = L.t.get k := fun k hk => by rw [T.get_set_ne _ _ (by omega)]; exact k1 k hk
  have hld2 : Heap.load Try.prog ⟨A1.t.set A1.next (.cells (T.set .leaf 0 [.nils]) 1 1 false false), A1.next + 1⟩ 50 L.next 2 = some sv := by
    have := hS1
    unfold evB suC2 at this
    simp [Heap.load, Heap.elem, this, T.get_set, Ev.part, pa50]
  generalize hA2 : (⟨A1.t.set A1.next (.cells (T.set .leaf 0 [.nils]) 1 1 false false), A1.next + 1⟩ : Heap) = A2 at *
  have eA2 : A1.t.set A1.next (.cells (T.set .leaf 0 [.nils]) 1 1 false false) = A2.t := by rw [← hA2]
  have nA2 : A2.next = L.next + 2 := by rw [← hA2]; show A1.next + 1 = _; omega
  rw [eA2] at hS1 hP1 hk1
  clear hA2 eA2
  refine ACode.seq ?_
  refine ACode.seq (ACode.regS noT_ok names_ok mix (t' := ?_) (L' := ?_) [0, 1, 2, 3] (by rfl) ?_ ?_)
  rotate_left 2
  · iterate 4 (refine sq rfl rfl rfl (by simp [go_sem, xs, xe, xa, xi, xo, xb, xv, xc, xk, hld2, hlen, Try.f53]; rfl) ?_)
    rfl
  refine ACode.block (ACode.loop (fun t d A N => d = [] ∧ ∃ i pv, i ≤ srcs.length ∧ N = srcs.length - i ∧ L.next + 2 ≤ A.next ∧ (∀ k, k < L.next → A.t.get k = L.t.get k) ∧ A.t.get L.next = some (evB (suC2 r c sv g0 g1 g2 g3 g4 ring)) ∧ A.t.get (L.next + 1) = some (.cells (T.set .leaf 0 [pv]) 1 1 false false) ∧
    OwnP 4 rectV (L.next + 2) A pv ((srcs.take i).map fun x => x.q) ∧ tget t 1 = .ptr L.next 0 ∧ tget t 3 = .bool true ∧ tget t 4 = .ptr (L.next + 1) 0 ∧ tget t 11 = sv ∧ tget t 12 = .int .i64 (srcs.length : Int) ∧ tget t 13 = .int .i64 (i : Int)) (N := srcs.length)
    ⟨rfl, 0, .nils, Nat.zero_le _, by omega, by omega, hk1, hS1, hP1, .inl ⟨rfl, rfl⟩, by simp [tget_set], by simp [tget_set], by simp [tget_set, n1], by simp [tget_set], by simp [tget_set], by simp [tget_set]⟩ ?_)
  rintro t d A N ⟨rfl, i, pv, hi, rfl, hnx, hkp, hS, hP, hO, t1, t3, t4, t11, t12, t13⟩
  refine ACode.seq (ACode.regS noT_ok names_ok mix (t' := ?_) (L' := ?_) [0] (by rfl) ?_ ?_)
  rotate_left 2
  · refine sq rfl rfl rfl (by simp [go_sem, X, t12, t13, Try.f53]; rfl) ?_
    rfl
  refine ACode.seq (ACode.cond (p := (i : Int) < (srcs.length : Int)) (by simp [tget_set, opd]) (fun hil => ACode.skip ?_) (fun hge => ACode.exit ?_))
  rotate_left 1
  ·
    have hi2 : i = srcs.length := by omega
    rw [hi2, List.take_length] at hO
    refine (check53_end (by omega) (by omega) hS hP (slP_len4 hO.lo0) hu.hps (by simp; have := hu.hn; omega) hu.hr hu.hc hu.hring hlen (by have := hu.hn; omega) _ (by simp [tget_set, t1]) (by simp [tget_set, t3]) (by simp [tget_set, t4])).mono ?_
    rintro x t' d' A' ⟨rfl, rfl, hk, h2⟩
    exact ⟨.inr rfl, _, [.int .i64 0], [], rfl, by simp [Try.f53, resVals, h2], Tidy.zero (fun k hk' => by rw [hk k (by omega)]; exact hkp k hk'), fun κ1 z hz => VR_plain (κ := κ1) _ _ rfl hz⟩
  have hil' : i < srcs.length := by omega
  have hxi : srcs[i]? = some srcs[i] := by simp [hil']
  obtain ⟨n2, o2, _, hx, hld⟩ := (hs.keep (by omega) hkp).at' pt50 ps83 hxi
  have hlv := hu.hlv _ (List.getElem_mem hil')
  have hw : IntKind.i64.wrap ((i : Int) + 1) = ((i + 1 : Nat) : Int) := by rw [Go.IntWalk.i64_in _ (by have := hu.hn; omega)]; omega
  have hmap : (srcs.take (i + 1)).map (fun x => x.q) = (srcs.take i).map (fun x => x.q) ++ [srcs[i].q] := by rw [List.take_add_one, hxi, List.map_append]; rfl
  generalize srcs[i] = x at *
  obtain ⟨lv, tr, a, b, n, m⟩ := x
  simp only [srcG2] at hld hlv hmap
  refine ACode.seq (ACode.block ?_)
  refine ACode.seq (ACode.regS noT_ok names_ok mix (t' := ?_) (L' := ?_) [0, 1, 2, 3] (by rfl) ?_ ?_)
  rotate_left 2
  · iterate 4 (refine sq rfl rfl rfl (by simp [go_sem, xs, xe, xi, xo, xb, xq, xv, xc, xk, t11, t13, hx, hld, Try.f53]; rfl) ?_)
    rfl
  change ACode _ _ _ _ _ ⟨A.t.set A.next (.cells (T.set .leaf 0 [.int .u8 lv, .bool tr, .int .i64 a, .int .i64 b, .int .i64 n, .int .i64 m]) 1 6 false false), A.next + 1⟩ _
  obtain ⟨B, hB⟩ : ∃ B : Heap, B = ⟨A.t.set A.next (.cells (T.set .leaf 0 [.int .u8 lv, .bool tr, .int .i64 a, .int .i64 b, .int .i64 n, .int .i64 m]) 1 6 false false), A.next + 1⟩ := ⟨_, rfl⟩
  have gB : B.t.get A.next = some (.cells (T.set .leaf 0 [.int .u8 lv, .bool tr, .int .i64 a, .int .i64 b, .int .i64 n, .int .i64 m]) 1 6 false false) := by rw [hB]; exact T.get_set_same _ _ _
  have kB : ∀ k, k < A.next → B.t.get k = A.t.get k := fun k hk => by rw [hB]; exact T.get_set_ne _ _ (by omega)
  have nB : B.next = A.next + 1 := by rw [hB]
  rw [← hB]
  -- its level
  obtain ⟨C, hC⟩ : ∃ C : Heap, C = ⟨B.t.set B.next (.cells (T.set .leaf 0 [.int .u8 lv]) 1 1 false false), B.next + 1⟩ := ⟨_, rfl⟩
  have gC : C.t.get B.next = some (.cells (T.set .leaf 0 [.int .u8 lv]) 1 1 false false) := by rw [hC]; exact T.get_set_same _ _ _
  have kC : ∀ k, k < B.next → C.t.get k = B.t.get k := fun k hk => by rw [hC]; exact T.get_set_ne _ _ (by omega)
  have nC : C.next = B.next + 1 := by rw [hC]
  have hr1 := right_ok (lvs_one gC) (by simpa using hlv) (by simp)
  rw [hC] at hr1
  refine ACode.seq (ACode.regS (oneT_okP hr1) names_ok mix (t' := ?_) (L' := ?_) [0, 1, 2, 3, 4, 5, 6, 7] (by rfl) ?_ ?_)
  rotate_left 2
  · iterate 2 (refine sq rfl rfl rfl (by simp [go_sem, X, t3, gB, oneT_sameP, Try.f53]; rfl) ?_)
    iterate 4 (refine sq rfl rfl (by simp [go_sem, X, t3, gB, oneT_sameP, Try.f53]) (by simp [go_sem, X, t3, gB, oneT_sameP, Try.f53]; rfl) ?_)
    iterate 2 (refine sq rfl rfl rfl (by simp [go_sem, X, t3, gB, oneT_sameP, Try.f53]; rfl) ?_)
    rfl
  rw [← hC]
  -- its pane
  have hOC : OwnP 4 rectV (L.next + 2) C pv ((srcs.take i).map fun x => x.q) := hO.still (by omega) fun k hk => by rw [kC k (by have := (hO.nm_lt hk).2; omega), kB k (hO.nm_lt hk).2]
  have hSC : C.t.get L.next = some (evB (suC2 r c sv g0 g1 g2 g3 g4 ring)) := by rw [kC _ (by omega), kB _ (by omega)]; exact hS
  have hPC : C.t.get (L.next + 1) = some (.cells (T.set .leaf 0 [pv]) 1 1 false false) := by rw [kC _ (by omega), kB _ (by omega)]; exact hP
  have gBC : C.t.get A.next = some (.cells (T.set .leaf 0 [.int .u8 lv, .bool tr, .int .i64 a, .int .i64 b, .int .i64 n, .int .i64 m]) 1 6 false false) := by rw [kC _ (by omega)]; exact gB
  have hOD : OwnP 4 rectV (L.next + 2) ⟨C.t.set C.next (.cells (T.set .leaf 0 (rectV (a, b, n, m))) 1 4 false false), C.next + 1⟩ pv ((srcs.take i).map fun x => x.q) := hOC.still (Nat.le_succ _) fun k hk => T.get_set_ne _ _ (by have := (hOC.nm_lt hk).2; omega)
  have hsrc : srcElems ⟨C.t.set C.next (.cells (T.set .leaf 0 (rectV (a, b, n, m))) 1 4 false false), C.next + 1⟩ 4 (.slice C.next 0 1 1 false) = some ([(a, b, n, m)].map rectV) := by
    simp [srcElems, Heap.elems, Heap.elem, T.get_set, takeN, rectV]
  have hlst : ((srcs.take i).map fun x => x.q).length ≤ 4 := by simp; have := hu.hn; omega
  obtain ⟨v6, E, ha, hO3, hn3, hk3, hm3⟩ := append_P (sz := 4) (f := rectV) (by decide) (fun _ => rfl) (fun _ => rfl) pt79 ps81 b_81 (by decide) pz81 rfl hOD (by simp only; omega) hsrc (by simp only [List.length_cons, List.length_nil]; omega)
  have q6 := hO3.scal
  simp only [rectV] at ha hn3 hk3 hm3
  have hne1 : nmP pv ≠ some (L.next + 1) := fun e => by have := (hO.nm_lt e).1; omega
  have hne0 : nmP pv ≠ some L.next := fun e => by have := (hO.nm_lt e).1; omega
  have hPE : E.t.get (L.next + 1) = some (.cells (T.set .leaf 0 [pv]) 1 1 false false) := by rw [hk3 _ (by omega) hne1]; show T.get (T.set _ _ _) _ = _; rw [T.get_set_ne _ _ (by omega)]; exact hPC
  have hSE : E.t.get L.next = some (evB (suC2 r c sv g0 g1 g2 g3 g4 ring)) := by rw [hk3 _ (by omega) hne0]; show T.get (T.set _ _ _) _ = _; rw [T.get_set_ne _ _ (by omega)]; exact hSC
  have hst : Heap.store E (L.next + 1) 0 [v6] = some ⟨E.t.set (L.next + 1) (.cells (T.set .leaf 0 [v6]) 1 1 false false), E.next⟩ := by
    simp [Heap.store, hPE, T.get_set, guardO, q6, splice, over, T.set_set]
  have hlP : Heap.load Try.prog C 79 (L.next + 1) 0 = some pv := by simp [Heap.load, Heap.elem, hPC, T.get_set, Ev.part, pa79]
  have hlq : Heap.load Try.prog C 81 A.next 2 = some (.agg [.int .i64 a, .int .i64 b, .int .i64 n, .int .i64 m]) := by simp [Heap.load, Heap.elem, gBC, T.get_set, Ev.part, pa81, ps81, takeN]
  show ACode _ _ (Code.region _ _ _) _ _ _ _
  refine ACode.regS noT_ok names_ok mix (t' := ?_) (L' := ?_) [0, 1, 2, 3, 4, 5] (by rfl) ?_ ?_
  rotate_left 2
  · iterate 6 (refine sq rfl rfl rfl (by simp [go_sem, xe, xa, xi, xo, xb, xq, xv, xc, xk, t4, hlP, hlq, ha, hst, q6, pi79, Try.f53]; rfl) ?_)
    rfl
  show ACode _ _ (Code.region _ _ _) _ _ _ _
  refine ACode.regS noT_ok names_ok mix (t' := ?_) (L' := ?_) [0, 1] (by rfl) ?_ ?_
  rotate_left 2
  · iterate 2 (refine sq rfl rfl rfl (by simp [go_sem, X, t13, hw, Try.f53]; rfl) ?_)
    rfl
  have hm6 : ∀ k, nmP v6 = some k → k ≠ L.next + 1 ∧ k ≠ L.next := fun k hk => by have := (hO3.nm_lt hk).1; omega
  refine ⟨srcs.length - (i + 1), by omega, rfl, i + 1, v6, by omega, rfl, by show L.next + 2 ≤ E.next; omega, fun k hk => ?_, ?_, T.get_set_same _ _ _, ?_, by simp [tget_set, t1], by simp [tget_set, t3], by simp [tget_set, t4], by simp [tget_set, t11], by simp [tget_set, t12], by simp [tget_set]⟩
  · show T.get (T.set _ _ _) _ = _
    rw [T.get_set_ne _ _ (by omega), hk3 _ (by omega) (fun e => by have := (hO.nm_lt e).1; omega)]
    show T.get (T.set _ _ _) _ = _
    rw [T.get_set_ne _ _ (by omega), kC _ (by omega), kB _ (by omega)]
    exact hkp k hk
  · show T.get (T.set _ _ _) _ = _
    rw [T.get_set_ne _ _ (by omega)]; exact hSE
  · rw [hmap]
    exact hO3.still (Nat.le_refl _) fun k hk => T.get_set_ne _ _ (hm6 k hk).1
end
end Go.Proofs.Ytpfmoolpeecobaa
