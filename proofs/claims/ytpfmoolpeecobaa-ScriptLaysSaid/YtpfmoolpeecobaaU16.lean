/- - - -/
import Derived.Test.YtpfmoolpeecobaaU15
namespace Go.Proofs.Ytpfmoolpeecobaa
open Go Go.Proofs Go.Proofs.Ytpfmoolpeecobaa.Ev
set_option linter.unusedVariables false
set_option linter.unusedSimpArgs false
set_option maxRecDepth 100000
set_option maxHeartbeats 4000000

/-- a row of bytes: full, or the call's own -/
def BaseU (L : Heap) (v : V) (l : List Int) : Prop :=
  (∃ m c, v = .slice m 0 l.length l.length false ∧ m < L.next ∧ L.t.get m = some (.cells c l.length 1 false false) ∧ ∀ (i : Nat) (x : Int), l[i]? = some x → c.get i = some [.int .u8 x]) ∨ RowS L v l 0
section
variable {L A A' : Heap} {v v' : V} {l : List Int}
theorem BaseU.nm_lt (h : BaseU L v l) {m : Nat} (hm : nmP v = some m) : m < L.next := by
  rcases h with ⟨k, c, rfl, h1, _⟩ | h
  · simp only [nmP, Option.some.injEq] at hm; subst hm; exact h1
  · exact h.nm_lt hm
theorem BaseU.still (h : BaseU L v l) (hn : L.next ≤ A.next) (hk : ∀ m, nmP v = some m → A.t.get m = L.t.get m) : BaseU A v l := by
  rcases h with ⟨m, c, rfl, h1, h2, h3⟩ | h
  · exact .inl ⟨m, c, rfl, Nat.lt_of_lt_of_le h1 hn, by rw [hk m rfl, h2], h3⟩
  · exact .inr (h.still hn hk)
theorem BaseU.ne_of (h : BaseU L v l) {m : Nat} {b : Blk} (hb : L.t.get m = some b) (hb' : ∀ c n q, b ≠ .cells c n 1 q false) : nmP v ≠ some m := by
  rcases h with ⟨k, c, rfl, h1, h2, h3⟩ | h
  · simp only [nmP, ne_eq, Option.some.injEq]
    rintro rfl
    rw [hb] at h2
    injection h2 with h2
    exact hb' _ _ _ h2
  · exact h.ne_of hb fun c n => hb' c n true
theorem BaseU.cells (h : BaseU L v l) : v.cells = [v] ∧ v.scalar = true := by
  rcases h with ⟨m, c, rfl, _⟩ | h
  · exact ⟨rfl, rfl⟩
  · exact h.cells
theorem BaseU.src (h : BaseU L v l) : srcElems L 1 v = some (l.map u8c) := by
  rcases h with ⟨m, c, rfl, h1, h2, h3⟩ | h
  · have := elems_S h2 h3 l.length 0 (by simp)
    simpa [srcElems] using this
  · exact h.src
theorem BaseU.len (h : BaseU L v l) (L' : Heap) : Ev.builtinQ Try.prog .len #[38] [v] L' = some (.int .i64 (l.length : Int)) := by
  rcases h with ⟨m, c, rfl, _⟩ | h
  · simp [Ev.builtinQ, pt38]
  · exact h.len L'
theorem BaseU.conv (h : BaseU L v l) (hr : ∀ b ∈ l, 0 ≤ b ∧ b ≤ 255) : convQ Try.prog 38 9 v L = some (.str (l.map Int.toNat)) := by
  rcases h with ⟨m, c, rfl, h1, h2, h3⟩ | h
  · have he := elems_S h2 h3 l.length 0 (by simp)
    rw [List.drop_zero] at he
    simp [convQ, pt38, pstr9, guardO, Try.underlying5, he, bytes_ofP l hr]
  · have := h
    rcases h with ⟨rfl, rfl, _⟩ | ⟨m, c, rfl, h1, h2, h3, h4⟩
    · simp [convQ, pt38, pstr9, guardO, Try.underlying5]
    · have he := elems_S h2 h3 l.length 0 (by simp)
      rw [List.drop_zero] at he
      simp [convQ, pt38, pstr9, guardO, Try.underlying5, he, bytes_ofP l hr]
theorem append_B {x : V} {new : List Int} (h : BaseU L v l) (hx : srcElems L 1 x = some (new.map u8c)) (hs : l.length + new.length ≤ 16777216) :
    ∃ v' L', Ev.append Try.prog 38 v x L = some (v', L') ∧ BaseU L' v' (l ++ new) ∧ L.next ≤ L'.next ∧ (∀ n, n < L.next → nmP v ≠ some n → L'.t.get n = L.t.get n) ∧ (nmP v' = nmP v ∨ nmP v' = some L.next) := by
  rcases h with ⟨m, c, rfl, h1, h2, h3⟩ | h
  · have hsm : ∀ k, k ≤ 16777216 → small k 1 = true := fun k hk => by simp [small, ble_dec, hk]
    have hs0 : ((1 != 0) && (V.int IntKind.u8 0).cells.length == 1) = true := rfl
    have hold := elems_S h2 h3 l.length 0 (by simp)
    rw [List.drop_zero] at hold
    unfold Ev.append
    simp only [pt38, ps5, pb5, pz5, Option.bind_some, hx, hs0, guardO_true]
    cases new with
    | nil =>
      refine ⟨.slice m 0 l.length l.length false, L, ?_, .inl ⟨m, c, by simp, h1, by simpa using h2, by simpa using h3⟩, Nat.le_refl _, fun _ _ _ => rfl, .inl rfl⟩
      have hb : Nat.ble (l.length + 0) l.length = true := by rw [ble_dec]; simp
      simp only [List.map_nil, List.length_nil, hb, Heap.storeElems]
      rfl
    | cons a r =>
      refine ⟨_, _, ?_, .inr (rowS_new (L := L) (T0 := L.t) (all := l ++ a :: r)), Nat.le_succ _, fun n hn _ => T.get_set_ne _ _ (by omega), .inr rfl⟩
      have hb2 : Nat.ble (l.length + ((a :: r).map u8c).length) l.length = false := by rw [ble_dec]; simp
      have hsm2 : small (l.length + ((a :: r).map u8c).length) 1 = true := hsm _ (by simpa using hs)
      simp only [hb2, hsm2, guardO_true, hold, Option.map_some, List.map_append]
  · obtain ⟨v', L', h1, h2, h3, h4, h5⟩ := append_S h hx hs
    exact ⟨v', L', h1, .inr h2, h3, h4, h5⟩
end

/-- where the document's bytes stand: the event, what is left of it, and the row -/
structure BS (L A : Heap) (e rest : Evt) (v : V) (out : List Int) : Prop where
  ev : A.t.get L.next = some (evB (evF e))
  re : A.t.get (L.next + 2) = some (evB (evF rest))
  row : BaseU A v out
  nx : L.next + 3 ≤ A.next
  old : ∀ n, n < L.next → A.t.get n = L.t.get n
  vlo : ∀ m, nmP v = some m → L.next < m
section
variable {L A A' : Heap} {e rest : Evt} {v : V} {out : List Int}
theorem BS.ne (h : BS L A e rest v out) : nmP v ≠ some L.next ∧ nmP v ≠ some (L.next + 2) := ⟨h.row.ne_of h.ev (fun c n q => by simp [evB]), h.row.ne_of h.re (fun c n q => by simp [evB])⟩
theorem BS.new (h : BS L A e rest v out) (b : Blk) : BS L ⟨A.t.set A.next b, A.next + 1⟩ e rest v out := by
  have hn := h.nx
  have g : ∀ n, n < A.next → (⟨A.t.set A.next b, A.next + 1⟩ : Heap).t.get n = A.t.get n := fun n hn => T.get_set_ne _ _ (by omega)
  exact ⟨by rw [g _ (by omega)]; exact h.ev, by rw [g _ (by omega)]; exact h.re, h.row.still (Nat.le_succ _) fun m hm => g m (h.row.nm_lt hm), Nat.le_succ_of_le hn, fun n hlt => by rw [g _ (by omega)]; exact h.old n hlt, h.vlo⟩
theorem BS.put (h : BS L A e rest v out) (rest' : Evt) : BS L ⟨A.t.set (L.next + 2) (evB (evF rest')), A.next⟩ e rest' v out := by
  have g : ∀ n, n ≠ L.next + 2 → (⟨A.t.set (L.next + 2) (evB (evF rest')), A.next⟩ : Heap).t.get n = A.t.get n := fun n hn => T.get_set_ne _ _ hn
  exact ⟨by rw [g _ (by omega)]; exact h.ev, T.get_set_same _ _ _, h.row.still (Nat.le_refl _) fun m hm => g m (by rintro rfl; exact h.ne.2 hm), h.nx, fun n hlt => by rw [g _ (by omega)]; exact h.old n hlt, h.vlo⟩
theorem BS.app (h : BS L A e rest v out) {x : V} {new : List Int} (hx : srcElems A 1 x = some (new.map u8c)) (hs : out.length + new.length ≤ 16777216) :
    ∃ v' A', Ev.append Try.prog 38 v x A = some (v', A') ∧ BS L A' e rest v' (out ++ new) := by
  obtain ⟨v', A', h1, h2, h3, h4, h5⟩ := append_B h.row hx hs
  have hn := h.nx
  refine ⟨v', A', h1, by rw [h4 _ (by omega) h.ne.1]; exact h.ev, by rw [h4 _ (by omega) h.ne.2]; exact h.re, h2, Nat.le_trans hn h3, fun n hlt => ?_, fun m hm => ?_⟩
  · rw [h4 n (by omega) (fun e => by have := h.vlo n e; omega)]
    exact h.old n hlt
  · rcases h5 with e' | e'
    · exact h.vlo m (by rw [← e']; exact hm)
    · rw [e'] at hm; injection hm with hm; omega
def zeroE : Evt := ⟨0, 0, [], 0, 0, 0, 0, 0, 0⟩
noncomputable def b52 : Code := Try.f52.body.getD .skip
noncomputable def sfx52 : Code := cSnd (cSnd (cSnd (cSnd (cSnd (cSnd (cSnd b52))))))
theorem hdr_bad {e : Evt} (h : e.k < 0 ∨ 8 < e.k ∨ e.s < 0 ∨ 4 < e.s) : wBad e = true := by
  unfold wBad out
  have : (decide (e.k < 0) || decide (9 ≤ e.k) || (decide (e.s < 0) || decide (5 ≤ e.s))) = true := by
    simp
    omega
  rw [this]
  simp
theorem rbytes_pre (L : Heap) (e : Evt) (hk : 0 ≤ e.k ∧ e.k ≤ 8) (hs : 0 ≤ e.s ∧ e.s ≤ 4) :
    ∃ A, BS L A e { e with k := 0, s := 0 } (.slice (L.next + 1) 0 1 1 false) [lowB (e.k + 9 * e.s)] ∧
      ∀ L' v b, (∀ t : T V, tget t 1 = .ptr L.next 0 → tget t 4 = .slice (L.next + 1) 0 1 1 false → tget t 5 = .ptr (L.next + 2) 0 → tget t 6 = .bool false → ACode Try.prog ⟨none, 166⟩ sfx52 t [] A (fun x t' d A' => x = .ret ∧ d = [] ∧ A' = L' ∧ tget t' 2 = v ∧ tget t' 3 = .bool b)) →
        ACall Try.prog 52 [.agg (evF e)] L (.tuple [v, .bool b]) L' := by
  obtain ⟨A1, hA1⟩ : ∃ A : Heap, A = ⟨(L.t.set L.next (evB (evF e))).set (L.next + 1) (oneB (.int .u8 (lowB (e.k + 9 * e.s)))), L.next + 2⟩ := ⟨_, rfl⟩
  have hE1 : A1.t.get L.next = some (evB (evF e)) := by rw [hA1]; show T.get (T.set _ _ _) _ = _; rw [T.get_set_ne _ _ (by omega)]; exact T.get_set_same _ _ _
  have hn1 : A1.next = L.next + 2 := by rw [hA1]
  have hBS : BS L ⟨A1.t.set (L.next + 2) (evB (evF { e with k := 0, s := 0 })), L.next + 3⟩ e { e with k := 0, s := 0 } (.slice (L.next + 1) 0 1 1 false) [lowB (e.k + 9 * e.s)] := by
    refine ⟨?_, T.get_set_same _ _ _, .inl ⟨L.next + 1, T.set .leaf 0 [.int .u8 (lowB (e.k + 9 * e.s))], rfl, by simp only; omega, ?_, ?_⟩, Nat.le_refl _, ?_, ?_⟩
    · show T.get (T.set _ _ _) _ = _; rw [T.get_set_ne _ _ (by omega)]; exact hE1
    · show T.get (T.set _ _ _) _ = _; rw [T.get_set_ne _ _ (by omega), hA1]; exact T.get_set_same _ _ _
    · intro i x hx
      cases i with
      | zero => simp at hx; subst hx; exact T.get_set_same _ _ _
      | succ i => simp at hx
    · intro n hn
      show T.get (T.set _ _ _) _ = _
      rw [T.get_set_ne _ _ (by omega), hA1]
      show T.get (T.set _ _ _) _ = _
      rw [T.get_set_ne _ _ (by omega), T.get_set_ne _ _ (by omega)]
    · intro m hm
      simp only [nmP, Option.some.injEq] at hm
      omega
  refine ⟨_, hBS, fun L' v b hsuf => ?_⟩
  have hE0 : (L.t.set L.next (evB (evF e))).get L.next = some (evB (evF e)) := T.get_set_same _ _ _
  generalize hT0 : L.t.set L.next (evB (evF e)) = T0 at *
  have hh1 : ¬ e.k < 0 := by omega
  have hh2 : ¬ 8 < e.k := by omega
  have hh3 : ¬ e.s < 0 := by omega
  have hh4 : ¬ 4 < e.s := by omega
  have hw1 : IntKind.i64.wrap (9 * e.s) = 9 * e.s := Go.IntWalk.i64_in _ (by omega)
  have hw2 : IntKind.i64.wrap (e.k + 9 * e.s) = e.k + 9 * e.s := Go.IntWalk.i64_in _ (by omega)
  simp only [evB, evF] at hE0 hE1
  refine ACall.of_body_same Try.func52 rfl ?_
  refine ACode.seq (ACode.regS noT_ok names_ok mix (t' := ?_) (L' := ?_) [0, 1, 2] (by rfl) ?_ ?_)
  rotate_left 2
  · iterate 3 (refine sq rfl rfl rfl (by simp [go_sem, X, Try.f52]; rfl) ?_)
    rfl
  change ACode _ _ _ _ _ ⟨L.t.set L.next (evB (evF e)), L.next + 1⟩ _
  rw [hT0]
  refine ACode.seq ?_
  refine ACode.seq (ACode.regS noT_ok names_ok mix (t' := ?_) (L' := ?_) [0, 1, 2, 3, 4, 5, 6, 7, 8, 9, 10, 11, 12, 13, 14, 15, 16, 17] (by rfl) ?_ ?_)
  rotate_left 2
  · iterate 4 (refine sq rfl rfl rfl (by simp [go_sem, X, hE0, hh1, hh2, hh3, hh4, Try.f52]; rfl) ?_)
    iterate 3 (refine sq rfl rfl (by simp [go_sem, X, hE0, hh1, hh2, hh3, hh4, Try.f52]) (by simp [go_sem, X, hE0, hh1, hh2, hh3, hh4, Try.f52]; rfl) ?_)
    iterate 2 (refine sq rfl rfl rfl (by simp [go_sem, X, hE0, hh1, hh2, hh3, hh4, Try.f52]; rfl) ?_)
    iterate 3 (refine sq rfl rfl (by simp [go_sem, X, hE0, hh1, hh2, hh3, hh4, Try.f52]) (by simp [go_sem, X, hE0, hh1, hh2, hh3, hh4, Try.f52]; rfl) ?_)
    iterate 2 (refine sq rfl rfl rfl (by simp [go_sem, X, hE0, hh1, hh2, hh3, hh4, Try.f52]; rfl) ?_)
    iterate 3 (refine sq rfl rfl (by simp [go_sem, X, hE0, hh1, hh2, hh3, hh4, Try.f52]) (by simp [go_sem, X, hE0, hh1, hh2, hh3, hh4, Try.f52]; rfl) ?_)
    refine sq rfl rfl rfl (by simp [go_sem, X, hE0, hh1, hh2, hh3, hh4, Try.f52]; rfl) ?_
    rfl
  refine ACode.condF (by simp [tget_set, opd]) (ACode.skip ?_)
  show ACode _ _ _ _ _ _ _
  refine ACode.seq (ACode.regS noT_ok names_ok mix (t' := ?_) (L' := ?_) [0, 1, 2, 3, 4, 5, 6, 7, 8] (by rfl) ?_ ?_)
  rotate_left 2
  · iterate 9 (refine sq rfl rfl rfl (by simp [go_sem, X, hE0, hw1, hw2, lowB_eq, Try.f52]; rfl) ?_)
    rfl
  change ACode _ _ _ _ _ ⟨T0.set (L.next + 1) (oneB (.int .u8 (lowB (e.k + 9 * e.s)))), L.next + 2⟩ _
  rw [← hA1]
  refine ACode.seq (ACode.regS noT_ok names_ok mix (t' := ?_) (L' := ?_) [0, 1, 2] (by rfl) ?_ ?_)
  rotate_left 2
  · iterate 3 (refine sq rfl rfl rfl (by simp [go_sem, X, hE1, Try.f52]; rfl) ?_)
    rfl
  refine ACode.seq (ACode.regS noT_ok names_ok mix (t' := ?_) (L' := ?_) [0, 1] (by rfl) ?_ ?_)
  rotate_left 2
  · iterate 2 (refine sq rfl rfl rfl (by simp [go_sem, X, Try.f52]; rfl) ?_)
    rfl
  refine ACode.seq (ACode.regS noT_ok names_ok mix (t' := ?_) (L' := ?_) [0, 1] (by rfl) ?_ ?_)
  rotate_left 2
  · iterate 2 (refine sq rfl rfl rfl (by simp [go_sem, X, Try.f52]; rfl) ?_)
    rfl
  refine ACode.seq (ACode.regS noT_ok names_ok mix (t' := ?_) (L' := ?_) [0] (by rfl) ?_ ?_)
  rotate_left 2
  · refine sq rfl rfl rfl (by simp [go_sem, X, Try.f52]; rfl) ?_
    rfl
  rw [hn1]
  refine (hsuf _ ?_ ?_ ?_ ?_).mono ?_
  · simp [tget_set]
  · simp [tget_set]
  · simp [tget_set, hn1]
  · simp [tget_set]
  rintro x t' d' A' ⟨rfl, rfl, rfl, h2, h3⟩
  exact ⟨.inr rfl, [v, .bool b], rfl, by simp [Try.f52, resVals, h2, h3], rfl⟩
end
end Go.Proofs.Ytpfmoolpeecobaa
namespace Go.Proofs.Ytpfmoolpeecobaa
open Go Go.Proofs Go.Proofs.Ytpfmoolpeecobaa.Ev
set_option linter.unusedVariables false
set_option linter.unusedSimpArgs false
set_option maxRecDepth 100000
set_option maxHeartbeats 4000000

theorem build86 : Ev.build Try.prog 86 [] = some (.agg (evF zeroE)) := by kernel_rfl
theorem ofVal_strE : Ev.ofVal (.string ⟨#[]⟩) = some (.str []) := rfl
section
variable {L A : Heap} {e rest : Evt} {v : V} {out : List Int}
theorem rbytes_end (h : BS L A e rest v out) (hl : e.t.length ≤ 1000) (t : T V) (t1 : tget t 1 = .ptr L.next 0) (t4 : tget t 4 = v) (t5 : tget t 5 = .ptr (L.next + 2) 0) :
    ACode Try.prog ⟨none, 166⟩ (cSnd (cSnd sfx52)) t [] A (fun x t' d A' => x = .ret ∧ d = [] ∧ A' = A ∧ tget t' 2 = v ∧ tget t' 3 = .bool (decide (rest = zeroE) && decide (e.t.length < 64))) := by
  have hE := h.ev
  have hX := h.re
  have hev := ev86g false rest zeroE
  have hX' := hX
  unfold evB at hX hE
  have hlX : Heap.load Try.prog A 86 (L.next + 2) 0 = some (.agg (evF rest)) := by simp [Heap.load, Heap.elem, hX, T.get_set, Ev.part, pa86, ps86, evF, takeN]
  have hlE : Heap.load Try.prog A 9 L.next 2 = some (.str e.t) := by simp [Heap.load, Heap.elem, hE, T.get_set, Ev.part, pa9, evF]
  have hlt : decide ((e.t.length : Int) < 64) = decide (e.t.length < 64) := decide_eq_decide.2 (by omega)
  show ACode _ _ (Code.seq (Code.region _ _ _) Code.ret) _ _ _ _
  have hb := build86
  generalize hze : evF zeroE = ze at *
  generalize evF rest = re at *
  by_cases hz : rest = zeroE
  ·
    rw [decide_eq_true hz] at hev
    refine ACode.seq (ACode.regD noT_ok names_ok mix (t' := ?_) (L' := ?_) [0,0,0,6,14,30,62,126,254,510,31,2047] [0,1,2,3,4,5,6,7,8,9,10,11] (by decide +kernel) (by decide +kernel) (by decide +kernel) ?_ ?_)
    rotate_left 2
    · refine dq rfl rfl rfl rfl (by simp [go_sem, xs, xe, xa, xi, xo, xq, xv, xc, xk, t1, t4, t5, hlX, hlE, hb, hev, Try.f52]; rfl) ?_
      refine dr rfl rfl rfl rfl (by simp [go_sem, xs, xe, xa, xi, xo, xq, xv, xc, xk, t1, t4, t5, hlX, hlE, hb, hev, Try.f52]; rfl) ?_
      iterate 3 (refine dq rfl rfl rfl rfl (by simp [go_sem, xs, xe, xa, xi, xo, xq, xv, xc, xk, t1, t4, t5, hlX, hlE, hb, hev, Try.f52]; rfl) ?_)
      refine dq rfl rfl (by simp [go_sem, xs, xe, xa, xi, xo, xq, xv, xc, xk, t1, t4, t5, hlX, hlE, hb, hev, Try.f52]) rfl (by simp [go_sem, xs, xe, xa, xi, xo, xq, xv, xc, xk, t1, t4, t5, hlX, hlE, hb, hev, Try.f52]; rfl) ?_
      iterate 2 (refine dr rfl rfl (by simp [go_sem, xs, xe, xa, xi, xo, xq, xv, xc, xk, t1, t4, t5, hlX, hlE, hb, hev, Try.f52]) rfl (by simp [go_sem, xs, xe, xa, xi, xo, xq, xv, xc, xk, t1, t4, t5, hlX, hlE, hb, hev, Try.f52]; rfl) ?_)
      refine dq rfl rfl (by simp [go_sem, xs, xe, xa, xi, xo, xq, xv, xc, xk, t1, t4, t5, hlX, hlE, hb, hev, Try.f52]) rfl (by simp [go_sem, xs, xe, xa, xi, xo, xq, xv, xc, xk, t1, t4, t5, hlX, hlE, hb, hev, Try.f52]; rfl) ?_
      iterate 3 (refine dq rfl rfl rfl rfl (by simp [go_sem, xs, xe, xa, xi, xo, xq, xv, xc, xk, t1, t4, t5, hlX, hlE, hb, hev, Try.f52]; rfl) ?_)
      rfl
    exact ACode.ret ⟨rfl, rfl, rfl, by simp [tget_set], by simp [tget_set, hz]; omega⟩
  ·
    rw [decide_eq_false hz] at hev
    refine ACode.seq (ACode.regD noT_ok names_ok mix (t' := ?_) (L' := ?_) [0,0,0,6,14,30,62,126,254,510,31,2047] [0,1,2,3,4,5,6,7,8,9,10,11] (by decide +kernel) (by decide +kernel) (by decide +kernel) ?_ ?_)
    rotate_left 2
    · refine dq rfl rfl rfl rfl (by simp [go_sem, xs, xe, xa, xi, xo, xq, xv, xc, xk, t1, t4, t5, hlX, hlE, hb, hev, Try.f52]; rfl) ?_
      refine dr rfl rfl rfl rfl (by simp [go_sem, xs, xe, xa, xi, xo, xq, xv, xc, xk, t1, t4, t5, hlX, hlE, hb, hev, Try.f52]; rfl) ?_
      iterate 3 (refine dq rfl rfl rfl rfl (by simp [go_sem, xs, xe, xa, xi, xo, xq, xv, xc, xk, t1, t4, t5, hlX, hlE, hb, hev, Try.f52]; rfl) ?_)
      iterate 4 (refine ds rfl rfl (by simp [go_sem, xs, xe, xa, xi, xo, xq, xv, xc, xk, t1, t4, t5, hlX, hlE, hb, hev, Try.f52]) ?_)
      iterate 3 (refine dq rfl rfl rfl rfl (by simp [go_sem, xs, xe, xa, xi, xo, xq, xv, xc, xk, t1, t4, t5, hlX, hlE, hb, hev, Try.f52]; rfl) ?_)
      rfl
    exact ACode.ret ⟨rfl, rfl, rfl, by simp [tget_set], by simp [tget_set, hz]⟩
theorem rbytes_fin (h : BS L A e rest v out) (hl : e.t.length ≤ 1000) (ho : out.length ≤ 1000) (tx : Bool) :
    ∃ A' v', (∀ t : T V, tget t 1 = .ptr L.next 0 → tget t 4 = v → tget t 5 = .ptr (L.next + 2) 0 → tget t 6 = .bool tx →
      ACode Try.prog ⟨none, 166⟩ (cSnd sfx52) t [] A (fun x t' d A'' => x = .ret ∧ d = [] ∧ A'' = A' ∧ tget t' 2 = v' ∧ tget t' 3 = .bool (decide ((if tx then { rest with t := [] } else rest) = zeroE) && decide (e.t.length < 64)))) ∧
      BS L A' e (if tx then { rest with t := [] } else rest) v' (if tx then out ++ lowB e.t.length :: natI e.t else out) := by
  cases tx with
  | false =>
    refine ⟨A, v, fun t t1 t4 t5 t6 => ?_, h⟩
    show ACode _ _ (Code.seq (Code.seq (Code.region _ _ _) _) _) _ _ _ _
    refine ACode.seq ?_
    refine ACode.seq (ACode.regS noT_ok names_ok mix (t' := ?_) (L' := ?_) [0] (by rfl) ?_ ?_)
    rotate_left 2
    · refine sq rfl rfl rfl (by simp [go_sem, X, t6, Try.f52]; rfl) ?_
      rfl
    refine ACode.condF (by simp [tget_set, opd]) (ACode.skip ?_)
    show ACode _ _ (cSnd (cSnd sfx52)) _ _ _ _
    exact rbytes_end h hl _ (by simp [tget_set, t1]) (by simp [tget_set, t4]) (by simp [tget_set, t5])
  | true =>
    have h1 := h.new (oneB (.int .u8 (lowB e.t.length)))
    have hy : (⟨A.t.set A.next (oneB (.int .u8 (lowB e.t.length))), A.next + 1⟩ : Heap).t.get A.next = some (oneB (.int .u8 (lowB e.t.length))) := T.get_set_same _ _ _
    generalize hA1 : (⟨A.t.set A.next (oneB (.int .u8 (lowB e.t.length))), A.next + 1⟩ : Heap) = A1 at *
    obtain ⟨v2, A2, ap2, h2⟩ := h1.app (new := [lowB e.t.length]) (oneB_src hy) (by simp; omega)
    have hsrc : srcElems A2 1 (.str e.t) = some ((natI e.t).map u8c) := by simp [srcElems, guardO, u8c, natI]
    obtain ⟨v3, A3, ap3, h3⟩ := h2.app hsrc (by simp [natI]; omega)
    have h4 := h3.put { rest with t := [] }
    have e4 : out ++ [lowB e.t.length] ++ natI e.t = out ++ lowB e.t.length :: natI e.t := by simp
    rw [e4] at h4
    refine ⟨_, v3, fun t t1 t4 t5 t6 => ?_, h4⟩
    have hE0 := h.ev
    have hE1 := h1.ev
    have hE2 := h2.ev
    have hX3 := h3.re
    simp only [evB, evF] at hE0 hE1 hE2 hX3
    have hv2 := h2.row.cells
    rw [← hA1] at ap2
    unfold oneB at ap2
    have hA1' : A.t.set A.next (.cells (T.set .leaf 0 [.int .u8 (lowB e.t.length)]) 1 1 false false) = A1.t := by rw [← hA1]; rfl
    have hnx := h.nx
    have hE1' : (A.t.set A.next (.cells (T.set .leaf 0 [.int .u8 (lowB e.t.length)]) 1 1 false false)).get L.next = _ := (congrArg (fun x : T Blk => x.get L.next) hA1').trans hE1
    show ACode _ _ (Code.seq (Code.seq (Code.region _ _ _) _) _) _ _ _ _
    refine ACode.seq ?_
    refine ACode.seq (ACode.regS noT_ok names_ok mix (t' := ?_) (L' := ?_) [0] (by rfl) ?_ ?_)
    rotate_left 2
    · refine sq rfl rfl rfl (by simp [go_sem, X, t6, Try.f52]; rfl) ?_
      rfl
    refine ACode.condT (by simp [tget_set, opd]) ?_
    have hneE : (L.next = A.next) = False := eq_false (by omega)
    refine ACode.seq (ACode.regD noT_ok names_ok mix (t' := ?_) (L' := ?_) [0,0,2,6,14,30,63,0,128,511,1023] [0,1,2,3,4,5,7,8,6,9,10] (by decide +kernel) (by decide +kernel) (by decide +kernel) ?_ ?_)
    rotate_left 2
    · iterate 2 (refine dq rfl rfl rfl rfl (by simp [go_sem, X, pi9, pi38, t1, t4, hE0, hE2, hneE, lowB_eq, ap2, ap3, Try.f52]; rfl) ?_)
      iterate 3 (refine dr rfl rfl rfl rfl (by simp [go_sem, X, pi9, pi38, t1, t4, hE0, hE2, hneE, lowB_eq, ap2, ap3, Try.f52]; rfl) ?_)
      refine dm rfl rfl rfl rfl (by simp [go_sem, X, pi9, pi38, t1, t4, hE0, hE2, hneE, lowB_eq, ap2, ap3, Try.f52]; rfl) ?_
      refine dq rfl rfl rfl rfl (by simp [go_sem, X, pi9, pi38, t1, t4, hE0, hE2, hneE, lowB_eq, ap2, ap3, Try.f52]; rfl) ?_
      refine dr rfl rfl rfl rfl (by simp [go_sem, X, pi9, pi38, t1, t4, hE0, hE2, hneE, lowB_eq, ap2, ap3, Try.f52]; rfl) ?_
      iterate 2 (refine dl rfl rfl rfl rfl (by simp [go_sem, X, pi9, pi38, t1, t4, hE0, hE2, hneE, lowB_eq, ap2, ap3, Try.f52]; rfl) (by rfl) (by simp [go_sem, X, pi9, pi38, t1, t4, hE0, hE2, hneE, lowB_eq, ap2, ap3, Try.f52]) ?_)
      refine dq rfl rfl rfl rfl (by simp [go_sem, X, pi9, pi38, t1, t4, hE0, hE2, hneE, lowB_eq, ap2, ap3, Try.f52]; rfl) ?_
      rfl
    refine ACode.regS noT_ok names_ok mix (t' := ?_) (L' := ?_) [0, 1] (by rfl) ?_ ?_
    rotate_left 2
    · iterate 2 (refine sq rfl rfl rfl (by simp [go_sem, X, t5, hX3, ofVal_strE, Ev.strOf, Try.f52]; rfl) ?_)
      rfl
    show ACode _ _ (cSnd (cSnd sfx52)) _ _ ⟨A3.t.set (L.next + 2) (evB (evF { rest with t := [] })), A3.next⟩ _
    exact rbytes_end h4 hl _ (by simp [tget_set, t1]) (by simp [tget_set]) (by simp [tget_set, t5])
end
end Go.Proofs.Ytpfmoolpeecobaa
