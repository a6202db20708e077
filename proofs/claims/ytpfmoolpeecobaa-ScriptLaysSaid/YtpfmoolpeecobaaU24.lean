/- - -/
import Derived.Test.YtpfmoolpeecobaaU23
namespace Go.Proofs.Ytpfmoolpeecobaa
open Go Go.Proofs Go.Proofs.Ytpfmoolpeecobaa.Ev
set_option linter.unusedVariables false
set_option linter.unusedSimpArgs false
set_option maxRecDepth 100000
set_option maxHeartbeats 4000000

section
variable {L A : Heap} {tn : Trn} {s : Scr} {sv ev : V}
/-- an event is turned -/
def EventT (L A : Heap) (tn : Trn) (s : Scr) (sv ev : V) : Prop := ∃ A' s', TS L A' tn s' sv ev ∧ ScrR s' ∧ s'.srcs = s.srcs ∧
  ∀ t : T V, tget t 2 = .ptr L.next 0 → tget t 3 = .ptr (L.next + 1) 0 → tget t 4 = .ptr (L.next + 2) 0 → tget t 5 = .int .i64 tn.n →
    ACode Try.prog ⟨none, 196⟩ (cSnd sfx32) t [] A (fun x t' d A'' => x = .ret ∧ d = [] ∧ A'' = ⟨A'.t.set (L.next + 2) (scB (s'.cs sv ev)), A'.next⟩ ∧ tget t' 4 = .ptr (L.next + 2) 0)
/-- the last: the script is handed back -/
theorem tlast (h : TS L A tn s sv ev) (t : T V) (t3 : tget t 3 = .ptr (L.next + 1) 0) (t4 : tget t 4 = .ptr (L.next + 2) 0) :
    ACode Try.prog ⟨none, 196⟩ (cSnd (cSnd (cSnd (cSnd sfx32)))) t [] A (fun x t' d A'' => x = .ret ∧ d = [] ∧ A'' = ⟨A.t.set (L.next + 2) (scB (s.cs sv ev)), A.next⟩ ∧ tget t' 4 = .ptr (L.next + 2) 0) := by
  have hS := h.sc
  have hB := h.rb
  have q1 := h.qs
  have q2 := h.qe
  have hl : Heap.load Try.prog A 57 (L.next + 1) 0 = some (.agg (s.cs sv ev)) := by
    unfold scB Scr.cs scL at hS
    simp [Heap.load, Heap.elem, hS, T.get_set, Ev.part, pa57, ps57, takeN, Scr.cs, scL]
  have hst : Heap.store A (L.next + 2) 0 (s.cs sv ev) = some ⟨A.t.set (L.next + 2) (scB (s.cs sv ev)), A.next⟩ := by
    unfold scB Scr.cs scL at hB
    simp [Heap.store, hB, T.get_set, guardO, q1, q2, scal1, splice, over, T.set_set, scB, Scr.cs, scL]
  have hcl : (s.cs sv ev).length = 10 := rfl
  generalize s.cs sv ev = cs at *
  show ACode _ _ (Code.seq (Code.region _ _ _) Code.ret) _ _ _ _
  refine ACode.seq (ACode.regS noT_ok names_ok mix (t' := ?_) (L' := ?_) [0, 1] (by rfl) ?_ ?_)
  rotate_left 2
  · iterate 2 (refine sq rfl rfl rfl (by simp [go_sem, xe, xa, xi, xo, xb, xq, xv, xc, xk, t3, t4, hl, hst, hcl, Try.f32]; rfl) ?_)
    rfl
  exact ACode.ret ⟨rfl, rfl, rfl, by simp [tget_set, t4]⟩
theorem tev_0 (h : TS L A tn s sv ev) (hn : TrnR tn) (hr : ScrR s) (h0 : s.evs.length = 0) : EventT L A tn s sv ev := by
  have hT := h.tb
  have hS := h.sc
  unfold trnF at hT
  unfold scB Scr.cs scL at hS
  have hlen := (h.eo.slP ps86 pa86 (by decide) (fun _ => rfl)).len pt55
  have hl9 : Heap.load Try.prog A 55 (L.next + 1) 9 = some ev := by simp [Heap.load, Heap.elem, hS, T.get_set, Ev.part, pa55]
  have hlw : Heap.load Try.prog A 5 L.next 0 = some (.int .u8 tn.w) := by simp [Heap.load, Heap.elem, hT, T.get_set, Ev.part, pa5]
  have hla : Heap.load Try.prog A 5 L.next 1 = some (.int .u8 tn.at_) := by simp [Heap.load, Heap.elem, hT, T.get_set, Ev.part, pa5]
  have hlS : Heap.load Try.prog A 9 L.next 3 = some (.str tn.s) := by simp [Heap.load, Heap.elem, hT, T.get_set, Ev.part, pa9]
  refine ⟨A, s, h, hr, rfl, fun t t2 t3 t4 t5 => ?_⟩
  have hS := h.sc
  have hB := h.rb
  have q1 := h.qs
  have q2 := h.qe
  have hl : Heap.load Try.prog A 57 (L.next + 1) 0 = some (.agg (s.cs sv ev)) := by
    unfold scB Scr.cs scL at hS
    simp [Heap.load, Heap.elem, hS, T.get_set, Ev.part, pa57, ps57, takeN, Scr.cs, scL]
  have hst : Heap.store A (L.next + 2) 0 (s.cs sv ev) = some ⟨A.t.set (L.next + 2) (scB (s.cs sv ev)), A.next⟩ := by
    unfold scB Scr.cs scL at hB
    simp [Heap.store, hB, T.get_set, guardO, q1, q2, scal1, splice, over, T.set_set, scB, Scr.cs, scL]
  have hcl : (s.cs sv ev).length = 10 := rfl
  have hz : (s.evs.length : Int) = 0 := by omega
  generalize s.cs sv ev = cs at *
  show ACode _ _ (Code.seq (Code.seq (Code.region _ _ _) _) _) _ _ _ _
  refine ACode.seq ?_
  refine ACode.seq (ACode.regS noT_ok names_ok mix (t' := ?_) (L' := ?_) [0, 1, 2, 3] (by rfl) ?_ ?_)
  rotate_left 2
  · iterate 4 (refine sq rfl rfl rfl (by simp [go_sem, xs, xe, xa, xi, xo, xb, xv, xc, xk, t3, hl9, hlen, hz, Try.f32]; rfl) ?_)
    rfl
  refine ACode.condT (by simp [tget_set, opd]) ?_
  refine ACode.seq (ACode.regS noT_ok names_ok mix (t' := ?_) (L' := ?_) [0, 1] (by rfl) ?_ ?_)
  rotate_left 2
  · iterate 2 (refine sq rfl rfl rfl (by simp [go_sem, xe, xa, xi, xo, xb, xq, xv, xc, xk, t3, t4, hl, hst, hcl, Try.f32]; rfl) ?_)
    rfl
  exact ACode.ret ⟨rfl, rfl, rfl, by simp [tget_set, t4]⟩
theorem tev_7 (h : TS L A tn s sv ev) (hn : TrnR tn) (hr : ScrR s) (h1 : 1 ≤ s.evs.length) (hk : tn.w.tmod 16 = 7) : EventT L A tn s sv ev := by
  have hT := h.tb
  have hS := h.sc
  unfold trnF at hT
  unfold scB Scr.cs scL at hS
  have hlen := (h.eo.slP ps86 pa86 (by decide) (fun _ => rfl)).len pt55
  have hl9 : Heap.load Try.prog A 55 (L.next + 1) 9 = some ev := by simp [Heap.load, Heap.elem, hS, T.get_set, Ev.part, pa55]
  have hlw : Heap.load Try.prog A 5 L.next 0 = some (.int .u8 tn.w) := by simp [Heap.load, Heap.elem, hT, T.get_set, Ev.part, pa5]
  have hla : Heap.load Try.prog A 5 L.next 1 = some (.int .u8 tn.at_) := by simp [Heap.load, Heap.elem, hT, T.get_set, Ev.part, pa5]
  have hlS : Heap.load Try.prog A 9 L.next 3 = some (.str tn.s) := by simp [Heap.load, Heap.elem, hT, T.get_set, Ev.part, pa9]
  have hwa : IntKind.i64.wrap tn.at_ = tn.at_ := Go.IntWalk.i64_in _ (by have := hn.at_; omega)
  obtain ⟨i, hi, hrem⟩ := tmod_nat tn.at_ hn.at_.1 s.evs.length h1
  have hxi : s.evs[i]? = some s.evs[i] := by simp [hi]
  have hev := hr.ev _ (List.getElem_mem hi)
  have hl0 : ¬ (s.evs.length : Int) = 0 := by omega
  have htm := tmod_range tn.n 11 (by decide)
  obtain ⟨m, A', hsv, hst, hown, hnx, hkp⟩ := h.eo.set (sz := 9) (by decide) hxi (j := 0) (y := .int .i64 (tn.n.tmod 11)) (x' := { s.evs[i] with k := tn.n.tmod 11 }) rfl rfl (by decide) rfl
  have hix : Ev.indexAddr Try.prog 55 ev (.int .i64 (i : Int)) = some (.ptr m (i * 9)) := by
    rw [hsv]; simp [Ev.indexAddr, pt55, ps86, idx_nat, blt_dec, hi, guardO]
  obtain ⟨k1, hk1, hk1'⟩ := h.en
  have hts : TS L A' tn { s with evs := s.evs.set i { s.evs[i] with k := tn.n.tmod 11 } } sv ev := h.row rfl (h.so.still (by omega) fun m hm => hkp m (by rw [← hm]; exact fun e => h.se e.symm)) hown hnx fun n hlt => hkp n (by rw [hk1]; simp only [ne_eq, Option.some.injEq]; omega)
  have hnl : (s.evs.set i { s.evs[i] with k := tn.n.tmod 11 }).length = s.evs.length := List.length_set ..
  rw [Nat.add_zero] at hst
  generalize (s.evs.length : Int) = ln at *
  refine ⟨A', _, hts, ⟨hr.r, hr.c, hr.ring, hr.g, hr.lv, mem_set hr.ev ⟨by show -1000 ≤ tn.n.tmod 11 ∧ tn.n.tmod 11 ≤ 1000; omega, hev.s, hev.lv, hev.t⟩, hr.ns, by simp only [hnl]; exact hr.ne, mem_set hr.tb (hr.tb s.evs[i] (List.getElem_mem hi))⟩, rfl, fun t t2 t3 t4 t5 => ?_⟩
  show ACode _ _ (Code.seq (Code.seq (Code.region _ _ _) _) (Code.seq (Code.region _ _ _) (Code.seq (Code.seq (Code.region _ _ _) (Code.block 1 _)) _))) _ _ _ _
  refine ACode.seq ?_
  refine ACode.seq (ACode.regS noT_ok names_ok mix (t' := ?_) (L' := ?_) [0, 1, 2, 3] (by rfl) ?_ ?_)
  rotate_left 2
  · iterate 4 (refine sq rfl rfl rfl (by simp [go_sem, xs, xe, xa, xi, xo, xb, xv, xc, xk, t3, hl9, hlen, hl0, Try.f32]; rfl) ?_)
    rfl
  refine ACode.condF (by simp [tget_set, opd]) (ACode.skip ?_)
  show ACode _ _ (Code.seq (Code.region _ _ _) (Code.seq (Code.seq (Code.region _ _ _) (Code.block 1 _)) _)) _ _ _ _
  refine ACode.seq (ACode.regD noT_ok names_ok mix (t' := ?_) (L' := ?_) [0,1,0,4,12,0,32,96,252,511,1023] [0,1,2,3,4,5,6,7,8,9,10] (by decide +kernel) (by decide +kernel) (by decide +kernel) ?_ ?_)
  rotate_left 2
  · refine dq rfl rfl rfl rfl (by simp [go_sem, xs, xe, xi, xo, xb, xv, xc, xk, t2, t3, hl9, hla, hlen, hl0, hwa, hrem, hix, Try.f32]; rfl) ?_
    refine dr rfl rfl rfl rfl (by simp [go_sem, xs, xe, xi, xo, xb, xv, xc, xk, t2, t3, hl9, hla, hlen, hl0, hwa, hrem, hix, Try.f32]; rfl) ?_
    refine dq rfl rfl rfl rfl (by simp [go_sem, xs, xe, xi, xo, xb, xv, xc, xk, t2, t3, hl9, hla, hlen, hl0, hwa, hrem, hix, Try.f32]; rfl) ?_
    iterate 2 (refine dr rfl rfl rfl rfl (by simp [go_sem, xs, xe, xi, xo, xb, xv, xc, xk, t2, t3, hl9, hla, hlen, hl0, hwa, hrem, hix, Try.f32]; rfl) ?_)
    refine dq rfl rfl rfl rfl (by simp [go_sem, xs, xe, xi, xo, xb, xv, xc, xk, t2, t3, hl9, hla, hlen, hl0, hwa, hrem, hix, Try.f32]; rfl) ?_
    iterate 2 (refine dr rfl rfl rfl rfl (by simp [go_sem, xs, xe, xi, xo, xb, xv, xc, xk, t2, t3, hl9, hla, hlen, hl0, hwa, hrem, hix, Try.f32]; rfl) ?_)
    iterate 3 (refine dq rfl rfl rfl rfl (by simp [go_sem, xs, xe, xi, xo, xb, xv, xc, xk, t2, t3, hl9, hla, hlen, hl0, hwa, hrem, hix, Try.f32]; rfl) ?_)
    rfl
  refine ACode.seq ?_
  refine ACode.seq (ACode.regS noT_ok names_ok mix (t' := ?_) (L' := ?_) [0, 1, 2] (by rfl) ?_ ?_)
  rotate_left 2
  · iterate 3 (refine sq rfl rfl rfl (by simp [go_sem, xs, xe, xa, xi, xo, xb, xq, xv, xc, xk, t2, hlw, Try.f32]; rfl) ?_)
    rfl
  refine ACode.block ?_
  refine ACode.seq (ACode.regS noT_ok names_ok mix (t' := ?_) (L' := ?_) [0, 1] (by rfl) ?_ ?_)
  rotate_left 2
  · iterate 2 (refine sq rfl rfl rfl (by simp [go_sem, X, hk, Try.f32]; rfl) ?_)
    rfl
  refine ACode.condT (by simp [tget_set, opd]) ?_
  refine ACode.regS noT_ok names_ok mix (t' := ?_) (L' := ?_) [0, 1, 2, 3, 4, 5] (by rfl) ?_ ?_
  rotate_left 2
  · iterate 6 (refine sq rfl rfl rfl (by simp [go_sem, xe, xa, xi, xo, xb, xq, xv, xc, xk, t5, hst, Try.f32]; rfl) ?_)
    rfl
  show ACode _ _ (cSnd (cSnd (cSnd (cSnd sfx32)))) _ _ _ _
  exact tlast hts _ (by simp [tget_set, t3]) (by simp [tget_set, t4])
theorem tev_8 (h : TS L A tn s sv ev) (hn : TrnR tn) (hr : ScrR s) (h1 : 1 ≤ s.evs.length) (hk : tn.w.tmod 16 = 8) : EventT L A tn s sv ev := by
  have hT := h.tb
  have hS := h.sc
  unfold trnF at hT
  unfold scB Scr.cs scL at hS
  have hlen := (h.eo.slP ps86 pa86 (by decide) (fun _ => rfl)).len pt55
  have hl9 : Heap.load Try.prog A 55 (L.next + 1) 9 = some ev := by simp [Heap.load, Heap.elem, hS, T.get_set, Ev.part, pa55]
  have hlw : Heap.load Try.prog A 5 L.next 0 = some (.int .u8 tn.w) := by simp [Heap.load, Heap.elem, hT, T.get_set, Ev.part, pa5]
  have hla : Heap.load Try.prog A 5 L.next 1 = some (.int .u8 tn.at_) := by simp [Heap.load, Heap.elem, hT, T.get_set, Ev.part, pa5]
  have hlS : Heap.load Try.prog A 9 L.next 3 = some (.str tn.s) := by simp [Heap.load, Heap.elem, hT, T.get_set, Ev.part, pa9]
  have hwa : IntKind.i64.wrap tn.at_ = tn.at_ := Go.IntWalk.i64_in _ (by have := hn.at_; omega)
  obtain ⟨i, hi, hrem⟩ := tmod_nat tn.at_ hn.at_.1 s.evs.length h1
  have hxi : s.evs[i]? = some s.evs[i] := by simp [hi]
  have hev := hr.ev _ (List.getElem_mem hi)
  have hl0 : ¬ (s.evs.length : Int) = 0 := by omega
  have htm := tmod_range tn.n 7 (by decide)
  obtain ⟨m, A', hsv, hst, hown, hnx, hkp⟩ := h.eo.set (sz := 9) (by decide) hxi (j := 1) (y := .int .i64 (tn.n.tmod 7)) (x' := { s.evs[i] with s := tn.n.tmod 7 }) rfl rfl (by decide) rfl
  have hix : Ev.indexAddr Try.prog 55 ev (.int .i64 (i : Int)) = some (.ptr m (i * 9)) := by
    rw [hsv]; simp [Ev.indexAddr, pt55, ps86, idx_nat, blt_dec, hi, guardO]
  obtain ⟨k1, hk1, hk1'⟩ := h.en
  have hts : TS L A' tn { s with evs := s.evs.set i { s.evs[i] with s := tn.n.tmod 7 } } sv ev := h.row rfl (h.so.still (by omega) fun m hm => hkp m (by rw [← hm]; exact fun e => h.se e.symm)) hown hnx fun n hlt => hkp n (by rw [hk1]; simp only [ne_eq, Option.some.injEq]; omega)
  have hnl : (s.evs.set i { s.evs[i] with s := tn.n.tmod 7 }).length = s.evs.length := List.length_set ..
  generalize (s.evs.length : Int) = ln at *
  refine ⟨A', _, hts, ⟨hr.r, hr.c, hr.ring, hr.g, hr.lv, mem_set hr.ev ⟨hev.k, by show -1000 ≤ tn.n.tmod 7 ∧ tn.n.tmod 7 ≤ 1000; omega, hev.lv, hev.t⟩, hr.ns, by simp only [hnl]; exact hr.ne, mem_set hr.tb (hr.tb s.evs[i] (List.getElem_mem hi))⟩, rfl, fun t t2 t3 t4 t5 => ?_⟩
  show ACode _ _ (Code.seq (Code.seq (Code.region _ _ _) _) (Code.seq (Code.region _ _ _) (Code.seq (Code.seq (Code.region _ _ _) (Code.block 1 _)) _))) _ _ _ _
  refine ACode.seq ?_
  refine ACode.seq (ACode.regS noT_ok names_ok mix (t' := ?_) (L' := ?_) [0, 1, 2, 3] (by rfl) ?_ ?_)
  rotate_left 2
  · iterate 4 (refine sq rfl rfl rfl (by simp [go_sem, xs, xe, xa, xi, xo, xb, xv, xc, xk, t3, hl9, hlen, hl0, Try.f32]; rfl) ?_)
    rfl
  refine ACode.condF (by simp [tget_set, opd]) (ACode.skip ?_)
  show ACode _ _ (Code.seq (Code.region _ _ _) (Code.seq (Code.seq (Code.region _ _ _) (Code.block 1 _)) _)) _ _ _ _
  refine ACode.seq (ACode.regD noT_ok names_ok mix (t' := ?_) (L' := ?_) [0,1,0,4,12,0,32,96,252,511,1023] [0,1,2,3,4,5,6,7,8,9,10] (by decide +kernel) (by decide +kernel) (by decide +kernel) ?_ ?_)
  rotate_left 2
  · refine dq rfl rfl rfl rfl (by simp [go_sem, xs, xe, xi, xo, xb, xv, xc, xk, t2, t3, hl9, hla, hlen, hl0, hwa, hrem, hix, Try.f32]; rfl) ?_
    refine dr rfl rfl rfl rfl (by simp [go_sem, xs, xe, xi, xo, xb, xv, xc, xk, t2, t3, hl9, hla, hlen, hl0, hwa, hrem, hix, Try.f32]; rfl) ?_
    refine dq rfl rfl rfl rfl (by simp [go_sem, xs, xe, xi, xo, xb, xv, xc, xk, t2, t3, hl9, hla, hlen, hl0, hwa, hrem, hix, Try.f32]; rfl) ?_
    iterate 2 (refine dr rfl rfl rfl rfl (by simp [go_sem, xs, xe, xi, xo, xb, xv, xc, xk, t2, t3, hl9, hla, hlen, hl0, hwa, hrem, hix, Try.f32]; rfl) ?_)
    refine dq rfl rfl rfl rfl (by simp [go_sem, xs, xe, xi, xo, xb, xv, xc, xk, t2, t3, hl9, hla, hlen, hl0, hwa, hrem, hix, Try.f32]; rfl) ?_
    iterate 2 (refine dr rfl rfl rfl rfl (by simp [go_sem, xs, xe, xi, xo, xb, xv, xc, xk, t2, t3, hl9, hla, hlen, hl0, hwa, hrem, hix, Try.f32]; rfl) ?_)
    iterate 3 (refine dq rfl rfl rfl rfl (by simp [go_sem, xs, xe, xi, xo, xb, xv, xc, xk, t2, t3, hl9, hla, hlen, hl0, hwa, hrem, hix, Try.f32]; rfl) ?_)
    rfl
  refine ACode.seq ?_
  refine ACode.seq (ACode.regS noT_ok names_ok mix (t' := ?_) (L' := ?_) [0, 1, 2] (by rfl) ?_ ?_)
  rotate_left 2
  · iterate 3 (refine sq rfl rfl rfl (by simp [go_sem, xs, xe, xa, xi, xo, xb, xq, xv, xc, xk, t2, hlw, Try.f32]; rfl) ?_)
    rfl
  refine ACode.block ?_
  refine ACode.seq (ACode.regS noT_ok names_ok mix (t' := ?_) (L' := ?_) [0, 1] (by rfl) ?_ ?_)
  rotate_left 2
  · iterate 2 (refine sq rfl rfl rfl (by simp [go_sem, X, hk, Try.f32]; rfl) ?_)
    rfl
  refine ACode.condF (by simp [tget_set, opd]) ?_
  refine ACode.seq (ACode.regS noT_ok names_ok mix (t' := ?_) (L' := ?_) [0, 1] (by rfl) ?_ ?_)
  rotate_left 2
  · iterate 2 (refine sq rfl rfl rfl (by simp [go_sem, X, hk, Try.f32]; rfl) ?_)
    rfl
  refine ACode.condT (by simp [tget_set, opd]) ?_
  refine ACode.regS noT_ok names_ok mix (t' := ?_) (L' := ?_) [0, 1, 2, 3, 4, 5] (by rfl) ?_ ?_
  rotate_left 2
  · iterate 6 (refine sq rfl rfl rfl (by simp [go_sem, xe, xa, xi, xo, xb, xq, xv, xc, xk, t5, hst, Try.f32]; rfl) ?_)
    rfl
  show ACode _ _ (cSnd (cSnd (cSnd (cSnd sfx32)))) _ _ _ _
  exact tlast hts _ (by simp [tget_set, t3]) (by simp [tget_set, t4])
theorem tev_9 (h : TS L A tn s sv ev) (hn : TrnR tn) (hr : ScrR s) (h1 : 1 ≤ s.evs.length) (hk : tn.w.tmod 16 = 9) : EventT L A tn s sv ev := by
  have hT := h.tb
  have hS := h.sc
  unfold trnF at hT
  unfold scB Scr.cs scL at hS
  have hlen := (h.eo.slP ps86 pa86 (by decide) (fun _ => rfl)).len pt55
  have hl9 : Heap.load Try.prog A 55 (L.next + 1) 9 = some ev := by simp [Heap.load, Heap.elem, hS, T.get_set, Ev.part, pa55]
  have hlw : Heap.load Try.prog A 5 L.next 0 = some (.int .u8 tn.w) := by simp [Heap.load, Heap.elem, hT, T.get_set, Ev.part, pa5]
  have hla : Heap.load Try.prog A 5 L.next 1 = some (.int .u8 tn.at_) := by simp [Heap.load, Heap.elem, hT, T.get_set, Ev.part, pa5]
  have hlS : Heap.load Try.prog A 9 L.next 3 = some (.str tn.s) := by simp [Heap.load, Heap.elem, hT, T.get_set, Ev.part, pa9]
  have hwa : IntKind.i64.wrap tn.at_ = tn.at_ := Go.IntWalk.i64_in _ (by have := hn.at_; omega)
  obtain ⟨i, hi, hrem⟩ := tmod_nat tn.at_ hn.at_.1 s.evs.length h1
  have hxi : s.evs[i]? = some s.evs[i] := by simp [hi]
  have hev := hr.ev _ (List.getElem_mem hi)
  have hl0 : ¬ (s.evs.length : Int) = 0 := by omega
  obtain ⟨m, A', hsv, hst, hown, hnx, hkp⟩ := h.eo.set (sz := 9) (by decide) hxi (j := 2) (y := .str (tn.s.take 70)) (x' := { s.evs[i] with t := tn.s.take 70 }) rfl rfl (by decide) rfl
  have hix : Ev.indexAddr Try.prog 55 ev (.int .i64 (i : Int)) = some (.ptr m (i * 9)) := by
    rw [hsv]; simp [Ev.indexAddr, pt55, ps86, idx_nat, blt_dec, hi, guardO]
  obtain ⟨k1, hk1, hk1'⟩ := h.en
  have hts : TS L A' tn { s with evs := s.evs.set i { s.evs[i] with t := tn.s.take 70 } } sv ev := h.row rfl (h.so.still (by omega) fun m hm => hkp m (by rw [← hm]; exact fun e => h.se e.symm)) hown hnx fun n hlt => hkp n (by rw [hk1]; simp only [ne_eq, Option.some.injEq]; omega)
  have hnl : (s.evs.set i { s.evs[i] with t := tn.s.take 70 }).length = s.evs.length := List.length_set ..
  have hmin : ∀ B, Ev.builtinQ Try.prog .min #[3, 3] [.int .i64 (tn.s.length : Int), .int .i64 70] B = some (.int .i64 ((min tn.s.length 70 : Nat) : Int)) := by
    intro B
    have : (if (70 : Int) < (tn.s.length : Int) then (70 : Int) else (tn.s.length : Int)) = ((min tn.s.length 70 : Nat) : Int) := by split <;> omega
    simp only [Ev.builtinQ, Ev.V.asInt, Ev.minL, Option.bind_some, Option.map_some, this]
  have hsln : ∀ B, Ev.builtinQ Try.prog .len #[9] [.str tn.s] B = some (.int .i64 (tn.s.length : Int)) := fun B => by simp [Ev.builtinQ, pstr9, guardO]
  have hsls : Ev.sliceOp Try.prog 9 (.str tn.s) none (some (.int .i64 ((min tn.s.length 70 : Nat) : Int))) none = some (.str (tn.s.take 70)) := by
    have e2 : Nat.blt (min tn.s.length 70) (tn.s.length + 1) = true := by rw [blt_dec]; simp; omega
    simp only [Ev.sliceOp, pstr9, Ev.bound, idx_nat, e2, guardO, Option.isNone, Bool.and_self, Option.bind_some, Option.map_some, List.drop_zero, Nat.sub_zero]
    rw [show tn.s.take (min tn.s.length 70) = tn.s.take 70 by rw [Nat.min_comm]; exact List.take_eq_take_min.symm]
  generalize (s.evs.length : Int) = ln at *
  refine ⟨A', _, hts, ⟨hr.r, hr.c, hr.ring, hr.g, hr.lv, mem_set hr.ev ⟨hev.k, hev.s, hev.lv, by show (tn.s.take 70).length ≤ 1000; rw [List.length_take]; omega⟩, hr.ns, by simp only [hnl]; exact hr.ne, mem_set hr.tb (fun x hx => hn.s x (List.mem_of_mem_take hx))⟩, rfl, fun t t2 t3 t4 t5 => ?_⟩
  show ACode _ _ (Code.seq (Code.seq (Code.region _ _ _) _) (Code.seq (Code.region _ _ _) (Code.seq (Code.seq (Code.region _ _ _) (Code.block 1 _)) _))) _ _ _ _
  refine ACode.seq ?_
  refine ACode.seq (ACode.regS noT_ok names_ok mix (t' := ?_) (L' := ?_) [0, 1, 2, 3] (by rfl) ?_ ?_)
  rotate_left 2
  · iterate 4 (refine sq rfl rfl rfl (by simp [go_sem, xs, xe, xa, xi, xo, xb, xv, xc, xk, t3, hl9, hlen, hl0, Try.f32]; rfl) ?_)
    rfl
  refine ACode.condF (by simp [tget_set, opd]) (ACode.skip ?_)
  show ACode _ _ (Code.seq (Code.region _ _ _) (Code.seq (Code.seq (Code.region _ _ _) (Code.block 1 _)) _)) _ _ _ _
  refine ACode.seq (ACode.regD noT_ok names_ok mix (t' := ?_) (L' := ?_) [0,1,0,4,12,0,32,96,252,511,1023] [0,1,2,3,4,5,6,7,8,9,10] (by decide +kernel) (by decide +kernel) (by decide +kernel) ?_ ?_)
  rotate_left 2
  · refine dq rfl rfl rfl rfl (by simp [go_sem, xs, xe, xi, xo, xb, xv, xc, xk, t2, t3, hl9, hla, hlen, hl0, hwa, hrem, hix, Try.f32]; rfl) ?_
    refine dr rfl rfl rfl rfl (by simp [go_sem, xs, xe, xi, xo, xb, xv, xc, xk, t2, t3, hl9, hla, hlen, hl0, hwa, hrem, hix, Try.f32]; rfl) ?_
    refine dq rfl rfl rfl rfl (by simp [go_sem, xs, xe, xi, xo, xb, xv, xc, xk, t2, t3, hl9, hla, hlen, hl0, hwa, hrem, hix, Try.f32]; rfl) ?_
    iterate 2 (refine dr rfl rfl rfl rfl (by simp [go_sem, xs, xe, xi, xo, xb, xv, xc, xk, t2, t3, hl9, hla, hlen, hl0, hwa, hrem, hix, Try.f32]; rfl) ?_)
    refine dq rfl rfl rfl rfl (by simp [go_sem, xs, xe, xi, xo, xb, xv, xc, xk, t2, t3, hl9, hla, hlen, hl0, hwa, hrem, hix, Try.f32]; rfl) ?_
    iterate 2 (refine dr rfl rfl rfl rfl (by simp [go_sem, xs, xe, xi, xo, xb, xv, xc, xk, t2, t3, hl9, hla, hlen, hl0, hwa, hrem, hix, Try.f32]; rfl) ?_)
    iterate 3 (refine dq rfl rfl rfl rfl (by simp [go_sem, xs, xe, xi, xo, xb, xv, xc, xk, t2, t3, hl9, hla, hlen, hl0, hwa, hrem, hix, Try.f32]; rfl) ?_)
    rfl
  refine ACode.seq ?_
  refine ACode.seq (ACode.regS noT_ok names_ok mix (t' := ?_) (L' := ?_) [0, 1, 2] (by rfl) ?_ ?_)
  rotate_left 2
  · iterate 3 (refine sq rfl rfl rfl (by simp [go_sem, xs, xe, xa, xi, xo, xb, xq, xv, xc, xk, t2, hlw, Try.f32]; rfl) ?_)
    rfl
  refine ACode.block ?_
  refine ACode.seq (ACode.regS noT_ok names_ok mix (t' := ?_) (L' := ?_) [0, 1] (by rfl) ?_ ?_)
  rotate_left 2
  · iterate 2 (refine sq rfl rfl rfl (by simp [go_sem, X, hk, Try.f32]; rfl) ?_)
    rfl
  refine ACode.condF (by simp [tget_set, opd]) ?_
  refine ACode.seq (ACode.regS noT_ok names_ok mix (t' := ?_) (L' := ?_) [0, 1] (by rfl) ?_ ?_)
  rotate_left 2
  · iterate 2 (refine sq rfl rfl rfl (by simp [go_sem, X, hk, Try.f32]; rfl) ?_)
    rfl
  refine ACode.condF (by simp [tget_set, opd]) ?_
  refine ACode.seq (ACode.regS noT_ok names_ok mix (t' := ?_) (L' := ?_) [0, 1] (by rfl) ?_ ?_)
  rotate_left 2
  · iterate 2 (refine sq rfl rfl rfl (by simp [go_sem, X, hk, Try.f32]; rfl) ?_)
    rfl
  refine ACode.condT (by simp [tget_set, opd]) ?_
  refine ACode.regS noT_ok names_ok mix (t' := ?_) (L' := ?_) [0, 1, 2, 3, 4, 5, 6, 7, 8, 9, 10] (by rfl) ?_ ?_
  rotate_left 2
  · iterate 11 (refine sq rfl rfl rfl (by simp [go_sem, xe, xa, xi, xb, xv, xc, xk, t2, t5, hst, hlS, hsln, hmin, hsls, Try.f32]; rfl) ?_)
    rfl
  show ACode _ _ (cSnd (cSnd (cSnd (cSnd sfx32)))) _ _ _ _
  exact tlast hts _ (by simp [tget_set, t3]) (by simp [tget_set, t4])
theorem tev_10 (h : TS L A tn s sv ev) (hn : TrnR tn) (hr : ScrR s) (h1 : 1 ≤ s.evs.length) (hk : tn.w.tmod 16 = 10) : EventT L A tn s sv ev := by
  have hT := h.tb
  have hS := h.sc
  unfold trnF at hT
  unfold scB Scr.cs scL at hS
  have hlen := (h.eo.slP ps86 pa86 (by decide) (fun _ => rfl)).len pt55
  have hl9 : Heap.load Try.prog A 55 (L.next + 1) 9 = some ev := by simp [Heap.load, Heap.elem, hS, T.get_set, Ev.part, pa55]
  have hlw : Heap.load Try.prog A 5 L.next 0 = some (.int .u8 tn.w) := by simp [Heap.load, Heap.elem, hT, T.get_set, Ev.part, pa5]
  have hla : Heap.load Try.prog A 5 L.next 1 = some (.int .u8 tn.at_) := by simp [Heap.load, Heap.elem, hT, T.get_set, Ev.part, pa5]
  have hlS : Heap.load Try.prog A 9 L.next 3 = some (.str tn.s) := by simp [Heap.load, Heap.elem, hT, T.get_set, Ev.part, pa9]
  have hwa : IntKind.i64.wrap tn.at_ = tn.at_ := Go.IntWalk.i64_in _ (by have := hn.at_; omega)
  obtain ⟨i, hi, hrem⟩ := tmod_nat tn.at_ hn.at_.1 s.evs.length h1
  have hxi : s.evs[i]? = some s.evs[i] := by simp [hi]
  have hev := hr.ev _ (List.getElem_mem hi)
  have hl0 : ¬ (s.evs.length : Int) = 0 := by omega
  have htm := tmod_range (lowB tn.n) 4 (by decide)
  have hlb := lowB_range tn.n
  have htp : 0 ≤ (lowB tn.n).tmod 4 := by rw [Int.tmod_eq_emod_of_nonneg hlb.1]; omega
  obtain ⟨m, A', hsv, hst, hown, hnx, hkp⟩ := h.eo.set (sz := 9) (by decide) hxi (j := 3) (y := .int .u8 ((lowB tn.n).tmod 4)) (x' := { s.evs[i] with lv := (lowB tn.n).tmod 4 }) rfl rfl (by decide) rfl
  have hix : Ev.indexAddr Try.prog 55 ev (.int .i64 (i : Int)) = some (.ptr m (i * 9)) := by
    rw [hsv]; simp [Ev.indexAddr, pt55, ps86, idx_nat, blt_dec, hi, guardO]
  obtain ⟨k1, hk1, hk1'⟩ := h.en
  have hts : TS L A' tn { s with evs := s.evs.set i { s.evs[i] with lv := (lowB tn.n).tmod 4 } } sv ev := h.row rfl (h.so.still (by omega) fun m hm => hkp m (by rw [← hm]; exact fun e => h.se e.symm)) hown hnx fun n hlt => hkp n (by rw [hk1]; simp only [ne_eq, Option.some.injEq]; omega)
  have hnl : (s.evs.set i { s.evs[i] with lv := (lowB tn.n).tmod 4 }).length = s.evs.length := List.length_set ..
  generalize (s.evs.length : Int) = ln at *
  refine ⟨A', _, hts, ⟨hr.r, hr.c, hr.ring, hr.g, hr.lv, mem_set hr.ev ⟨hev.k, hev.s, by show 0 ≤ (lowB tn.n).tmod 4 ∧ (lowB tn.n).tmod 4 ≤ 255; omega, hev.t⟩, hr.ns, by simp only [hnl]; exact hr.ne, mem_set hr.tb (hr.tb s.evs[i] (List.getElem_mem hi))⟩, rfl, fun t t2 t3 t4 t5 => ?_⟩
  show ACode _ _ (Code.seq (Code.seq (Code.region _ _ _) _) (Code.seq (Code.region _ _ _) (Code.seq (Code.seq (Code.region _ _ _) (Code.block 1 _)) _))) _ _ _ _
  refine ACode.seq ?_
  refine ACode.seq (ACode.regS noT_ok names_ok mix (t' := ?_) (L' := ?_) [0, 1, 2, 3] (by rfl) ?_ ?_)
  rotate_left 2
  · iterate 4 (refine sq rfl rfl rfl (by simp [go_sem, xs, xe, xa, xi, xo, xb, xv, xc, xk, t3, hl9, hlen, hl0, Try.f32]; rfl) ?_)
    rfl
  refine ACode.condF (by simp [tget_set, opd]) (ACode.skip ?_)
  show ACode _ _ (Code.seq (Code.region _ _ _) (Code.seq (Code.seq (Code.region _ _ _) (Code.block 1 _)) _)) _ _ _ _
  refine ACode.seq (ACode.regD noT_ok names_ok mix (t' := ?_) (L' := ?_) [0,1,0,4,12,0,32,96,252,511,1023] [0,1,2,3,4,5,6,7,8,9,10] (by decide +kernel) (by decide +kernel) (by decide +kernel) ?_ ?_)
  rotate_left 2
  · refine dq rfl rfl rfl rfl (by simp [go_sem, xs, xe, xi, xo, xb, xv, xc, xk, t2, t3, hl9, hla, hlen, hl0, hwa, hrem, hix, Try.f32]; rfl) ?_
    refine dr rfl rfl rfl rfl (by simp [go_sem, xs, xe, xi, xo, xb, xv, xc, xk, t2, t3, hl9, hla, hlen, hl0, hwa, hrem, hix, Try.f32]; rfl) ?_
    refine dq rfl rfl rfl rfl (by simp [go_sem, xs, xe, xi, xo, xb, xv, xc, xk, t2, t3, hl9, hla, hlen, hl0, hwa, hrem, hix, Try.f32]; rfl) ?_
    iterate 2 (refine dr rfl rfl rfl rfl (by simp [go_sem, xs, xe, xi, xo, xb, xv, xc, xk, t2, t3, hl9, hla, hlen, hl0, hwa, hrem, hix, Try.f32]; rfl) ?_)
    refine dq rfl rfl rfl rfl (by simp [go_sem, xs, xe, xi, xo, xb, xv, xc, xk, t2, t3, hl9, hla, hlen, hl0, hwa, hrem, hix, Try.f32]; rfl) ?_
    iterate 2 (refine dr rfl rfl rfl rfl (by simp [go_sem, xs, xe, xi, xo, xb, xv, xc, xk, t2, t3, hl9, hla, hlen, hl0, hwa, hrem, hix, Try.f32]; rfl) ?_)
    iterate 3 (refine dq rfl rfl rfl rfl (by simp [go_sem, xs, xe, xi, xo, xb, xv, xc, xk, t2, t3, hl9, hla, hlen, hl0, hwa, hrem, hix, Try.f32]; rfl) ?_)
    rfl
  refine ACode.seq ?_
  refine ACode.seq (ACode.regS noT_ok names_ok mix (t' := ?_) (L' := ?_) [0, 1, 2] (by rfl) ?_ ?_)
  rotate_left 2
  · iterate 3 (refine sq rfl rfl rfl (by simp [go_sem, xs, xe, xa, xi, xo, xb, xq, xv, xc, xk, t2, hlw, Try.f32]; rfl) ?_)
    rfl
  refine ACode.block ?_
  refine ACode.seq (ACode.regS noT_ok names_ok mix (t' := ?_) (L' := ?_) [0, 1] (by rfl) ?_ ?_)
  rotate_left 2
  · iterate 2 (refine sq rfl rfl rfl (by simp [go_sem, X, hk, Try.f32]; rfl) ?_)
    rfl
  refine ACode.condF (by simp [tget_set, opd]) ?_
  refine ACode.seq (ACode.regS noT_ok names_ok mix (t' := ?_) (L' := ?_) [0, 1] (by rfl) ?_ ?_)
  rotate_left 2
  · iterate 2 (refine sq rfl rfl rfl (by simp [go_sem, X, hk, Try.f32]; rfl) ?_)
    rfl
  refine ACode.condF (by simp [tget_set, opd]) ?_
  refine ACode.seq (ACode.regS noT_ok names_ok mix (t' := ?_) (L' := ?_) [0, 1] (by rfl) ?_ ?_)
  rotate_left 2
  · iterate 2 (refine sq rfl rfl rfl (by simp [go_sem, X, hk, Try.f32]; rfl) ?_)
    rfl
  refine ACode.condF (by simp [tget_set, opd]) ?_
  refine ACode.seq (ACode.regS noT_ok names_ok mix (t' := ?_) (L' := ?_) [0, 1] (by rfl) ?_ ?_)
  rotate_left 2
  · iterate 2 (refine sq rfl rfl rfl (by simp [go_sem, X, hk, Try.f32]; rfl) ?_)
    rfl
  refine ACode.condT (by simp [tget_set, opd]) ?_
  refine ACode.regS noT_ok names_ok mix (t' := ?_) (L' := ?_) [0, 1, 2, 3, 4, 5, 6] (by rfl) ?_ ?_
  rotate_left 2
  · iterate 7 (refine sq rfl rfl rfl (by simp [go_sem, xe, xa, xi, xo, xb, xq, xv, xc, xk, t5, hst, lowB_eq, Try.f32]; rfl) ?_)
    rfl
  show ACode _ _ (cSnd (cSnd (cSnd (cSnd sfx32)))) _ _ _ _
  exact tlast hts _ (by simp [tget_set, t3]) (by simp [tget_set, t4])
theorem tev_11 (h : TS L A tn s sv ev) (hn : TrnR tn) (hr : ScrR s) (h1 : 1 ≤ s.evs.length) (hk : tn.w.tmod 16 = 11) : EventT L A tn s sv ev := by
  have hT := h.tb
  have hS := h.sc
  unfold trnF at hT
  unfold scB Scr.cs scL at hS
  have hlen := (h.eo.slP ps86 pa86 (by decide) (fun _ => rfl)).len pt55
  have hl9 : Heap.load Try.prog A 55 (L.next + 1) 9 = some ev := by simp [Heap.load, Heap.elem, hS, T.get_set, Ev.part, pa55]
  have hlw : Heap.load Try.prog A 5 L.next 0 = some (.int .u8 tn.w) := by simp [Heap.load, Heap.elem, hT, T.get_set, Ev.part, pa5]
  have hla : Heap.load Try.prog A 5 L.next 1 = some (.int .u8 tn.at_) := by simp [Heap.load, Heap.elem, hT, T.get_set, Ev.part, pa5]
  have hlS : Heap.load Try.prog A 9 L.next 3 = some (.str tn.s) := by simp [Heap.load, Heap.elem, hT, T.get_set, Ev.part, pa9]
  have hwa : IntKind.i64.wrap tn.at_ = tn.at_ := Go.IntWalk.i64_in _ (by have := hn.at_; omega)
  obtain ⟨i, hi, hrem⟩ := tmod_nat tn.at_ hn.at_.1 s.evs.length h1
  have hxi : s.evs[i]? = some s.evs[i] := by simp [hi]
  have hev := hr.ev _ (List.getElem_mem hi)
  have hl0 : ¬ (s.evs.length : Int) = 0 := by omega
  have htm := tmod_range tn.n 20 (by decide)
  obtain ⟨m, A', hsv, hst, hown, hnx, hkp⟩ := h.eo.set (sz := 9) (by decide) hxi (j := 4) (y := .int .i64 (tn.n.tmod 20)) (x' := { s.evs[i] with r1 := tn.n.tmod 20 }) rfl rfl (by decide) rfl
  have hix : Ev.indexAddr Try.prog 55 ev (.int .i64 (i : Int)) = some (.ptr m (i * 9)) := by
    rw [hsv]; simp [Ev.indexAddr, pt55, ps86, idx_nat, blt_dec, hi, guardO]
  obtain ⟨k1, hk1, hk1'⟩ := h.en
  have hts : TS L A' tn { s with evs := s.evs.set i { s.evs[i] with r1 := tn.n.tmod 20 } } sv ev := h.row rfl (h.so.still (by omega) fun m hm => hkp m (by rw [← hm]; exact fun e => h.se e.symm)) hown hnx fun n hlt => hkp n (by rw [hk1]; simp only [ne_eq, Option.some.injEq]; omega)
  have hnl : (s.evs.set i { s.evs[i] with r1 := tn.n.tmod 20 }).length = s.evs.length := List.length_set ..
  generalize (s.evs.length : Int) = ln at *
  refine ⟨A', _, hts, ⟨hr.r, hr.c, hr.ring, hr.g, hr.lv, mem_set hr.ev ⟨hev.k, hev.s, hev.lv, hev.t⟩, hr.ns, by simp only [hnl]; exact hr.ne, mem_set hr.tb (hr.tb s.evs[i] (List.getElem_mem hi))⟩, rfl, fun t t2 t3 t4 t5 => ?_⟩
  show ACode _ _ (Code.seq (Code.seq (Code.region _ _ _) _) (Code.seq (Code.region _ _ _) (Code.seq (Code.seq (Code.region _ _ _) (Code.block 1 _)) _))) _ _ _ _
  refine ACode.seq ?_
  refine ACode.seq (ACode.regS noT_ok names_ok mix (t' := ?_) (L' := ?_) [0, 1, 2, 3] (by rfl) ?_ ?_)
  rotate_left 2
  · iterate 4 (refine sq rfl rfl rfl (by simp [go_sem, xs, xe, xa, xi, xo, xb, xv, xc, xk, t3, hl9, hlen, hl0, Try.f32]; rfl) ?_)
    rfl
  refine ACode.condF (by simp [tget_set, opd]) (ACode.skip ?_)
  show ACode _ _ (Code.seq (Code.region _ _ _) (Code.seq (Code.seq (Code.region _ _ _) (Code.block 1 _)) _)) _ _ _ _
  refine ACode.seq (ACode.regD noT_ok names_ok mix (t' := ?_) (L' := ?_) [0,1,0,4,12,0,32,96,252,511,1023] [0,1,2,3,4,5,6,7,8,9,10] (by decide +kernel) (by decide +kernel) (by decide +kernel) ?_ ?_)
  rotate_left 2
  · refine dq rfl rfl rfl rfl (by simp [go_sem, xs, xe, xi, xo, xb, xv, xc, xk, t2, t3, hl9, hla, hlen, hl0, hwa, hrem, hix, Try.f32]; rfl) ?_
    refine dr rfl rfl rfl rfl (by simp [go_sem, xs, xe, xi, xo, xb, xv, xc, xk, t2, t3, hl9, hla, hlen, hl0, hwa, hrem, hix, Try.f32]; rfl) ?_
    refine dq rfl rfl rfl rfl (by simp [go_sem, xs, xe, xi, xo, xb, xv, xc, xk, t2, t3, hl9, hla, hlen, hl0, hwa, hrem, hix, Try.f32]; rfl) ?_
    iterate 2 (refine dr rfl rfl rfl rfl (by simp [go_sem, xs, xe, xi, xo, xb, xv, xc, xk, t2, t3, hl9, hla, hlen, hl0, hwa, hrem, hix, Try.f32]; rfl) ?_)
    refine dq rfl rfl rfl rfl (by simp [go_sem, xs, xe, xi, xo, xb, xv, xc, xk, t2, t3, hl9, hla, hlen, hl0, hwa, hrem, hix, Try.f32]; rfl) ?_
    iterate 2 (refine dr rfl rfl rfl rfl (by simp [go_sem, xs, xe, xi, xo, xb, xv, xc, xk, t2, t3, hl9, hla, hlen, hl0, hwa, hrem, hix, Try.f32]; rfl) ?_)
    iterate 3 (refine dq rfl rfl rfl rfl (by simp [go_sem, xs, xe, xi, xo, xb, xv, xc, xk, t2, t3, hl9, hla, hlen, hl0, hwa, hrem, hix, Try.f32]; rfl) ?_)
    rfl
  refine ACode.seq ?_
  refine ACode.seq (ACode.regS noT_ok names_ok mix (t' := ?_) (L' := ?_) [0, 1, 2] (by rfl) ?_ ?_)
  rotate_left 2
  · iterate 3 (refine sq rfl rfl rfl (by simp [go_sem, xs, xe, xa, xi, xo, xb, xq, xv, xc, xk, t2, hlw, Try.f32]; rfl) ?_)
    rfl
  refine ACode.block ?_
  refine ACode.seq (ACode.regS noT_ok names_ok mix (t' := ?_) (L' := ?_) [0, 1] (by rfl) ?_ ?_)
  rotate_left 2
  · iterate 2 (refine sq rfl rfl rfl (by simp [go_sem, X, hk, Try.f32]; rfl) ?_)
    rfl
  refine ACode.condF (by simp [tget_set, opd]) ?_
  refine ACode.seq (ACode.regS noT_ok names_ok mix (t' := ?_) (L' := ?_) [0, 1] (by rfl) ?_ ?_)
  rotate_left 2
  · iterate 2 (refine sq rfl rfl rfl (by simp [go_sem, X, hk, Try.f32]; rfl) ?_)
    rfl
  refine ACode.condF (by simp [tget_set, opd]) ?_
  refine ACode.seq (ACode.regS noT_ok names_ok mix (t' := ?_) (L' := ?_) [0, 1] (by rfl) ?_ ?_)
  rotate_left 2
  · iterate 2 (refine sq rfl rfl rfl (by simp [go_sem, X, hk, Try.f32]; rfl) ?_)
    rfl
  refine ACode.condF (by simp [tget_set, opd]) ?_
  refine ACode.seq (ACode.regS noT_ok names_ok mix (t' := ?_) (L' := ?_) [0, 1] (by rfl) ?_ ?_)
  rotate_left 2
  · iterate 2 (refine sq rfl rfl rfl (by simp [go_sem, X, hk, Try.f32]; rfl) ?_)
    rfl
  refine ACode.condF (by simp [tget_set, opd]) ?_
  refine ACode.seq (ACode.regS noT_ok names_ok mix (t' := ?_) (L' := ?_) [0, 1] (by rfl) ?_ ?_)
  rotate_left 2
  · iterate 2 (refine sq rfl rfl rfl (by simp [go_sem, X, hk, Try.f32]; rfl) ?_)
    rfl
  refine ACode.condT (by simp [tget_set, opd]) ?_
  refine ACode.regS noT_ok names_ok mix (t' := ?_) (L' := ?_) [0, 1, 2, 3, 4, 5, 6] (by rfl) ?_ ?_
  rotate_left 2
  · iterate 7 (refine sq rfl rfl rfl (by simp [go_sem, xe, xa, xi, xo, xb, xq, xv, xc, xk, t5, hst, Try.f32]; rfl) ?_)
    rfl
  show ACode _ _ (cSnd (cSnd (cSnd (cSnd sfx32)))) _ _ _ _
  exact tlast hts _ (by simp [tget_set, t3]) (by simp [tget_set, t4])
theorem tev_12 (h : TS L A tn s sv ev) (hn : TrnR tn) (hr : ScrR s) (h1 : 1 ≤ s.evs.length) (hk : tn.w.tmod 16 = 12) : EventT L A tn s sv ev := by
  have hT := h.tb
  have hS := h.sc
  unfold trnF at hT
  unfold scB Scr.cs scL at hS
  have hlen := (h.eo.slP ps86 pa86 (by decide) (fun _ => rfl)).len pt55
  have hl9 : Heap.load Try.prog A 55 (L.next + 1) 9 = some ev := by simp [Heap.load, Heap.elem, hS, T.get_set, Ev.part, pa55]
  have hlw : Heap.load Try.prog A 5 L.next 0 = some (.int .u8 tn.w) := by simp [Heap.load, Heap.elem, hT, T.get_set, Ev.part, pa5]
  have hla : Heap.load Try.prog A 5 L.next 1 = some (.int .u8 tn.at_) := by simp [Heap.load, Heap.elem, hT, T.get_set, Ev.part, pa5]
  have hlS : Heap.load Try.prog A 9 L.next 3 = some (.str tn.s) := by simp [Heap.load, Heap.elem, hT, T.get_set, Ev.part, pa9]
  have hwa : IntKind.i64.wrap tn.at_ = tn.at_ := Go.IntWalk.i64_in _ (by have := hn.at_; omega)
  obtain ⟨i, hi, hrem⟩ := tmod_nat tn.at_ hn.at_.1 s.evs.length h1
  have hxi : s.evs[i]? = some s.evs[i] := by simp [hi]
  have hev := hr.ev _ (List.getElem_mem hi)
  have hl0 : ¬ (s.evs.length : Int) = 0 := by omega
  have htm := tmod_range tn.n 60 (by decide)
  obtain ⟨m, A', hsv, hst, hown, hnx, hkp⟩ := h.eo.set (sz := 9) (by decide) hxi (j := 7) (y := .int .i64 (tn.n.tmod 60)) (x' := { s.evs[i] with r4 := tn.n.tmod 60 }) rfl rfl (by decide) rfl
  have hix : Ev.indexAddr Try.prog 55 ev (.int .i64 (i : Int)) = some (.ptr m (i * 9)) := by
    rw [hsv]; simp [Ev.indexAddr, pt55, ps86, idx_nat, blt_dec, hi, guardO]
  obtain ⟨k1, hk1, hk1'⟩ := h.en
  have hts : TS L A' tn { s with evs := s.evs.set i { s.evs[i] with r4 := tn.n.tmod 60 } } sv ev := h.row rfl (h.so.still (by omega) fun m hm => hkp m (by rw [← hm]; exact fun e => h.se e.symm)) hown hnx fun n hlt => hkp n (by rw [hk1]; simp only [ne_eq, Option.some.injEq]; omega)
  have hnl : (s.evs.set i { s.evs[i] with r4 := tn.n.tmod 60 }).length = s.evs.length := List.length_set ..
  generalize (s.evs.length : Int) = ln at *
  refine ⟨A', _, hts, ⟨hr.r, hr.c, hr.ring, hr.g, hr.lv, mem_set hr.ev ⟨hev.k, hev.s, hev.lv, hev.t⟩, hr.ns, by simp only [hnl]; exact hr.ne, mem_set hr.tb (hr.tb s.evs[i] (List.getElem_mem hi))⟩, rfl, fun t t2 t3 t4 t5 => ?_⟩
  show ACode _ _ (Code.seq (Code.seq (Code.region _ _ _) _) (Code.seq (Code.region _ _ _) (Code.seq (Code.seq (Code.region _ _ _) (Code.block 1 _)) _))) _ _ _ _
  refine ACode.seq ?_
  refine ACode.seq (ACode.regS noT_ok names_ok mix (t' := ?_) (L' := ?_) [0, 1, 2, 3] (by rfl) ?_ ?_)
  rotate_left 2
  · iterate 4 (refine sq rfl rfl rfl (by simp [go_sem, xs, xe, xa, xi, xo, xb, xv, xc, xk, t3, hl9, hlen, hl0, Try.f32]; rfl) ?_)
    rfl
  refine ACode.condF (by simp [tget_set, opd]) (ACode.skip ?_)
  show ACode _ _ (Code.seq (Code.region _ _ _) (Code.seq (Code.seq (Code.region _ _ _) (Code.block 1 _)) _)) _ _ _ _
  refine ACode.seq (ACode.regD noT_ok names_ok mix (t' := ?_) (L' := ?_) [0,1,0,4,12,0,32,96,252,511,1023] [0,1,2,3,4,5,6,7,8,9,10] (by decide +kernel) (by decide +kernel) (by decide +kernel) ?_ ?_)
  rotate_left 2
  · refine dq rfl rfl rfl rfl (by simp [go_sem, xs, xe, xi, xo, xb, xv, xc, xk, t2, t3, hl9, hla, hlen, hl0, hwa, hrem, hix, Try.f32]; rfl) ?_
    refine dr rfl rfl rfl rfl (by simp [go_sem, xs, xe, xi, xo, xb, xv, xc, xk, t2, t3, hl9, hla, hlen, hl0, hwa, hrem, hix, Try.f32]; rfl) ?_
    refine dq rfl rfl rfl rfl (by simp [go_sem, xs, xe, xi, xo, xb, xv, xc, xk, t2, t3, hl9, hla, hlen, hl0, hwa, hrem, hix, Try.f32]; rfl) ?_
    iterate 2 (refine dr rfl rfl rfl rfl (by simp [go_sem, xs, xe, xi, xo, xb, xv, xc, xk, t2, t3, hl9, hla, hlen, hl0, hwa, hrem, hix, Try.f32]; rfl) ?_)
    refine dq rfl rfl rfl rfl (by simp [go_sem, xs, xe, xi, xo, xb, xv, xc, xk, t2, t3, hl9, hla, hlen, hl0, hwa, hrem, hix, Try.f32]; rfl) ?_
    iterate 2 (refine dr rfl rfl rfl rfl (by simp [go_sem, xs, xe, xi, xo, xb, xv, xc, xk, t2, t3, hl9, hla, hlen, hl0, hwa, hrem, hix, Try.f32]; rfl) ?_)
    iterate 3 (refine dq rfl rfl rfl rfl (by simp [go_sem, xs, xe, xi, xo, xb, xv, xc, xk, t2, t3, hl9, hla, hlen, hl0, hwa, hrem, hix, Try.f32]; rfl) ?_)
    rfl
  refine ACode.seq ?_
  refine ACode.seq (ACode.regS noT_ok names_ok mix (t' := ?_) (L' := ?_) [0, 1, 2] (by rfl) ?_ ?_)
  rotate_left 2
  · iterate 3 (refine sq rfl rfl rfl (by simp [go_sem, xs, xe, xa, xi, xo, xb, xq, xv, xc, xk, t2, hlw, Try.f32]; rfl) ?_)
    rfl
  refine ACode.block ?_
  refine ACode.seq (ACode.regS noT_ok names_ok mix (t' := ?_) (L' := ?_) [0, 1] (by rfl) ?_ ?_)
  rotate_left 2
  · iterate 2 (refine sq rfl rfl rfl (by simp [go_sem, X, hk, Try.f32]; rfl) ?_)
    rfl
  refine ACode.condF (by simp [tget_set, opd]) ?_
  refine ACode.seq (ACode.regS noT_ok names_ok mix (t' := ?_) (L' := ?_) [0, 1] (by rfl) ?_ ?_)
  rotate_left 2
  · iterate 2 (refine sq rfl rfl rfl (by simp [go_sem, X, hk, Try.f32]; rfl) ?_)
    rfl
  refine ACode.condF (by simp [tget_set, opd]) ?_
  refine ACode.seq (ACode.regS noT_ok names_ok mix (t' := ?_) (L' := ?_) [0, 1] (by rfl) ?_ ?_)
  rotate_left 2
  · iterate 2 (refine sq rfl rfl rfl (by simp [go_sem, X, hk, Try.f32]; rfl) ?_)
    rfl
  refine ACode.condF (by simp [tget_set, opd]) ?_
  refine ACode.seq (ACode.regS noT_ok names_ok mix (t' := ?_) (L' := ?_) [0, 1] (by rfl) ?_ ?_)
  rotate_left 2
  · iterate 2 (refine sq rfl rfl rfl (by simp [go_sem, X, hk, Try.f32]; rfl) ?_)
    rfl
  refine ACode.condF (by simp [tget_set, opd]) ?_
  refine ACode.seq (ACode.regS noT_ok names_ok mix (t' := ?_) (L' := ?_) [0, 1] (by rfl) ?_ ?_)
  rotate_left 2
  · iterate 2 (refine sq rfl rfl rfl (by simp [go_sem, X, hk, Try.f32]; rfl) ?_)
    rfl
  refine ACode.condF (by simp [tget_set, opd]) ?_
  refine ACode.seq (ACode.regS noT_ok names_ok mix (t' := ?_) (L' := ?_) [0, 1] (by rfl) ?_ ?_)
  rotate_left 2
  · iterate 2 (refine sq rfl rfl rfl (by simp [go_sem, X, hk, Try.f32]; rfl) ?_)
    rfl
  refine ACode.condT (by simp [tget_set, opd]) ?_
  refine ACode.regS noT_ok names_ok mix (t' := ?_) (L' := ?_) [0, 1, 2, 3, 4, 5, 6] (by rfl) ?_ ?_
  rotate_left 2
  · iterate 7 (refine sq rfl rfl rfl (by simp [go_sem, xe, xa, xi, xo, xb, xq, xv, xc, xk, t5, hst, Try.f32]; rfl) ?_)
    rfl
  show ACode _ _ (cSnd (cSnd (cSnd (cSnd sfx32)))) _ _ _ _
  exact tlast hts _ (by simp [tget_set, t3]) (by simp [tget_set, t4])
theorem tev_13 (h : TS L A tn s sv ev) (hn : TrnR tn) (hr : ScrR s) (h1 : 1 ≤ s.evs.length) (hk : tn.w.tmod 16 = 13) : EventT L A tn s sv ev := by
  have hT := h.tb
  have hS := h.sc
  unfold trnF at hT
  unfold scB Scr.cs scL at hS
  have hlen := (h.eo.slP ps86 pa86 (by decide) (fun _ => rfl)).len pt55
  have hl9 : Heap.load Try.prog A 55 (L.next + 1) 9 = some ev := by simp [Heap.load, Heap.elem, hS, T.get_set, Ev.part, pa55]
  have hlw : Heap.load Try.prog A 5 L.next 0 = some (.int .u8 tn.w) := by simp [Heap.load, Heap.elem, hT, T.get_set, Ev.part, pa5]
  have hla : Heap.load Try.prog A 5 L.next 1 = some (.int .u8 tn.at_) := by simp [Heap.load, Heap.elem, hT, T.get_set, Ev.part, pa5]
  have hlS : Heap.load Try.prog A 9 L.next 3 = some (.str tn.s) := by simp [Heap.load, Heap.elem, hT, T.get_set, Ev.part, pa9]
  have hwa : IntKind.i64.wrap tn.at_ = tn.at_ := Go.IntWalk.i64_in _ (by have := hn.at_; omega)
  obtain ⟨i, hi, hrem⟩ := tmod_nat tn.at_ hn.at_.1 s.evs.length h1
  have hxi : s.evs[i]? = some s.evs[i] := by simp [hi]
  have hev := hr.ev _ (List.getElem_mem hi)
  have hl0 : ¬ (s.evs.length : Int) = 0 := by omega
  have htm := tmod_range tn.n 10 (by decide)
  obtain ⟨m, A', hsv, hst, hown, hnx, hkp⟩ := h.eo.set (sz := 9) (by decide) hxi (j := 8) (y := .int .i64 (tn.n.tmod 10)) (x' := { s.evs[i] with w := tn.n.tmod 10 }) rfl rfl (by decide) rfl
  have hix : Ev.indexAddr Try.prog 55 ev (.int .i64 (i : Int)) = some (.ptr m (i * 9)) := by
    rw [hsv]; simp [Ev.indexAddr, pt55, ps86, idx_nat, blt_dec, hi, guardO]
  obtain ⟨k1, hk1, hk1'⟩ := h.en
  have hts : TS L A' tn { s with evs := s.evs.set i { s.evs[i] with w := tn.n.tmod 10 } } sv ev := h.row rfl (h.so.still (by omega) fun m hm => hkp m (by rw [← hm]; exact fun e => h.se e.symm)) hown hnx fun n hlt => hkp n (by rw [hk1]; simp only [ne_eq, Option.some.injEq]; omega)
  have hnl : (s.evs.set i { s.evs[i] with w := tn.n.tmod 10 }).length = s.evs.length := List.length_set ..
  generalize (s.evs.length : Int) = ln at *
  refine ⟨A', _, hts, ⟨hr.r, hr.c, hr.ring, hr.g, hr.lv, mem_set hr.ev ⟨hev.k, hev.s, hev.lv, hev.t⟩, hr.ns, by simp only [hnl]; exact hr.ne, mem_set hr.tb (hr.tb s.evs[i] (List.getElem_mem hi))⟩, rfl, fun t t2 t3 t4 t5 => ?_⟩
  show ACode _ _ (Code.seq (Code.seq (Code.region _ _ _) _) (Code.seq (Code.region _ _ _) (Code.seq (Code.seq (Code.region _ _ _) (Code.block 1 _)) _))) _ _ _ _
  refine ACode.seq ?_
  refine ACode.seq (ACode.regS noT_ok names_ok mix (t' := ?_) (L' := ?_) [0, 1, 2, 3] (by rfl) ?_ ?_)
  rotate_left 2
  · iterate 4 (refine sq rfl rfl rfl (by simp [go_sem, xs, xe, xa, xi, xo, xb, xv, xc, xk, t3, hl9, hlen, hl0, Try.f32]; rfl) ?_)
    rfl
  refine ACode.condF (by simp [tget_set, opd]) (ACode.skip ?_)
  show ACode _ _ (Code.seq (Code.region _ _ _) (Code.seq (Code.seq (Code.region _ _ _) (Code.block 1 _)) _)) _ _ _ _
  refine ACode.seq (ACode.regD noT_ok names_ok mix (t' := ?_) (L' := ?_) [0,1,0,4,12,0,32,96,252,511,1023] [0,1,2,3,4,5,6,7,8,9,10] (by decide +kernel) (by decide +kernel) (by decide +kernel) ?_ ?_)
  rotate_left 2
  · refine dq rfl rfl rfl rfl (by simp [go_sem, xs, xe, xi, xo, xb, xv, xc, xk, t2, t3, hl9, hla, hlen, hl0, hwa, hrem, hix, Try.f32]; rfl) ?_
    refine dr rfl rfl rfl rfl (by simp [go_sem, xs, xe, xi, xo, xb, xv, xc, xk, t2, t3, hl9, hla, hlen, hl0, hwa, hrem, hix, Try.f32]; rfl) ?_
    refine dq rfl rfl rfl rfl (by simp [go_sem, xs, xe, xi, xo, xb, xv, xc, xk, t2, t3, hl9, hla, hlen, hl0, hwa, hrem, hix, Try.f32]; rfl) ?_
    iterate 2 (refine dr rfl rfl rfl rfl (by simp [go_sem, xs, xe, xi, xo, xb, xv, xc, xk, t2, t3, hl9, hla, hlen, hl0, hwa, hrem, hix, Try.f32]; rfl) ?_)
    refine dq rfl rfl rfl rfl (by simp [go_sem, xs, xe, xi, xo, xb, xv, xc, xk, t2, t3, hl9, hla, hlen, hl0, hwa, hrem, hix, Try.f32]; rfl) ?_
    iterate 2 (refine dr rfl rfl rfl rfl (by simp [go_sem, xs, xe, xi, xo, xb, xv, xc, xk, t2, t3, hl9, hla, hlen, hl0, hwa, hrem, hix, Try.f32]; rfl) ?_)
    iterate 3 (refine dq rfl rfl rfl rfl (by simp [go_sem, xs, xe, xi, xo, xb, xv, xc, xk, t2, t3, hl9, hla, hlen, hl0, hwa, hrem, hix, Try.f32]; rfl) ?_)
    rfl
  refine ACode.seq ?_
  refine ACode.seq (ACode.regS noT_ok names_ok mix (t' := ?_) (L' := ?_) [0, 1, 2] (by rfl) ?_ ?_)
  rotate_left 2
  · iterate 3 (refine sq rfl rfl rfl (by simp [go_sem, xs, xe, xa, xi, xo, xb, xq, xv, xc, xk, t2, hlw, Try.f32]; rfl) ?_)
    rfl
  refine ACode.block ?_
  refine ACode.seq (ACode.regS noT_ok names_ok mix (t' := ?_) (L' := ?_) [0, 1] (by rfl) ?_ ?_)
  rotate_left 2
  · iterate 2 (refine sq rfl rfl rfl (by simp [go_sem, X, hk, Try.f32]; rfl) ?_)
    rfl
  refine ACode.condF (by simp [tget_set, opd]) ?_
  refine ACode.seq (ACode.regS noT_ok names_ok mix (t' := ?_) (L' := ?_) [0, 1] (by rfl) ?_ ?_)
  rotate_left 2
  · iterate 2 (refine sq rfl rfl rfl (by simp [go_sem, X, hk, Try.f32]; rfl) ?_)
    rfl
  refine ACode.condF (by simp [tget_set, opd]) ?_
  refine ACode.seq (ACode.regS noT_ok names_ok mix (t' := ?_) (L' := ?_) [0, 1] (by rfl) ?_ ?_)
  rotate_left 2
  · iterate 2 (refine sq rfl rfl rfl (by simp [go_sem, X, hk, Try.f32]; rfl) ?_)
    rfl
  refine ACode.condF (by simp [tget_set, opd]) ?_
  refine ACode.seq (ACode.regS noT_ok names_ok mix (t' := ?_) (L' := ?_) [0, 1] (by rfl) ?_ ?_)
  rotate_left 2
  · iterate 2 (refine sq rfl rfl rfl (by simp [go_sem, X, hk, Try.f32]; rfl) ?_)
    rfl
  refine ACode.condF (by simp [tget_set, opd]) ?_
  refine ACode.seq (ACode.regS noT_ok names_ok mix (t' := ?_) (L' := ?_) [0, 1] (by rfl) ?_ ?_)
  rotate_left 2
  · iterate 2 (refine sq rfl rfl rfl (by simp [go_sem, X, hk, Try.f32]; rfl) ?_)
    rfl
  refine ACode.condF (by simp [tget_set, opd]) ?_
  refine ACode.seq (ACode.regS noT_ok names_ok mix (t' := ?_) (L' := ?_) [0, 1] (by rfl) ?_ ?_)
  rotate_left 2
  · iterate 2 (refine sq rfl rfl rfl (by simp [go_sem, X, hk, Try.f32]; rfl) ?_)
    rfl
  refine ACode.condF (by simp [tget_set, opd]) ?_
  refine ACode.seq (ACode.regS noT_ok names_ok mix (t' := ?_) (L' := ?_) [0, 1] (by rfl) ?_ ?_)
  rotate_left 2
  · iterate 2 (refine sq rfl rfl rfl (by simp [go_sem, X, hk, Try.f32]; rfl) ?_)
    rfl
  refine ACode.condT (by simp [tget_set, opd]) ?_
  refine ACode.regS noT_ok names_ok mix (t' := ?_) (L' := ?_) [0, 1, 2, 3, 4, 5] (by rfl) ?_ ?_
  rotate_left 2
  · iterate 6 (refine sq rfl rfl rfl (by simp [go_sem, xe, xa, xi, xo, xb, xq, xv, xc, xk, t5, hst, Try.f32]; rfl) ?_)
    rfl
  show ACode _ _ (cSnd (cSnd (cSnd (cSnd sfx32)))) _ _ _ _
  exact tlast hts _ (by simp [tget_set, t3]) (by simp [tget_set, t4])
theorem tev_14 (h : TS L A tn s sv ev) (hn : TrnR tn) (hr : ScrR s) (h1 : 1 ≤ s.evs.length) (hk : tn.w.tmod 16 = 14) : EventT L A tn s sv ev := by
  have hT := h.tb
  have hS := h.sc
  unfold trnF at hT
  unfold scB Scr.cs scL at hS
  have hlen := (h.eo.slP ps86 pa86 (by decide) (fun _ => rfl)).len pt55
  have hl9 : Heap.load Try.prog A 55 (L.next + 1) 9 = some ev := by simp [Heap.load, Heap.elem, hS, T.get_set, Ev.part, pa55]
  have hlw : Heap.load Try.prog A 5 L.next 0 = some (.int .u8 tn.w) := by simp [Heap.load, Heap.elem, hT, T.get_set, Ev.part, pa5]
  have hla : Heap.load Try.prog A 5 L.next 1 = some (.int .u8 tn.at_) := by simp [Heap.load, Heap.elem, hT, T.get_set, Ev.part, pa5]
  have hlS : Heap.load Try.prog A 9 L.next 3 = some (.str tn.s) := by simp [Heap.load, Heap.elem, hT, T.get_set, Ev.part, pa9]
  have hwa : IntKind.i64.wrap tn.at_ = tn.at_ := Go.IntWalk.i64_in _ (by have := hn.at_; omega)
  obtain ⟨i, hi, hrem⟩ := tmod_nat tn.at_ hn.at_.1 s.evs.length h1
  have hxi : s.evs[i]? = some s.evs[i] := by simp [hi]
  have hev := hr.ev _ (List.getElem_mem hi)
  have hl0 : ¬ (s.evs.length : Int) = 0 := by omega
  have htm := tmod_range tn.n 3 (by decide)
  obtain ⟨m, A', hsv, hst, hown, hnx, hkp⟩ := h.eo.set (sz := 9) (by decide) hxi (j := 5) (y := .int .i64 (tn.n.tmod 3)) (x' := { s.evs[i] with r2 := tn.n.tmod 3 }) rfl rfl (by decide) rfl
  have hix : Ev.indexAddr Try.prog 55 ev (.int .i64 (i : Int)) = some (.ptr m (i * 9)) := by
    rw [hsv]; simp [Ev.indexAddr, pt55, ps86, idx_nat, blt_dec, hi, guardO]
  obtain ⟨k1, hk1, hk1'⟩ := h.en
  have hts : TS L A' tn { s with evs := s.evs.set i { s.evs[i] with r2 := tn.n.tmod 3 } } sv ev := h.row rfl (h.so.still (by omega) fun m hm => hkp m (by rw [← hm]; exact fun e => h.se e.symm)) hown hnx fun n hlt => hkp n (by rw [hk1]; simp only [ne_eq, Option.some.injEq]; omega)
  have hnl : (s.evs.set i { s.evs[i] with r2 := tn.n.tmod 3 }).length = s.evs.length := List.length_set ..
  generalize (s.evs.length : Int) = ln at *
  refine ⟨A', _, hts, ⟨hr.r, hr.c, hr.ring, hr.g, hr.lv, mem_set hr.ev ⟨hev.k, hev.s, hev.lv, hev.t⟩, hr.ns, by simp only [hnl]; exact hr.ne, mem_set hr.tb (hr.tb s.evs[i] (List.getElem_mem hi))⟩, rfl, fun t t2 t3 t4 t5 => ?_⟩
  show ACode _ _ (Code.seq (Code.seq (Code.region _ _ _) _) (Code.seq (Code.region _ _ _) (Code.seq (Code.seq (Code.region _ _ _) (Code.block 1 _)) _))) _ _ _ _
  refine ACode.seq ?_
  refine ACode.seq (ACode.regS noT_ok names_ok mix (t' := ?_) (L' := ?_) [0, 1, 2, 3] (by rfl) ?_ ?_)
  rotate_left 2
  · iterate 4 (refine sq rfl rfl rfl (by simp [go_sem, xs, xe, xa, xi, xo, xb, xv, xc, xk, t3, hl9, hlen, hl0, Try.f32]; rfl) ?_)
    rfl
  refine ACode.condF (by simp [tget_set, opd]) (ACode.skip ?_)
  show ACode _ _ (Code.seq (Code.region _ _ _) (Code.seq (Code.seq (Code.region _ _ _) (Code.block 1 _)) _)) _ _ _ _
  refine ACode.seq (ACode.regD noT_ok names_ok mix (t' := ?_) (L' := ?_) [0,1,0,4,12,0,32,96,252,511,1023] [0,1,2,3,4,5,6,7,8,9,10] (by decide +kernel) (by decide +kernel) (by decide +kernel) ?_ ?_)
  rotate_left 2
  · refine dq rfl rfl rfl rfl (by simp [go_sem, xs, xe, xi, xo, xb, xv, xc, xk, t2, t3, hl9, hla, hlen, hl0, hwa, hrem, hix, Try.f32]; rfl) ?_
    refine dr rfl rfl rfl rfl (by simp [go_sem, xs, xe, xi, xo, xb, xv, xc, xk, t2, t3, hl9, hla, hlen, hl0, hwa, hrem, hix, Try.f32]; rfl) ?_
    refine dq rfl rfl rfl rfl (by simp [go_sem, xs, xe, xi, xo, xb, xv, xc, xk, t2, t3, hl9, hla, hlen, hl0, hwa, hrem, hix, Try.f32]; rfl) ?_
    iterate 2 (refine dr rfl rfl rfl rfl (by simp [go_sem, xs, xe, xi, xo, xb, xv, xc, xk, t2, t3, hl9, hla, hlen, hl0, hwa, hrem, hix, Try.f32]; rfl) ?_)
    refine dq rfl rfl rfl rfl (by simp [go_sem, xs, xe, xi, xo, xb, xv, xc, xk, t2, t3, hl9, hla, hlen, hl0, hwa, hrem, hix, Try.f32]; rfl) ?_
    iterate 2 (refine dr rfl rfl rfl rfl (by simp [go_sem, xs, xe, xi, xo, xb, xv, xc, xk, t2, t3, hl9, hla, hlen, hl0, hwa, hrem, hix, Try.f32]; rfl) ?_)
    iterate 3 (refine dq rfl rfl rfl rfl (by simp [go_sem, xs, xe, xi, xo, xb, xv, xc, xk, t2, t3, hl9, hla, hlen, hl0, hwa, hrem, hix, Try.f32]; rfl) ?_)
    rfl
  refine ACode.seq ?_
  refine ACode.seq (ACode.regS noT_ok names_ok mix (t' := ?_) (L' := ?_) [0, 1, 2] (by rfl) ?_ ?_)
  rotate_left 2
  · iterate 3 (refine sq rfl rfl rfl (by simp [go_sem, xs, xe, xa, xi, xo, xb, xq, xv, xc, xk, t2, hlw, Try.f32]; rfl) ?_)
    rfl
  refine ACode.block ?_
  refine ACode.seq (ACode.regS noT_ok names_ok mix (t' := ?_) (L' := ?_) [0, 1] (by rfl) ?_ ?_)
  rotate_left 2
  · iterate 2 (refine sq rfl rfl rfl (by simp [go_sem, X, hk, Try.f32]; rfl) ?_)
    rfl
  refine ACode.condF (by simp [tget_set, opd]) ?_
  refine ACode.seq (ACode.regS noT_ok names_ok mix (t' := ?_) (L' := ?_) [0, 1] (by rfl) ?_ ?_)
  rotate_left 2
  · iterate 2 (refine sq rfl rfl rfl (by simp [go_sem, X, hk, Try.f32]; rfl) ?_)
    rfl
  refine ACode.condF (by simp [tget_set, opd]) ?_
  refine ACode.seq (ACode.regS noT_ok names_ok mix (t' := ?_) (L' := ?_) [0, 1] (by rfl) ?_ ?_)
  rotate_left 2
  · iterate 2 (refine sq rfl rfl rfl (by simp [go_sem, X, hk, Try.f32]; rfl) ?_)
    rfl
  refine ACode.condF (by simp [tget_set, opd]) ?_
  refine ACode.seq (ACode.regS noT_ok names_ok mix (t' := ?_) (L' := ?_) [0, 1] (by rfl) ?_ ?_)
  rotate_left 2
  · iterate 2 (refine sq rfl rfl rfl (by simp [go_sem, X, hk, Try.f32]; rfl) ?_)
    rfl
  refine ACode.condF (by simp [tget_set, opd]) ?_
  refine ACode.seq (ACode.regS noT_ok names_ok mix (t' := ?_) (L' := ?_) [0, 1] (by rfl) ?_ ?_)
  rotate_left 2
  · iterate 2 (refine sq rfl rfl rfl (by simp [go_sem, X, hk, Try.f32]; rfl) ?_)
    rfl
  refine ACode.condF (by simp [tget_set, opd]) ?_
  refine ACode.seq (ACode.regS noT_ok names_ok mix (t' := ?_) (L' := ?_) [0, 1] (by rfl) ?_ ?_)
  rotate_left 2
  · iterate 2 (refine sq rfl rfl rfl (by simp [go_sem, X, hk, Try.f32]; rfl) ?_)
    rfl
  refine ACode.condF (by simp [tget_set, opd]) ?_
  refine ACode.seq (ACode.regS noT_ok names_ok mix (t' := ?_) (L' := ?_) [0, 1] (by rfl) ?_ ?_)
  rotate_left 2
  · iterate 2 (refine sq rfl rfl rfl (by simp [go_sem, X, hk, Try.f32]; rfl) ?_)
    rfl
  refine ACode.condF (by simp [tget_set, opd]) ?_
  refine ACode.seq (ACode.regS noT_ok names_ok mix (t' := ?_) (L' := ?_) [0, 1] (by rfl) ?_ ?_)
  rotate_left 2
  · iterate 2 (refine sq rfl rfl rfl (by simp [go_sem, X, hk, Try.f32]; rfl) ?_)
    rfl
  refine ACode.condT (by simp [tget_set, opd]) ?_
  refine ACode.regS noT_ok names_ok mix (t' := ?_) (L' := ?_) [0, 1, 2, 3, 4, 5, 6] (by rfl) ?_ ?_
  rotate_left 2
  · iterate 7 (refine sq rfl rfl rfl (by simp [go_sem, xe, xa, xi, xo, xb, xq, xv, xc, xk, t5, hst, Try.f32]; rfl) ?_)
    rfl
  show ACode _ _ (cSnd (cSnd (cSnd (cSnd sfx32)))) _ _ _ _
  exact tlast hts _ (by simp [tget_set, t3]) (by simp [tget_set, t4])
theorem tev_15 (h : TS L A tn s sv ev) (hn : TrnR tn) (hr : ScrR s) (h1 : 1 ≤ s.evs.length) (hk : tn.w.tmod 16 = 15) : EventT L A tn s sv ev := by
  have hT := h.tb
  have hS := h.sc
  unfold trnF at hT
  unfold scB Scr.cs scL at hS
  have hlen := (h.eo.slP ps86 pa86 (by decide) (fun _ => rfl)).len pt55
  have hl9 : Heap.load Try.prog A 55 (L.next + 1) 9 = some ev := by simp [Heap.load, Heap.elem, hS, T.get_set, Ev.part, pa55]
  have hlw : Heap.load Try.prog A 5 L.next 0 = some (.int .u8 tn.w) := by simp [Heap.load, Heap.elem, hT, T.get_set, Ev.part, pa5]
  have hla : Heap.load Try.prog A 5 L.next 1 = some (.int .u8 tn.at_) := by simp [Heap.load, Heap.elem, hT, T.get_set, Ev.part, pa5]
  have hlS : Heap.load Try.prog A 9 L.next 3 = some (.str tn.s) := by simp [Heap.load, Heap.elem, hT, T.get_set, Ev.part, pa9]
  have hwa : IntKind.i64.wrap tn.at_ = tn.at_ := Go.IntWalk.i64_in _ (by have := hn.at_; omega)
  obtain ⟨i, hi, hrem⟩ := tmod_nat tn.at_ hn.at_.1 s.evs.length h1
  have hxi : s.evs[i]? = some s.evs[i] := by simp [hi]
  have hev := hr.ev _ (List.getElem_mem hi)
  have hl0 : ¬ (s.evs.length : Int) = 0 := by omega
  have htm := tmod_range tn.n 20 (by decide)
  obtain ⟨m, A', hsv, hst, hown, hnx, hkp⟩ := h.eo.set (sz := 9) (by decide) hxi (j := 6) (y := .int .i64 (tn.n.tmod 20)) (x' := { s.evs[i] with r3 := tn.n.tmod 20 }) rfl rfl (by decide) rfl
  have hix : Ev.indexAddr Try.prog 55 ev (.int .i64 (i : Int)) = some (.ptr m (i * 9)) := by
    rw [hsv]; simp [Ev.indexAddr, pt55, ps86, idx_nat, blt_dec, hi, guardO]
  obtain ⟨k1, hk1, hk1'⟩ := h.en
  have hts : TS L A' tn { s with evs := s.evs.set i { s.evs[i] with r3 := tn.n.tmod 20 } } sv ev := h.row rfl (h.so.still (by omega) fun m hm => hkp m (by rw [← hm]; exact fun e => h.se e.symm)) hown hnx fun n hlt => hkp n (by rw [hk1]; simp only [ne_eq, Option.some.injEq]; omega)
  have hnl : (s.evs.set i { s.evs[i] with r3 := tn.n.tmod 20 }).length = s.evs.length := List.length_set ..
  generalize (s.evs.length : Int) = ln at *
  refine ⟨A', _, hts, ⟨hr.r, hr.c, hr.ring, hr.g, hr.lv, mem_set hr.ev ⟨hev.k, hev.s, hev.lv, hev.t⟩, hr.ns, by simp only [hnl]; exact hr.ne, mem_set hr.tb (hr.tb s.evs[i] (List.getElem_mem hi))⟩, rfl, fun t t2 t3 t4 t5 => ?_⟩
  show ACode _ _ (Code.seq (Code.seq (Code.region _ _ _) _) (Code.seq (Code.region _ _ _) (Code.seq (Code.seq (Code.region _ _ _) (Code.block 1 _)) _))) _ _ _ _
  refine ACode.seq ?_
  refine ACode.seq (ACode.regS noT_ok names_ok mix (t' := ?_) (L' := ?_) [0, 1, 2, 3] (by rfl) ?_ ?_)
  rotate_left 2
  · iterate 4 (refine sq rfl rfl rfl (by simp [go_sem, xs, xe, xa, xi, xo, xb, xv, xc, xk, t3, hl9, hlen, hl0, Try.f32]; rfl) ?_)
    rfl
  refine ACode.condF (by simp [tget_set, opd]) (ACode.skip ?_)
  show ACode _ _ (Code.seq (Code.region _ _ _) (Code.seq (Code.seq (Code.region _ _ _) (Code.block 1 _)) _)) _ _ _ _
  refine ACode.seq (ACode.regD noT_ok names_ok mix (t' := ?_) (L' := ?_) [0,1,0,4,12,0,32,96,252,511,1023] [0,1,2,3,4,5,6,7,8,9,10] (by decide +kernel) (by decide +kernel) (by decide +kernel) ?_ ?_)
  rotate_left 2
  · refine dq rfl rfl rfl rfl (by simp [go_sem, xs, xe, xi, xo, xb, xv, xc, xk, t2, t3, hl9, hla, hlen, hl0, hwa, hrem, hix, Try.f32]; rfl) ?_
    refine dr rfl rfl rfl rfl (by simp [go_sem, xs, xe, xi, xo, xb, xv, xc, xk, t2, t3, hl9, hla, hlen, hl0, hwa, hrem, hix, Try.f32]; rfl) ?_
    refine dq rfl rfl rfl rfl (by simp [go_sem, xs, xe, xi, xo, xb, xv, xc, xk, t2, t3, hl9, hla, hlen, hl0, hwa, hrem, hix, Try.f32]; rfl) ?_
    iterate 2 (refine dr rfl rfl rfl rfl (by simp [go_sem, xs, xe, xi, xo, xb, xv, xc, xk, t2, t3, hl9, hla, hlen, hl0, hwa, hrem, hix, Try.f32]; rfl) ?_)
    refine dq rfl rfl rfl rfl (by simp [go_sem, xs, xe, xi, xo, xb, xv, xc, xk, t2, t3, hl9, hla, hlen, hl0, hwa, hrem, hix, Try.f32]; rfl) ?_
    iterate 2 (refine dr rfl rfl rfl rfl (by simp [go_sem, xs, xe, xi, xo, xb, xv, xc, xk, t2, t3, hl9, hla, hlen, hl0, hwa, hrem, hix, Try.f32]; rfl) ?_)
    iterate 3 (refine dq rfl rfl rfl rfl (by simp [go_sem, xs, xe, xi, xo, xb, xv, xc, xk, t2, t3, hl9, hla, hlen, hl0, hwa, hrem, hix, Try.f32]; rfl) ?_)
    rfl
  refine ACode.seq ?_
  refine ACode.seq (ACode.regS noT_ok names_ok mix (t' := ?_) (L' := ?_) [0, 1, 2] (by rfl) ?_ ?_)
  rotate_left 2
  · iterate 3 (refine sq rfl rfl rfl (by simp [go_sem, xs, xe, xa, xi, xo, xb, xq, xv, xc, xk, t2, hlw, Try.f32]; rfl) ?_)
    rfl
  refine ACode.block ?_
  refine ACode.seq (ACode.regS noT_ok names_ok mix (t' := ?_) (L' := ?_) [0, 1] (by rfl) ?_ ?_)
  rotate_left 2
  · iterate 2 (refine sq rfl rfl rfl (by simp [go_sem, X, hk, Try.f32]; rfl) ?_)
    rfl
  refine ACode.condF (by simp [tget_set, opd]) ?_
  refine ACode.seq (ACode.regS noT_ok names_ok mix (t' := ?_) (L' := ?_) [0, 1] (by rfl) ?_ ?_)
  rotate_left 2
  · iterate 2 (refine sq rfl rfl rfl (by simp [go_sem, X, hk, Try.f32]; rfl) ?_)
    rfl
  refine ACode.condF (by simp [tget_set, opd]) ?_
  refine ACode.seq (ACode.regS noT_ok names_ok mix (t' := ?_) (L' := ?_) [0, 1] (by rfl) ?_ ?_)
  rotate_left 2
  · iterate 2 (refine sq rfl rfl rfl (by simp [go_sem, X, hk, Try.f32]; rfl) ?_)
    rfl
  refine ACode.condF (by simp [tget_set, opd]) ?_
  refine ACode.seq (ACode.regS noT_ok names_ok mix (t' := ?_) (L' := ?_) [0, 1] (by rfl) ?_ ?_)
  rotate_left 2
  · iterate 2 (refine sq rfl rfl rfl (by simp [go_sem, X, hk, Try.f32]; rfl) ?_)
    rfl
  refine ACode.condF (by simp [tget_set, opd]) ?_
  refine ACode.seq (ACode.regS noT_ok names_ok mix (t' := ?_) (L' := ?_) [0, 1] (by rfl) ?_ ?_)
  rotate_left 2
  · iterate 2 (refine sq rfl rfl rfl (by simp [go_sem, X, hk, Try.f32]; rfl) ?_)
    rfl
  refine ACode.condF (by simp [tget_set, opd]) ?_
  refine ACode.seq (ACode.regS noT_ok names_ok mix (t' := ?_) (L' := ?_) [0, 1] (by rfl) ?_ ?_)
  rotate_left 2
  · iterate 2 (refine sq rfl rfl rfl (by simp [go_sem, X, hk, Try.f32]; rfl) ?_)
    rfl
  refine ACode.condF (by simp [tget_set, opd]) ?_
  refine ACode.seq (ACode.regS noT_ok names_ok mix (t' := ?_) (L' := ?_) [0, 1] (by rfl) ?_ ?_)
  rotate_left 2
  · iterate 2 (refine sq rfl rfl rfl (by simp [go_sem, X, hk, Try.f32]; rfl) ?_)
    rfl
  refine ACode.condF (by simp [tget_set, opd]) ?_
  refine ACode.seq (ACode.regS noT_ok names_ok mix (t' := ?_) (L' := ?_) [0, 1] (by rfl) ?_ ?_)
  rotate_left 2
  · iterate 2 (refine sq rfl rfl rfl (by simp [go_sem, X, hk, Try.f32]; rfl) ?_)
    rfl
  refine ACode.condF (by simp [tget_set, opd]) ?_
  refine ACode.seq (ACode.regS noT_ok names_ok mix (t' := ?_) (L' := ?_) [0, 1] (by rfl) ?_ ?_)
  rotate_left 2
  · iterate 2 (refine sq rfl rfl rfl (by simp [go_sem, X, hk, Try.f32]; rfl) ?_)
    rfl
  refine ACode.condT (by simp [tget_set, opd]) ?_
  refine ACode.regS noT_ok names_ok mix (t' := ?_) (L' := ?_) [0, 1, 2, 3, 4, 5, 6] (by rfl) ?_ ?_
  rotate_left 2
  · iterate 7 (refine sq rfl rfl rfl (by simp [go_sem, xe, xa, xi, xo, xb, xq, xv, xc, xk, t5, hst, Try.f32]; rfl) ?_)
    rfl
  show ACode _ _ (cSnd (cSnd (cSnd (cSnd sfx32)))) _ _ _ _
  exact tlast hts _ (by simp [tget_set, t3]) (by simp [tget_set, t4])
theorem tev_x (h : TS L A tn s sv ev) (hn : TrnR tn) (hr : ScrR s) (h1 : 1 ≤ s.evs.length) (k7 : ¬ tn.w.tmod 16 = 7) (k8 : ¬ tn.w.tmod 16 = 8) (k9 : ¬ tn.w.tmod 16 = 9) (k10 : ¬ tn.w.tmod 16 = 10) (k11 : ¬ tn.w.tmod 16 = 11) (k12 : ¬ tn.w.tmod 16 = 12) (k13 : ¬ tn.w.tmod 16 = 13) (k14 : ¬ tn.w.tmod 16 = 14) (k15 : ¬ tn.w.tmod 16 = 15) : EventT L A tn s sv ev := by
  have hT := h.tb
  have hS := h.sc
  unfold trnF at hT
  unfold scB Scr.cs scL at hS
  have hlen := (h.eo.slP ps86 pa86 (by decide) (fun _ => rfl)).len pt55
  have hl9 : Heap.load Try.prog A 55 (L.next + 1) 9 = some ev := by simp [Heap.load, Heap.elem, hS, T.get_set, Ev.part, pa55]
  have hlw : Heap.load Try.prog A 5 L.next 0 = some (.int .u8 tn.w) := by simp [Heap.load, Heap.elem, hT, T.get_set, Ev.part, pa5]
  have hla : Heap.load Try.prog A 5 L.next 1 = some (.int .u8 tn.at_) := by simp [Heap.load, Heap.elem, hT, T.get_set, Ev.part, pa5]
  have hlS : Heap.load Try.prog A 9 L.next 3 = some (.str tn.s) := by simp [Heap.load, Heap.elem, hT, T.get_set, Ev.part, pa9]
  have hwa : IntKind.i64.wrap tn.at_ = tn.at_ := Go.IntWalk.i64_in _ (by have := hn.at_; omega)
  obtain ⟨i, hi, hrem⟩ := tmod_nat tn.at_ hn.at_.1 s.evs.length h1
  have hxi : s.evs[i]? = some s.evs[i] := by simp [hi]
  have hev := hr.ev _ (List.getElem_mem hi)
  have hl0 : ¬ (s.evs.length : Int) = 0 := by omega
  have hix : ∃ m o, Ev.indexAddr Try.prog 55 ev (.int .i64 (i : Int)) = some (.ptr m o) := by
    obtain ⟨n1, off, _, hx, _⟩ := (h.eo.slP ps86 pa86 (by decide) (fun _ => rfl)).at' pt55 ps86 hxi
    exact ⟨n1, off, hx⟩
  obtain ⟨m, o, hix⟩ := hix
  generalize (s.evs.length : Int) = ln at *
  refine ⟨A, s, h, hr, rfl, fun t t2 t3 t4 t5 => ?_⟩
  show ACode _ _ (Code.seq (Code.seq (Code.region _ _ _) _) (Code.seq (Code.region _ _ _) (Code.seq (Code.seq (Code.region _ _ _) (Code.block 1 _)) _))) _ _ _ _
  refine ACode.seq ?_
  refine ACode.seq (ACode.regS noT_ok names_ok mix (t' := ?_) (L' := ?_) [0, 1, 2, 3] (by rfl) ?_ ?_)
  rotate_left 2
  · iterate 4 (refine sq rfl rfl rfl (by simp [go_sem, xs, xe, xa, xi, xo, xb, xv, xc, xk, t3, hl9, hlen, hl0, Try.f32]; rfl) ?_)
    rfl
  refine ACode.condF (by simp [tget_set, opd]) (ACode.skip ?_)
  show ACode _ _ (Code.seq (Code.region _ _ _) (Code.seq (Code.seq (Code.region _ _ _) (Code.block 1 _)) _)) _ _ _ _
  refine ACode.seq (ACode.regD noT_ok names_ok mix (t' := ?_) (L' := ?_) [0,1,0,4,12,0,32,96,252,511,1023] [0,1,2,3,4,5,6,7,8,9,10] (by decide +kernel) (by decide +kernel) (by decide +kernel) ?_ ?_)
  rotate_left 2
  · refine dq rfl rfl rfl rfl (by simp [go_sem, xs, xe, xi, xo, xb, xv, xc, xk, t2, t3, hl9, hla, hlen, hl0, hwa, hrem, hix, Try.f32]; rfl) ?_
    refine dr rfl rfl rfl rfl (by simp [go_sem, xs, xe, xi, xo, xb, xv, xc, xk, t2, t3, hl9, hla, hlen, hl0, hwa, hrem, hix, Try.f32]; rfl) ?_
    refine dq rfl rfl rfl rfl (by simp [go_sem, xs, xe, xi, xo, xb, xv, xc, xk, t2, t3, hl9, hla, hlen, hl0, hwa, hrem, hix, Try.f32]; rfl) ?_
    iterate 2 (refine dr rfl rfl rfl rfl (by simp [go_sem, xs, xe, xi, xo, xb, xv, xc, xk, t2, t3, hl9, hla, hlen, hl0, hwa, hrem, hix, Try.f32]; rfl) ?_)
    refine dq rfl rfl rfl rfl (by simp [go_sem, xs, xe, xi, xo, xb, xv, xc, xk, t2, t3, hl9, hla, hlen, hl0, hwa, hrem, hix, Try.f32]; rfl) ?_
    iterate 2 (refine dr rfl rfl rfl rfl (by simp [go_sem, xs, xe, xi, xo, xb, xv, xc, xk, t2, t3, hl9, hla, hlen, hl0, hwa, hrem, hix, Try.f32]; rfl) ?_)
    iterate 3 (refine dq rfl rfl rfl rfl (by simp [go_sem, xs, xe, xi, xo, xb, xv, xc, xk, t2, t3, hl9, hla, hlen, hl0, hwa, hrem, hix, Try.f32]; rfl) ?_)
    rfl
  refine ACode.seq ?_
  refine ACode.seq (ACode.regS noT_ok names_ok mix (t' := ?_) (L' := ?_) [0, 1, 2] (by rfl) ?_ ?_)
  rotate_left 2
  · iterate 3 (refine sq rfl rfl rfl (by simp [go_sem, xs, xe, xa, xi, xo, xb, xq, xv, xc, xk, t2, hlw, Try.f32]; rfl) ?_)
    rfl
  refine ACode.block ?_
  refine ACode.seq (ACode.regS noT_ok names_ok mix (t' := ?_) (L' := ?_) [0, 1] (by rfl) ?_ ?_)
  rotate_left 2
  · iterate 2 (refine sq rfl rfl rfl (by simp [go_sem, X, k7, k8, k9, k10, k11, k12, k13, k14, k15, Try.f32]; rfl) ?_)
    rfl
  refine ACode.condF (by simp [tget_set, opd]) ?_
  refine ACode.seq (ACode.regS noT_ok names_ok mix (t' := ?_) (L' := ?_) [0, 1] (by rfl) ?_ ?_)
  rotate_left 2
  · iterate 2 (refine sq rfl rfl rfl (by simp [go_sem, X, k7, k8, k9, k10, k11, k12, k13, k14, k15, Try.f32]; rfl) ?_)
    rfl
  refine ACode.condF (by simp [tget_set, opd]) ?_
  refine ACode.seq (ACode.regS noT_ok names_ok mix (t' := ?_) (L' := ?_) [0, 1] (by rfl) ?_ ?_)
  rotate_left 2
  · iterate 2 (refine sq rfl rfl rfl (by simp [go_sem, X, k7, k8, k9, k10, k11, k12, k13, k14, k15, Try.f32]; rfl) ?_)
    rfl
  refine ACode.condF (by simp [tget_set, opd]) ?_
  refine ACode.seq (ACode.regS noT_ok names_ok mix (t' := ?_) (L' := ?_) [0, 1] (by rfl) ?_ ?_)
  rotate_left 2
  · iterate 2 (refine sq rfl rfl rfl (by simp [go_sem, X, k7, k8, k9, k10, k11, k12, k13, k14, k15, Try.f32]; rfl) ?_)
    rfl
  refine ACode.condF (by simp [tget_set, opd]) ?_
  refine ACode.seq (ACode.regS noT_ok names_ok mix (t' := ?_) (L' := ?_) [0, 1] (by rfl) ?_ ?_)
  rotate_left 2
  · iterate 2 (refine sq rfl rfl rfl (by simp [go_sem, X, k7, k8, k9, k10, k11, k12, k13, k14, k15, Try.f32]; rfl) ?_)
    rfl
  refine ACode.condF (by simp [tget_set, opd]) ?_
  refine ACode.seq (ACode.regS noT_ok names_ok mix (t' := ?_) (L' := ?_) [0, 1] (by rfl) ?_ ?_)
  rotate_left 2
  · iterate 2 (refine sq rfl rfl rfl (by simp [go_sem, X, k7, k8, k9, k10, k11, k12, k13, k14, k15, Try.f32]; rfl) ?_)
    rfl
  refine ACode.condF (by simp [tget_set, opd]) ?_
  refine ACode.seq (ACode.regS noT_ok names_ok mix (t' := ?_) (L' := ?_) [0, 1] (by rfl) ?_ ?_)
  rotate_left 2
  · iterate 2 (refine sq rfl rfl rfl (by simp [go_sem, X, k7, k8, k9, k10, k11, k12, k13, k14, k15, Try.f32]; rfl) ?_)
    rfl
  refine ACode.condF (by simp [tget_set, opd]) ?_
  refine ACode.seq (ACode.regS noT_ok names_ok mix (t' := ?_) (L' := ?_) [0, 1] (by rfl) ?_ ?_)
  rotate_left 2
  · iterate 2 (refine sq rfl rfl rfl (by simp [go_sem, X, k7, k8, k9, k10, k11, k12, k13, k14, k15, Try.f32]; rfl) ?_)
    rfl
  refine ACode.condF (by simp [tget_set, opd]) ?_
  refine ACode.seq (ACode.regS noT_ok names_ok mix (t' := ?_) (L' := ?_) [0, 1] (by rfl) ?_ ?_)
  rotate_left 2
  · iterate 2 (refine sq rfl rfl rfl (by simp [go_sem, X, k7, k8, k9, k10, k11, k12, k13, k14, k15, Try.f32]; rfl) ?_)
    rfl
  refine ACode.condF (by simp [tget_set, opd]) ?_
  refine ACode.skip ?_
  show ACode _ _ (cSnd (cSnd (cSnd (cSnd sfx32)))) _ _ _ _
  exact tlast h _ (by simp [tget_set, t3]) (by simp [tget_set, t4])
theorem tevent (h : TS L A tn s sv ev) (hn : TrnR tn) (hr : ScrR s) : EventT L A tn s sv ev := by
  by_cases h0 : s.evs.length = 0
  · exact tev_0 h hn hr h0
  have h1 : 1 ≤ s.evs.length := by omega
  by_cases k7 : tn.w.tmod 16 = 7
  · exact tev_7 h hn hr h1 k7
  by_cases k8 : tn.w.tmod 16 = 8
  · exact tev_8 h hn hr h1 k8
  by_cases k9 : tn.w.tmod 16 = 9
  · exact tev_9 h hn hr h1 k9
  by_cases k10 : tn.w.tmod 16 = 10
  · exact tev_10 h hn hr h1 k10
  by_cases k11 : tn.w.tmod 16 = 11
  · exact tev_11 h hn hr h1 k11
  by_cases k12 : tn.w.tmod 16 = 12
  · exact tev_12 h hn hr h1 k12
  by_cases k13 : tn.w.tmod 16 = 13
  · exact tev_13 h hn hr h1 k13
  by_cases k14 : tn.w.tmod 16 = 14
  · exact tev_14 h hn hr h1 k14
  by_cases k15 : tn.w.tmod 16 = 15
  · exact tev_15 h hn hr h1 k15
  exact tev_x h hn hr h1 k7 k8 k9 k10 k11 k12 k13 k14 k15
/-- a script is turned -/
theorem turned_ok (h : ScS L s sv ev) (hn : TrnR tn) (hr : ScrR s) (h1 : 1 ≤ s.srcs.length) : ∃ L' s' sv' ev', ACall Try.prog 32 [.agg (trnF tn), .agg (s.cs sv ev)] L (.agg (s'.cs sv' ev')) L' ∧ ScS L' s' sv' ev' ∧ ScrR s' ∧ (∀ m, nmP sv' = some m → L.next ≤ m) ∧ (∀ m, nmP ev' = some m → L.next ≤ m) ∧ L.next ≤ L'.next ∧ ∀ n, n < L.next → L'.t.get n = L.t.get n := by
  obtain ⟨A1, sv1, ev1, hts1, hpre⟩ := turned_pre h hn
  obtain ⟨A2, s2, sv2, hts2, hr2, hset⟩ := tsetup hts1 hn hr h1
  obtain ⟨A3, s3, hts3, hr3, hs3, hevt⟩ := tevent hts2 hn hr2
  have hn3 := hts3.nx
  have g : ∀ n, n ≠ L.next + 2 → (⟨A3.t.set (L.next + 2) (scB (s3.cs sv2 ev1)), A3.next⟩ : Heap).t.get n = A3.t.get n := fun n hlt => T.get_set_ne _ _ hlt
  refine ⟨⟨A3.t.set (L.next + 2) (scB (s3.cs sv2 ev1)), A3.next⟩, s3, sv2, ev1, ?_, ⟨?_, ?_, by have := hr3.ns; omega, by have := hr3.ne; omega⟩, hr3, fun m hm => by (obtain ⟨k, hk, hk'⟩ := hts3.sn; rw [hk] at hm; injection hm with hm; omega), fun m hm => by (obtain ⟨k, hk, hk'⟩ := hts3.en; rw [hk] at hm; injection hm with hm; omega), by simp only; omega, fun n hlt => by rw [g n (by omega)]; exact hts3.old n hlt⟩
  rotate_left 1
  · exact (hts3.so.slP ps83 pa83 (by decide) (fun _ => rfl)).still (Nat.le_refl _) fun m hm => g m (by obtain ⟨k, hk, hk'⟩ := hts3.sn; rw [hk] at hm; injection hm with hm; omega)
  · exact (hts3.eo.slP ps86 pa86 (by decide) (fun _ => rfl)).still (Nat.le_refl _) fun m hm => g m (by obtain ⟨k, hk, hk'⟩ := hts3.en; rw [hk] at hm; injection hm with hm; omega)
  refine ACall.of_body_same Try.func32 rfl (hpre _ fun t t2 t3 t4 t5 => ?_)
  show ACode _ _ (Code.seq (cFst sfx32) (cSnd sfx32)) _ _ _ _
  refine ACode.seq ((hset t t2 t3 t4 t5).mono ?_)
  rintro x t' d A' ⟨rfl, rfl, rfl, u2, u3, u4, u5⟩
  refine (hevt t' u2 u3 u4 u5).mono ?_
  rintro x t'' d A'' ⟨rfl, rfl, rfl, w4⟩
  have hl : Heap.load Try.prog (⟨A3.t.set (L.next + 2) (scB (s3.cs sv2 ev1)), A3.next⟩ : Heap) 57 (L.next + 2) 0 = some (.agg (s3.cs sv2 ev1)) := by
    simp [Heap.load, Heap.elem, T.get_set, scB, Ev.part, pa57, ps57, takeN, Scr.cs, scL]
  exact ⟨.inr rfl, [.agg (s3.cs sv2 ev1)], rfl, by simp [Try.f32, resVals, w4, V.asPtr, hl], rfl⟩
end
end Go.Proofs.Ytpfmoolpeecobaa
