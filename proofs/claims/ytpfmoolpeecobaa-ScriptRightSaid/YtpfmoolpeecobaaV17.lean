/- The law ScriptRight (13). -/
import Derived.Test.YtpfmoolpeecobaaV16
namespace Go.Proofs.Ytpfmoolpeecobaa
open Go Go.Proofs Go.Proofs.Ytpfmoolpeecobaa.Ev
set_option linter.unusedVariables false
set_option linter.unusedSimpArgs false
set_option maxRecDepth 100000
set_option maxHeartbeats 4000000

theorem slP_sc3 {v : V} {α : Type} {sz : Nat} {eT : TypeId} {f : α → List V} {L : Heap} {l : List α} (h : SlP sz eT f L v l) : v.scalar = true ∧ v.cells = [v] := by
  rcases h with ⟨rfl, _⟩ | ⟨_, _, _, _, rfl, _⟩ <;> exact ⟨rfl, rfl⟩
theorem wrap_up {i : Nat} (h : i ≤ 1000000) : IntKind.i64.wrap ((i : Int) + 1) = ((i + 1 : Nat) : Int) := by
  rw [Go.IntWalk.i64_in _ (by omega)]; omega
theorem law13_ok {L : Heap} {v0 : V} {bs0 : List Int} (h0 : Bs L.next L v0 bs0) (hr0 : ∀ x ∈ bs0, 0 ≤ x ∧ x ≤ 255) : ACall Try.prog 13 [v0] L (.bool true) L := by
  obtain ⟨w0, cf0, hb⟩ := fewS_ok h0 600
  have hrb : ∀ x ∈ bs0.take 600, 0 ≤ x ∧ x ≤ 255 := fun x hx => hr0 x (List.mem_of_mem_take hx)
  have hbl : (bs0.take 600).length ≤ 600 := by rw [List.length_take]; omega
  refine ACall.of_body Try.func13 rfl ?_
  refine ACode.seq (ACode.regS noT_ok names_ok mix (t' := ?_) (L' := ?_) [0] (by rfl) ?_ ?_)
  rotate_left 2
  · refine sq rfl rfl rfl (by simp [go_sem, X, Try.f13]; rfl) ?_
    rfl
  refine ACode.seq ?_
  refine ACode.seq (ACode.regS (oneT_okP (works28_ok L)) names_ok mix (t' := ?_) (L' := ?_) [0, 1] (by rfl) ?_ ?_)
  rotate_left 2
  · iterate 2 (refine sq rfl rfl rfl (by simp [go_sem, X, oneT_sameP, Try.f13]; rfl) ?_)
    rfl
  refine ACode.condF (by simp [tget_set, opd]) (ACode.skip ?_)
  show ACode _ _ (Code.seq (Code.region _ _ _) _) _ _ _ _
  generalize bs0.take 600 = bs at *
  obtain ⟨A1, sv, ev, cp, hn1, hk1, hS1, hE1, hO1⟩ := parse_at2 hb hrb (by omega)
  have hu := suR_of bs hrb
  have hSG := slP_G2 hS1
  have hevs : ∀ e ∈ scEvs bs, EvIn e := evs_in 40 _
  have hel : (scEvs bs).length ≤ 40 := evs_le 40 _
  obtain ⟨qs, qs2⟩ := slP_sc3 hS1
  obtain ⟨qe, qe2⟩ := slP_sc3 hE1
  have hn1v : min (scN bs) bs.length ≤ 600 := by omega
  generalize min (scN bs) bs.length = n1 at *
  generalize scEvs bs = evs at *
  have hsl := suSrcs_len bs
  generalize hss : suSrcs bs = srcs at *
  have hps : (srcs.map toG2).map (fun x => x.q) = srcs.map fun x => x.2 := by rw [List.map_map]; rfl
  obtain ⟨u1, u2, u3, u4, u5, u6, u7⟩ := id hu
  rw [hps] at u7
  rw [List.length_map] at u5
  generalize suRows bs = r at *
  generalize suCols bs = c at *
  generalize suBits bs % 2 = g0 at *
  generalize suBits bs / 2 % 2 = g1 at *
  generalize suBits bs / 4 % 2 = g2 at *
  generalize suBits bs / 8 % 2 = g3 at *
  generalize suBits bs / 16 % 2 = g4 at *
  generalize suRing bs = ring at *
  clear hr0 h0 hrb hb hSG
  obtain ⟨A2, hA2⟩ : ∃ A : Heap, A = ⟨A1.t.set A1.next (scB [.int .i64 r, .int .i64 c, sv, .int .u8 g0, .int .u8 g1, .int .u8 g2, .int .u8 g3, .int .u8 g4, .int .i64 ring, ev]), A1.next + 1⟩ := ⟨_, rfl⟩
  have h2 : A2.t.get A1.next = some (scB [.int .i64 r, .int .i64 c, sv, .int .u8 g0, .int .u8 g1, .int .u8 g2, .int .u8 g3, .int .u8 g4, .int .i64 ring, ev]) := by rw [hA2]; exact T.get_set_same _ _ _
  have k2 : ∀ k, k < A1.next → A2.t.get k = A1.t.get k := fun k hk => by rw [hA2]; exact T.get_set_ne _ _ (by omega)
  have n2 : A2.next = A1.next + 1 := by rw [hA2]
  have cmx := muxNew_ok (slP_G2 (hS1.keep (by omega) k2)) hu
  have hs2' := h2
  unfold scB at h2
  unfold scL at cp
  unfold suC2 at cmx
  refine ACode.seq (ACode.regS ((oneT_okP cf0).or (oneT_okP cp)) names_ok mix (t' := ?_) (L' := ?_) [0, 1, 2, 3, 4, 5, 6, 7, 8] (by rfl) ?_ ?_)
  rotate_left 2
  · iterate 9 (refine sq rfl rfl rfl (by simp [go_sem, X, qs, qs2, qe, qe2, orT, oneT_sameP, oneT_neP, Try.f13]; rfl) ?_)
    rfl
  change ACode _ _ _ _ _ ⟨A1.t.set A1.next (scB [.int .i64 r, .int .i64 c, sv, .int .u8 g0, .int .u8 g1, .int .u8 g2, .int .u8 g3, .int .u8 g4, .int .i64 ring, ev]), A1.next + 1⟩ _
  rw [← hA2]
  refine ACode.seq (ACode.regS (oneT_okP cmx) names_ok mix (t' := ?_) (L' := ?_) [0, 1, 2, 3, 4, 5, 6, 7] (by rfl) ?_ ?_)
  rotate_left 2
  · iterate 8 (refine sq rfl rfl rfl (by simp [go_sem, X, h2, oneT_sameP, Try.f13]; rfl) ?_)
    rfl
  obtain ⟨A3, hA3⟩ : ∃ A : Heap, A = nx A2 := ⟨_, rfl⟩
  have h3 : A3.t.get A1.next = some (scB [.int .i64 r, .int .i64 c, sv, .int .u8 g0, .int .u8 g1, .int .u8 g2, .int .u8 g3, .int .u8 g4, .int .i64 ring, ev]) := by rw [hA3]; exact hs2'
  have k3 : ∀ k, k < A1.next → A3.t.get k = A1.t.get k := fun k hk => by rw [hA3]; exact k2 k hk
  have n3 : A3.next = A1.next + 2 := by rw [hA3]; show A2.next + 1 = _; omega
  rw [← hA3]
  clear cmx cp cf0
  refine ACode.seq (ACode.regS noT_ok names_ok mix (t' := ?_) (L' := ?_) [0] (by rfl) ?_ ?_)
  rotate_left 2
  · refine sq rfl rfl rfl (by simp [go_sem, X, Try.f13]; rfl) ?_
    rfl
  refine ACode.seq ?_
  refine ACode.seq (ACode.regS noT_ok names_ok mix (t' := ?_) (L' := ?_) [0] (by rfl) ?_ ?_)
  rotate_left 2
  · refine sq rfl rfl rfl (by simp [go_sem, X, Try.f13]; rfl) ?_
    rfl
  have e13 : tget (T.set .leaf 0 w0) 0 = w0 := by simp [tget_set]
  refine ACode.block (ACode.loop (fun t d A N => d = [] ∧ ∃ (i : Nat) (pv : V), i ≤ srcs.length ∧ N = srcs.length - i ∧ A1.next + 2 ≤ A.next ∧ (∀ k, k < A1.next → A.t.get k = A1.t.get k) ∧ A.t.get A1.next = some (scB [.int .i64 r, .int .i64 c, sv, .int .u8 g0, .int .u8 g1, .int .u8 g2, .int .u8 g3, .int .u8 g4, .int .i64 ring, ev]) ∧
    OwnP 4 rectV (A1.next + 2) A pv ((srcs.take i).map fun x => x.2) ∧ tget t 3 = .ptr A1.next 0 ∧ tget t 4 = .int .i64 (n1 : Int) ∧ tget t 5 = .ptr A2.next 0 ∧ tget t 6 = .int .i64 0 ∧ tget t 7 = pv ∧ tget t 8 = .int .i64 (i : Int)) (N := srcs.length)
    ⟨rfl, 0, .nils, Nat.zero_le _, by omega, by omega, k3, h3, .inl ⟨rfl, rfl⟩, by simp [tget_set], by simp [tget_set], by simp [tget_set], by simp [tget_set], by simp [tget_set], by simp [tget_set]⟩ ?_)
  rintro t d A N ⟨rfl, i, pv, hi, rfl, hnx, hkp, hP, hO, t3, t4, t5, t6, t7, t8⟩
  have hlenS := hS1.len pt50
  have hP' := hP
  unfold scB at hP'
  refine ACode.seq ?_
  refine ACode.seq (ACode.regS noT_ok names_ok mix (t' := ?_) (L' := ?_) [0, 1, 2, 3, 4, 5] (by rfl) ?_ ?_)
  rotate_left 2
  · iterate 6 (refine sq rfl rfl rfl (by simp [go_sem, xl, xs, xe, xa, xi, xo, xb, xv, xc, xk, t3, t8, hP', hlenS, Try.f13]; rfl) ?_)
    rfl
  refine ACode.cond (p := (i : Int) < (srcs.length : Int)) (by simp [tget_set, opd]) (fun hil => ACode.skip ?_) (fun hge => ACode.exit ?_)
  rotate_left 1
  ·
    have hi2 : i = srcs.length := by omega
    rw [hi2, List.take_length] at hO
    have hpl : (srcs.map fun x => x.2).length = srcs.length := List.length_map _
    have hpan := slP_len4 hO.lo0
    have hplen := hpan.len pt79
    have cck := check_ok hpan u7 u1 u2 (by omega)
    rw [hpl] at hplen
    have hlenE := hE1.len pt55
    have hz : Ev.ofVal (.pointer none) = some .nilp := rfl
    have v1 : ¬ (srcs.length : Int) < 1 := by omega
    have v2 : ¬ 4 < (srcs.length : Int) := by omega
    have v3 : ¬ 40 < (evs.length : Int) := by omega
    have v4 : ¬ 600 < (n1 : Int) := by omega
    show ACode _ _ (Code.seq (Code.seq (Code.region _ _ _) _) _) _ _ _ _
    refine ACode.seq ?_
    refine ACode.seq (ACode.regS (oneT_okP cck) names_ok mix (t' := ?_) (L' := ?_) [0, 1, 2, 3, 4, 5, 6, 7, 8, 9, 10, 11, 12, 13, 14, 15, 16, 17, 18, 19, 20, 21, 22, 23, 24, 25, 26, 27, 28, 29, 30, 31, 32, 33, 34, 35, 36] (by rfl) ?_ ?_)
    rotate_left 2
    · iterate 3 (refine sq rfl rfl rfl (by simp [go_sem, xl, xs, xe, xa, xi, xo, xb, xv, xc, xk, t3, t4, t5, t6, t7, hP', hz, Ev.equalV, hplen, hlenE, v1, v2, v3, v4, oneT_sameP, Try.f13]; rfl) ?_)
      iterate 2 (refine sq rfl rfl (by simp [go_sem, xl, xs, xe, xa, xi, xo, xb, xv, xc, xk, t3, t4, t5, t6, t7, hP', hz, Ev.equalV, hplen, hlenE, v1, v2, v3, v4, oneT_sameP, Try.f13]) (by simp [go_sem, xl, xs, xe, xa, xi, xo, xb, xv, xc, xk, t3, t4, t5, t6, t7, hP', hz, Ev.equalV, hplen, hlenE, v1, v2, v3, v4, oneT_sameP, Try.f13]; rfl) ?_)
      iterate 2 (refine sq rfl rfl rfl (by simp [go_sem, xl, xs, xe, xa, xi, xo, xb, xv, xc, xk, t3, t4, t5, t6, t7, hP', hz, Ev.equalV, hplen, hlenE, v1, v2, v3, v4, oneT_sameP, Try.f13]; rfl) ?_)
      iterate 9 (refine sq rfl rfl (by simp [go_sem, xl, xs, xe, xa, xi, xo, xb, xv, xc, xk, t3, t4, t5, t6, t7, hP', hz, Ev.equalV, hplen, hlenE, v1, v2, v3, v4, oneT_sameP, Try.f13]) (by simp [go_sem, xl, xs, xe, xa, xi, xo, xb, xv, xc, xk, t3, t4, t5, t6, t7, hP', hz, Ev.equalV, hplen, hlenE, v1, v2, v3, v4, oneT_sameP, Try.f13]; rfl) ?_)
      iterate 2 (refine sq rfl rfl rfl (by simp [go_sem, xl, xs, xe, xa, xi, xo, xb, xv, xc, xk, t3, t4, t5, t6, t7, hP', hz, Ev.equalV, hplen, hlenE, v1, v2, v3, v4, oneT_sameP, Try.f13]; rfl) ?_)
      iterate 3 (refine sq rfl rfl (by simp [go_sem, xl, xs, xe, xa, xi, xo, xb, xv, xc, xk, t3, t4, t5, t6, t7, hP', hz, Ev.equalV, hplen, hlenE, v1, v2, v3, v4, oneT_sameP, Try.f13]) (by simp [go_sem, xl, xs, xe, xa, xi, xo, xb, xv, xc, xk, t3, t4, t5, t6, t7, hP', hz, Ev.equalV, hplen, hlenE, v1, v2, v3, v4, oneT_sameP, Try.f13]; rfl) ?_)
      iterate 2 (refine sq rfl rfl rfl (by simp [go_sem, xl, xs, xe, xa, xi, xo, xb, xv, xc, xk, t3, t4, t5, t6, t7, hP', hz, Ev.equalV, hplen, hlenE, v1, v2, v3, v4, oneT_sameP, Try.f13]; rfl) ?_)
      iterate 3 (refine sq rfl rfl (by simp [go_sem, xl, xs, xe, xa, xi, xo, xb, xv, xc, xk, t3, t4, t5, t6, t7, hP', hz, Ev.equalV, hplen, hlenE, v1, v2, v3, v4, oneT_sameP, Try.f13]) (by simp [go_sem, xl, xs, xe, xa, xi, xo, xb, xv, xc, xk, t3, t4, t5, t6, t7, hP', hz, Ev.equalV, hplen, hlenE, v1, v2, v3, v4, oneT_sameP, Try.f13]; rfl) ?_)
      iterate 2 (refine sq rfl rfl rfl (by simp [go_sem, xl, xs, xe, xa, xi, xo, xb, xv, xc, xk, t3, t4, t5, t6, t7, hP', hz, Ev.equalV, hplen, hlenE, v1, v2, v3, v4, oneT_sameP, Try.f13]; rfl) ?_)
      iterate 4 (refine sq rfl rfl (by simp [go_sem, xl, xs, xe, xa, xi, xo, xb, xv, xc, xk, t3, t4, t5, t6, t7, hP', hz, Ev.equalV, hplen, hlenE, v1, v2, v3, v4, oneT_sameP, Try.f13]) (by simp [go_sem, xl, xs, xe, xa, xi, xo, xb, xv, xc, xk, t3, t4, t5, t6, t7, hP', hz, Ev.equalV, hplen, hlenE, v1, v2, v3, v4, oneT_sameP, Try.f13]; rfl) ?_)
      iterate 2 (refine sq rfl rfl rfl (by simp [go_sem, xl, xs, xe, xa, xi, xo, xb, xv, xc, xk, t3, t4, t5, t6, t7, hP', hz, Ev.equalV, hplen, hlenE, v1, v2, v3, v4, oneT_sameP, Try.f13]; rfl) ?_)
      iterate 2 (refine sq rfl rfl (by simp [go_sem, xl, xs, xe, xa, xi, xo, xb, xv, xc, xk, t3, t4, t5, t6, t7, hP', hz, Ev.equalV, hplen, hlenE, v1, v2, v3, v4, oneT_sameP, Try.f13]) (by simp [go_sem, xl, xs, xe, xa, xi, xo, xb, xv, xc, xk, t3, t4, t5, t6, t7, hP', hz, Ev.equalV, hplen, hlenE, v1, v2, v3, v4, oneT_sameP, Try.f13]; rfl) ?_)
      refine sq rfl rfl rfl (by simp [go_sem, xl, xs, xe, xa, xi, xo, xb, xv, xc, xk, t3, t4, t5, t6, t7, hP', hz, Ev.equalV, hplen, hlenE, v1, v2, v3, v4, oneT_sameP, Try.f13]; rfl) ?_
      rfl
    refine ACode.condF (by simp [tget_set, opd]) (ACode.skip ?_)
    show ACode _ _ (Code.seq (Code.seq (Code.region _ _ _) _) _) _ _ _ _
    refine ACode.seq ?_
    refine ACode.seq (ACode.regS noT_ok names_ok mix (t' := ?_) (L' := ?_) [0] (by rfl) ?_ ?_)
    rotate_left 2
    · refine sq rfl rfl rfl (by simp [go_sem, X, Try.f13]; rfl) ?_
      rfl
    clear hO hpan cck hplen
    refine ACode.block (ACode.loop (fun t d B N => d = [] ∧ ∃ (j : Nat), j ≤ evs.length ∧ N = evs.length - j ∧ A1.next + 2 ≤ B.next ∧ (∀ k, k < A1.next → B.t.get k = A1.t.get k) ∧ B.t.get A1.next = some (scB [.int .i64 r, .int .i64 c, sv, .int .u8 g0, .int .u8 g1, .int .u8 g2, .int .u8 g3, .int .u8 g4, .int .i64 ring, ev]) ∧ tget t 3 = .ptr A1.next 0 ∧ tget t 9 = .int .i64 (j : Int)) (N := evs.length)
      ⟨rfl, 0, Nat.zero_le _, by omega, hnx, hkp, hP, by simp [tget_set, t3], by simp [tget_set]⟩ ?_)
    clear t3 t4 t5 t6 t7 t8 hP hP' hkp hnx
    rintro t d B N ⟨rfl, j, hj, rfl, hnx, hkp, hP, t3, t9⟩
    have hP' := hP
    unfold scB at hP'
    refine ACode.seq ?_
    refine ACode.seq (ACode.regS noT_ok names_ok mix (t' := ?_) (L' := ?_) [0, 1, 2, 3, 4] (by rfl) ?_ ?_)
    rotate_left 2
    · iterate 5 (refine sq rfl rfl rfl (by simp [go_sem, xl, xs, xe, xa, xi, xo, xb, xv, xc, xk, t3, t9, hP', hlenE, Try.f13]; rfl) ?_)
      rfl
    refine ACode.cond (p := (j : Int) < (evs.length : Int)) (by simp [tget_set, opd]) (fun hjl => ACode.skip ?_) (fun hge => ACode.exit ?_)
    rotate_left 1
    ·
      show ACode _ _ _ _ _ _ _
      refine ACode.seq (ACode.regS noT_ok names_ok mix (t' := ?_) (L' := ?_) [0] (by rfl) ?_ ?_)
      rotate_left 2
      · refine sq rfl rfl rfl (by simp [go_sem, X, Try.f13]; rfl) ?_
        rfl
      exact ACode.ret (tidy0 (.inr rfl) (vs := [.bool true]) (by simp [Try.f13, resVals, tget_set]) rfl rfl fun k hk => by rw [hkp k (by omega)]; exact hk1 k hk)
    have hjl' : j < evs.length := by omega
    have hxj : evs[j]? = some evs[j] := by simp [hjl']
    obtain ⟨n2', o2, _, hx, hld⟩ := (hE1.keep (by omega) hkp).at' pt55 ps86 hxj
    have hin := hevs _ (List.getElem_mem hjl')
    have hw := wrap_up (i := j) (by omega)
    generalize evs[j] = e at *
    obtain ⟨ek, es, et, elv, e1, e2, e3, e4, ew⟩ := e
    obtain ⟨⟨i1, i2⟩, ⟨i3, i4⟩, i5, i6, ⟨i7, i8⟩, ⟨i9, i10⟩, i11, i12⟩ := hin
    simp only at i1 i2 i3 i4 i5 i6 i7 i8 i9 i10 i11 i12
    simp only [evF] at hld
    have i5' : ¬ 63 < (et.length : Int) := by omega
    have y1 : ¬ ek < 0 := by omega
    have y2 : ¬ 8 < ek := by omega
    have y3 : ¬ es < 0 := by omega
    have y4 : ¬ 4 < es := by omega
    have y5 : ¬ 2 < elv := by omega
    have y6 : ¬ ew < 0 := by omega
    have y7 : ¬ 7 < ew := by omega
    have y8 : ¬ e1 < 0 := by omega
    have y9 : ¬ 15 < e1 := by omega
    have y10 : ¬ e4 < 0 := by omega
    have y11 : ¬ 47 < e4 := by omega
    show ACode _ _ (Code.seq (Code.block _ _) _) _ _ _ _
    refine ACode.seq (ACode.block ?_)
    have hldv : Heap.load Try.prog B 55 A1.next 9 = some ev := by simp [Heap.load, Heap.elem, hP', T.get_set, Ev.part, pa55]
    refine ACode.seq (ACode.regS noT_ok names_ok mix (t' := ?_) (L' := ?_) [0, 1, 2, 3, 4, 5, 6] (by rfl) ?_ ?_)
    rotate_left 2
    · iterate 7 (refine sq rfl rfl rfl (by simp [go_sem, xs, xe, xi, xo, xb, xq, xv, xc, xk, t3, t9, hldv, hx, hld, Try.f13]; rfl) ?_)
      rfl
    refine ACode.seq (ACode.regS noT_ok names_ok mix (t' := ?_) (L' := ?_) [0, 1, 2, 3, 4, 5, 6, 7, 8, 9, 10, 11, 12, 13, 14, 15, 16, 17, 18, 19, 20, 21, 22, 23, 24, 25, 26, 27, 28, 29, 30, 31, 32, 33, 34, 35, 36, 37, 38, 39, 40, 41, 42, 43, 44, 45, 46, 47, 48, 49, 50, 51, 52, 53, 54, 55, 56, 57, 58, 59, 60, 61, 62] (by rfl) ?_ ?_)
    rotate_left 2
    · iterate 4 (refine sq rfl rfl rfl (by simp [go_sem, X, y1, y2, y3, y4, i5', y5, y6, y7, y8, y9, y10, y11, Try.f13]; rfl) ?_)
      iterate 3 (refine sq rfl rfl (by simp [go_sem, X, y1, y2, y3, y4, i5', y5, y6, y7, y8, y9, y10, y11, Try.f13]) (by simp [go_sem, X, y1, y2, y3, y4, i5', y5, y6, y7, y8, y9, y10, y11, Try.f13]; rfl) ?_)
      iterate 2 (refine sq rfl rfl rfl (by simp [go_sem, X, y1, y2, y3, y4, i5', y5, y6, y7, y8, y9, y10, y11, Try.f13]; rfl) ?_)
      iterate 3 (refine sq rfl rfl (by simp [go_sem, X, y1, y2, y3, y4, i5', y5, y6, y7, y8, y9, y10, y11, Try.f13]) (by simp [go_sem, X, y1, y2, y3, y4, i5', y5, y6, y7, y8, y9, y10, y11, Try.f13]; rfl) ?_)
      iterate 2 (refine sq rfl rfl rfl (by simp [go_sem, X, y1, y2, y3, y4, i5', y5, y6, y7, y8, y9, y10, y11, Try.f13]; rfl) ?_)
      iterate 3 (refine sq rfl rfl (by simp [go_sem, X, y1, y2, y3, y4, i5', y5, y6, y7, y8, y9, y10, y11, Try.f13]) (by simp [go_sem, X, y1, y2, y3, y4, i5', y5, y6, y7, y8, y9, y10, y11, Try.f13]; rfl) ?_)
      iterate 2 (refine sq rfl rfl rfl (by simp [go_sem, X, y1, y2, y3, y4, i5', y5, y6, y7, y8, y9, y10, y11, Try.f13]; rfl) ?_)
      iterate 4 (refine sq rfl rfl (by simp [go_sem, X, y1, y2, y3, y4, i5', y5, y6, y7, y8, y9, y10, y11, Try.f13]) (by simp [go_sem, X, y1, y2, y3, y4, i5', y5, y6, y7, y8, y9, y10, y11, Try.f13]; rfl) ?_)
      iterate 2 (refine sq rfl rfl rfl (by simp [go_sem, X, y1, y2, y3, y4, i5', y5, y6, y7, y8, y9, y10, y11, Try.f13]; rfl) ?_)
      iterate 3 (refine sq rfl rfl (by simp [go_sem, X, y1, y2, y3, y4, i5', y5, y6, y7, y8, y9, y10, y11, Try.f13]) (by simp [go_sem, X, y1, y2, y3, y4, i5', y5, y6, y7, y8, y9, y10, y11, Try.f13]; rfl) ?_)
      iterate 2 (refine sq rfl rfl rfl (by simp [go_sem, X, y1, y2, y3, y4, i5', y5, y6, y7, y8, y9, y10, y11, Try.f13]; rfl) ?_)
      iterate 3 (refine sq rfl rfl (by simp [go_sem, X, y1, y2, y3, y4, i5', y5, y6, y7, y8, y9, y10, y11, Try.f13]) (by simp [go_sem, X, y1, y2, y3, y4, i5', y5, y6, y7, y8, y9, y10, y11, Try.f13]; rfl) ?_)
      iterate 2 (refine sq rfl rfl rfl (by simp [go_sem, X, y1, y2, y3, y4, i5', y5, y6, y7, y8, y9, y10, y11, Try.f13]; rfl) ?_)
      iterate 3 (refine sq rfl rfl (by simp [go_sem, X, y1, y2, y3, y4, i5', y5, y6, y7, y8, y9, y10, y11, Try.f13]) (by simp [go_sem, X, y1, y2, y3, y4, i5', y5, y6, y7, y8, y9, y10, y11, Try.f13]; rfl) ?_)
      iterate 2 (refine sq rfl rfl rfl (by simp [go_sem, X, y1, y2, y3, y4, i5', y5, y6, y7, y8, y9, y10, y11, Try.f13]; rfl) ?_)
      iterate 4 (refine sq rfl rfl (by simp [go_sem, X, y1, y2, y3, y4, i5', y5, y6, y7, y8, y9, y10, y11, Try.f13]) (by simp [go_sem, X, y1, y2, y3, y4, i5', y5, y6, y7, y8, y9, y10, y11, Try.f13]; rfl) ?_)
      iterate 2 (refine sq rfl rfl rfl (by simp [go_sem, X, y1, y2, y3, y4, i5', y5, y6, y7, y8, y9, y10, y11, Try.f13]; rfl) ?_)
      iterate 4 (refine sq rfl rfl (by simp [go_sem, X, y1, y2, y3, y4, i5', y5, y6, y7, y8, y9, y10, y11, Try.f13]) (by simp [go_sem, X, y1, y2, y3, y4, i5', y5, y6, y7, y8, y9, y10, y11, Try.f13]; rfl) ?_)
      iterate 2 (refine sq rfl rfl rfl (by simp [go_sem, X, y1, y2, y3, y4, i5', y5, y6, y7, y8, y9, y10, y11, Try.f13]; rfl) ?_)
      iterate 4 (refine sq rfl rfl (by simp [go_sem, X, y1, y2, y3, y4, i5', y5, y6, y7, y8, y9, y10, y11, Try.f13]) (by simp [go_sem, X, y1, y2, y3, y4, i5', y5, y6, y7, y8, y9, y10, y11, Try.f13]; rfl) ?_)
      iterate 2 (refine sq rfl rfl rfl (by simp [go_sem, X, y1, y2, y3, y4, i5', y5, y6, y7, y8, y9, y10, y11, Try.f13]; rfl) ?_)
      iterate 4 (refine sq rfl rfl (by simp [go_sem, X, y1, y2, y3, y4, i5', y5, y6, y7, y8, y9, y10, y11, Try.f13]) (by simp [go_sem, X, y1, y2, y3, y4, i5', y5, y6, y7, y8, y9, y10, y11, Try.f13]; rfl) ?_)
      refine sq rfl rfl rfl (by simp [go_sem, X, y1, y2, y3, y4, i5', y5, y6, y7, y8, y9, y10, y11, Try.f13]; rfl) ?_
      rfl
    refine ACode.condF (by simp [tget_set, opd]) (ACode.skip ?_)
    show ACode _ _ (Code.region _ _ _) _ _ _ _
    refine ACode.regS noT_ok names_ok mix (t' := ?_) (L' := ?_) [0, 1, 2] (by rfl) ?_ ?_
    rotate_left 2
    · iterate 3 (refine sq rfl rfl rfl (by simp [go_sem, X, t9, hw, Try.f13]; rfl) ?_)
      rfl
    refine ⟨evs.length - (j + 1), by omega, rfl, j + 1, by omega, rfl, by simp only; omega, fun k hk => ?_, ?_, by simp [tget_set, t3], by simp [tget_set]⟩
    · show T.get (T.set _ _ _) _ = _
      rw [T.get_set_ne _ _ (by omega)]; exact hkp k hk
    · show T.get (T.set _ _ _) _ = _
      rw [T.get_set_ne _ _ (by omega)]; exact hP
  have hil' : i < srcs.length := by omega
  have hxi : srcs[i]? = some srcs[i] := by simp [hil']
  have hOA : OwnP 6 srcF L.next A sv srcs := hO1.still (by omega) fun m hm => hkp m (hO1.nm_lt hm).2
  obtain ⟨ns, hns, hx, hld⟩ := own_pane hOA hxi
  have hw := wrap_up (i := i) (by omega)
  have hmap : (srcs.take (i + 1)).map (fun x => x.2) = (srcs.take i).map (fun x => x.2) ++ [srcs[i].2] := by rw [List.take_add_one, hxi, List.map_append]; rfl
  generalize srcs[i] = x at *
  obtain ⟨lv, a, b, n, m⟩ := x
  simp only [rectV] at hld hmap
  have hldv : Heap.load Try.prog A 50 A1.next 2 = some sv := by simp [Heap.load, Heap.elem, hP', T.get_set, Ev.part, pa50]
  have hOD : OwnP 4 rectV (A1.next + 2) ⟨A.t.set A.next (.cells (T.set .leaf 0 (rectV (a, b, n, m))) 1 4 false false), A.next + 1⟩ pv ((srcs.take i).map fun x => x.2) := hO.still (Nat.le_succ _) fun k hk => T.get_set_ne _ _ (by have := (hO.nm_lt hk).2; omega)
  have hsrc : srcElems ⟨A.t.set A.next (.cells (T.set .leaf 0 (rectV (a, b, n, m))) 1 4 false false), A.next + 1⟩ 4 (.slice A.next 0 1 1 false) = some ([(a, b, n, m)].map rectV) := by
    simp [srcElems, Heap.elems, Heap.elem, T.get_set, takeN, rectV]
  have hlst : ((srcs.take i).map fun x => x.2).length ≤ 4 := by simp; omega
  obtain ⟨v6, E, ha, hO3, hn3, hk3, hm3⟩ := append_P (sz := 4) (f := rectV) (by decide) (fun _ => rfl) (fun _ => rfl) pt79 ps81 b_81 (by decide) pz81 rfl hOD (by simp only; omega) hsrc (by simp only [List.length_cons, List.length_nil]; omega)
  simp only [rectV] at ha
  simp only at hn3 hk3
  show ACode _ _ (Code.seq (Code.block _ _) _) _ _ _ _
  refine ACode.seq (ACode.block ?_)
  refine ACode.regS noT_ok names_ok mix (t' := ?_) (L' := ?_) [0, 1, 2, 3, 4, 5, 6, 7, 8, 9, 10] (by rfl) ?_ ?_
  rotate_left 2
  · iterate 11 (refine sq rfl rfl rfl (by simp [go_sem, xs, xe, xi, xo, xb, xq, xv, xc, xk, t3, t7, t8, hldv, hx, hld, ha, pi79, Try.f13]; rfl) ?_)
    rfl
  show ACode _ _ (Code.region _ _ _) _ _ _ _
  refine ACode.regS noT_ok names_ok mix (t' := ?_) (L' := ?_) [0, 1, 2] (by rfl) ?_ ?_
  rotate_left 2
  · iterate 3 (refine sq rfl rfl rfl (by simp [go_sem, X, t8, hw, Try.f13]; rfl) ?_)
    rfl
  refine ⟨srcs.length - (i + 1), by omega, rfl, i + 1, v6, by omega, rfl, by omega, fun k hk => ?_, ?_, ?_, by simp [tget_set, t3], by simp [tget_set, t4], by simp [tget_set, t5], by simp [tget_set, t6], by simp [tget_set], by simp [tget_set]⟩
  · rw [hk3 k (by omega) (fun e => by have := (hO.nm_lt e).1; omega)]
    show T.get (T.set _ _ _) _ = _
    rw [T.get_set_ne _ _ (by omega)]
    exact hkp k hk
  · rw [hk3 _ (by omega) (fun e => by have := (hO.nm_lt e).1; omega)]
    show T.get (T.set _ _ _) _ = _
    rw [T.get_set_ne _ _ (by omega)]
    exact hP
  · rw [hmap]
    exact hO3
end Go.Proofs.Ytpfmoolpeecobaa
