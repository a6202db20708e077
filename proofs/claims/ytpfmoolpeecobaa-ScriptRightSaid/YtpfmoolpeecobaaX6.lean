/- Quiet operations, all in one; operations that make a block. -/
import Derived.Test.YtpfmoolpeecobaaX5
namespace Go.Proofs.Ytpfmoolpeecobaa.Ev
open Go.RowKit
set_option linter.unusedVariables false
set_option linter.unusedSimpArgs false
variable {P : Program} {w0 : World} {κ : KM} {L : Heap} {w : World} {t : T V} {a : Act}

theorem opds_VR : ∀ {l : List Operand} {vs : List V}, (∀ x ∈ l, OpR κ t a x) → opds t l = some vs → VRs κ vs (l.map a.eval)
  | [], vs, _, h => by simp only [opds] at h; injection h with h; subst h; simp [VRs_nil]
  | x :: l, vs, ha, h => by
    simp only [opds, Option.bind_eq_some_iff, Option.map_eq_some_iff] at h
    obtain ⟨v, hv, us, hu, rfl⟩ := h
    exact VRs_cons'.2 ⟨opd_VR (ha x (List.mem_cons_self ..)) hv, opds_VR (fun y hy => ha y (List.mem_cons_of_mem _ hy)) hu⟩
theorem opds_arr {l : Array Operand} {vs : List V} (ha : ∀ x ∈ l, OpR κ t a x) (h : opds t l.toList = some vs) : VRs κ vs (l.map a.eval).toList := by
  rw [Array.toList_map]
  exact opds_VR (fun x hx => ha x (Array.mem_toList_iff.1 hx)) h
theorem optOpd_VR {o : Option Operand} {v : Option V} (ha : ∀ x, o = some x → OpR κ t a x) (h : optOpd t o = some v) : OpV κ v (o.map a.eval) := by
  cases o with
  | none => simp only [optOpd] at h; injection h with h; subst h; exact .none
  | some x =>
    simp only [optOpd, Option.map_eq_some_iff] at h
    obtain ⟨u, hu, rfl⟩ := h
    exact .some _ _ (opd_VR (ha x rfl) hu)
theorem pairs_VR : ∀ {l : List (Nat × Operand)} {ps : List (Nat × V)}, (∀ x ∈ l, OpR κ t a x.2) → pairs t l = some ps → PR κ ps (l.map fun p => (p.1, a.eval p.2))
  | [], vs, _, h => by simp only [pairs] at h; injection h with h; subst h; exact .nil
  | (i, x) :: l, vs, ha, h => by
    simp only [pairs, Option.bind_eq_some_iff, Option.map_eq_some_iff] at h
    obtain ⟨v, hv, us, hu, rfl⟩ := h
    exact .cons i v _ (opd_VR (ha _ (List.mem_cons_self ..)) hv) (pairs_VR (fun y hy => ha y (List.mem_cons_of_mem _ hy)) hu)

theorem minL_sound : ∀ {vs : List V} {xs : List Value}, VRs κ vs xs → ∀ {k : IntKind} {m r : Int}, minL m vs = some r → (xs.foldlM Builtin.min2 (Value.int k m)).run P w = .ok (.int k r) w
  | [], xs, hv, k, m, r, h => by rw [VRs_nil.1 hv]; simp only [minL] at h; injection h with h; subst h; rfl
  | v :: vs, xs, hv, k, m, r, h => by
    obtain ⟨x, ys, rfl, hx, hy⟩ := VRs_cons.1 hv
    simp only [minL, Option.bind_eq_some_iff] at h
    obtain ⟨p, hp, h⟩ := h
    rw [asInt_some] at hp; subst hp
    simp only [VR] at hx; subst hx
    simp only [List.foldlM_cons, Sem.run_bind, Builtin.min2, Sem.run_pure, Result.andThen_ok]
    exact minL_sound hy h
theorem maxL_sound : ∀ {vs : List V} {xs : List Value}, VRs κ vs xs → ∀ {k : IntKind} {m r : Int}, maxL m vs = some r → (xs.foldlM Builtin.max2 (Value.int k m)).run P w = .ok (.int k r) w
  | [], xs, hv, k, m, r, h => by rw [VRs_nil.1 hv]; simp only [maxL] at h; injection h with h; subst h; rfl
  | v :: vs, xs, hv, k, m, r, h => by
    obtain ⟨x, ys, rfl, hx, hy⟩ := VRs_cons.1 hv
    simp only [maxL, Option.bind_eq_some_iff] at h
    obtain ⟨p, hp, h⟩ := h
    rw [asInt_some] at hp; subst hp
    simp only [VR] at hx; subst hx
    simp only [List.foldlM_cons, Sem.run_bind, Builtin.max2, Sem.run_pure, Result.andThen_ok]
    exact maxL_sound hy h

theorem builtinQ_sound {b : Builtin} {tys : Array TypeId} {vs : List V} {r : V} (h : builtinQ P b tys vs L = some r) {xs : Array Value} (hx : VRs κ vs xs.toList) (ty : TypeId) (cs : Array Bool) :
    ∃ z, (Go.builtin b tys ty cs xs).run P w = .ok (.value z) w ∧ VR κ r z := by
  unfold builtinQ at h
  split at h
  · rename_i v
    obtain ⟨x, ys, e, hv, hys⟩ := VRs_cons.1 hx
    rw [VRs_nil] at hys; subst hys
    obtain rfl : xs = #[x] := by cases xs; simp_all
    simp only [Option.bind_eq_some_iff] at h
    obtain ⟨t0, ht0, h⟩ := h
    split at h
    · rename_i s
      rw [guardO_some] at h
      obtain ⟨hs, h⟩ := h
      rw [tyStr_true] at hs
      injection h with h; subst h
      simp only [VR] at hv; obtain ⟨bs, rfl, rfl⟩ := hv
      refine ⟨goInt bs.size, ?_, by simp only [VR, goInt, strOf_length]⟩
      simp [Go.builtin, Builtin.len_, ht0, run_underlying hs]
    · rename_i n o len cap q
      simp only [Option.map_eq_some_iff] at h
      obtain ⟨e, he, rfl⟩ := h
      rw [tySlice_some] at he
      simp only [VR] at hv; obtain ⟨k, a, c, hk, rfl, _⟩ := hv
      refine ⟨goInt len, ?_, by simp only [VR, goInt]⟩
      simp [Go.builtin, Builtin.len_, ht0, run_underlying he]
    · simp only [Option.map_eq_some_iff] at h
      obtain ⟨e, he, rfl⟩ := h
      rw [tySlice_some] at he
      simp only [VR] at hv; subst hv
      refine ⟨goInt 0, ?_, by simp only [VR, goInt]⟩
      simp [Go.builtin, Builtin.len_, ht0, run_underlying he]
    · cases h
  · rename_i v rest
    obtain ⟨x, ys, e, hv, hys⟩ := VRs_cons.1 hx
    simp only [Option.bind_eq_some_iff, Option.map_eq_some_iff] at h
    obtain ⟨p, hp, n, hn, rfl⟩ := h
    rw [asInt_some] at hp; subst hp
    simp only [VR] at hv; subst hv
    refine ⟨.int p.1 n, ?_, by simp only [VR]⟩
    simp only [Go.builtin, Builtin.min_, e, Sem.run_bind, minL_sound hys hn, Result.andThen_ok, Sem.run_pure]
  · rename_i v rest
    obtain ⟨x, ys, e, hv, hys⟩ := VRs_cons.1 hx
    simp only [Option.bind_eq_some_iff, Option.map_eq_some_iff] at h
    obtain ⟨p, hp, n, hn, rfl⟩ := h
    rw [asInt_some] at hp; subst hp
    simp only [VR] at hv; subst hv
    refine ⟨.int p.1 n, ?_, by simp only [VR]⟩
    simp only [Go.builtin, Builtin.max_, e, Sem.run_bind, maxL_sound hys hn, Result.andThen_ok, Sem.run_pure]
  · cases h

theorem run_v {s : Sem Value} {z : Value} {w' : World} (h : s.run P w = .ok z w') : (do pure (Next.value (← s)) : Sem Next).run P w = .ok (.value z) w' := by
  simp only [Sem.run_bind, h, Result.andThen_ok, Sem.run_pure]

theorem quiet_sound {o : Oper} {r : V} (h : quiet P o t L = some r) (H : HR w0 κ L w) (ha : ∀ x ∈ o.op.operands, OpR κ t a x) :
    ∃ z, (execOp a.eval o).run P w = .ok (.value z) w ∧ VR κ r z := by
  obtain ⟨dst, op, typ, pos, after, guard⟩ := o
  simp only at ha
  cases op <;> simp only [quiet, reduceCtorEq] at h <;> simp only [Op.operands] at ha
  case move x => exact ⟨_, rfl, opd_VR (ha x (by simp)) h⟩
  case assign x => exact ⟨_, rfl, opd_VR (ha x (by simp)) h⟩
  case pick c x y =>
    simp only [Option.bind_eq_some_iff] at h
    obtain ⟨v, hv, q, hq, h⟩ := h
    rw [asBool_some] at hq; subst hq
    have hc := opd_VR (ha c (by simp)) hv
    simp only [VR] at hc
    cases q with
    | true => exact ⟨_, by simp only [execOp, hc, asBool, Sem.run_bind, Sem.run_pure, Result.andThen_ok, if_true], opd_VR (ha x (by simp)) h⟩
    | false => exact ⟨_, by simp only [execOp, hc, asBool, Sem.run_bind, Sem.run_pure, Result.andThen_ok, Bool.false_eq_true, if_false], opd_VR (ha y (by simp)) h⟩
  case build ty ps =>
    simp only [Option.bind_eq_some_iff] at h
    obtain ⟨l, hl, h⟩ := h
    have hp := pairs_VR (κ := κ) (a := a) (fun x hx => ha x.2 (by simp; exact ⟨x.1, by simpa using hx⟩)) hl
    obtain ⟨z, hz, hv⟩ := build_sound (w := w) (m := ps.map fun (i, x) => (i, a.eval x)) (by rw [Array.toList_map]; exact hp) h
    exact ⟨z, run_v hz, hv⟩
  case load ty x =>
    simp only [Option.bind_eq_some_iff] at h
    obtain ⟨v, hv, p, hp, h⟩ := h
    rw [asPtr_some] at hp; subst hp
    have hc := opd_VR (ha x (by simp)) hv
    simp only [VR] at hc
    obtain ⟨k, hk, hc⟩ := hc
    obtain ⟨z, hz, hzv⟩ := load_sound (P := P) h H hk
    refine ⟨z, ?_, hzv⟩
    simp only [execOp, hc, Instr.loadAt, Instr.sureAddr, Sem.run_bind, Sem.run_pure, Result.andThen_ok, hz]
  case nilCheck x =>
    simp only [Option.bind_eq_some_iff] at h
    obtain ⟨v, hv, h⟩ := h
    have hc := opd_VR (ha x (by simp)) hv
    split at h
    · injection h with h; subst h
      refine ⟨a.eval x, ?_, hc⟩
      simp only [VR] at hc
      obtain ⟨k, hk, hc⟩ := hc
      simp only [execOp, hc]; rfl
    · injection h with h; subst h
      refine ⟨a.eval x, ?_, hc⟩
      simp only [VR] at hc
      obtain ⟨xs, ys, hc, _⟩ := hc
      simp only [execOp, hc]; rfl
    · injection h with h; subst h
      refine ⟨a.eval x, ?_, hc⟩
      simp only [VR] at hc
      obtain ⟨k, hk, hc⟩ := hc
      simp only [execOp, hc]; rfl
    · cases h
  case binOp op ty x y ty2 =>
    simp only [Option.bind_eq_some_iff] at h
    obtain ⟨v, hv, u, hu, h⟩ := h
    obtain ⟨z, hz, hzv⟩ := binV_sound (w := w) h (opd_VR (ha x (by simp)) hv) (opd_VR (ha y (by simp)) hu) x y rfl
    exact ⟨z, run_v hz, hzv⟩
  case unOp op ty x =>
    simp only [Option.bind_eq_some_iff] at h
    obtain ⟨v, hv, h⟩ := h
    obtain ⟨z, hz, hzv⟩ := unV_sound (P := P) (w := w) h (opd_VR (ha x (by simp)) hv)
    exact ⟨z, run_v hz, hzv⟩
  case convert s d x =>
    simp only [Option.bind_eq_some_iff] at h
    obtain ⟨v, hv, h⟩ := h
    obtain ⟨z, hz, hzv⟩ := convQ_sound h H (opd_VR (ha x (by simp)) hv)
    exact ⟨z, run_v hz, hzv⟩
  case makeFunc fn first cap =>
    cases fn <;> simp only [reduceCtorEq] at h
    rename_i g
    simp only [Option.bind_eq_some_iff, Option.map_eq_some_iff] at h
    obtain ⟨vs, hvs, us, hus, rfl⟩ := h
    refine ⟨.func (.func g) (first.map a.eval) (cap.map a.eval), rfl, ?_⟩
    simp only [VR]
    exact ⟨_, _, rfl, opds_arr (fun x hx => ha x (by simp [hx])) hvs, opds_arr (fun x hx => ha x (by simp [hx])) hus⟩
  case slice ty x lo hi mx =>
    simp only [Option.bind_eq_some_iff] at h
    obtain ⟨v, hv, l, hl, h', hh, m, hm, h⟩ := h
    obtain ⟨z, hz, hzv⟩ := sliceOp_sound (w := w) h (opd_VR (ha x (by simp)) hv) (optOpd_VR (fun y e => ha y (by simp [e])) hl) (optOpd_VR (fun y e => ha y (by simp [e])) hh) (optOpd_VR (fun y e => ha y (by simp [e])) hm)
    exact ⟨z, run_v hz, hzv⟩
  case fieldAddr s x i =>
    simp only [Option.bind_eq_some_iff] at h
    obtain ⟨v, hv, h⟩ := h
    obtain ⟨z, hz, hzv⟩ := fieldAddr_sound (w := w) h (opd_VR (ha x (by simp)) hv)
    exact ⟨z, run_v hz, hzv⟩
  case field s x i =>
    simp only [Option.bind_eq_some_iff] at h
    obtain ⟨v, hv, cs, hcs, fs, hfs, f, hf, h⟩ := h
    rw [asAgg_some] at hcs; subst hcs
    rw [tyStruct_some] at hfs
    have hc := opd_VR (ha x (by simp)) hv
    simp only [VR] at hc
    obtain ⟨xs, hc, hx⟩ := hc
    obtain ⟨z, hz, hzv⟩ := part_sound (P := P) (w := w) h hx
    refine ⟨z, run_v ?_, hzv⟩
    simp only [Instr.field, Sem.run_bind, run_underlying hfs, Result.andThen_ok, hf, hc, asAgg, Sem.run_pure, hz]
  case indexAddr ty x ix =>
    simp only [Option.bind_eq_some_iff] at h
    obtain ⟨v, hv, u, hu, h⟩ := h
    obtain ⟨z, hz, hzv⟩ := indexAddr_sound (w := w) h (opd_VR (ha x (by simp)) hv) (opd_VR (ha ix (by simp)) hu)
    exact ⟨z, run_v hz, hzv⟩
  case index ty x ix =>
    simp only [Option.bind_eq_some_iff] at h
    obtain ⟨v, hv, u, hu, h⟩ := h
    obtain ⟨z, hz, hzv⟩ := index_sound (w := w) h (opd_VR (ha x (by simp)) hv) (opd_VR (ha ix (by simp)) hu)
    exact ⟨z, run_v hz, hzv⟩
  case lookup ty x ix ok =>
    simp only [Option.bind_eq_some_iff] at h
    obtain ⟨v, hv, u, hu, h⟩ := h
    obtain ⟨z, hz, hzv⟩ := lookup_sound h H (opd_VR (ha x (by simp)) hv) (opd_VR (ha ix (by simp)) hu)
    exact ⟨z, run_v hz, hzv⟩
  case extract x i =>
    simp only [Option.bind_eq_some_iff] at h
    obtain ⟨v, hv, vs, hvs, h⟩ := h
    rw [asTup_some] at hvs; subst hvs
    have hc := opd_VR (ha x (by simp)) hv
    simp only [VR] at hc
    obtain ⟨xs, hc, hx⟩ := hc
    obtain ⟨z, hz, hzv⟩ := VRs_get hx h
    rw [Array.getElem?_toList] at hz
    refine ⟨z, run_v ?_, hzv⟩
    simp only [Instr.extract, hc, hz, Sem.run_pure]
  case call c =>
    split at h
    · rename_i b hb
      simp only [Option.bind_eq_some_iff] at h
      obtain ⟨vs, hvs, h⟩ := h
      obtain ⟨z, hz, hzv⟩ := builtinQ_sound (w := w) h (opds_arr (a := a) (fun x hx => ha x (by simp [Call.operands, hb, hx])) hvs) typ (c.args.map fun | .const _ => true | _ => false)
      refine ⟨z, ?_, hzv⟩
      simp only [execOp, resolve, hb, Sem.run_bind, Sem.run_pure, Result.andThen_ok, invoke]
      exact hz
    · cases h
end Go.Proofs.Ytpfmoolpeecobaa.Ev
