/- Operations that change memory, all in one. -/
import Derived.Test.YtpfmoolpeecobaaX8
namespace Go.Proofs.Ytpfmoolpeecobaa.Ev
open Go.RowKit
set_option linter.unusedVariables false
set_option linter.unusedSimpArgs false
variable {P : Program} {w0 : World} {κ : KM} {L : Heap} {w : World} {t : T V} {a : Act}

theorem bytesT_some {ty : TypeId} {b : Nat} (h : bytesT P ty = some b) : ∃ i, P.info? ty = some i ∧ i.bytes = b := by
  unfold bytesT at h
  simpa only [Option.map_eq_some_iff] using h

theorem old_sound {n o len s : Nat} {old : List (List V)} (h : L.elems n o s len = some old) (H : HR w0 κ L w) {k : KB} (hk : κ n = some k) {x c : Nat} (hlc : len ≤ c) (hac : x = k.boff + o ∨ c = 0) :
    ∃ arr : Array Value, (Builtin.firstCells s len (.slice (some ⟨k.r, x, none⟩) len c)).run P w = .ok arr w ∧ VRs κ old.flatten arr.toList := by
  rcases hac with rfl | hc0
  · obtain ⟨xs, h1, h2⟩ := elems_load (P := P) h H hk
    exact ⟨xs, by simpa [Builtin.firstCells] using h1, h2⟩
  · obtain rfl : len = 0 := by omega
    simp [Heap.elems] at h; subst h
    exact ⟨#[], by simp [Builtin.firstCells, loadCells, loadCellsFrom], by simp [VRs_nil]⟩

theorem append_sound {tys : Array TypeId} {sT xT : TypeId} {dx : TypeDesc} (h0 : tys[0]? = some sT) (h1 : tys[1]? = some xT) (hux : P.underlying xT = some dx) (hni : ∀ k, dx ≠ .int k)
    {b x v : V} {L' : Heap} (h : append P sT b x L = some (v, L')) (H : HR w0 κ L w) {bv xv : Value} (hb : VR κ b bv) (hx : VR κ x xv) (ty : TypeId) :
    ∃ z w', (Builtin.append_ tys ty #[bv, xv]).run P w = .ok z w' ∧ LoudR w0 κ L v L' z w' := by
  unfold append at h
  simp only [Option.bind_eq_some_iff, guardO_some, Bool.and_eq_true] at h
  obtain ⟨e, he, s, hs, by_, hby, z, hz, new, hnew, ⟨hs0, hzl⟩, h⟩ := h
  rw [tySlice_some] at he
  have hs0' : s ≠ 0 := by simpa using hs0
  simp only [beq_iff_eq] at hzl
  obtain ⟨inf, hinf, rfl⟩ := bytesT_some hby
  obtain ⟨zr, hzr, hzv⟩ := zeroV_some hz κ
  have hzs : zr.cells.size = s := by have := VRs_length (VR_cells hzv); rw [Array.length_toList] at this; omega
  obtain ⟨hlen, hns, hsrc⟩ := src_sound (P := P) (w0 := w0) hnew hx
  have hfree : κ L.next = none := H.free (Nat.le_refl _)
  split at h
  · -- nil
    simp only [VR] at hb; subst hb
    split at h
    · injection h with h
      simp only [Prod.mk.injEq] at h
      obtain ⟨rfl, rfl⟩ := h
      obtain ⟨arr, ha, hav⟩ := hsrc w H
      refine ⟨.slice none 0 0, w, ?_, κ, KM.le_refl _, H, by simp only [VR], UN_refl _ _⟩
      have hz0 := notInt hni
      rw [List.length_nil] at ha
      simp only [Builtin.append_, List.getElem?_toArray, List.getElem?_cons_zero, List.getElem?_cons_succ, h0, h1, Sem.run_bind, run_underlying he, Result.andThen_ok, sizeT_some hs, run_underlying hux, Sem.run_pure, hz0, Bool.false_eq_true, if_false, hlen, List.length_nil, Nat.add_zero, Nat.le_refl, if_true, Bool.not_false, ha]
    · rename_i y ys
      rw [guardO_some] at h
      obtain ⟨hsm, h⟩ := h
      injection h with h
      simp only [newOpen, Prod.mk.injEq] at h
      obtain ⟨rfl, rfl⟩ := h
      obtain ⟨arr, ha, hav⟩ := hsrc _ H.drew
      obtain ⟨nc, rest, hn1, hn2, hrun⟩ := append_grow (ty := ty) h0 h1 he hux hni hs hinf hzr hzs (base := none) (sLen := 0) (sCap := 0) (hlen w) (by simp) (by rw [Nat.zero_add]; exact hsm) (old := #[]) rfl ha
      rw [Nat.zero_add] at hn1 hn2 hrun
      refine ⟨_, _, hrun, κ.set L.next ⟨w.heap.size, 0, nc⟩, KM.le_set hfree, ?_, ?_, ?_⟩
      · have := grow_put H hns (arr := #[] ++ arr) (rest := rest) (by simpa using hav) hn1 hn2 e rfl
        exact this
      · simp only [VR]
        exact ⟨_, 0, nc, KM.set_same, rfl, hn1, .inl rfl, by rw [if_pos trivial]; rfl⟩
      · exact ⟨Nat.le_succ _, fun n hn hkn => ⟨by rw [KM.set_ne (by omega)]; exact hkn, T.get_set_ne _ _ (by omega)⟩⟩
  · -- closed
    rename_i n o len cap
    simp only [VR] at hb
    obtain ⟨k, xo, c, hk, rfl, hlc, hac, hq⟩ := hb
    have hq' : c = cap := by simpa using hq
    subst hq'
    split at h
    · rename_i hle
      have hle := Nat.le_of_ble_eq_true hle
      simp only [Option.map_eq_some_iff, Prod.mk.injEq] at h
      obtain ⟨L1, hst, rfl, rfl⟩ := h
      obtain ⟨arr, ha, hav⟩ := hsrc w H
      obtain ⟨w', hr, H', hnx, hg⟩ := storeElems_cells (P := P) hk hst H hav
      refine ⟨_, w', append_room (ty := ty) h0 h1 he hux hni hs (hlen w) hle ha ?_, κ, KM.le_refl _, H', ?_, ⟨by rw [hnx]; exact Nat.le_refl _, fun m _ hm => ⟨hm, hg m (fun e => by subst e; rw [hk] at hm; cases hm)⟩⟩⟩
      · rw [Addr.add_lit]
        rcases hac with rfl | hc0
        · rw [Nat.add_assoc]; exact hr
        · have hn0 : new = [] := List.length_eq_zero_iff.1 (by omega)
          subst hn0
          have : arr.toList = [] := by simpa [VRs_nil] using hav
          rw [this] at hr ⊢
          exact hr
      · simp only [VR]
        exact ⟨k, xo, c, hk, rfl, hle, hac, hq⟩
    · rename_i hgt
      have hgt : ¬ len + new.length ≤ c := fun hc => by rw [Nat.ble_eq_true_of_le hc] at hgt; cases hgt
      rw [guardO_some] at h
      obtain ⟨hsm, h⟩ := h
      simp only [Option.map_eq_some_iff, newOpen, Prod.mk.injEq] at h
      obtain ⟨old, hold, rfl, rfl⟩ := h
      obtain ⟨arr, ha, hav⟩ := hsrc _ H.drew
      obtain ⟨oarr, hoa, hov⟩ := old_sound (P := P) hold H.drew hk hlc hac
      obtain ⟨hol, hos⟩ := elems_len hold
      obtain ⟨nc, rest, hn1, hn2, hrun⟩ := append_grow (ty := ty) h0 h1 he hux hni hs hinf hzr hzs (hlen w) hgt hsm hoa ha
      have hlen2 : (old ++ new).length = len + new.length := by rw [List.length_append, hol]
      refine ⟨_, _, hrun, κ.set L.next ⟨w.heap.size, 0, nc⟩, KM.le_set hfree, ?_, ?_, ?_⟩
      · refine grow_put H (fun y hy => ?_) (by rw [Array.toList_append]; exact VRs_of_elems hov hav) (by rw [hlen2]; exact hn1) (by rw [hlen2]; exact hn2) e rfl
        rcases List.mem_append.1 hy with h' | h'
        · exact hos y h'
        · exact hns y h'
      · simp only [VR]
        exact ⟨_, 0, nc, KM.set_same, by rw [hlen2], by rw [hlen2]; exact hn1, .inl rfl, by rw [if_pos trivial]; rfl⟩
      · exact ⟨Nat.le_succ _, fun n hn hkn => ⟨by rw [KM.set_ne (by omega)]; exact hkn, T.get_set_ne _ _ (by omega)⟩⟩
  · -- open
    rename_i n o len kk
    simp only [VR] at hb
    obtain ⟨k, xo, c, hk, rfl, hlc, hac, hq⟩ := hb
    have hq' : c + kk = k.cap := by simpa using hq
    simp only [Option.bind_eq_some_iff] at h
    obtain ⟨bl, hbl, h⟩ := h
    split at h
    case h_2 => cases h
    rename_i cc cnt sz
    simp only [guardO_some, Bool.and_eq_true, beq_iff_eq] at h
    obtain ⟨⟨rfl, ho⟩, h⟩ := h
    obtain ⟨ob, hob, ys, el, fr, rfl, hfr, hcells, hqq⟩ := H.blk n k _ hk hbl
    obtain ⟨hsz, hcnt⟩ := hqq rfl
    split at h
    · rename_i hle
      have hle := Nat.le_of_ble_eq_true hle
      simp only [Option.map_eq_some_iff, Prod.mk.injEq] at h
      obtain ⟨L1, hst, rfl, rfl⟩ := h
      have hroom : len + new.length ≤ c := by
        subst ho
        rw [← Nat.add_mul] at hle
        have := Nat.le_of_mul_le_mul_right hle (Nat.pos_of_ne_zero hs0')
        omega
      obtain ⟨arr, ha, hav⟩ := hsrc w H
      obtain ⟨w', hr, H', hnx, hg⟩ := storeElems_cells (P := P) hk hst H hav
      refine ⟨_, w', append_room (ty := ty) h0 h1 he hux hni hs (hlen w) hroom ha ?_, κ, KM.le_refl _, H', ?_, ⟨by rw [hnx]; exact Nat.le_refl _, fun m _ hm => ⟨hm, hg m (fun e => by subst e; rw [hk] at hm; cases hm)⟩⟩⟩
      · rw [Addr.add_lit]
        rcases hac with rfl | hc0
        · rw [Nat.add_assoc]; exact hr
        · have hn0 : new = [] := List.length_eq_zero_iff.1 (by omega)
          subst hn0
          have : arr.toList = [] := by simpa [VRs_nil] using hav
          rw [this] at hr ⊢
          exact hr
      · simp only [VR]
        exact ⟨k, xo, c, hk, rfl, hroom, hac, hq⟩
    · simp only [guardO_some, Bool.and_eq_true, beq_iff_eq, Option.map_eq_some_iff, newOpen, Prod.mk.injEq] at h
      obtain ⟨⟨⟨hend, hsm⟩, hscal⟩, old, hold, rfl, rfl⟩ := h
      obtain ⟨hol, hos⟩ := elems_len hold
      have hlen2 : (old ++ new).length = len + new.length := by rw [List.length_append, hol]
      rw [hlen2]
      have hUN : ∀ k', UN κ L (κ.set L.next k') ⟨(L.t.del n).set L.next (.cells (rowFrom (old ++ new) 0) (len + new.length) sz true false), L.next + 1⟩ := fun k' =>
        ⟨Nat.le_succ _, fun m hm hkm => ⟨by rw [KM.set_ne (by omega)]; exact hkm, by
          show T.get _ m = _
          rw [T.get_set_ne _ _ (by omega), T.get_del, if_neg (fun e => by subst e; rw [hk] at hkm; cases hkm)]⟩⟩
      by_cases hroom : len + new.length ≤ c
      · obtain ⟨arr, ha, hav⟩ := hsrc w H
        have hsc : ∀ y ∈ arr.toList, y.oneCell' = true := VRs_all hav (by
          rw [List.all_flatten]; exact hscal)
        obtain ⟨w', hr, H'⟩ := graft_put (P := P) H hk hbl ho hq' hend hold hns hroom hav hsc
        refine ⟨_, w', append_room (ty := ty) h0 h1 he hux hni hs (hlen w) hroom ha ?_, _, KM.le_set hfree, H', ?_, hUN _⟩
        · rw [Addr.add_lit]
          rcases hac with rfl | hc0
          · exact hr
          · have hn0 : new = [] := List.length_eq_zero_iff.1 (by omega)
            subst hn0
            have : arr.toList = [] := by simpa [VRs_nil] using hav
            rw [this] at hr ⊢
            exact hr
        · simp only [VR]
          exact ⟨_, xo, c, KM.set_same, rfl, hroom, hac.imp (fun e => by rw [e]; rfl) id, by rw [if_pos trivial]; rfl⟩
      · obtain ⟨arr, ha, hav⟩ := hsrc _ H.drew
        obtain ⟨oarr, hoa, hov⟩ := old_sound (P := P) hold H.drew hk hlc hac
        obtain ⟨nc, rest, hn1, hn2, hrun⟩ := append_grow (ty := ty) h0 h1 he hux hni hs hinf hzr hzs (hlen w) hroom hsm hoa ha
        refine ⟨_, _, hrun, κ.set L.next ⟨w.heap.size, 0, nc⟩, KM.le_set hfree, ?_, ?_, hUN _⟩
        · have := grow_put (H.del n) (els := old ++ new) (fun y hy => by
            rcases List.mem_append.1 hy with h' | h'
            · exact hos y h'
            · exact hns y h') (by rw [Array.toList_append]; exact VRs_of_elems hov hav) (by rw [hlen2]; exact hn1) (by rw [hlen2]; exact hn2) e rfl
          rw [hlen2] at this
          exact this
        · simp only [VR]
          exact ⟨_, 0, nc, KM.set_same, rfl, hn1, .inl rfl, by rw [if_pos trivial]; rfl⟩
  · cases h

theorem loud_sound {o : Oper} {v : V} {L' : Heap} (h : loud P o t L = some (v, L')) (H : HR w0 κ L w) (ha : ∀ x ∈ o.op.operands, OpR κ t a x) :
    ∃ nx z w', (execOp a.eval o).run P w = .ok nx w' ∧ (nx = .value z ∨ (nx = .skip ∧ z = undef)) ∧ LoudR w0 κ L v L' z w' := by
  obtain ⟨dst, op, typ, pos, after, guard⟩ := o
  simp only at ha
  cases op <;> simp only [loud, reduceCtorEq] at h <;> simp only [Op.operands] at ha
  case store ty p x =>
    simp only [Option.bind_eq_some_iff, guardO_some, Option.map_eq_some_iff, Prod.mk.injEq] at h
    obtain ⟨pv, hpv, xv, hxv, q, hq, s, hs, hl, L1, hst, rfl, rfl⟩ := h
    rw [asPtr_some] at hq; subst hq
    have hp := opd_VR (ha p (by simp)) hpv
    have hx := opd_VR (ha x (by simp)) hxv
    simp only [VR] at hp
    obtain ⟨k, hk, hp⟩ := hp
    simp only [beq_iff_eq] at hl
    have hxl := VRs_length (VR_cells hx)
    rw [Array.length_toList] at hxl
    obtain ⟨hr, H', hnx, hg⟩ := store_cells (P := P) hst H hk (VR_cells hx)
    refine ⟨.skip, undef, _, ?_, .inr ⟨rfl, rfl⟩, κ, KM.le_refl _, H', VR_undef, ⟨by rw [hnx]; exact Nat.le_refl _, fun m _ hm => ⟨hm, hg m (fun e => by subst e; rw [hk] at hm; cases hm)⟩⟩⟩
    simp only [execOp, hp, Instr.storeAt, Instr.sureAddr, storeVar, Sem.run_bind, Sem.run_pure, Result.andThen_ok, sizeT_some hs]
    rw [if_neg (by omega)]
    simp only [Sem.run_bind, hr, Result.andThen_ok, Sem.run_pure]
  case insert ty m kk x =>
    simp only [Option.bind_eq_some_iff, Option.map_eq_some_iff, Prod.mk.injEq] at h
    obtain ⟨mv, hmv, kv, hkv, xv, hxv, L1, hst, rfl, rfl⟩ := h
    have hm := opd_VR (ha m (by simp)) hmv
    have hk := opd_VR (ha kk (by simp)) hkv
    have hx := opd_VR (ha x (by simp)) hxv
    unfold mapInsert at hst
    simp only [Option.bind_eq_some_iff] at hst
    obtain ⟨mt, hmt, n, hn, b, hb, hst⟩ := hst
    rw [tyMap_some] at hmt
    rw [asMap_some] at hn; subst hn
    simp only [VR] at hm
    obtain ⟨kb, hkb, hm⟩ := hm
    split at hst
    case h_2 => cases hst
    rename_i es
    simp only [guardO_some, Option.bind_eq_some_iff, beq_iff_eq] at hst
    obtain ⟨hkk, r, hr, hst⟩ := hst
    split at hst
    case h_2 => cases hst
    injection hst with hst; subst hst
    obtain ⟨o, ho, xs, clock, es', rfl, hp, h1, h2⟩ := H.blk n kb _ hkb hb
    have hr : findEnt P mt.1 kv es' = some none := findEnt_none.2 fun e he => findEnt_none.1 hr e (hp.mem_iff.1 he)
    obtain ⟨r', hr', hf⟩ := findKey_sound (w := w) hk h1 h2 hr (equalN_und hkk)
    simp only [FR] at hf; subst hf
    have hck := checkKey_sound (w := w) false 20 10000 mt.1 kv _ (by decide) hkk hk
    have hobj : (getObj kb.r).run P w = .ok (.map xs clock) w := by simp [getObj, Sem.run, ho]
    have hlt := (H.dom n kb hkb).2
    have hset : ∀ ob, (setObj kb.r ob).run P w = .ok () (w.putObj kb.r ob) := fun ob => by simp [setObj, Sem.run, ho, World.putObj]
    refine ⟨.skip, undef, w.putObj kb.r (.map (xs.push { key := a.eval kk, val := a.eval x, born := clock }) (clock + 1)), ?_, .inr ⟨rfl, rfl⟩, κ, KM.le_refl _, ?_, VR_undef, UN_at hkb⟩
    · simp only [execOp, hm, Instr.mapUpdate, Sem.run_bind, run_underlying hmt, Result.andThen_ok, hobj, hck, hr', hset, Sem.run_pure]
    · refine H.turn hkb hb rfl rfl (by simp) rfl rfl rfl (fun i hi => World.putObj_heap_other hi) (World.putObj_heap_same hlt) ⟨_, _, es' ++ [_], rfl, hp.append_right _, ?_, ?_⟩
      · simp only [List.map_append, List.map_cons, List.map_nil, Array.toList_push]
        exact VRs_append h1 (by simp [VRs_cons', VRs_nil, hk])
      · simp only [List.map_append, List.map_cons, List.map_nil, Array.toList_push]
        exact VRs_append h2 (by simp [VRs_cons', VRs_nil, hx])
  case call c =>
    split at h
    · rename_i hb
      simp only [Option.bind_eq_some_iff] at h
      obtain ⟨vs, hvs, h⟩ := h
      split at h
      case h_2 => cases h
      rename_i b x
      simp only [Option.bind_eq_some_iff, guardO_some] at h
      obtain ⟨ty, hty, ty2, hty2, dx, hdx, hni, h⟩ := h
      have hv := opds_arr (a := a) (fun x hx => ha x (by simp [Call.operands, hb, hx])) hvs
      obtain ⟨bv, r1, e1, hbv, hr1⟩ := VRs_cons.1 hv
      obtain ⟨xv, r2, e2, hxv, hr2⟩ := VRs_cons.1 hr1
      rw [VRs_nil] at hr2
      subst hr2; subst e2
      have hargs : c.args.map a.eval = #[bv, xv] := by
        cases hh : c.args.map a.eval; rw [hh] at e1; simp_all
      have hni' : ∀ k, dx ≠ .int k := by
        intro k e
        subst e
        simp [tyInt, hdx] at hni
      obtain ⟨z, w', hz, hl⟩ := append_sound hty hty2 hdx hni' h H hbv hxv typ
      refine ⟨.value z, z, w', ?_, .inl rfl, hl⟩
      simp only [execOp, resolve, hb, Sem.run_bind, Sem.run_pure, Result.andThen_ok, invoke, hargs, Go.builtin, hz]
    · cases h
end Go.Proofs.Ytpfmoolpeecobaa.Ev
