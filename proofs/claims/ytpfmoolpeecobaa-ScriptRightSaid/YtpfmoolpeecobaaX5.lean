/- The operations that change nothing, run: all in one. -/
import Derived.Test.YtpfmoolpeecobaaX4
namespace Go.Proofs.Ytpfmoolpeecobaa.Ev
open Go.RowKit
set_option linter.unusedVariables false
set_option linter.unusedSimpArgs false
variable {P : Program} {w0 : World} {κ : KM} {L : Heap} {w : World}

theorem idx_some {ix : V} {len i : Nat} (h : idx ix len = some i) : ∃ k, ix = .int k i ∧ i < len := by
  unfold idx at h
  simp only [Option.bind_eq_some_iff] at h
  obtain ⟨p, hp, h⟩ := h
  rw [asInt_some] at hp
  subst hp
  split at h
  · rename_i n hn
    rw [guardO_some] at h
    obtain ⟨hb, h⟩ := h
    injection h with h; subst h
    exact ⟨p.1, by rw [hn]; rfl, of_decide_eq_true (by simpa [Nat.blt_eq] using hb)⟩
  · cases h

theorem fieldPlace_run {k : KB} {off : Nat} {f : Field} {s : Nat} (hs : sizeT P f.type = some s) (h0 : s ≠ 0) :
    (fieldPlace ⟨k.r, off, none⟩ f).run P w = .ok ⟨k.r, off + f.offset, none⟩ w := by
  simp only [fieldPlace, Sem.run_bind, sizeT_some hs, Result.andThen_ok]
  rw [if_neg h0]
  simp [Addr.add_lit]
theorem fieldAddr_sound {s : TypeId} {v r : V} {i : Nat} (h : fieldAddr P s v i = some r) {x : Value} (hx : VR κ v x) :
    ∃ z, (Instr.fieldAt s x i).run P w = .ok z w ∧ VR κ r z := by
  unfold fieldAddr at h
  simp only [Option.bind_eq_some_iff, guardO_some] at h
  obtain ⟨fs, hfs, f, hf, p, hp, sz, hsz, h0, h⟩ := h
  injection h with h; subst h
  rw [tyStruct_some] at hfs
  rw [asPtr_some] at hp
  subst hp
  simp only [VR] at hx
  obtain ⟨k, hk, rfl⟩ := hx
  refine ⟨.pointer (some ⟨k.r, k.boff + p.2 + f.offset, none⟩), ?_, by simp only [VR]; exact ⟨k, hk, by rw [Nat.add_assoc]⟩⟩
  simp only [Instr.fieldAt, Sem.run_bind, run_underlying hfs, Result.andThen_ok, hf, Instr.sureAddr, Sem.run_pure, fieldPlace_run hsz (by simpa using h0)]

theorem indexAddr_sound {ty : TypeId} {v u r : V} (h : indexAddr P ty v u = some r) {x y : Value} (hx : VR κ v x) (hy : VR κ u y) :
    ∃ z, (Instr.indexAt ty x y).run P w = .ok z w ∧ VR κ r z := by
  unfold indexAddr at h
  split at h
  · rename_i n o
    simp only [Option.bind_eq_some_iff, Option.map_eq_some_iff] at h
    obtain ⟨a, ha, s, hs, i, hi, rfl⟩ := h
    rw [tyArray_some] at ha
    obtain ⟨kk, rfl, hlt⟩ := idx_some hi
    simp only [VR] at hx hy
    obtain ⟨k, hk, rfl⟩ := hx
    subst hy
    refine ⟨.pointer (some ⟨k.r, k.boff + o + i * s, none⟩), ?_, by simp only [VR]; exact ⟨k, hk, by rw [Nat.add_assoc]⟩⟩
    simp only [Instr.indexAt, asIntOf, Sem.run_bind, Sem.run_pure, Result.andThen_ok, run_underlying ha, Instr.sureAddr]
    rw [if_pos ⟨by omega, by omega⟩]
    simp [sizeT_some hs, Addr.add_lit]
  · rename_i n o len cap q
    simp only [Option.bind_eq_some_iff, Option.map_eq_some_iff] at h
    obtain ⟨e, he, s, hs, i, hi, rfl⟩ := h
    rw [tySlice_some] at he
    obtain ⟨kk, rfl, hlt⟩ := idx_some hi
    simp only [VR] at hx hy
    obtain ⟨k, a, c, hk, rfl, hlc, hac, _⟩ := hx
    subst hy
    have ha : a = k.boff + o := hac.resolve_right (by omega)
    subst ha
    refine ⟨.pointer (some ⟨k.r, k.boff + o + i * s, none⟩), ?_, by simp only [VR]; exact ⟨k, hk, by rw [Nat.add_assoc]⟩⟩
    simp only [Instr.indexAt, asIntOf, Sem.run_bind, Sem.run_pure, Result.andThen_ok, run_underlying he]
    rw [if_pos ⟨by omega, by omega⟩]
    simp [sizeT_some hs, Addr.add_lit]
  · cases h

theorem index_sound {ty : TypeId} {v u r : V} (h : index P ty v u = some r) {x y : Value} (hx : VR κ v x) (hy : VR κ u y) :
    ∃ z, (Instr.index ty x y).run P w = .ok z w ∧ VR κ r z := by
  unfold index at h
  split at h
  · rename_i cs
    simp only [Option.bind_eq_some_iff] at h
    obtain ⟨a, ha, s, hs, i, hi, h⟩ := h
    rw [tyArray_some] at ha
    obtain ⟨kk, rfl, hlt⟩ := idx_some hi
    simp only [VR] at hx hy
    obtain ⟨xs, rfl, hx⟩ := hx
    subst hy
    obtain ⟨z, hz, hv⟩ := part_sound (P := P) (w := w) h hx
    refine ⟨z, ?_, hv⟩
    simp only [Instr.index, asIntOf, Sem.run_bind, Sem.run_pure, Result.andThen_ok, run_underlying ha]
    rw [if_pos ⟨by omega, by omega⟩]
    simp [sizeT_some hs, hz]
  · rename_i l
    rw [guardO_some] at h
    obtain ⟨ht, h⟩ := h
    rw [tyStr_true] at ht
    simp only [Option.bind_eq_some_iff, Option.map_eq_some_iff] at h
    obtain ⟨i, hi, b, hb, rfl⟩ := h
    obtain ⟨kk, rfl, hlt⟩ := idx_some hi
    simp only [VR] at hx hy
    obtain ⟨s, rfl, rfl⟩ := hx
    subst hy
    rw [strOf_get, Option.map_eq_some_iff] at hb
    obtain ⟨c, hc, rfl⟩ := hb
    refine ⟨.int .u8 c.toNat, ?_, by simp only [VR]; rfl⟩
    simp only [Instr.index, asIntOf, Sem.run_bind, Sem.run_pure, Result.andThen_ok, run_underlying ht]
    rw [if_pos (by omega)]
    simp [hc]
  · cases h

inductive OpV (κ : KM) : Option V → Option Value → Prop
  | none : OpV κ none none
  | some (v : V) (x : Value) (h : VR κ v x) : OpV κ (some v) (some x)

theorem bound_sound {o : Option V} {x : Option Value} (ho : OpV κ o x) {d m i : Nat} (h : bound o d m = some i) :
    (x = none ∧ i = d) ∨ ∃ k, x = some (.int k i) ∧ i ≤ m := by
  cases ho with
  | none => simp [bound] at h; exact .inl ⟨rfl, h.symm⟩
  | some v y hv =>
    simp only [bound] at h
    obtain ⟨k, rfl, hlt⟩ := idx_some h
    simp only [VR] at hv
    subst hv
    exact .inr ⟨k, rfl, by omega⟩
theorem sliceBound_run {k : IntKind} {i y : Nat} {code : BoundsCode} (h : i ≤ y) : (Instr.sliceBound (.int k i) y code).run P w = .ok i w := by
  simp only [Instr.sliceBound, asIntOf, Sem.run_bind, Sem.run_pure, Result.andThen_ok]
  rw [if_pos ⟨by omega, by omega⟩]
  simp
theorem sliceBounds_run {isS : Bool} {len cap : Nat} {lo hi mx : Option V} {xl xh xm : Option Value} (hl : OpV κ lo xl) (hh : OpV κ hi xh) (hm : OpV κ mx xm) {l h m : Nat}
    (em : bound mx cap cap = some m) (eh : bound hi len m = some h) (el : bound lo 0 h = some l) (hmh : mx = none ∨ hi.isSome = true) :
    (Instr.sliceBounds isS len cap xl xh xm).run P w = .ok (l, h, m) w ∧ (mx = none → m = cap) := by
  rcases bound_sound hm em with ⟨rfl, rfl⟩ | ⟨k, rfl, hle⟩
  · refine ⟨?_, fun _ => rfl⟩
    rcases bound_sound hh eh with ⟨rfl, rfl⟩ | ⟨k, rfl, hle⟩ <;> rcases bound_sound hl el with ⟨rfl, rfl⟩ | ⟨k2, rfl, hle2⟩
    · simp only [Instr.sliceBounds, Sem.run_bind, Sem.run_pure, Result.andThen_ok]
    · simp only [Instr.sliceBounds, Sem.run_bind, Sem.run_pure, Result.andThen_ok, sliceBound_run hle2]
    · simp only [Instr.sliceBounds, Sem.run_bind, Sem.run_pure, Result.andThen_ok, sliceBound_run hle]
    · simp only [Instr.sliceBounds, Sem.run_bind, Sem.run_pure, Result.andThen_ok, sliceBound_run hle, sliceBound_run hle2]
  · have hms : mx ≠ none := by rintro rfl; cases hm
    refine ⟨?_, fun e => absurd e hms⟩
    rcases bound_sound hh eh with ⟨rfl, rfl⟩ | ⟨k', rfl, hle'⟩
    · cases hh
      rcases hmh with e | e
      · exact absurd e hms
      · cases e
    · rcases bound_sound hl el with ⟨rfl, rfl⟩ | ⟨k2, rfl, hle2⟩
      · simp only [Instr.sliceBounds, Sem.run_bind, Sem.run_pure, Result.andThen_ok, sliceBound_run hle, sliceBound_run hle']
      · simp only [Instr.sliceBounds, Sem.run_bind, Sem.run_pure, Result.andThen_ok, sliceBound_run hle, sliceBound_run hle', sliceBound_run hle2]

theorem bound_le {o : Option V} {d m i : Nat} (h : bound o d m = some i) (hd : d ≤ m) : i ≤ m := by
  cases o with
  | none => simp [bound] at h; omega
  | some v => obtain ⟨k, _, hlt⟩ := idx_some h; omega

theorem sliceOp_sound {ty : TypeId} {v r : V} {lo hi mx : Option V} (h : sliceOp P ty v lo hi mx = some r) {x : Value} (hx : VR κ v x) {xl xh xm : Option Value} (hl : OpV κ lo xl) (hh : OpV κ hi xh) (hm : OpV κ mx xm) :
    ∃ z, (Instr.sliceAt ty x xl xh xm).run P w = .ok z w ∧ VR κ r z := by
  unfold sliceOp at h
  split at h
  · rename_i s
    rw [guardO_some] at h
    obtain ⟨hg, h⟩ := h
    simp only [Bool.and_eq_true, Option.isNone_iff_eq_none] at hg
    obtain ⟨ht, rfl⟩ := hg
    rw [tyStr_true] at ht
    simp only [Option.bind_eq_some_iff, Option.map_eq_some_iff] at h
    obtain ⟨h', eh, l, el, rfl⟩ := h
    simp only [VR] at hx
    obtain ⟨b, rfl, rfl⟩ := hx
    cases hm
    have hb := (sliceBounds_run (P := P) (w := w) (isS := false) (len := b.size) (cap := b.size) hl hh .none rfl (by rw [strOf_length] at eh; exact eh) el (.inl rfl)).1
    refine ⟨.string (b.extract l h'), ?_, by simp only [VR]; exact ⟨_, rfl, strOf_extract _ _ _⟩⟩
    simp only [Instr.sliceAt, Instr.slice, Sem.run_bind, run_underlying ht, Result.andThen_ok, Option.isSome_none, Bool.false_eq_true, if_false, Sem.run_pure, hb]
  · simp only [Option.bind_eq_some_iff, guardO_some, Option.isNone_iff_eq_none, Option.map_eq_some_iff] at h
    obtain ⟨e, he, s, hs, rfl, h', eh, l, el, rfl⟩ := h
    rw [tySlice_some] at he
    simp only [VR] at hx
    subst hx
    cases hm
    have hb := (sliceBounds_run (P := P) (w := w) (isS := true) (len := 0) (cap := 0) hl hh .none rfl eh el (.inl rfl)).1
    have h0 : h' = 0 := by have := bound_le eh (Nat.le_refl _); omega
    subst h0
    have l0 : l = 0 := by have := bound_le el (Nat.le_refl _); omega
    subst l0
    refine ⟨.slice none 0 0, ?_, by simp only [VR]⟩
    simp only [Instr.sliceAt, Instr.slice, Sem.run_bind, run_underlying he, Result.andThen_ok, hb, sizeT_some hs, if_true, Sem.run_pure, Nat.sub_self]
  · rename_i n o len cap
    simp only [Option.bind_eq_some_iff, guardO_some, Option.isNone_iff_eq_none, Option.map_eq_some_iff] at h
    obtain ⟨e, he, s, hs, rfl, h', eh, l, el, rfl⟩ := h
    rw [tySlice_some] at he
    simp only [VR] at hx
    obtain ⟨k, a, c, hk, rfl, hlc, hac, hq⟩ := hx
    cases hm
    have h1 := bound_le eh (Nat.le_refl _)
    have h2 := bound_le el (Nat.zero_le _)
    have hq' : c + cap = k.cap := by simpa using hq
    have eh' : bound hi len c = some h' := by
      cases hi with
      | none => exact eh
      | some vv =>
        simp only [bound] at eh ⊢
        obtain ⟨kk, rfl, hlt⟩ := idx_some eh
        simp only [idx, V.asInt, Option.bind_some, guardO]
        have : Nat.blt h' (c + 1) = true := by rw [Nat.blt_eq]; omega
        simp only [this]
    have hb := (sliceBounds_run (P := P) (w := w) (isS := true) (len := len) (cap := c) hl hh .none rfl eh' el (.inl rfl)).1
    refine ⟨.slice (some (if c = l then ⟨k.r, a, none⟩ else ⟨k.r, a + l * s, none⟩)) (h' - l) (c - l), ?_, ?_⟩
    · simp only [Instr.sliceAt, Instr.slice, Sem.run_bind, run_underlying he, Result.andThen_ok, hb, sizeT_some hs, Sem.run_pure]
      congr 2
      split <;> simp [Addr.add_lit]
    · simp only [VR]
      by_cases hcl : c = l
      · rw [if_pos hcl]
        refine ⟨k, a, c - l, hk, rfl, by omega, .inr (by omega), ?_⟩
        rw [if_pos trivial]; omega
      · rw [if_neg hcl]
        refine ⟨k, a + l * s, c - l, hk, rfl, by omega, ?_, ?_⟩
        · rcases hac with rfl | h0
          · exact .inl (by omega)
          · exact .inr (by omega)
        · rw [if_pos trivial]; omega
  · rename_i n o len cap
    simp only [Option.bind_eq_some_iff, guardO_some, Option.map_eq_some_iff] at h
    obtain ⟨e, he, s, hs, m, em, hmh, h', eh, l, el, rfl⟩ := h
    rw [tySlice_some] at he
    simp only [VR] at hx
    obtain ⟨k, a, c, hk, rfl, hlc, hac, hq⟩ := hx
    have hq' : c = cap := by simpa using hq
    subst hq'
    have hmc := bound_le em (Nat.le_refl _)
    have h2 := bound_le el (Nat.zero_le _)
    have hhm : h' ≤ m := by
      cases hi with
      | none =>
        simp only [Option.isSome_none, Bool.or_false, Option.isNone_iff_eq_none] at hmh
        subst hmh
        simp [bound] at em eh
        omega
      | some vv => obtain ⟨_, _, hlt⟩ := idx_some eh; omega
    have hb := (sliceBounds_run (P := P) (w := w) (isS := true) (len := len) (cap := c) hl hh hm em eh el (by
      simpa [Option.isNone_iff_eq_none] using hmh)).1
    refine ⟨.slice (some (if m = l then ⟨k.r, a, none⟩ else ⟨k.r, a + l * s, none⟩)) (h' - l) (m - l), ?_, ?_⟩
    · simp only [Instr.sliceAt, Instr.slice, Sem.run_bind, run_underlying he, Result.andThen_ok, hb, sizeT_some hs, Sem.run_pure]
      congr 2
      split <;> simp [Addr.add_lit]
    · simp only [VR]
      by_cases hcl : m = l
      · rw [if_pos hcl, if_pos hcl]
        refine ⟨k, a, m - l, hk, rfl, by omega, .inr (by omega), ?_⟩
        rw [if_neg (by simp)]
      · rw [if_neg hcl, if_neg hcl]
        refine ⟨k, a + l * s, m - l, hk, rfl, by omega, ?_, ?_⟩
        · rcases hac with rfl | h0
          · exact .inl (by omega)
          · exact .inr (by omega)
        · rw [if_neg (by simp)]
  · rename_i n o
    simp only [Option.bind_eq_some_iff, guardO_some, Option.map_eq_some_iff] at h
    obtain ⟨ar, he, s, hs, m, em, hmh, h', eh, l, el, rfl⟩ := h
    rw [tyArray_some] at he
    simp only [VR] at hx
    obtain ⟨k, hk, rfl⟩ := hx
    have hmc := bound_le em (Nat.le_refl _)
    have h2 := bound_le el (Nat.zero_le _)
    have hhm : h' ≤ m := by
      cases hi with
      | none =>
        simp only [Option.isSome_none, Bool.or_false, Option.isNone_iff_eq_none] at hmh
        subst hmh
        simp [bound] at em eh
        omega
      | some vv => obtain ⟨_, _, hlt⟩ := idx_some eh; omega
    have hb := (sliceBounds_run (P := P) (w := w) (isS := false) (len := ar.1) (cap := ar.1) hl hh hm em eh el (by
      simpa [Option.isNone_iff_eq_none] using hmh)).1
    refine ⟨.slice (some (if m = l then ⟨k.r, k.boff + o, none⟩ else ⟨k.r, k.boff + o + l * s, none⟩)) (h' - l) (m - l), ?_, ?_⟩
    · simp only [Instr.sliceAt, Sem.run_bind, run_underlying he, Result.andThen_ok, hb, sizeT_some hs, Sem.run_pure, Instr.sureAddr]
      congr 2
      split <;> simp [Addr.add_lit]
    · simp only [VR]
      by_cases hcl : m = l
      · rw [if_pos hcl, if_pos hcl]
        refine ⟨k, k.boff + o, m - l, hk, rfl, by omega, .inl rfl, ?_⟩
        rw [if_neg (by simp)]
      · rw [if_neg hcl, if_neg hcl]
        refine ⟨k, k.boff + o + l * s, m - l, hk, rfl, by omega, .inl (by omega), ?_⟩
        rw [if_neg (by simp)]
  · cases h

/-! ### maps -/
theorem allR_true {α : Type} {r : α → Option Bool} : ∀ {l : List α}, allR r l = some true → ∀ a ∈ l, r a = some true
  | [], _, a, ha => by cases ha
  | x :: l, h, a, ha => by
    simp only [allR, Option.bind_eq_some_iff] at h
    obtain ⟨b, hb, h⟩ := h
    cases b with
    | true =>
      rcases List.mem_cons.1 ha with rfl | ha
      · exact hb
      · exact allR_true h a ha
    | false => cases h
theorem run_forIn_unit {α : Type} {f : α → PUnit → Sem (ForInStep PUnit)} : ∀ {l : List α}, (∀ a ∈ l, ∀ s, (f a s).run P w = .ok (.yield ⟨⟩) w) → (forIn l PUnit.unit f).run P w = .ok ⟨⟩ w
  | [], _ => rfl
  | a :: l, h => by
    rw [List.forIn_cons]
    simp only [Sem.run_bind, h a (List.mem_cons_self ..), Result.andThen_ok]
    exact run_forIn_unit fun b hb => h b (List.mem_cons_of_mem _ hb)

theorem checkKey_sound (em : Bool) : ∀ (n d : Nat) (ty : TypeId) (v : V) (x : Value), n ≤ d → equalN P n ty v v = some true → VR κ v x → (Instr.checkKey em d ty x).run P w = .ok () w := by
  intro n
  induction n with
  | zero => intro d ty v x _ h; simp [equalN] at h
  | succ n ih =>
    intro d ty v x hd h hx
    obtain ⟨d, rfl⟩ : ∃ e, d = e + 1 := ⟨d - 1, by omega⟩
    unfold equalN at h
    split at h
    · rename_i hu _
      simp only [VR] at hx; subst hx
      simp [Instr.checkKey, run_underlying hu]
    · rename_i hu _
      simp only [VR] at hx; subst hx
      simp [Instr.checkKey, run_underlying hu]
    · rename_i hu _
      simp only [VR] at hx; obtain ⟨s, rfl, _⟩ := hx
      simp [Instr.checkKey, run_underlying hu]
    · rename_i fs cs _ hu hv
      simp only [VR] at hx; obtain ⟨xs, rfl, hx⟩ := hx
      injection hv with hv; subst hv
      rw [guardO_some] at h
      have hall := allR_true h.2
      simp only [Instr.checkKey, Sem.run_bind, run_underlying hu, Result.andThen_ok]
      rw [← Array.forIn_toList, run_forIn_unit]
      · rfl
      · intro f hf s
        have := hall f hf
        by_cases hn : f.name = "_"
        · simp [hn]
        · simp only [hn, decide_false, eqPart, Option.bind_eq_some_iff] at this
          obtain ⟨a, ha, b, hb, he⟩ := this
          rw [ha] at hb; injection hb with hb; subst hb
          obtain ⟨z, hz, hzv⟩ := part_sound (P := P) (w := w) ha hx
          simp [hn, hz, ih d _ _ _ (by omega) he hzv]
    · rename_i len e cs _ hu hv
      simp only [VR] at hx; obtain ⟨xs, rfl, hx⟩ := hx
      injection hv with hv; subst hv
      simp only [Option.bind_eq_some_iff] at h
      obtain ⟨m, hm, h⟩ := h
      have hall := allR_true h
      simp only [Instr.checkKey, Sem.run_bind, run_underlying hu, Result.andThen_ok]
      rw [Std.Legacy.Range.forIn_eq_forIn_range', run_forIn_unit]
      · rfl
      · intro i hi s
        have := hall i (by simpa [List.range_eq_range', Std.Legacy.Range.size] using hi)
        simp only [eqPart, Option.bind_eq_some_iff] at this
        obtain ⟨a, ha, b, hb, he⟩ := this
        rw [ha] at hb; injection hb with hb; subst hb
        obtain ⟨z, hz, hzv⟩ := part_sound (P := P) (w := w) ha hx
        simp [hz, sizeT_some hm, ih d _ _ _ (by omega) he hzv]
    · cases h

def FR (κ : KM) : Option V → Option (Nat × Value) → Prop
  | none, r => r = none
  | some v, r => ∃ i x, r = some (i, x) ∧ VR κ v x

theorem findAsking_sound {kt : TypeId} {k : V} {kx : Value} (hk : VR κ k kx) : ∀ {es : List Ent} {xs : List MapEntry}, VRs κ (es.map Ent.key) (xs.map MapEntry.key) → VRs κ (es.map Ent.val) (xs.map MapEntry.val) →
    ∀ {r : Option V} (i : Nat), findEnt P kt k es = some r → ∃ r', (Instr.findAsking kt kx xs i).run P w = .ok r' w ∧ FR κ r r'
  | [], xs, h1, h2, r, i, h => by
    rw [List.map_nil, VRs_nil] at h1
    have : xs = [] := by simpa using h1
    subst this
    simp only [findEnt] at h; injection h with h; subst h
    exact ⟨none, rfl, rfl⟩
  | e :: es, xs, h1, h2, r, i, h => by
    cases xs with
    | nil => rw [List.map_cons, VRs_cons] at h1; obtain ⟨_, _, h1, _⟩ := h1; simp at h1
    | cons x xs =>
      rw [List.map_cons, List.map_cons, VRs_cons'] at h1 h2
      simp only [findEnt, Option.bind_eq_some_iff] at h
      obtain ⟨b, hb, h⟩ := h
      have he : (Op.equal kt kx x.key).run P w = .ok b w := equalN_sound 20 Op.maxDepth kt _ _ _ _ b (by decide) hb hk h1.1
      cases b with
      | true =>
        simp only at h; injection h with h; subst h
        exact ⟨some (i, x.val), by simp [Instr.findAsking, he], i, x.val, rfl, h2.1⟩
      | false =>
        obtain ⟨r', hr, hf⟩ := findAsking_sound hk h1.2 h2.2 (i + 1) h
        exact ⟨r', by simp [Instr.findAsking, he, hr], hf⟩

theorem sameNow_eq {kt : TypeId} {d : TypeDesc} (hu : P.underlying kt = some d) {k u : V} {kx ux : Value} (hk : VR κ k kx) (hu' : VR κ u ux) {b c : Bool} (h1 : Instr.sameNow d kx ux = some b) (h2 : equalN P 20 kt k u = some c) : b = c := by
  obtain ⟨d', hd'⟩ : ∃ d' : Nat, 20 ≤ d' + 1 := ⟨19, by omega⟩
  have he := equalN_sound (w := default) 20 (d' + 1) kt _ _ _ _ c hd' h2 hk hu'
  unfold Instr.sameNow at h1
  split at h1
  · split at h1
    · rename_i hkk
      injection h1 with h1; subst h1
      simp [Op.equalIn, run_underlying hu, hkk] at he
      exact he
    · cases h1
  · injection h1 with h1; subst h1
    simp [Op.equalIn, run_underlying hu] at he
    exact he
  · injection h1 with h1; subst h1
    simp [Op.equalIn, run_underlying hu] at he
    exact he
  · cases h1

theorem findNow_sound {kt : TypeId} {d : TypeDesc} (hu : P.underlying kt = some d) {k : V} {kx : Value} (hk : VR κ k kx) : ∀ {es : List Ent} {xs : List MapEntry}, VRs κ (es.map Ent.key) (xs.map MapEntry.key) → VRs κ (es.map Ent.val) (xs.map MapEntry.val) →
    ∀ {r : Option V} (i : Nat) {r' : Option (Nat × Value)}, findEnt P kt k es = some r → Instr.findNow d kx xs i = some r' → FR κ r r'
  | [], xs, h1, h2, r, i, r', h, h' => by
    rw [List.map_nil, VRs_nil] at h1
    have : xs = [] := by simpa using h1
    subst this
    simp only [findEnt] at h; injection h with h; subst h
    simp only [Instr.findNow] at h'; injection h' with h'; subst h'
    rfl
  | e :: es, xs, h1, h2, r, i, r', h, h' => by
    cases xs with
    | nil => rw [List.map_cons, VRs_cons] at h1; obtain ⟨_, _, h1, _⟩ := h1; simp at h1
    | cons x xs =>
      rw [List.map_cons, List.map_cons, VRs_cons'] at h1 h2
      simp only [findEnt, Option.bind_eq_some_iff] at h
      obtain ⟨b, hb, h⟩ := h
      simp only [Instr.findNow] at h'
      split at h'
      · rename_i hs
        have := sameNow_eq hu hk h1.1 hs hb
        subst this
        simp only at h; injection h with h; subst h
        injection h' with h'; subst h'
        exact ⟨i, x.val, rfl, h2.1⟩
      · rename_i hs
        have := sameNow_eq hu hk h1.1 hs hb
        subst this
        exact findNow_sound hu hk h1.2 h2.2 (i + 1) h h'
      · cases h'

theorem findKey_sound {kt : TypeId} {k : V} {kx : Value} (hk : VR κ k kx) {es : List Ent} {xs : List MapEntry} (h1 : VRs κ (es.map Ent.key) (xs.map MapEntry.key)) (h2 : VRs κ (es.map Ent.val) (xs.map MapEntry.val))
    {r : Option V} (h : findEnt P kt k es = some r) (hu : (P.underlying kt).isSome = true) : ∃ r', (Instr.findKey kt kx xs).run P w = .ok r' w ∧ FR κ r r' := by
  obtain ⟨d, hd⟩ := Option.isSome_iff_exists.1 hu
  simp only [Instr.findKey, Sem.run_bind, run_underlying hd, Result.andThen_ok]
  cases hf : Instr.findNow d kx xs 0 with
  | some r' => exact ⟨r', rfl, findNow_sound hd hk h1 h2 0 h hf⟩
  | none => exact findAsking_sound hk h1 h2 0 h

theorem equalN_und {n : Nat} {ty : TypeId} {v u : V} {b : Bool} (h : equalN P n ty v u = some b) : (P.underlying ty).isSome = true := by
  cases n with
  | zero => simp [equalN] at h
  | succ n =>
    unfold equalN at h
    split at h <;> first | (cases h; done) | simp_all

theorem findEnt_eq {kt : TypeId} {k : V} : ∀ {es : List Ent}, es.all (fun e => (equalN P 20 kt k e.key).isSome) = true →
    findEnt P kt k es = some ((es.filter fun e => equalN P 20 kt k e.key == some true).head?.map Ent.val)
  | [], _ => rfl
  | e :: es, h => by
    simp only [List.all_cons, Bool.and_eq_true] at h
    obtain ⟨b, hb⟩ := Option.isSome_iff_exists.1 h.1
    cases b with
    | true => simp [findEnt, hb, List.filter_cons]
    | false => simp [findEnt, hb, List.filter_cons, findEnt_eq h.2]
theorem all_perm {α : Type} {p : α → Bool} {l l' : List α} (hp : l'.Perm l) (h : l.all p = true) : l'.all p = true :=
  List.all_eq_true.2 fun x hx => List.all_eq_true.1 h x (hp.mem_iff.1 hx)
theorem findEnt_perm {kt : TypeId} {k : V} {es es' : List Ent} (hp : es'.Perm es) (h : oneKey P kt k es = true) : findEnt P kt k es' = findEnt P kt k es := by
  simp only [oneKey, Bool.and_eq_true, Nat.ble_eq] at h
  rw [findEnt_eq h.1, findEnt_eq (all_perm hp h.1)]
  have hf := hp.filter fun e => equalN P 20 kt k e.key == some true
  have h2 := h.2
  generalize (es.filter fun e => equalN P 20 kt k e.key == some true) = l at *
  generalize (es'.filter fun e => equalN P 20 kt k e.key == some true) = l' at *
  match l, h2, hf with
  | [], _, hf => rw [List.Perm.eq_nil hf]
  | [a], _, hf => rw [List.perm_singleton.1 hf]
theorem findEnt_none {kt : TypeId} {k : V} : ∀ {es : List Ent}, findEnt P kt k es = some none ↔ ∀ e ∈ es, equalN P 20 kt k e.key = some false
  | [] => by simp [findEnt]
  | e :: es => by
    simp only [findEnt, Option.bind_eq_some_iff, List.mem_cons, forall_eq_or_imp]
    constructor
    · rintro ⟨b, hb, h⟩
      cases b with
      | true => simp at h
      | false => exact ⟨hb, findEnt_none.1 h⟩
    · rintro ⟨hb, h⟩
      exact ⟨false, hb, findEnt_none.2 h⟩

theorem lookup_sound {ty : TypeId} {v u r : V} {ok : Bool} (h : lookup P ty v u ok L = some r) (H : HR w0 κ L w) {x y : Value} (hx : VR κ v x) (hy : VR κ u y) :
    ∃ z, (Instr.lookup ty x y ok).run P w = .ok z w ∧ VR κ r z := by
  unfold lookup at h
  simp only [Option.bind_eq_some_iff] at h
  obtain ⟨m, hm, n, hn, b, hb, h⟩ := h
  rw [tyMap_some] at hm
  rw [asMap_some] at hn
  subst hn
  simp only [VR] at hx
  obtain ⟨k, hk, rfl⟩ := hx
  split at h
  case h_2 => cases h
  rename_i es
  rw [guardO_some] at h
  obtain ⟨hkk, h⟩ := h
  simp only [Bool.and_eq_true, beq_iff_eq] at hkk
  obtain ⟨hkk, hone⟩ := hkk
  simp only [Option.bind_eq_some_iff] at h
  obtain ⟨q, hq, h⟩ := h
  obtain ⟨o, ho, xs, clock, es', rfl, hp, h1, h2⟩ := H.blk n k _ hk hb
  rw [← findEnt_perm hp hone] at hq
  obtain ⟨r', hr', hf⟩ := findKey_sound (w := w) hy h1 h2 hq (equalN_und hkk)
  have hck := checkKey_sound (w := w) xs.isEmpty 20 10000 m.1 u y (by decide) hkk hy
  have hobj : (getObj k.r).run P w = .ok (.map xs clock) w := by simp [getObj, Sem.run, ho]
  cases q with
  | none =>
    simp only [Option.map_eq_some_iff] at h
    obtain ⟨z, hz, rfl⟩ := h
    obtain ⟨zr, hzr, hzv⟩ := zeroV_some hz κ
    simp only [FR] at hf
    subst hf
    cases ok with
    | true =>
      refine ⟨.tuple #[zr, .bool false], ?_, by simp only [VR]; exact ⟨_, rfl, by simp [VRs, VR, hzv]⟩⟩
      simp only [Instr.lookup, Sem.run_bind, run_underlying hm, Result.andThen_ok, hobj, Sem.run_pure, hck, hr', hzr, if_true]
    | false =>
      refine ⟨zr, ?_, hzv⟩
      simp only [Instr.lookup, Sem.run_bind, run_underlying hm, Result.andThen_ok, hobj, Sem.run_pure, hck, hr', hzr, Bool.false_eq_true, if_false]
  | some vv =>
    simp only [FR] at hf
    obtain ⟨i, xx, rfl, hv⟩ := hf
    cases ok with
    | true =>
      simp only at h; injection h with h; subst h
      refine ⟨.tuple #[xx, .bool true], ?_, by simp only [VR]; exact ⟨_, rfl, by simp [VRs, VR, hv]⟩⟩
      simp only [Instr.lookup, Sem.run_bind, run_underlying hm, Result.andThen_ok, hobj, Sem.run_pure, hck, hr', if_true]
    | false =>
      simp only at h; injection h with h; subst h
      refine ⟨xx, ?_, hv⟩
      simp only [Instr.lookup, Sem.run_bind, run_underlying hm, Result.andThen_ok, hobj, Sem.run_pure, hck, hr', Bool.false_eq_true, if_false]
end Go.Proofs.Ytpfmoolpeecobaa.Ev
