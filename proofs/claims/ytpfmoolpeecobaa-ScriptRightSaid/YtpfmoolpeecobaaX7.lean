/- Operations that make a block, and those that change memory, run. -/
import Derived.Test.YtpfmoolpeecobaaX6
import Derived.Laws.Runes
namespace Go.Proofs.Ytpfmoolpeecobaa.Ev
open Go.RowKit
set_option linter.unusedVariables false
set_option linter.unusedSimpArgs false
variable {P : Program} {w0 : World} {κ : KM} {L : Heap} {w : World} {t : T V} {a : Act}

theorem HR.put_alloc (H : HR w0 κ L w) {m : Nat} (hm : κ m = none) (hlt : m < L.next) {b : Blk} (hb : L.t.get m = some b) (hro : b.ro = false) {o : Obj} {cap : Nat}
    (hbr : BR (κ.set m ⟨w.heap.size, 0, cap⟩) ⟨w.heap.size, 0, cap⟩ b o) : HR w0 (κ.set m ⟨w.heap.size, 0, cap⟩) L (w.alloc o) :=
  H.put hm hlt hb hro ((Below.refl _ _).alloc (Nat.le_refl _) o) (by simp) (heap_alloc_new w o) hbr

/-- the cells of a row of elements of s cells each -/
def RowR (κ : KM) (c : T (List V)) (n s : Nat) (xs : Array Value) : Prop :=
  ∀ e l, c.get e = some l → e < n ∧ l.length = s ∧ ∀ (j : Nat) (v : V), l[j]? = some v → ∃ x : Value, xs[e * s + j]? = some x ∧ VR κ v x
theorem RowR_mono {κ κ' : KM} (h : κ.le κ') {c : T (List V)} {n s : Nat} {xs : Array Value} (hr : RowR κ c n s xs) : RowR κ' c n s xs := fun e l he =>
  let ⟨h1, h2, h3⟩ := hr e l he; ⟨h1, h2, fun j v hj => let ⟨x, hx, hv⟩ := h3 j v hj; ⟨x, hx, VR_mono h _ _ hv⟩⟩
theorem BR_row {κ : KM} {c : T (List V)} {n s r cap : Nat} {xs : Array Value} {el : TypeId} {fr : Nat × Nat} {q : Bool} (h : RowR κ c n s xs) (hf : ∀ i, i < xs.size → ¬ (fr.1 ≤ i ∧ i < fr.2))
    (hq : q = true → cap * s ≤ xs.size ∧ n ≤ cap) : BR κ ⟨r, 0, cap⟩ (.cells c n s q false) (.cells xs el fr) := by
  refine ⟨xs, el, fr, rfl, fun _ => hf, fun e l he => ?_, fun e => ⟨by have := (hq e).1; simp only; omega, (hq e).2⟩⟩
  obtain ⟨h1, h2, h3⟩ := h e l he
  exact ⟨h1, h2, fun j v hj => by rw [show (⟨r, 0, cap⟩ : KB).boff + (e * s + j) = e * s + j from Nat.zero_add _]; exact h3 j v hj⟩
theorem RowR_one {κ : KM} {cs : List V} {xs : Array Value} (h : VRs κ cs xs.toList) : RowR κ (T.set .leaf 0 cs) 1 cs.length xs := by
  intro e l he
  rw [T.get_set] at he
  split at he
  · rename_i e0; subst e0
    injection he with he; subst he
    refine ⟨by omega, rfl, fun j v hj => ?_⟩
    rw [Nat.zero_mul, Nat.zero_add, ← Array.getElem?_toList]
    exact VRs_get h hj
  · rw [T.get_leaf] at he; cases he

theorem rowOf_get (z : List V) : ∀ (n e : Nat), (rowOf z n).get e = if e < n then some z else none
  | 0, e => by simp [rowOf, T.get_leaf]
  | n + 1, e => by
    rw [rowOf, T.get_set, rowOf_get z n e]
    by_cases h : e = n
    · subst h; rw [if_pos rfl, if_pos (by omega)]
    · rw [if_neg h]
      by_cases h2 : e < n
      · rw [if_pos h2, if_pos (by omega)]
      · rw [if_neg h2, if_neg (by omega)]
theorem zeroRow_get {z : Array Value} {n s i : Nat} (hz : z.size = s) (hi : i < n * s) : ((Array.range (n * s)).map (z[· % z.size]!))[i]? = z[i % s]? := by
  have hs : 0 < s := by
    rcases Nat.eq_zero_or_pos s with h | h
    · subst h; simp at hi
    · exact h
  have hlt : i % s < z.size := by rw [hz]; exact Nat.mod_lt _ hs
  rw [Array.getElem?_map, Array.getElem?_range, if_pos hi]
  simp only [Option.map_some, hz]
  rw [getElem!_pos z _ hlt, Array.getElem?_eq_getElem hlt]
theorem RowR_zero {κ : KM} {zs : List V} {z : Array Value} (h : VRs κ zs z.toList) {n s : Nat} (hs : zs.length = s) : RowR κ (rowOf zs n) n s ((Array.range (n * s)).map (z[· % z.size]!)) := by
  have hz : z.size = s := by have := VRs_length h; rw [Array.length_toList] at this; omega
  intro e l he
  rw [rowOf_get] at he
  split at he
  · rename_i hlt
    injection he with he; subst he
    refine ⟨hlt, hs, fun j v hj => ?_⟩
    have hjs : j < s := by rw [← hs]; exact (List.getElem?_eq_some_iff.1 hj).1
    have hi : e * s + j < n * s := by
      have : (e + 1) * s ≤ n * s := Nat.mul_le_mul_right s hlt
      rw [Nat.add_mul, Nat.one_mul] at this
      omega
    rw [zeroRow_get hz hi, show (e * s + j) % s = j by rw [Nat.mul_comm, Nat.mul_add_mod, Nat.mod_eq_of_lt hjs], ← Array.getElem?_toList]
    exact VRs_get h hj
  · cases he

theorem fillRow {s n : Nat} : ∀ {l : List (Nat × V)} {m : List (Nat × Value)}, PR κ l m → (l.all fun p => Nat.blt p.1 n && p.2.cells.length == s) = true →
    ∀ {c : T (List V)} {xs : Array Value}, RowR κ c n s xs → xs.size = n * s → ∃ ys, Instr.fill (fun i => some (i * s, s)) xs m = some ys ∧ RowR κ (setParts l c) n s ys ∧ ys.size = n * s := by
  intro l m h
  induction h with
  | nil => intro _ c xs hr hx; exact ⟨xs, rfl, hr, hx⟩
  | cons i v x hv r ih =>
    intro hall c xs hr hx
    rw [List.all_cons, Bool.and_eq_true, Bool.and_eq_true, Nat.blt_eq] at hall
    obtain ⟨⟨hi, hl⟩, hall⟩ := hall
    simp only [beq_iff_eq] at hl
    have hc := VR_cells hv
    have hcl := VRs_length hc
    rw [Array.length_toList] at hcl
    have hle : i * s + s ≤ n * s := by
      have : (i + 1) * s ≤ n * s := Nat.mul_le_mul_right s hi
      rw [Nat.add_mul, Nat.one_mul] at this
      exact this
    obtain ⟨ys, hy1, hy2, hy3⟩ := ih hall (c := c.set i v.cells) (xs := putL xs (i * s) x.cells.toList) (by
      intro e l he
      rw [T.get_set] at he
      split at he
      · rename_i e0; subst e0
        injection he with he; subst he
        refine ⟨hi, hl, fun j u hj => ?_⟩
        have hjs : j < s := by rw [← hl]; exact (List.getElem?_eq_some_iff.1 hj).1
        obtain ⟨y, hy1, hy2⟩ := VRs_get hc hj
        refine ⟨y, ?_, hy2⟩
        rw [putL_get _ _ _ _ (by simp; omega), if_pos (by simp; omega), show e * s + j - e * s = j by omega]
        exact hy1
      · rename_i hne
        obtain ⟨h1, h2, h3⟩ := hr e l he
        refine ⟨h1, h2, fun j u hj => ?_⟩
        have hjs : j < s := by rw [← h2]; exact (List.getElem?_eq_some_iff.1 hj).1
        obtain ⟨y, hy1, hy2⟩ := h3 j u hj
        refine ⟨y, ?_, hy2⟩
        rw [putL_get _ _ _ _ (by simp; omega), if_neg ?_]
        · exact hy1
        · simp only [Array.length_toList]
          intro hcon
          apply hne
          have h1 : e < i + 1 := Nat.lt_of_mul_lt_mul_right (a := s) (by rw [Nat.add_mul, Nat.one_mul]; omega)
          have h2 : i < e + 1 := Nat.lt_of_mul_lt_mul_right (a := s) (by rw [Nat.add_mul, Nat.one_mul]; omega)
          omega) (by rw [putL_size]; exact hx)
    refine ⟨ys, ?_, hy2, hy3⟩
    simp only [Instr.fill]
    rw [if_neg (by simp; omega)]
    have := setFold_get (i * s) x.cells.toList 0 xs
    rw [Nat.add_zero] at this
    rw [← this] at hy1
    rw [← hy1]
    congr 1
    rw [← Array.foldl_toList, Array.toList_zipIdx]

theorem rowFrom_get : ∀ (l : List (List V)) (i e : Nat), (rowFrom l i).get e = if i ≤ e then l[e - i]? else none
  | [], i, e => by simp [rowFrom, T.get_leaf]
  | x :: l, i, e => by
    rw [rowFrom, T.get_set, rowFrom_get l (i + 1) e]
    by_cases h : e = i
    · subst h; simp
    · rw [if_neg h]
      by_cases h2 : i + 1 ≤ e
      · rw [if_pos h2, if_pos (by omega), show e - i = (e - (i + 1)) + 1 by omega, List.getElem?_cons_succ]
      · rw [if_neg h2, if_neg (by omega)]
theorem flatten_get {s : Nat} : ∀ {ls : List (List V)}, (∀ x ∈ ls, x.length = s) → ∀ {e j : Nat} {l : List V}, ls[e]? = some l → j < s → ls.flatten[e * s + j]? = l[j]?
  | [], _, e, j, l, h, _ => by simp at h
  | x :: ls, hs, 0, j, l, h, hj => by
    simp at h; subst h
    have := hs x (List.mem_cons_self ..)
    rw [List.flatten_cons, Nat.zero_mul, Nat.zero_add, List.getElem?_append_left (by omega)]
  | x :: ls, hs, e + 1, j, l, h, hj => by
    have hx := hs x (List.mem_cons_self ..)
    rw [List.flatten_cons, List.getElem?_append_right (by rw [hx, Nat.add_mul]; omega), hx, show (e + 1) * s + j - s = e * s + j by rw [Nat.add_mul]; omega]
    exact flatten_get (fun y hy => hs y (List.mem_cons_of_mem _ hy)) (by simpa using h) hj
/-- a row laid out of elements, the cells in front of an array -/
theorem RowR_from {κ : KM} {ls : List (List V)} {s : Nat} (hs : ∀ x ∈ ls, x.length = s) {xs : Array Value} {ys : List Value} (hv : VRs κ ls.flatten ys) (hx : ∀ j, j < ys.length → xs[j]? = ys[j]?) :
    RowR κ (rowFrom ls 0) ls.length s xs := by
  intro e l he
  rw [rowFrom_get, if_pos (Nat.zero_le _), Nat.sub_zero] at he
  have hlt := (List.getElem?_eq_some_iff.1 he).1
  have hl : l.length = s := hs l (List.mem_of_getElem? he)
  refine ⟨hlt, hl, fun j v hj => ?_⟩
  have hjs : j < s := by rw [← hl]; exact (List.getElem?_eq_some_iff.1 hj).1
  have hg := flatten_get hs he hjs
  rw [hj] at hg
  obtain ⟨x, hx1, hx2⟩ := VRs_get hv hg
  exact ⟨x, by rw [hx _ (List.getElem?_eq_some_iff.1 hx1).1]; exact hx1, hx2⟩

theorem map_range0 {β : Type} (f : Nat → β) : Array.map f (Array.range 0) = #[] := by simp
theorem bytes_flatten (l : List Nat) : (l.map fun (b : Nat) => [V.int .u8 b]).flatten = l.map fun (b : Nat) => V.int .u8 b := by
  induction l with
  | nil => rfl
  | cons x l ih => simp [ih]
theorem bytes_VRs {κ : KM} (s : ByteArray) : VRs κ ((strOf s).map fun (b : Nat) => V.int .u8 b) (s.data.toList.map fun b => Value.int .u8 b.toNat) := by
  unfold strOf
  induction s.data.toList with
  | nil => simp [VRs_nil]
  | cons x l ih => simp only [List.map_cons, VRs_cons', VR]; exact ⟨trivial, ih⟩

theorem freeze_block {b n : Nat} {xs : Array Value} {el : TypeId} (h : w.heap[b]? = some (.cells xs el (0, 0))) :
    (w.freeze ⟨b, n, none⟩ 1).heap[b]? = some (.cells xs el (n, n + 1)) := by
  simp [World.freeze, Array.getElem?_modify, h]
theorem freeze_other {b n i : Nat} (h : i ≠ b) : (w.freeze ⟨b, n, none⟩ 1).heap[i]? = w.heap[i]? := by
  simp only [World.freeze, Nat.one_ne_zero, if_false, Array.getElem?_modify]
  rw [if_neg (by omega)]

theorem making_sound {o : Oper} {b : Blk} {nv : NV} (h : making P o t = some (b, nv)) (H : HR w0 κ L w) (ha : ∀ x ∈ o.op.operands, OpR κ t a x)
    {m : Nat} (hm : κ m = none) (hlt : m < L.next) (hb : L.t.get m = some b) :
    ∃ z w' cap, (execOp a.eval o).run P w = .ok (.value z) w' ∧ HR w0 (κ.set m ⟨w.heap.size, 0, cap⟩) L w' ∧ VR (κ.set m ⟨w.heap.size, 0, cap⟩) (nv.mk m) z := by
  obtain ⟨dst, op, typ, pos, after, guard⟩ := o
  simp only at ha
  have hle : ∀ k, κ.le (κ.set m k) := fun k => KM.le_set hm
  have hno : ∀ (n : Nat) (i : Nat), i < n → ¬ ((0, 0) : Nat × Nat).1 ≤ i ∨ ¬ i < ((0, 0) : Nat × Nat).2 := fun _ _ _ => .inr (by simp)
  cases op <;> simp only [making, reduceCtorEq] at h <;> simp only [Op.operands] at ha
  case alloc e =>
    simp only [Option.map_eq_some_iff, Prod.mk.injEq] at h
    obtain ⟨z, hz, rfl, rfl⟩ := h
    obtain ⟨zr, hzr, hzv⟩ := zeroV_some hz (κ.set m ⟨w.heap.size, 0, 0⟩)
    refine ⟨.pointer (some ⟨w.heap.size, 0, none⟩), w.alloc (.cells zr.cells e), 0, ?_, ?_, ?_⟩
    · refine run_v ?_
      simp only [Instr.alloc, Sem.run_bind, hzr, Result.andThen_ok, newVar, newRow, run_newObj, Sem.run_pure]
      rfl
    · exact H.put_alloc hm hlt hb rfl (BR_row (RowR_one (VR_cells hzv)) (fun i _ => by simp) (fun e => by cases e))
    · simp only [NV.mk, VR]; exact ⟨_, KM.set_same, rfl⟩
  case box e x =>
    simp only [Option.map_eq_some_iff, Prod.mk.injEq] at h
    obtain ⟨z, hz, rfl, rfl⟩ := h
    have hv := VR_mono (hle ⟨w.heap.size, 0, 0⟩) _ _ (opd_VR (ha x (by simp)) hz)
    refine ⟨.pointer (some ⟨w.heap.size, 0, none⟩), w.alloc (.cells (a.eval x).cells e), 0, ?_, ?_, ?_⟩
    · refine run_v ?_
      simp only [Instr.box, Sem.run_bind, Result.andThen_ok, newVar, newRow, run_newObj, Sem.run_pure]
      rfl
    · exact H.put_alloc hm hlt hb rfl (BR_row (RowR_one (VR_cells hv)) (fun i _ => by simp) (fun e => by cases e))
    · simp only [NV.mk, VR]; exact ⟨_, KM.set_same, rfl⟩
  case buildSlice ty len ps =>
    simp only [Option.bind_eq_some_iff, guardO_some, Bool.and_eq_true] at h
    obtain ⟨l, hl, e, he, z, hz, s, hs, ⟨⟨⟨hzl, hs0⟩, hbound⟩, hall⟩, h⟩ := h
    injection h with h
    simp only [Prod.mk.injEq] at h
    obtain ⟨rfl, rfl⟩ := h
    rw [tySlice_some] at he
    simp only [beq_iff_eq] at hzl
    have hs0' : s ≠ 0 := by simpa using hs0
    have hbd := Nat.le_of_ble_eq_true hbound
    obtain ⟨zr, hzr, hzv⟩ := zeroV_some hz (κ.set m ⟨w.heap.size, 0, 0⟩)
    have hp := pairs_VR (κ := κ.set m ⟨w.heap.size, 0, 0⟩) (a := a) (fun x hx => fun y hy => VR_mono (hle _) _ _ (ha x.2 (by simp; exact ⟨x.1, by simpa using hx⟩) y hy)) hl
    have hzs : zr.cells.size = s := by have := VRs_length (VR_cells hzv); rw [Array.length_toList] at this; omega
    obtain ⟨ys, hy1, hy2, hy3⟩ := fillRow (n := len) hp hall (RowR_zero (VR_cells hzv) hzl) (by simp)
    have hy1' : Instr.fill (fun i => some (i * s, s)) ((Array.range (len * s)).map (zr.cells[· % zr.cells.size]!)) (ps.map fun (i, x) => (i, a.eval x)).toList = some ys := by
      rw [Array.toList_map]; exact hy1
    refine ⟨.slice (some ⟨w.heap.size, 0, none⟩) len len, w.alloc (.cells ys e), 0, ?_, ?_, ?_⟩
    · refine run_v ?_
      simp only [Instr.buildSlice, Sem.run_bind, run_underlying he, Result.andThen_ok, sizeT_some hs]
      rw [if_neg (by omega)]
      by_cases h0 : len * s = 0
      · have l0 : len = 0 := (Nat.mul_eq_zero.1 h0).resolve_right hs0'
        subst l0
        have hps : (ps.map fun (i, x) => (i, a.eval x)).toList = [] := by
          cases hps : ps.toList with
          | nil => simp [Array.toList_map, hps]
          | cons q r =>
            rw [hps] at hl
            obtain ⟨i, x⟩ := q
            simp only [pairs, Option.bind_eq_some_iff, Option.map_eq_some_iff] at hl
            obtain ⟨v, _, us, _, rfl⟩ := hl
            simp at hall
        rw [hps] at hy1' ⊢
        simp only [Nat.zero_mul, map_range0, Instr.fill, Option.some.injEq] at hy1'
        subst hy1'
        rw [if_pos h0]
        simp only [Sem.run_pure, Result.andThen_ok, Nat.zero_mul, map_range0, Instr.fill, newRow, Sem.run_bind, run_newObj]
        rfl
      · rw [if_neg h0]
        simp only [Sem.run_bind, hzr, Sem.run_pure, Result.andThen_ok, hy1', newRow, run_newObj]
        rfl
    · exact H.put_alloc hm hlt hb rfl (BR_row hy2 (fun i _ => by simp) (fun e => by cases e))
    · simp only [NV.mk, VR]
      exact ⟨_, 0, len, KM.set_same, rfl, Nat.le_refl _, .inl rfl, by rw [if_neg (by simp)]⟩
  case makeMap ty r =>
    cases r <;> simp only [reduceCtorEq] at h
    injection h with h
    simp only [Prod.mk.injEq] at h
    obtain ⟨rfl, rfl⟩ := h
    refine ⟨.map (some w.heap.size), w.alloc (.map #[] 0), 0, ?_, ?_, ?_⟩
    · refine run_v ?_
      simp only [Option.map_none, Instr.makeMap, Sem.run_bind, run_newObj, Sem.run_pure, Result.andThen_ok]
      rfl
    · exact H.put_alloc hm hlt hb rfl ⟨#[], 0, [], rfl, List.Perm.refl _, by simp [VRs_nil], by simp [VRs_nil]⟩
    · simp only [NV.mk, VR]; exact ⟨_, KM.set_same, rfl⟩
  case makeSlice ty l c =>
    simp only [Option.bind_eq_some_iff, guardO_some, Bool.and_eq_true] at h
    obtain ⟨lv, hlv, cv, hcv, e, he, z, hz, s, hs, by_, hby, c', hc', l', hl', ⟨⟨hzl, hs0⟩, hbb⟩, h⟩ := h
    injection h with h
    simp only [Prod.mk.injEq] at h
    obtain ⟨rfl, rfl⟩ := h
    rw [tySlice_some] at he
    simp only [beq_iff_eq] at hzl
    have hs0' : s ≠ 0 := by simpa using hs0
    obtain ⟨k1, rfl, hc2⟩ := idx_some hc'
    obtain ⟨k2, rfl, hl2⟩ := idx_some hl'
    have hlx := opd_VR (ha l (by simp)) hlv
    have hcx := opd_VR (ha c (by simp)) hcv
    simp only [VR] at hlx hcx
    obtain ⟨zr, hzr, hzv⟩ := zeroV_some hz (κ.set m ⟨w.heap.size, 0, 0⟩)
    have hzs : zr.cells.size = s := by have := VRs_length (VR_cells hzv); rw [Array.length_toList] at this; omega
    unfold bytesT at hby
    simp only [Option.map_eq_some_iff] at hby
    obtain ⟨inf, hinf, rfl⟩ := hby
    have hbb' := Nat.le_of_ble_eq_true hbb
    have hwr : ∀ n : Nat, n < 16777216 → IntKind.i64.wrap (n : Int) = n := by
      intro n hn
      exact wrap_small _ (by omega) (by omega)
    have hprod : (inf.bytes : Int) * (c' : Int) ≤ 1099511627776 := by
      have h1 : inf.bytes * c' ≤ 1099511627776 := Nat.le_trans (Nat.mul_le_mul hbb' (Nat.le_of_lt hc2)) (by decide)
      rw [← Int.natCast_mul]
      omega
    refine ⟨.slice (some ⟨w.heap.size, 0, none⟩) l' c', w.alloc (.cells ((Array.range (c' * s)).map (zr.cells[· % zr.cells.size]!)) e), 0, ?_, ?_, ?_⟩
    · refine run_v ?_
      simp only [hlx, hcx, Instr.makeSlice, asInt, asIntOf, Sem.run_bind, run_underlying he, Result.andThen_ok, Sem.run_pure, run_info hinf, hwr c' hc2, hwr l' (by omega)]
      rw [if_neg (by
        simp only [Bool.or_eq_true, decide_eq_true_eq, not_or]
        refine ⟨⟨⟨by omega, by omega⟩, by omega⟩, by omega⟩)]
      simp only [run_askRoom, Result.andThen_ok, sizeT_some hs, Int.toNat_natCast, Sem.run_bind]
      by_cases h0 : c' * s = 0
      · rw [if_pos h0]
        have c0 : c' = 0 := (Nat.mul_eq_zero.1 h0).resolve_right hs0'
        subst c0
        simp only [Sem.run_pure, Result.andThen_ok, Nat.zero_mul, map_range0, newRow, Sem.run_bind, run_newObj]
        rfl
      · rw [if_neg h0]
        simp only [Sem.run_bind, hzr, Sem.run_pure, Result.andThen_ok, newRow, run_newObj]
        rfl
    · exact H.put_alloc hm hlt hb rfl (BR_row (RowR_zero (VR_cells hzv) hzl) (fun i _ => by simp) (fun e => by cases e))
    · simp only [NV.mk, VR]
      exact ⟨_, 0, c', KM.set_same, rfl, by omega, .inl rfl, by rw [if_neg (by simp)]⟩
  case convert s d x =>
    simp only [Option.bind_eq_some_iff, Option.map_eq_some_iff, Prod.mk.injEq] at h
    obtain ⟨sd, hsd, v, hv, l, hl, rfl, rfl⟩ := h
    have hx := opd_VR (ha x (by simp)) hv
    unfold convNew at hl
    split at hl
    case h_2 => cases hl
    rename_i str
    simp only [Option.bind_eq_some_iff] at hl
    obtain ⟨e, he, hl⟩ := hl
    rw [tySlice_some] at he
    split at hl
    case h_2 => cases hl
    rename_i hu8
    injection hl with hl; subst hl
    simp only [VR] at hx
    obtain ⟨bs, hx, rfl⟩ := hx
    let cap := (Question.appendCap bs.size 0 e).cut (w.tape w.drawn (.appendCap bs.size 0 e))
    have hcap : bs.size ≤ cap := by simp only [cap, Question.cut]; omega
    let xs : Array Value := bs.data.map (fun b => Value.int .u8 b.toNat) ++ Array.replicate (cap - bs.size) (.int .u8 0)
    have hxs : xs.size = cap := by
      simp only [xs, Array.size_append, Array.size_map, Array.size_replicate]
      have : bs.data.size = bs.size := rfl
      omega
    let w1 : World := { w with drawn := w.drawn + 1 }
    let w2 := w1.alloc (.cells xs e)
    have hw2 : w2.heap[w.heap.size]? = some (.cells xs e (0, 0)) := heap_alloc_new w1 _
    refine ⟨.slice (some ⟨w.heap.size, 0, none⟩) bs.size cap, w2.freeze ⟨w.heap.size, cap, none⟩ 1, cap, ?_, ?_, ?_⟩
    · refine run_v ?_
      simp only [hx, Go.convert, Sem.run_bind, run_underlying hsd, run_underlying he, Result.andThen_ok, run_underlying hu8, Conv.stringToBytes, run_choose, Question.forced, Bool.false_eq_true, if_false, newRow, run_newObj, Sem.run_pure, markStringish, run_shape]
      have hsh : ({ w1 with heap := w1.heap.push (.cells xs e) } : World).shape? w.heap.size = some (e, cap) := by
        have : ({ w1 with heap := w1.heap.push (.cells xs e) } : World).heap[w.heap.size]? = some (.cells xs e (0, 0)) := hw2
        simp only [World.shape?, this, hxs]
      show Result.andThen (Sem.run P (match ({ w1 with heap := w1.heap.push (.cells xs e) } : World).shape? w.heap.size with
        | some (_, n) => freeze { block := w.heap.size, off := n } 1
        | x => pure ()) ({ w1 with heap := w1.heap.push (.cells xs e) } : World)) _ = _
      rw [hsh]
      simp only [run_freeze, Result.andThen_ok]
      rfl
    · have hb2 : Below w.heap.size w (w2.freeze ⟨w.heap.size, cap, none⟩ 1) := by
        refine ⟨rfl, rfl, rfl, ?_, fun i hi => ?_⟩
        · simp [World.freeze, w2, w1, World.alloc]
        · rw [freeze_other (by omega)]
          exact heap_alloc_old w1 _ hi
      refine H.put hm hlt hb rfl hb2 ?_ (freeze_block hw2) ?_
      · simp [World.freeze, w2, w1, World.alloc]
      · have hrow : RowR (κ.set m ⟨w.heap.size, 0, cap⟩) (rowFrom ((strOf bs).map fun (b : Nat) => [V.int .u8 b]) 0) (strOf bs).length 1 xs := by
          have h1 := RowR_from (κ := κ.set m ⟨w.heap.size, 0, cap⟩) (ls := (strOf bs).map fun (b : Nat) => [V.int .u8 b]) (s := 1)
            (by intro x hx; simp only [List.mem_map] at hx; obtain ⟨_, _, rfl⟩ := hx; rfl) (xs := xs) (ys := bs.data.toList.map fun b => Value.int .u8 b.toNat)
            (by rw [bytes_flatten]; exact bytes_VRs bs) (fun j hj => by
              simp only [List.length_map] at hj
              have hj' : j < (bs.data.map (fun b => Value.int .u8 b.toNat)).size := by simpa using hj
              simp only [xs]
              rw [Array.getElem?_append_left hj']
              simp)
          rw [List.length_map] at h1
          exact h1
        exact BR_row hrow (fun i hi => by simp only [not_and]; omega) (fun _ => ⟨by rw [hxs]; omega, by rw [strOf_length]; exact hcap⟩)
    · simp only [NV.mk, VR, strOf_length]
      exact ⟨_, 0, cap, KM.set_same, rfl, hcap, .inl rfl, by rw [if_pos trivial]; rfl⟩
end Go.Proofs.Ytpfmoolpeecobaa.Ev
