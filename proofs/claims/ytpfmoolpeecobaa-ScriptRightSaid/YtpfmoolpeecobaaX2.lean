/- The operations, run: reads, writes. -/
import Derived.Test.YtpfmoolpeecobaaX1
import Derived.Laws.IdiomCopy
import Derived.Laws.Entries
import Derived.ChangeKeysEq
namespace Go.Proofs.Ytpfmoolpeecobaa.Ev
open Go.RowKit
set_option linter.unusedVariables false
set_option linter.unusedSimpArgs false
variable {P : Program} {w0 : World} {κ : KM} {L : Heap} {w : World}

theorem guardO_some {α : Type} {b : Bool} {k : Option α} {x : α} : guardO b k = some x ↔ b = true ∧ k = some x := by
  cases b <;> simp [guardO]

theorem asBool_some {v : V} {b : Bool} : v.asBool = some b ↔ v = .bool b := by cases v <;> simp [V.asBool]
theorem asInt_some {v : V} {p : IntKind × Int} : v.asInt = some p ↔ v = .int p.1 p.2 := by
  obtain ⟨k, n⟩ := p
  cases v <;> simp [V.asInt]
theorem asStr_some {v : V} {s : List Nat} : v.asStr = some s ↔ v = .str s := by cases v <;> simp [V.asStr]
theorem asPtr_some {v : V} {p : Nat × Nat} : v.asPtr = some p ↔ v = .ptr p.1 p.2 := by
  obtain ⟨k, n⟩ := p
  cases v <;> simp [V.asPtr]
theorem asAgg_some {v : V} {s : List V} : v.asAgg = some s ↔ v = .agg s := by cases v <;> simp [V.asAgg]
theorem asTup_some {v : V} {s : List V} : v.asTup = some s ↔ v = .tuple s := by cases v <;> simp [V.asTup]
theorem asMap_some {v : V} {s : Nat} : v.asMap = some s ↔ v = .map s := by cases v <;> simp [V.asMap]

theorem tyStruct_some {ty : TypeId} {fs : Array Field} : tyStruct P ty = some fs ↔ P.underlying ty = some (.struct fs) := by
  unfold tyStruct; split <;> simp_all
theorem tyArray_some {ty : TypeId} {p : Nat × TypeId} : tyArray P ty = some p ↔ P.underlying ty = some (.array p.1 p.2) := by
  obtain ⟨n, e⟩ := p
  unfold tyArray; split <;> simp_all
theorem tySlice_some {ty : TypeId} {e : TypeId} : tySlice P ty = some e ↔ P.underlying ty = some (.slice e) := by
  unfold tySlice; split <;> simp_all
theorem tyMap_some {ty : TypeId} {p : TypeId × TypeId} : tyMap P ty = some p ↔ P.underlying ty = some (.map p.1 p.2) := by
  obtain ⟨n, e⟩ := p
  unfold tyMap; split <;> simp_all
theorem tyInt_some {ty : TypeId} {k : IntKind} : tyInt P ty = some k ↔ P.underlying ty = some (.int k) := by
  unfold tyInt; split <;> simp_all
theorem tyStr_true {ty : TypeId} : tyStr P ty = true ↔ P.underlying ty = some .string := by
  unfold tyStr; split <;> simp_all
theorem run_info {ty : TypeId} {i : TypeInfo} (h : P.info? ty = some i) (w : World) : (typeInfo ty).run P w = .ok i w := by simp [typeInfo, h]
theorem sizeT_some {ty : TypeId} {s : Nat} (h : sizeT P ty = some s) (w : World) : (sizeOf ty).run P w = .ok s w := by
  unfold sizeT at h
  simp only [Option.map_eq_some_iff] at h
  obtain ⟨i, hi, rfl⟩ := h
  simp [sizeOf, run_info hi]
theorem isAggT_some {ty : TypeId} {b : Bool} (h : isAggT P ty = some b) (w : World) : (isAgg ty).run P w = .ok b w := by
  unfold isAggT at h
  split at h
  · rename_i fs hu; injection h with h; subst h; simp [isAgg, run_underlying hu]
  · rename_i n e hu; injection h with h; subst h; simp [isAgg, run_underlying hu]
  · rename_i d h1 h2 hu
    injection h with h; subst h
    simp only [isAgg, Sem.run_bind, run_underlying hu, Result.andThen_ok]
    cases d <;> first | rfl | (exact absurd hu (h2 _ _)) | (exact absurd hu (h1 _))
  · cases h
theorem zeroV_some {ty : TypeId} {v : V} (h : zeroV P ty = some v) (κ : KM) : ∃ z, (∀ w, (zeroValue ty).run P w = .ok z w) ∧ VR κ v z := by
  unfold zeroV at h
  simp only [Option.bind_eq_some_iff] at h
  obtain ⟨i, hi, z, hz, hv⟩ := h
  exact ⟨z, fun w => by simp [zeroValue, run_info hi, hz], ofVal_VR hv⟩

theorem part_sound {ty : TypeId} {cs : List V} {off : Nat} {v : V} (h : part P ty cs off = some v) {xs : Array Value} (hx : VRs κ cs xs.toList) :
    ∃ x, (Go.part ty xs off).run P w = .ok x w ∧ VR κ v x := by
  unfold part at h
  simp only [Option.bind_eq_some_iff] at h
  obtain ⟨b, hb, h⟩ := h
  cases b with
  | true =>
    simp only [Option.bind_eq_some_iff, Option.map_eq_some_iff] at h
    obtain ⟨s, hs, us, hu, rfl⟩ := h
    refine ⟨.agg (xs.extract off (off + s)), ?_, ?_⟩
    · simp [Go.part, isAggT_some hb, sizeT_some hs]
    · simp only [VR]
      refine ⟨_, rfl, ?_⟩
      have := VRs_takeN s (VRs_drop off hx) hu
      rw [Array.toList_extract, List.extract_eq_take_drop, Nat.add_sub_cancel_left]
      exact this
  | false =>
    obtain ⟨x, hx1, hx2⟩ := VRs_get hx h
    refine ⟨x, ?_, hx2⟩
    rw [Array.getElem?_toList] at hx1
    simp [Go.part, isAggT_some hb, hx1]

theorem elem_cells {n off r : Nat} {l : List V} (h : L.elem n off = some (l, r)) (H : HR w0 κ L w) {k : KB} (hk : κ n = some k) :
    ∀ (j : Nat) (v : V), l[r + j]? = some v → ∃ x, w.cell? ⟨k.r, k.boff + off + j, none⟩ = some x ∧ VR κ v x := by
  unfold Heap.elem at h
  simp only [Option.bind_eq_some_iff] at h
  obtain ⟨b, hb, h⟩ := h
  cases b with
  | cells c cnt sz q ro =>
    simp only [Option.map_eq_some_iff, Prod.mk.injEq] at h
    obtain ⟨l', hl, rfl, rfl⟩ := h
    obtain ⟨o, ho, hbr⟩ := H.blk n k _ hk hb
    obtain ⟨xs, el, fr, rfl, _, hc, _⟩ := hbr
    intro j v hj
    obtain ⟨_, _, hc⟩ := hc _ _ hl
    obtain ⟨x, hx, hv⟩ := hc _ _ hj
    refine ⟨x, ?_, hv⟩
    have e : k.boff + off + j = k.boff + (off / sz * sz + (off % sz + j)) := by
      have := Nat.div_add_mod off sz
      rw [Nat.mul_comm] at this
      omega
    simp only [World.cell?, ho]
    rw [e]
    simpa using hx
  | map => simp at h
  | loop => simp at h
  | dfr => simp at h

theorem load_sound {ty : TypeId} {n off : Nat} {v : V} (h : L.load P ty n off = some v) (H : HR w0 κ L w) {k : KB} (hk : κ n = some k) :
    ∃ x, (loadVar ty ⟨k.r, k.boff + off, none⟩).run P w = .ok x w ∧ VR κ v x := by
  unfold Heap.load at h
  simp only [Option.bind_eq_some_iff] at h
  obtain ⟨⟨l, r⟩, he, h⟩ := h
  have hc := elem_cells he H hk
  unfold part at h
  simp only [Option.bind_eq_some_iff] at h
  obtain ⟨b, hb, h⟩ := h
  cases b with
  | true =>
    simp only [Option.bind_eq_some_iff, Option.map_eq_some_iff] at h
    obtain ⟨s, hs, us, hu, rfl⟩ := h
    obtain ⟨hu1, hu2⟩ := takeN_some hu
    have hget : ∀ (j : Nat) (u : V), us[j]? = some u → ∃ x, w.cell? ⟨k.r, k.boff + off + j, none⟩ = some x ∧ VR κ u x := by
      intro j u hj
      refine hc j u ?_
      rw [hu1, List.getElem?_take] at hj
      split at hj
      · simpa using hj
      · cases hj
    have hex : ∀ j, j < s → ∃ x, w.cell? ⟨k.r, k.boff + off + j, none⟩ = some x := by
      intro j hj
      obtain ⟨x, hx, _⟩ := hget j us[j] (by simp)
      exact ⟨x, hx⟩
    have hf : ∀ j, j < s → w.cell? ((⟨k.r, k.boff + off, none⟩ : Addr).add j) = some ((w.cell? ⟨k.r, k.boff + off + j, none⟩).getD undef) := by
      intro j hj
      obtain ⟨x, hx⟩ := hex j hj
      rw [Addr.add_lit, hx]; rfl
    have hl := run_loadCells (P := P) w ⟨k.r, k.boff + off, none⟩ s (fun j => (w.cell? ⟨k.r, k.boff + off + j, none⟩).getD undef) hf
    refine ⟨.agg (List.map (fun j => (w.cell? ⟨k.r, k.boff + off + j, none⟩).getD undef) (List.range s)).toArray, by simp only [loadVar, Sem.run_bind, isAggT_some hb, Result.andThen_ok, if_true, sizeT_some hs, hl, Sem.run_pure], ?_⟩
    simp only [VR]
    refine ⟨_, rfl, VRs_iff.2 ⟨by simp [hu2], fun j u hj => ?_⟩⟩
    have hjs : j < s := by rw [← hu2]; exact (List.getElem?_eq_some_iff.1 hj).1
    obtain ⟨x, hx, hv⟩ := hget j u hj
    exact ⟨x, by simp [hjs, hx], hv⟩
  | false =>
    obtain ⟨x, hx, hv⟩ := hc 0 v (by simpa using h)
    refine ⟨x, ?_, hv⟩
    simp only [loadVar, Sem.run_bind, isAggT_some hb, Result.andThen_ok, Bool.false_eq_true, if_false, run_load]
    rw [Nat.add_zero] at hx
    rw [hx]

/-! ### writes -/
def putL (xs : Array Value) : Nat → List Value → Array Value
  | _, [] => xs
  | o, v :: vs => putL (xs.setIfInBounds o v) (o + 1) vs
theorem putL_size : ∀ (vs : List Value) (o : Nat) (xs : Array Value), (putL xs o vs).size = xs.size
  | [], _, _ => rfl
  | v :: vs, o, xs => by rw [putL, putL_size vs]; simp
theorem putL_get : ∀ (vs : List Value) (o : Nat) (xs : Array Value) (i : Nat), o + vs.length ≤ xs.size →
    (putL xs o vs)[i]? = if o ≤ i ∧ i < o + vs.length then vs[i - o]? else xs[i]?
  | [], o, xs, i, _ => by rw [putL, if_neg (by simp only [List.length_nil]; omega)]
  | v :: vs, o, xs, i, h => by
    simp only [List.length_cons] at h ⊢
    rw [putL, putL_get vs (o + 1) _ i (by simp; omega)]
    by_cases h1 : o + 1 ≤ i ∧ i < o + 1 + vs.length
    · rw [if_pos h1, if_pos (by omega), show i - o = (i - (o + 1)) + 1 by omega, List.getElem?_cons_succ]
    · rw [if_neg h1]
      by_cases h2 : i = o
      · subst h2
        rw [if_pos (by omega), Nat.sub_self, List.getElem?_cons_zero, Array.getElem?_setIfInBounds_self_of_lt (by omega)]
      · rw [if_neg (by omega), Array.getElem?_setIfInBounds_ne (by omega)]
theorem setCell_block {b o : Nat} {v : Value} {xs : Array Value} {el : TypeId} {fr : Nat × Nat} (h : w.heap[b]? = some (.cells xs el fr)) :
    (w.setCell ⟨b, o, none⟩ v).heap[b]? = some (.cells (xs.setIfInBounds o v) el fr) := by
  simp [World.setCell, Array.getElem?_modify, h]
theorem setCell_other {b o i : Nat} {v : Value} (h : i ≠ b) : (w.setCell ⟨b, o, none⟩ v).heap[i]? = w.heap[i]? := by
  simp only [World.setCell, Array.getElem?_modify]
  rw [if_neg (by omega)]
theorem setCells_block {b : Nat} : ∀ (vs : List Value) (o : Nat) (w : World) {xs : Array Value} {el : TypeId} {fr : Nat × Nat}, w.heap[b]? = some (.cells xs el fr) →
    (w.setCells b o vs).heap[b]? = some (.cells (putL xs o vs) el fr)
  | [], _, w, _, _, _, h => h
  | v :: vs, o, w, xs, el, fr, h => by
    rw [World.setCells, setCells_block vs (o + 1) _ (setCell_block h), putL]
theorem setCells_other {b i : Nat} (hi : i ≠ b) : ∀ (vs : List Value) (o : Nat) (w : World), (w.setCells b o vs).heap[i]? = w.heap[i]?
  | [], _, w => rfl
  | v :: vs, o, w => by rw [World.setCells, setCells_other hi vs, setCell_other hi]
theorem setCells_same {b : Nat} : ∀ (vs : List Value) (o : Nat) (w : World), (w.setCells b o vs).heap.size = w.heap.size ∧ (w.setCells b o vs).os = w.os ∧ (w.setCells b o vs).tape = w.tape ∧ (w.setCells b o vs).output = w.output
  | [], _, w => ⟨rfl, rfl, rfl, rfl⟩
  | v :: vs, o, w => by
    obtain ⟨h1, h2, h3, h4⟩ := setCells_same (b := b) vs (o + 1) (w.setCell ⟨b, o, none⟩ v)
    rw [World.setCells]
    exact ⟨by rw [h1]; simp [World.setCell], h2, h3, h4⟩

theorem scalar_one {v : V} {x : Value} (h : VR κ v x) (hs : v.scalar = true) : x.oneCell' = true := by
  cases v <;> simp only [VR] at h <;> simp only [V.scalar] at hs
  case bool => subst h; rfl
  case int => subst h; rfl
  case str => obtain ⟨_, rfl, _⟩ := h; rfl
  case ptr => obtain ⟨_, _, rfl⟩ := h; rfl
  case nilp => subst h; rfl
  case slice => obtain ⟨_, _, _, _, rfl, _⟩ := h; rfl
  case nils => subst h; rfl
  case map => obtain ⟨_, _, rfl⟩ := h; rfl
  case nilm => subst h; rfl
  case func => obtain ⟨_, _, rfl, _⟩ := h; rfl
  case yield => obtain ⟨_, _, rfl⟩ := h; rfl
  case nilf => subst h; rfl
  case iface => obtain ⟨_, rfl, _⟩ := h; rfl
  case nili => subst h; rfl
  all_goals cases hs

theorem VRs_all {vs : List V} {xs : List Value} (h : VRs κ vs xs) (hs : vs.all V.scalar = true) : ∀ x ∈ xs, x.oneCell' = true := by
  intro x hx
  obtain ⟨j, hj⟩ := List.getElem?_of_mem hx
  obtain ⟨hl, hg⟩ := VRs_iff.1 h
  have hjl : j < vs.length := by rw [← hl]; exact (List.getElem?_eq_some_iff.1 hj).1
  obtain ⟨y, hy, hv⟩ := hg j vs[j] (by simp)
  rw [hj] at hy; injection hy with hy; subst hy
  exact scalar_one hv (List.all_eq_true.1 hs _ (List.getElem_mem hjl))

theorem over_get : ∀ {vs l l' : List V}, over vs l = some l' → l'.length = l.length ∧ vs.length ≤ l.length ∧ ∀ i, l'[i]? = if i < vs.length then vs[i]? else l[i]?
  | [], l, l', h => by simp [over] at h; subst h; simp
  | _ :: _, [], l', h => by simp [over] at h
  | v :: vs, x :: l, l', h => by
    simp only [over, Option.map_eq_some_iff] at h
    obtain ⟨m, hm, rfl⟩ := h
    obtain ⟨h1, h2, h3⟩ := over_get hm
    refine ⟨by simp [h1], by simp [h2], fun i => ?_⟩
    cases i with
    | zero => simp
    | succ i => simp [h3]
theorem splice_get : ∀ {r : Nat} {vs l l' : List V}, splice r vs l = some l' → l'.length = l.length ∧ r + vs.length ≤ l.length ∧ ∀ i, l'[i]? = if r ≤ i ∧ i < r + vs.length then vs[i - r]? else l[i]?
  | 0, vs, l, l', h => by
    obtain ⟨h1, h2, h3⟩ := over_get h
    exact ⟨h1, by omega, fun i => by rw [h3]; simp⟩
  | _ + 1, vs, [], l', h => by simp [splice] at h
  | r + 1, vs, x :: l, l', h => by
    simp only [splice, Option.map_eq_some_iff] at h
    obtain ⟨m, hm, rfl⟩ := h
    obtain ⟨h1, h2, h3⟩ := splice_get hm
    refine ⟨by simp [h1], by simp; omega, fun i => ?_⟩
    cases i with
    | zero => simp
    | succ i =>
      rw [List.getElem?_cons_succ, h3, List.getElem?_cons_succ]
      by_cases hc : r ≤ i ∧ i < r + vs.length
      · rw [if_pos hc, if_pos (by omega), show i + 1 - (r + 1) = i - r by omega]
      · rw [if_neg hc, if_neg (by omega)]

theorem not_frozen {b i : Nat} {xs : Array Value} {el : TypeId} {fr : Nat × Nat} (h : w.heap[b]? = some (.cells xs el fr)) (hf : ¬ (fr.1 ≤ i ∧ i < fr.2)) : w.frozen? ⟨b, i, none⟩ = false := by
  obtain ⟨lo, hi⟩ := fr
  simp only [World.frozen?, h]
  simp only at hf
  simp only [Bool.and_eq_false_iff, decide_eq_false_iff_not]
  omega

theorem store_cells {n off : Nat} {vs : List V} {L' : Heap} (h : L.store n off vs = some L') (H : HR w0 κ L w) {k : KB} (hk : κ n = some k) {xs : List Value} (hx : VRs κ vs xs) :
    (storeCells ⟨k.r, k.boff + off, none⟩ xs).run P w = .ok () (w.setCells k.r (k.boff + off) xs) ∧ HR w0 κ L' (w.setCells k.r (k.boff + off) xs) ∧ L'.next = L.next ∧ ∀ m, m ≠ n → L'.t.get m = L.t.get m := by
  unfold Heap.store at h
  simp only [Option.bind_eq_some_iff] at h
  obtain ⟨b, hb, h⟩ := h
  split at h
  case h_2 => cases h
  rename_i c cnt sz q
  rw [guardO_some] at h
  obtain ⟨hsc, h⟩ := h
  simp only [Option.bind_eq_some_iff, Option.map_eq_some_iff] at h
  obtain ⟨l, hl, l', hl', rfl⟩ := h
  obtain ⟨o, ho, hbr⟩ := H.blk n k _ hk hb
  obtain ⟨ys, el, fr, rfl, hfr, hc, hq⟩ := hbr
  obtain ⟨hs1, hs2, hs3⟩ := splice_get hl'
  obtain ⟨hcn, hcl, hcc⟩ := hc _ _ hl
  have hxl := VRs_length hx
  have hdm := Nat.div_add_mod off sz
  rw [Nat.mul_comm] at hdm
  have hcell : ∀ j, j < xs.length → ∃ y, ys[k.boff + off + j]? = some y := by
    intro j hj
    obtain ⟨y, hy, _⟩ := hcc (off % sz + j) l[off % sz + j] (List.getElem?_eq_getElem (by omega))
    exact ⟨y, by rw [show k.boff + off + j = k.boff + (off / sz * sz + (off % sz + j)) by omega]; exact hy⟩
  have hin : k.boff + off + xs.length ≤ ys.size ∨ xs = [] := by
    cases hxe : xs with
    | nil => exact .inr rfl
    | cons x r =>
      left
      obtain ⟨y, hy⟩ := hcell (xs.length - 1) (by rw [hxe]; simp)
      have := (Array.getElem?_eq_some_iff.1 hy).1
      rw [← hxe]
      rw [hxe] at this ⊢
      simp at this ⊢
      omega
  have hrun := run_storeCells_cells (P := P) k.r (k.boff + off) xs 0 w
    (fun j hj => by
      obtain ⟨y, hy⟩ := hcell j hj
      simp [World.cell?, ho, hy])
    (fun j hj => by
      obtain ⟨y, hy⟩ := hcell j hj
      exact not_frozen ho (hfr rfl _ (by rw [Nat.add_zero]; exact (Array.getElem?_eq_some_iff.1 hy).1)))
    (VRs_all hx hsc)
  obtain ⟨h1, h2, h3, h4⟩ := setCells_same (b := k.r) xs (k.boff + off) w
  refine ⟨by simpa using hrun, ?_, rfl, fun m hm => T.get_set_ne _ _ hm⟩
  refine H.turn hk hb rfl rfl h1 h2 h3 h4 (fun i hi => setCells_other hi _ _ _) (setCells_block xs _ _ ho) ?_
  refine ⟨_, _, _, rfl, fun hro i hi => hfr hro i (by rw [putL_size] at hi; exact hi), ?_, fun hqq => ⟨by rw [putL_size]; exact (hq hqq).1, (hq hqq).2⟩⟩
  intro e m hm
  have hpg : ∀ i, (putL ys (k.boff + off) xs)[i]? = if k.boff + off ≤ i ∧ i < k.boff + off + xs.length then xs[i - (k.boff + off)]? else ys[i]? := by
    intro i
    rcases hin with hin | rfl
    · exact putL_get _ _ _ _ hin
    · simp only [putL]; rw [if_neg (by simp only [List.length_nil]; omega)]
  by_cases he : e = off / sz
  · subst he
    rw [T.get_set_same] at hm; injection hm with hm; subst hm
    refine ⟨hcn, by rw [hs1, hcl], fun j v hj => ?_⟩
    rw [hs3] at hj
    rw [hpg]
    by_cases hr : off % sz ≤ j ∧ j < off % sz + vs.length
    · rw [if_pos hr] at hj
      rw [if_pos (by omega)]
      obtain ⟨x, hx1, hx2⟩ := VRs_get hx hj
      exact ⟨x, by rw [show k.boff + (off / sz * sz + j) - (k.boff + off) = j - off % sz by omega]; exact hx1, hx2⟩
    · rw [if_neg hr] at hj
      rw [if_neg (by omega)]
      exact hcc j v hj
  · rw [T.get_set_ne _ _ he] at hm
    obtain ⟨ha, hb', hcc'⟩ := hc e m hm
    refine ⟨ha, hb', fun j v hj => ?_⟩
    obtain ⟨x, hx1, hx2⟩ := hcc' j v hj
    refine ⟨x, ?_, hx2⟩
    rw [hpg, if_neg ?_]
    · exact hx1
    · intro hr
      have hj' : j < sz := by rw [← hb']; exact (List.getElem?_eq_some_iff.1 hj).1
      have hl2 : off % sz + vs.length ≤ sz := by omega
      have hlow : off / sz * sz ≤ e * sz + j ∧ e * sz + j < off / sz * sz + sz := by omega
      apply he
      have h1 : e < off / sz + 1 := Nat.lt_of_mul_lt_mul_right (a := sz) (by rw [Nat.add_mul, Nat.one_mul]; omega)
      have h2 : off / sz < e + 1 := Nat.lt_of_mul_lt_mul_right (a := sz) (by rw [Nat.add_mul, Nat.one_mul]; omega)
      omega
end Go.Proofs.Ytpfmoolpeecobaa.Ev
