/- The operations that change nothing, run: the rest, and all in one. -/
import Derived.Test.YtpfmoolpeecobaaX3
namespace Go.Proofs.Ytpfmoolpeecobaa.Ev
open Go.RowKit
set_option linter.unusedVariables false
set_option linter.unusedSimpArgs false
variable {P : Program} {w0 : World} {κ : KM} {L : Heap} {w : World}

/-! ### elements of a slice -/
theorem elems_cells {n s : Nat} : ∀ {cnt off : Nat} {ls : List (List V)}, L.elems n off s cnt = some ls → HR w0 κ L w → ∀ {k : KB}, κ n = some k →
    ls.length = cnt ∧ (∀ x ∈ ls, x.length = s) ∧ ∀ (j : Nat) (v : V), ls.flatten[j]? = some v → ∃ x, w.cell? ⟨k.r, k.boff + off + j, none⟩ = some x ∧ VR κ v x
  | 0, off, ls, h, H, k, hk => by simp [Heap.elems] at h; subst h; simp
  | cnt + 1, off, ls, h, H, k, hk => by
    simp only [Heap.elems, Option.bind_eq_some_iff, Option.map_eq_some_iff] at h
    obtain ⟨⟨l, r⟩, he, x, hx, xs, hxs, rfl⟩ := h
    obtain ⟨h1, h2, h3⟩ := elems_cells hxs H hk
    obtain ⟨ht, hl⟩ := takeN_some hx
    refine ⟨by simp [h1], fun y hy => ?_, fun j v hj => ?_⟩
    · rcases List.mem_cons.1 hy with rfl | hy
      · exact hl
      · exact h2 y hy
    · rw [List.flatten_cons, List.getElem?_append] at hj
      split at hj
      · rename_i hlt
        refine elem_cells he H hk j v ?_
        rw [ht, List.getElem?_take] at hj
        split at hj
        · simpa using hj
        · cases hj
      · rename_i hge
        obtain ⟨y, hy, hv⟩ := h3 (j - x.length) v hj
        refine ⟨y, ?_, hv⟩
        rw [← hy]
        congr 2
        omega
theorem flatten_length {s : Nat} : ∀ {ls : List (List V)}, (∀ x ∈ ls, x.length = s) → ls.flatten.length = ls.length * s
  | [], _ => by simp
  | x :: ls, h => by
    rw [List.flatten_cons, List.length_append, flatten_length (fun y hy => h y (List.mem_cons_of_mem _ hy)), h x (List.mem_cons_self ..), List.length_cons, Nat.add_mul]
    omega

/-- the cells of so many elements, loaded -/
theorem elems_load {n s cnt off : Nat} {ls : List (List V)} (h : L.elems n off s cnt = some ls) (H : HR w0 κ L w) {k : KB} (hk : κ n = some k) :
    ∃ xs : Array Value, (loadCells ⟨k.r, k.boff + off, none⟩ (cnt * s)).run P w = .ok xs w ∧ VRs κ ls.flatten xs.toList := by
  obtain ⟨h1, h2, h3⟩ := elems_cells h H hk
  have hl := flatten_length h2
  rw [h1] at hl
  have hf : ∀ j, j < cnt * s → w.cell? ((⟨k.r, k.boff + off, none⟩ : Addr).add j) = some ((w.cell? ⟨k.r, k.boff + off + j, none⟩).getD undef) := by
    intro j hj
    obtain ⟨x, hx, _⟩ := h3 j ls.flatten[j] (List.getElem?_eq_getElem (by omega))
    rw [Addr.add_lit, hx]; rfl
  refine ⟨_, run_loadCells (P := P) w _ _ (fun j => (w.cell? ⟨k.r, k.boff + off + j, none⟩).getD undef) hf, VRs_iff.2 ⟨by simp [hl], fun j v hj => ?_⟩⟩
  have hjs : j < cnt * s := by rw [← hl]; exact (List.getElem?_eq_some_iff.1 hj).1
  obtain ⟨x, hx, hv⟩ := h3 j v hj
  exact ⟨x, by simp [hjs, hx], hv⟩

/-! ### conversions -/
theorem bytesOf_sound : ∀ {ls : List (List V)} {bs : List Nat}, bytesOf ls = some bs → ∀ {xs : List Value}, VRs κ ls.flatten xs →
    ∃ ns : List Int, xs = ns.map (Value.int .u8) ∧ bs = ns.map fun n => (UInt8.ofNat n.toNat).toNat
  | [], bs, h, xs, hx => by simp [bytesOf] at h; subst h; simp [VRs_nil] at hx; exact ⟨[], by simp [hx], rfl⟩
  | x :: rest, bs, h, xs, hx => by
    unfold bytesOf at h
    split at h
    · rename_i n
      simp only [Option.map_eq_some_iff] at h
      obtain ⟨bs', hb, rfl⟩ := h
      rw [List.flatten_cons, List.singleton_append, VRs_cons] at hx
      obtain ⟨y, ys, rfl, hy, hys⟩ := hx
      obtain ⟨ns, rfl, rfl⟩ := bytesOf_sound hb hys
      simp only [VR] at hy
      subst hy
      exact ⟨n :: ns, by simp, by simp⟩
    · cases h
theorem foldl_push (ns : List Int) : ∀ s : ByteArray, strOf (ns.foldl (fun r n => r.push (UInt8.ofNat n.toNat)) s) = strOf s ++ ns.map fun n => (UInt8.ofNat n.toNat).toNat := by
  induction ns with
  | nil => intro s; simp
  | cons n ns ih =>
    intro s
    rw [List.foldl_cons, ih]
    simp [strOf, ByteArray.push]
theorem runesOf_sound : ∀ {ls : List (List V)} {bs : List Nat}, runesOf ls = some bs → ∀ {xs : List Value}, VRs κ ls.flatten xs →
    ∃ ns : List Int, xs = ns.map (Value.int .i32) ∧ bs = ns.flatMap encodeRune
  | [], bs, h, xs, hx => by simp [runesOf] at h; subst h; simp [VRs_nil] at hx; exact ⟨[], by simp [hx], rfl⟩
  | x :: rest, bs, h, xs, hx => by
    unfold runesOf at h
    split at h
    · rename_i n
      simp only [Option.map_eq_some_iff] at h
      obtain ⟨bs', hb, rfl⟩ := h
      rw [List.flatten_cons, List.singleton_append, VRs_cons] at hx
      obtain ⟨y, ys, rfl, hy, hys⟩ := hx
      obtain ⟨ns, rfl, rfl⟩ := runesOf_sound hb hys
      simp only [VR] at hy
      subst hy
      exact ⟨n :: ns, by simp, by simp⟩
    · cases h
theorem run_forIn_runes (f : Value → ByteArray → Sem (ForInStep ByteArray))
    (hf : ∀ (n : Int) (r : ByteArray), (f (.int .i32 n) r).run P w = .ok (.yield (r ++ Utf8.encode n)) w) :
    ∀ (ns : List Int) (s : ByteArray), (forIn (ns.map (Value.int .i32)) s f).run P w = .ok (ns.foldl (fun r n => r ++ Utf8.encode n) s) w := by
  intro ns
  induction ns with
  | nil => intro s; simp
  | cons n ns ih =>
    intro s
    simp only [List.map_cons, List.forIn_cons, Sem.run_bind, hf, Result.andThen, List.foldl_cons]
    exact ih _
theorem foldl_runes (ns : List Int) : ∀ s : ByteArray, strOf (ns.foldl (fun r n => r ++ Utf8.encode n) s) = strOf s ++ ns.flatMap encodeRune := by
  induction ns with
  | nil => intro s; simp
  | cons n ns ih =>
    intro s
    rw [List.foldl_cons, ih, strOf_append]
    simp [encodeRune]

theorem convQ_sound {src dst : TypeId} {v r : V} (h : convQ P src dst v L = some r) (H : HR w0 κ L w) {x : Value} (hx : VR κ v x) :
    ∃ z, (Go.convert src dst x).run P w = .ok z w ∧ VR κ r z := by
  unfold convQ at h
  split at h
  · rename_i k n
    simp only [Option.bind_eq_some_iff] at h
    obtain ⟨d, hs, h⟩ := h
    simp only [VR] at hx; subst hx
    split at h
    · rename_i k' hd
      injection h with h; subst h
      exact ⟨_, by simp only [Go.convert, Sem.run_bind, run_underlying hs, run_underlying hd, Result.andThen_ok, Conv.intToInt]; rfl, by simp only [VR]⟩
    · rename_i hd
      injection h with h; subst h
      refine ⟨.string (Utf8.encode n), ?_, by simp only [VR]; exact ⟨_, rfl, rfl⟩⟩
      simp only [Go.convert, Sem.run_bind, run_underlying hs, run_underlying hd, Result.andThen_ok, Conv.intToString]
      rfl
    · cases h
  · rename_i s
    simp only [Option.bind_eq_some_iff] at h
    obtain ⟨d, hs, h⟩ := h
    rw [guardO_some] at h
    obtain ⟨hd, h⟩ := h
    rw [tyStr_true] at hd
    injection h with h; subst h
    simp only [VR] at hx; obtain ⟨b, rfl, hb⟩ := hx
    refine ⟨.string b, ?_, by simp only [VR]; exact ⟨_, rfl, hb⟩⟩
    simp only [Go.convert, Sem.run_bind, run_underlying hs, run_underlying hd, Result.andThen_ok]
    rfl
  · simp only [Option.bind_eq_some_iff] at h
    obtain ⟨e, hs, h⟩ := h
    rw [tySlice_some] at hs
    rw [guardO_some] at h
    obtain ⟨hd, h⟩ := h
    rw [tyStr_true] at hd
    simp only [VR] at hx; subst hx
    split at h
    · rename_i he
      injection h with h; subst h
      refine ⟨.string .empty, ?_, by simp only [VR]; exact ⟨_, rfl, rfl⟩⟩
      simp only [Go.convert, Sem.run_bind, run_underlying hs, run_underlying hd, run_underlying he, Result.andThen_ok, Conv.bytesToString]
      rfl
    · rename_i he
      injection h with h; subst h
      refine ⟨.string .empty, ?_, by simp only [VR]; exact ⟨_, rfl, rfl⟩⟩
      simp only [Go.convert, Sem.run_bind, run_underlying hs, run_underlying hd, run_underlying he, Result.andThen_ok, Conv.runesToString]
      rfl
    · cases h
  · rename_i n o len cap q
    simp only [Option.bind_eq_some_iff] at h
    obtain ⟨e, hs, h⟩ := h
    rw [tySlice_some] at hs
    rw [guardO_some] at h
    obtain ⟨hd, h⟩ := h
    rw [tyStr_true] at hd
    simp only [VR] at hx
    obtain ⟨k, a, c, hk, rfl, hlc, hac, _⟩ := hx
    have hload : ∀ ls, L.elems n o 1 len = some ls → ∃ xs : Array Value, (loadCells ⟨k.r, a, none⟩ len).run P w = .ok xs w ∧ VRs κ ls.flatten xs.toList := by
      intro ls hls
      rcases hac with rfl | hc0
      · have := elems_load (P := P) hls H hk
        rw [Nat.mul_one] at this
        exact this
      · obtain rfl : len = 0 := by omega
        simp [Heap.elems] at hls; subst hls
        exact ⟨#[], by simp [loadCells, loadCellsFrom], by simp [VRs_nil]⟩
    split at h
    · rename_i he
      simp only [Option.bind_eq_some_iff, Option.map_eq_some_iff] at h
      obtain ⟨ls, hls, bs, hbs, rfl⟩ := h
      obtain ⟨xs, hxs, hv⟩ := hload ls hls
      obtain ⟨ns, hns, rfl⟩ := bytesOf_sound hbs hv
      have hxs' : xs = (ns.map (Value.int .u8)).toArray := by rw [← hns]
      rw [hxs'] at hxs
      refine ⟨.string (ns.foldl (fun r n => r.push (UInt8.ofNat n.toNat)) ByteArray.empty), ?_, by simp only [VR]; exact ⟨_, rfl, by rw [foldl_push]; rfl⟩⟩
      rw [run_convert_bytes_string w src dst e _ _ _ hs he hd, run_bytesToString w _ _ _ ns hxs]
    · rename_i he
      simp only [Option.bind_eq_some_iff, Option.map_eq_some_iff] at h
      obtain ⟨ls, hls, bs, hbs, rfl⟩ := h
      obtain ⟨xs, hxs, hv⟩ := hload ls hls
      obtain ⟨ns, hns, rfl⟩ := runesOf_sound hbs hv
      have hxs' : xs = (ns.map (Value.int .i32)).toArray := by rw [← hns]
      rw [hxs'] at hxs
      refine ⟨.string (ns.foldl (fun r n => r ++ Utf8.encode n) ByteArray.empty), ?_, by simp only [VR]; exact ⟨_, rfl, by rw [foldl_runes]; rfl⟩⟩
      simp only [Go.convert, Sem.run_bind, run_underlying hs, run_underlying hd, run_underlying he, Result.andThen_ok, Conv.runesToString, hxs, List.forIn_toArray]
      rw [run_forIn_runes _ (by intro n r; simp)]
      rfl
    · cases h
  · cases h

/-! ### struct and array values -/
theorem setFold_get (off : Nat) : ∀ (vs : List Value) (i : Nat) (xs : Array Value), ((vs.zipIdx i).foldl (fun cs (p : Value × Nat) => cs.setIfInBounds (off + p.2) p.1) xs) = putL xs (off + i) vs
  | [], _, _ => rfl
  | v :: vs, i, xs => by
    rw [List.zipIdx_cons, List.foldl_cons, setFold_get off vs (i + 1), putL]
    rfl
theorem splice_VRs {r : Nat} {vs l l' : List V} (h : splice r vs l = some l') {ys xs : List Value} (hv : VRs κ vs ys) {zs : Array Value} (hl : VRs κ l zs.toList) : VRs κ l' (putL zs r ys).toList := by
  obtain ⟨h1, h2, h3⟩ := splice_get h
  have hz := VRs_length hl
  have hy := VRs_length hv
  rw [Array.length_toList] at hz
  refine VRs_iff.2 ⟨by rw [Array.length_toList, putL_size, hz, h1], fun j v hj => ?_⟩
  rw [h3] at hj
  rw [Array.getElem?_toList, putL_get _ _ _ _ (by omega)]
  by_cases hc : r ≤ j ∧ j < r + vs.length
  · rw [if_pos hc] at hj
    rw [if_pos (by omega)]
    exact VRs_get hv hj
  · rw [if_neg hc] at hj
    rw [if_neg (by omega), ← Array.getElem?_toList]
    exact VRs_get hl hj

inductive PR (κ : KM) : List (Nat × V) → List (Nat × Value) → Prop
  | nil : PR κ [] []
  | cons (i : Nat) (v : V) (x : Value) {l : List (Nat × V)} {m : List (Nat × Value)} (h : VR κ v x) (r : PR κ l m) : PR κ ((i, v) :: l) ((i, x) :: m)

theorem fill_sound {place place' : Nat → Option (Nat × Nat)} (hp : ∀ i p, place i = some p → place' i = some p) :
    ∀ {l : List (Nat × V)} {m : List (Nat × Value)}, PR κ l m → ∀ {cs cs' : List V} {xs : Array Value}, fillCells place l cs = some cs' → VRs κ cs xs.toList →
      ∃ ys, Instr.fill place' xs m = some ys ∧ VRs κ cs' ys.toList := by
  intro l m h
  induction h with
  | nil => intro cs cs' xs hf hx; simp [fillCells] at hf; subst hf; exact ⟨xs, rfl, hx⟩
  | cons i v x hv r ih =>
    intro cs cs' xs hf hx
    simp only [fillCells, Option.bind_eq_some_iff, guardO_some] at hf
    obtain ⟨p, hpl, hlen, d, hd, hf⟩ := hf
    have hc := VR_cells hv
    have hcl := VRs_length hc
    rw [Array.length_toList] at hcl
    have hs := splice_VRs (xs := []) hd hc hx
    obtain ⟨h1, h2, h3⟩ := splice_get hd
    have hxl := VRs_length hx
    rw [Array.length_toList] at hxl
    obtain ⟨ys, hy1, hy2⟩ := ih hf hs
    refine ⟨ys, ?_, hy2⟩
    obtain ⟨off, size⟩ := p
    simp only [beq_iff_eq] at hlen
    simp only [Instr.fill, hp _ _ hpl]
    rw [if_neg (by simp; omega)]
    have := setFold_get off x.cells.toList 0 xs
    rw [Nat.add_zero] at this
    rw [← this] at hy1
    rw [← hy1]
    congr 1
    rw [← Array.foldl_toList, Array.toList_zipIdx]

theorem run_mapM_pure {α β : Type} {f : α → Sem β} {g : α → β} {l : List α} (h : ∀ a ∈ l, (f a).run P w = .ok (g a) w) : (l.mapM f).run P w = .ok (l.map g) w := by
  induction l with
  | nil => simp
  | cons a l ih =>
    rw [List.mapM_cons]
    simp only [Sem.run_bind, h a (List.mem_cons_self ..), Result.andThen_ok, ih (fun b hb => h b (List.mem_cons_of_mem _ hb)), Sem.run_pure, List.map_cons]
theorem run_mapM_arr {α β : Type} {f : α → Sem β} {g : α → β} {l : Array α} (h : ∀ a ∈ l.toList, (f a).run P w = .ok (g a) w) : (l.mapM f).run P w = .ok (l.map g) w := by
  obtain ⟨l⟩ := l
  rw [List.mapM_toArray, Sem.run_map, run_mapM_pure h]
  simp

theorem build_sound {ty : TypeId} {l : List (Nat × V)} {m : Array (Nat × Value)} (hm : PR κ l m.toList) {r : V} (h : build P ty l = some r) :
    ∃ z, (Instr.build ty m).run P w = .ok z w ∧ VR κ r z := by
  unfold build at h
  simp only [Option.bind_eq_some_iff] at h
  obtain ⟨z, hz, h⟩ := h
  obtain ⟨zr, hzr, hzv⟩ := zeroV_some hz κ
  have hzc := VR_cells hzv
  split at h
  · rename_i fs hu
    rw [guardO_some] at h
    obtain ⟨hall, h⟩ := h
    simp only [Option.map_eq_some_iff] at h
    obtain ⟨cs, hf, rfl⟩ := h
    have hpl : (fs.mapM fun f => do pure (f.offset, ← sizeOf f.type) : Sem (Array (Nat × Nat))).run P w = .ok (fs.map fun f => (f.offset, (sizeT P f.type).getD 0)) w := by
      refine run_mapM_arr fun f hf => ?_
      have := List.all_eq_true.1 hall f hf
      obtain ⟨s, hs⟩ := Option.isSome_iff_exists.1 this
      simp [sizeT_some hs, hs]
    obtain ⟨ys, hy1, hy2⟩ := fill_sound (place' := ((fs.map fun f => (f.offset, (sizeT P f.type).getD 0))[·]?)) (fun i p hp => by
      unfold placeS at hp
      simp only [Option.bind_eq_some_iff, Option.map_eq_some_iff] at hp
      obtain ⟨f, hf, s, hs, rfl⟩ := hp
      simp [hf, hs]) hm hf hzc
    refine ⟨.agg ys, ?_, by simp only [VR]; exact ⟨_, rfl, hy2⟩⟩
    simp only [Instr.build, Sem.run_bind, hzr, Result.andThen_ok, run_underlying hu, hpl, hy1, Sem.run_pure]
  · rename_i n e hu
    simp only [Option.bind_eq_some_iff, Option.map_eq_some_iff] at h
    obtain ⟨s, hs, cs, hf, rfl⟩ := h
    obtain ⟨ys, hy1, hy2⟩ := fill_sound (place' := fun i => some (i * s, s)) (fun i p hp => hp) hm hf hzc
    refine ⟨.agg ys, ?_, by simp only [VR]; exact ⟨_, rfl, hy2⟩⟩
    simp only [Instr.build, Sem.run_bind, hzr, Result.andThen_ok, run_underlying hu, sizeT_some hs, hy1, Sem.run_pure]
  · cases h
end Go.Proofs.Ytpfmoolpeecobaa.Ev
