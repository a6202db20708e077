/- The operations that change nothing, run. -/
import Derived.Test.YtpfmoolpeecobaaX2
import Derived.Laws.Strings
import Derived.Laws.BytesString
import Derived.Laws.StructEq
import Derived.Lib.Strings
import Derived.Lib.SmallJoins
namespace Go.Proofs.Ytpfmoolpeecobaa.Ev
open Go.RowKit
set_option linter.unusedVariables false
set_option linter.unusedSimpArgs false
variable {P : Program} {w0 : World} {κ : KM} {L : Heap} {w : World}

/-! ### texts -/
theorem strOf_length (s : ByteArray) : (strOf s).length = s.size := by simp [strOf]
theorem strOf_append (a b : ByteArray) : strOf (a ++ b) = strOf a ++ strOf b := by simp [strOf]
theorem strOf_extract (s : ByteArray) (a b : Nat) : strOf (s.extract a b) = ((strOf s).drop a).take (b - a) := by
  simp [strOf, List.map_take, List.map_drop]
theorem strOf_get (s : ByteArray) (i : Nat) : (strOf s)[i]? = (s[i]?).map UInt8.toNat := by
  by_cases h : i < s.size
  · rw [ByteArray.getElem?_lt' s i h]
    simp [strOf, h]
    rfl
  · rw [ByteArray.getElem?_ge' s i h, List.getElem?_eq_none (by rw [strOf_length]; omega)]
    rfl
theorem strEq_iff : ∀ {a b : List Nat}, strEq a b = true ↔ a = b
  | [], [] => by simp [strEq]
  | [], _ :: _ => by simp [strEq]
  | _ :: _, [] => by simp [strEq]
  | x :: a, y :: b => by simp [strEq, strEq_iff (a := a) (b := b)]
theorem map_toNat_inj : ∀ {a b : List UInt8}, a.map UInt8.toNat = b.map UInt8.toNat → a = b
  | [], [], _ => rfl
  | [], _ :: _, h => by simp at h
  | _ :: _, [], h => by simp at h
  | x :: a, y :: b, h => by
    simp only [List.map_cons, List.cons.injEq] at h
    rw [map_toNat_inj h.2, UInt8.toNat_inj.1 h.1]
theorem strOf_inj {a b : ByteArray} (h : strOf a = strOf b) : a = b := by
  have := map_toNat_inj h
  obtain ⟨⟨la⟩⟩ := a
  obtain ⟨⟨lb⟩⟩ := b
  simp at this
  rw [this]
theorem strEq_list (a b : ByteArray) : (a.toList == b.toList) = strEq (strOf a) (strOf b) := by
  rw [Bool.eq_iff_iff, strEq_iff, beq_iff_eq, ByteArray.toList_eq, ByteArray.toList_eq]
  exact ⟨fun h => by simp [strOf, h], fun h => map_toNat_inj h⟩
theorem strEq_beq (a b : ByteArray) : (a == b) = strEq (strOf a) (strOf b) := by
  rw [beq_toListBytes, strEq_list]
theorem lexLess_list : ∀ (a b : List UInt8), Op.bytesLess a b = lexLess (a.map UInt8.toNat) (b.map UInt8.toNat)
  | [], [] => rfl
  | _ :: _, [] => rfl
  | [], _ :: _ => rfl
  | x :: a, y :: b => by
    simp only [Op.bytesLess, List.map_cons, lexLess, lexLess_list a b]
    congr 1
    · rw [Bool.eq_iff_iff]; simp [UInt8.lt_iff_toNat_lt]
    · congr 1
      rw [Bool.eq_iff_iff]
      simp [UInt8.toNat_inj]

/-! ### numbers and texts by operators -/
theorem binI_sound {op : BinOp} {k : IntKind} {x y : Int} {v : V} (h : binI op k x y = some v) (hs : isShift op = false) (t : TypeId) :
    ∃ z, (Go.binOp op t (.int k x) (.int k y)).run P w = .ok z w ∧ VR κ v z := by
  cases op <;> simp only [binI, isShift, guardO_some, reduceCtorEq] at h hs
  all_goals first
    | (cases hs; done)
    | (injection h with h; subst h; refine ⟨_, by simp only [Go.binOp, Op.intArith, Op.intBits, Op.intCmp, ne_eq, not_true_eq_false, if_false]; rfl, by simp only [VR]⟩)
    | (obtain ⟨h0, h⟩ := h
       injection h with h; subst h
       simp only [Bool.not_eq_true', decide_eq_false_iff_not] at h0
       refine ⟨_, by simp [Go.binOp, Op.intDiv, h0]; rfl, by simp only [VR]⟩)
    | (obtain ⟨h0, h⟩ := h
       injection h with h; subst h
       simp only [Bool.not_eq_true', decide_eq_false_iff_not] at h0
       refine ⟨_, by simp [Go.binOp, Op.intDiv, h0], by simp only [VR]⟩)
theorem shiftI_sound {op : BinOp} {k k' : IntKind} {x y : Int} {v : V} (h : shiftI op k x y = some v) (t : TypeId) :
    ∃ z, (Go.binOp op t (.int k x) (.int k' y)).run P w = .ok z w ∧ VR κ v z := by
  unfold shiftI at h
  rw [guardO_some] at h
  obtain ⟨h0, h⟩ := h
  simp only [Bool.not_eq_true', decide_eq_false_iff_not] at h0
  cases op <;> simp only [reduceCtorEq] at h
  · injection h with h; subst h
    exact ⟨_, by simp only [Go.binOp, Op.shift, if_neg h0]; rfl, by simp only [VR]⟩
  · injection h with h; subst h
    exact ⟨_, by simp only [Go.binOp, Op.shift, if_neg h0]; rfl, by simp only [VR]⟩
theorem binS_sound {op : BinOp} {x y : List Nat} {v : V} (h : binS op x y = some v) (t : TypeId) {a b : ByteArray} (ha : strOf a = x) (hb : strOf b = y) :
    ∃ z, (Go.binOp op t (.string a) (.string b)).run P w = .ok z w ∧ VR κ v z := by
  subst ha; subst hb
  have hl : Op.bytesLess a.toList b.toList = lexLess (strOf a) (strOf b) := by rw [lexLess_list, ByteArray.toList_eq, ByteArray.toList_eq]; rfl
  cases op <;> simp only [binS, guardO_some, reduceCtorEq] at h
  case add =>
    obtain ⟨h0, h⟩ := h
    injection h with h; subst h
    have h1 := Nat.le_of_ble_eq_true h0
    rw [strOf_length, strOf_length] at h1
    refine ⟨.string (a ++ b), ?_, by simp only [VR]; exact ⟨_, rfl, strOf_append _ _⟩⟩
    have : ¬ (((a.size + b.size : Nat) : Int) > IntKind.i64.max) := by
      have : IntKind.i64.max = 9223372036854775807 := rfl
      omega
    simp only [Go.binOp, Op.stringOp]
    rw [if_neg this]
    rfl
  all_goals
    injection h with h
    subst h
    refine ⟨_, by simp only [Go.binOp, Op.stringOp, strEq_list, hl]; rfl, by simp only [VR]⟩

/-! ### equality -/
theorem forIn_all {α : Type} {f : α → Option Bool × Unit → Sem (ForInStep (Option Bool × Unit))} {r : α → Option Bool}
    (hf : ∀ a s b, r a = some b → (f a s).run P w = .ok (if b = true then .yield (none, ()) else .done (some false, ())) w) :
    ∀ (l : List α) (b : Bool), allR r l = some b → (forIn l ((none, ()) : Option Bool × Unit) f).run P w = .ok (if b = true then (none, ()) else (some false, ())) w
  | [], b, h => by simp only [allR] at h; injection h with h; subst h; rfl
  | a :: l, b, h => by
    simp only [allR, Option.bind_eq_some_iff] at h
    obtain ⟨c, hc, h⟩ := h
    rw [List.forIn_cons]
    simp only [Sem.run_bind, hf a _ c hc, Result.andThen_ok]
    cases c with
    | true => exact forIn_all hf l b h
    | false => simp only at h; injection h with h; subst h; rfl

theorem eqPart_sound {f : TypeId → V → V → Option Bool} {g : TypeId → Value → Value → Sem Bool} {cs ds : List V} {xs ys : Array Value} (hx : VRs κ cs xs.toList) (hy : VRs κ ds ys.toList)
    (hfg : ∀ t v u x y b, f t v u = some b → VR κ v x → VR κ u y → (g t x y).run P w = .ok b w) {ty : TypeId} {off : Nat} {b : Bool} (h : eqPart P f cs ds ty off = some b) {γ : Type} (k : Bool → Sem γ) :
    (do let a ← Go.part ty xs off
        let a1 ← Go.part ty ys off
        let a ← g ty a a1
        k a).run P w = (k b).run P w := by
  simp only [eqPart, Option.bind_eq_some_iff] at h
  obtain ⟨v, hv, u, hu, h⟩ := h
  obtain ⟨x, hx1, hx2⟩ := part_sound (P := P) (w := w) hv hx
  obtain ⟨y, hy1, hy2⟩ := part_sound (P := P) (w := w) hu hy
  simp only [Sem.run_bind, hx1, Result.andThen_ok, hy1, hfg _ _ _ _ _ _ h hx2 hy2]

theorem equalN_sound : ∀ (n : Nat) (d : Nat) (ty : TypeId) (v u : V) (x y : Value) (b : Bool), n ≤ d → equalN P n ty v u = some b → VR κ v x → VR κ u y → (Op.equalIn d ty x y).run P w = .ok b w := by
  intro n
  induction n with
  | zero => intro d ty v u x y b _ h; simp [equalN] at h
  | succ n ih =>
    intro d ty v u x y b hd h hx hy
    obtain ⟨d, rfl⟩ : ∃ e, d = e + 1 := ⟨d - 1, by omega⟩
    have ih' := fun ty v u x y b => ih d ty v u x y b (by omega)
    unfold equalN at h
    split at h
    · rename_i hu
      simp only [VR] at hx hy; subst hx; subst hy
      injection h with h; subst h
      simp [Op.equalIn, run_underlying hu]
    · rename_i hu
      simp only [VR] at hx hy; subst hx; subst hy
      rw [guardO_some] at h
      obtain ⟨hk, h⟩ := h
      injection h with h; subst h
      simp [Op.equalIn, run_underlying hu, of_decide_eq_true hk]
    · rename_i hu
      simp only [VR] at hx hy
      obtain ⟨s, rfl, rfl⟩ := hx; obtain ⟨s', rfl, rfl⟩ := hy
      injection h with h; subst h
      simp [Op.equalIn, run_underlying hu, strEq_beq]
    · rename_i fs cs ds hu
      simp only [VR] at hx hy
      obtain ⟨xs, rfl, hx⟩ := hx; obtain ⟨ys, rfl, hy⟩ := hy
      rw [guardO_some] at h
      obtain ⟨hk, h⟩ := h
      simp only [Op.equalIn, Sem.run_bind, run_underlying hu, Result.andThen_ok, run_program]
      rw [if_neg (by simpa using hk)]
      rw [← Array.forIn_toList]
      simp only [Sem.run_bind]
      rw [forIn_all ?_ fs.toList b h]
      · cases b <;> rfl
      · intro f s b hb
        by_cases hn : f.name = "_"
        · simp only [hn, decide_true] at hb
          injection hb with hb; subst hb
          simp [hn]
        · simp only [hn, decide_false] at hb
          simp only [ne_eq, hn, not_false_eq_true, if_true]
          rw [eqPart_sound hx hy ih' hb]
          cases b <;> rfl
    · rename_i len e cs ds hu
      simp only [VR] at hx hy
      obtain ⟨xs, rfl, hx⟩ := hx; obtain ⟨ys, rfl, hy⟩ := hy
      simp only [Option.bind_eq_some_iff] at h
      obtain ⟨m, hm, h⟩ := h
      simp only [Op.equalIn, Sem.run_bind, run_underlying hu, Result.andThen_ok, sizeT_some hm]
      rw [Std.Legacy.Range.forIn_eq_forIn_range']
      rw [forIn_all ?_ _ b (by simpa [List.range_eq_range', Std.Legacy.Range.size] using h)]
      · cases b <;> rfl
      · intro i s b hb
        rw [eqPart_sound hx hy ih' hb]
        cases b <;> rfl
    · cases h

theorem eqGuard_plain (op : BinOp) (ty : TypeId) (X Y : Operand) (x y : Value) (h1 : ∀ xs ys, ¬ (x = .agg xs ∧ y = .agg ys)) (h2 : ¬ (x = .nilIface ∧ y = .nilIface)) :
    (eqGuard op ty X Y x y).run P w = .ok () w := by
  cases op <;> first
    | rfl
    | (simp only [eqGuard, Bool.not_true, Bool.false_eq_true, if_false]
       split
       · exact absurd ⟨rfl, rfl⟩ h2
       · exact absurd ⟨rfl, rfl⟩ (h1 _ _)
       · rfl)
theorem eqGuard_agg (op : BinOp) (ty : TypeId) (X Y : Operand) (xs ys : Array Value) (hq : P.eqGuardType P.depth ty = false) :
    (eqGuard op ty X Y (.agg xs) (.agg ys)).run P w = .ok () w := by
  cases op <;> first
    | rfl
    | (simp only [eqGuard, Bool.not_true, Bool.false_eq_true, if_false, Sem.run_bind, run_program, Result.andThen_ok, hq, Bool.not_false, if_true]; rfl)
theorem eqGuard_nil (op : BinOp) (ty : TypeId) (X Y : Operand) (hq : (isConstO X || isConstO Y) = true) :
    (eqGuard op ty X Y .nilIface .nilIface).run P w = .ok () w := by
  cases op <;> first
    | rfl
    | (cases X <;> cases Y <;> first
        | rfl
        | (exact absurd hq (by decide))
        | (exact absurd hq (by simp [isConstO])))
theorem guard_run {α : Type} {s : Sem Unit} (h : s.run P w = .ok () w) (m : Sem α) : (do s; m).run P w = m.run P w := by simp only [Sem.run_bind, h, Result.andThen_ok]

theorem equalV_sound {ty : TypeId} {cst : Bool} {v u : V} {b : Bool} (h : equalV P ty cst v u = some b) {x y : Value} (hx : VR κ v x) (hy : VR κ u y) (op : BinOp) (X Y : Operand)
    (hc : cst = (isConstO X || isConstO Y)) : (Op.equal ty x y).run P w = .ok b w ∧ (eqGuard op ty X Y x y).run P w = .ok () w := by
  unfold equalV at h
  split at h
  case h_16 =>
    rw [guardO_some] at h
    obtain ⟨hq, h⟩ := h
    have he := equalN_sound (w := w) 20 Op.maxDepth ty _ _ x y b (by decide) h hx hy
    refine ⟨he, ?_⟩
    simp only [VR] at hx hy
    obtain ⟨xs, rfl, hx⟩ := hx; obtain ⟨ys, rfl, hy⟩ := hy
    exact eqGuard_agg op ty X Y xs ys (by simpa using hq)
  case h_17 =>
    have he := equalN_sound (w := w) 20 Op.maxDepth ty _ _ x y b (by decide) h hx hy
    simp only [VR] at hx hy
    subst hx; subst hy
    exact ⟨he, eqGuard_plain _ _ _ _ _ _ (by simp) (by simp)⟩
  case h_4 =>
    rename_i hu
    rw [guardO_some] at h
    obtain ⟨hq, h⟩ := h
    injection h with h; subst h
    simp only [VR] at hx hy
    subst hx; subst hy
    exact ⟨(fun d => by simp [Op.equalIn, run_underlying hu] : ∀ d, (Op.equalIn (d + 1) ty _ _).run P w = .ok _ w) 9999, eqGuard_nil _ _ _ _ (by rw [← hc]; exact hq)⟩
  case h_18 => cases h
  all_goals
    rename_i hu
    injection h with h; subst h
    simp only [VR] at hx hy
    first
      | (subst hx; subst hy; exact ⟨(fun d => by simp [Op.equalIn, run_underlying hu] : ∀ d, (Op.equalIn (d + 1) ty _ _).run P w = .ok _ w) 9999, eqGuard_plain _ _ _ _ _ _ (by simp) (by simp)⟩)
      | (obtain ⟨_, _, rfl⟩ := hx; subst hy; exact ⟨(fun d => by simp [Op.equalIn, run_underlying hu] : ∀ d, (Op.equalIn (d + 1) ty _ _).run P w = .ok _ w) 9999, eqGuard_plain _ _ _ _ _ _ (by simp) (by simp)⟩)
      | (obtain ⟨_, _, rfl⟩ := hy; subst hx; exact ⟨(fun d => by simp [Op.equalIn, run_underlying hu] : ∀ d, (Op.equalIn (d + 1) ty _ _).run P w = .ok _ w) 9999, eqGuard_plain _ _ _ _ _ _ (by simp) (by simp)⟩)
      | (obtain ⟨_, rfl, _⟩ := hx; subst hy; exact ⟨(fun d => by simp [Op.equalIn, run_underlying hu] : ∀ d, (Op.equalIn (d + 1) ty _ _).run P w = .ok _ w) 9999, eqGuard_plain _ _ _ _ _ _ (by simp) (by simp)⟩)
      | (obtain ⟨_, rfl, _⟩ := hy; subst hx; exact ⟨(fun d => by simp [Op.equalIn, run_underlying hu] : ∀ d, (Op.equalIn (d + 1) ty _ _).run P w = .ok _ w) 9999, eqGuard_plain _ _ _ _ _ _ (by simp) (by simp)⟩)
      | (obtain ⟨_, _, rfl, _⟩ := hx; subst hy; exact ⟨(fun d => by simp [Op.equalIn, run_underlying hu] : ∀ d, (Op.equalIn (d + 1) ty _ _).run P w = .ok _ w) 9999, eqGuard_plain _ _ _ _ _ _ (by simp) (by simp)⟩)
      | (obtain ⟨_, _, rfl, _⟩ := hy; subst hx; exact ⟨(fun d => by simp [Op.equalIn, run_underlying hu] : ∀ d, (Op.equalIn (d + 1) ty _ _).run P w = .ok _ w) 9999, eqGuard_plain _ _ _ _ _ _ (by simp) (by simp)⟩)
      | (obtain ⟨_, _, _, _, rfl, _⟩ := hx; subst hy; exact ⟨(fun d => by simp [Op.equalIn, run_underlying hu] : ∀ d, (Op.equalIn (d + 1) ty _ _).run P w = .ok _ w) 9999, eqGuard_plain _ _ _ _ _ _ (by simp) (by simp)⟩)
      | (obtain ⟨_, _, _, _, rfl, _⟩ := hy; subst hx; exact ⟨(fun d => by simp [Op.equalIn, run_underlying hu] : ∀ d, (Op.equalIn (d + 1) ty _ _).run P w = .ok _ w) 9999, eqGuard_plain _ _ _ _ _ _ (by simp) (by simp)⟩)

theorem binV_sound {op : BinOp} {ty : TypeId} {cst : Bool} {v u r : V} (h : binV P op ty cst v u = some r) {x y : Value} (hx : VR κ v x) (hy : VR κ u y) (X Y : Operand)
    (hc : cst = (isConstO X || isConstO Y)) : ∃ z, (do eqGuard op ty X Y x y; Go.binOp op ty x y).run P w = .ok z w ∧ VR κ r z := by
  unfold binV at h
  split at h
  · rename_i p q hp hq
    rw [asInt_some] at hp hq
    subst hp; subst hq
    simp only [VR] at hx hy
    subst hx; subst hy
    rw [guard_run (eqGuard_plain op ty X Y (.int p.1 p.2) (.int q.1 q.2) (by simp) (by simp))]
    split at h
    · exact shiftI_sound h ty
    · rename_i hs
      rw [guardO_some] at h
      obtain ⟨hk, h⟩ := h
      rw [← of_decide_eq_true hk]
      exact binI_sound h (by simpa using hs) ty
  · split at h
    · rename_i p q hp hq
      rw [asStr_some] at hp hq
      subst hp; subst hq
      simp only [VR] at hx hy
      obtain ⟨s, rfl, hs⟩ := hx; obtain ⟨s', rfl, hs'⟩ := hy
      rw [guard_run (eqGuard_plain op ty X Y (.string s) (.string s') (by simp) (by simp))]
      exact binS_sound h ty hs hs'
    · rename_i hni _ _ hns
      have hb : ∀ b, (Op.equal ty x y).run P w = .ok b w → (op = .eql → (Go.binOp op ty x y).run P w = .ok (.bool b) w) ∧ (op = .neq → (Go.binOp op ty x y).run P w = .ok (.bool (!b)) w) := by
        intro b hb
        have hnot : (∀ k n k' m, ¬ (x = .int k n ∧ y = .int k' m)) ∧ (∀ k n k' m, ¬ (x = .float k n ∧ y = .float k' m)) ∧ (∀ k n n' k' m m', ¬ (x = .complex k n n' ∧ y = .complex k' m m')) ∧ (∀ s s', ¬ (x = .string s ∧ y = .string s')) := by
          refine ⟨?_, ?_, ?_, ?_⟩
          · rintro k n k' m ⟨rfl, rfl⟩
            cases v <;> simp only [VR, reduceCtorEq, false_and, and_false, exists_false] at hx
            cases u <;> simp only [VR, reduceCtorEq, false_and, and_false, exists_false] at hy
            exact hni _ _ rfl rfl
          · rintro k n k' m ⟨rfl, rfl⟩
            cases v <;> simp only [VR, reduceCtorEq, false_and, and_false, exists_false] at hx
          · rintro k n n' k' m m' ⟨rfl, rfl⟩
            cases v <;> simp only [VR, reduceCtorEq, false_and, and_false, exists_false] at hx
          · rintro s s' ⟨rfl, rfl⟩
            cases v <;> simp only [VR, reduceCtorEq, false_and, and_false, exists_false] at hx
            cases u <;> simp only [VR, reduceCtorEq, false_and, and_false, exists_false] at hy
            exact hns _ _ rfl rfl
        obtain ⟨n1, n2, n3, n4⟩ := hnot
        constructor
        · rintro rfl
          unfold Go.binOp
          split
          all_goals first
            | (rename_i e; cases e; done)
            | (exact absurd ⟨rfl, rfl⟩ (n1 _ _ _ _))
            | (exact absurd ⟨rfl, rfl⟩ (n2 _ _ _ _))
            | (exact absurd ⟨rfl, rfl⟩ (n3 _ _ _ _ _ _))
            | (exact absurd ⟨rfl, rfl⟩ (n4 _ _))
            | (simp [hb]; done)
            | (exfalso; simp_all; done)
        · rintro rfl
          unfold Go.binOp
          split
          all_goals first
            | (rename_i e; cases e; done)
            | (exact absurd ⟨rfl, rfl⟩ (n1 _ _ _ _))
            | (exact absurd ⟨rfl, rfl⟩ (n2 _ _ _ _))
            | (exact absurd ⟨rfl, rfl⟩ (n3 _ _ _ _ _ _))
            | (exact absurd ⟨rfl, rfl⟩ (n4 _ _))
            | (simp [hb]; done)
            | (exfalso; simp_all; done)
      cases op <;> simp only [reduceCtorEq] at h
      · simp only [Option.map_eq_some_iff] at h
        obtain ⟨b, he, rfl⟩ := h
        obtain ⟨h1, h2⟩ := equalV_sound (w := w) he hx hy .eql X Y hc
        exact ⟨.bool b, by simp only [Sem.run_bind, h2, Result.andThen_ok, (hb b h1).1 rfl], by simp only [VR]⟩
      · simp only [Option.map_eq_some_iff] at h
        obtain ⟨b, he, rfl⟩ := h
        obtain ⟨h1, h2⟩ := equalV_sound (w := w) he hx hy .neq X Y hc
        exact ⟨.bool (!b), by simp only [Sem.run_bind, h2, Result.andThen_ok, (hb b h1).2 rfl], by simp only [VR]⟩

theorem unV_sound {op : UnOp} {v r : V} (h : unV op v = some r) {x : Value} (hx : VR κ v x) : ∃ z, (Op.unary op x).run P w = .ok z w ∧ VR κ r z := by
  cases op <;> simp only [unV, reduceCtorEq] at h
  · simp only [Option.bind_eq_some_iff] at h
    obtain ⟨p, hp, h⟩ := h
    rw [asInt_some] at hp
    subst hp
    simp only [VR] at hx
    subst hx
    simp only [binI] at h
    injection h with h; subst h
    exact ⟨_, by simp only [Op.unary, Op.intArith]; rfl, by simp only [VR]⟩
  · simp only [Option.bind_eq_some_iff] at h
    obtain ⟨p, hp, h⟩ := h
    rw [asInt_some] at hp
    subst hp
    simp only [VR] at hx
    subst hx
    simp only [binI] at h
    injection h with h; subst h
    exact ⟨_, by simp only [Op.unary, Op.intBits]; rfl, by simp only [VR]⟩
  · simp only [Option.map_eq_some_iff] at h
    obtain ⟨p, hp, rfl⟩ := h
    rw [asBool_some] at hp
    subst hp
    simp only [VR] at hx
    subst hx
    exact ⟨_, by simp only [Op.unary]; rfl, by simp only [VR]⟩
end Go.Proofs.Ytpfmoolpeecobaa.Ev
