/- Small laws for runs with unknown values. -/
import Derived.Test.YtpfmoolpeecobaaX14
import Derived.IntWalk
namespace Go.Proofs.Ytpfmoolpeecobaa.Ev
open Go.RowKit
set_option linter.unusedVariables false
set_option linter.unusedSimpArgs false
variable {P : Program} {L : Heap} {t : T V}

theorem tget_set (t : T V) (n m : Nat) (v : V) : tget (t.set n v) m = if m = n then v else tget t m := by
  unfold tget; rw [T.get_set]; split <;> rfl
theorem idx_nat (k : IntKind) (n len : Nat) : idx (.int k (n : Int)) len = guardO (Nat.blt n len) (some n) := rfl
theorem idx_ofNat (k : IntKind) (n len : Nat) : idx (.int k (Int.ofNat n)) len = guardO (Nat.blt n len) (some n) := rfl
theorem idx_0 (k : IntKind) (len : Nat) : idx (.int k 0) len = guardO (Nat.blt 0 len) (some 0) := rfl
theorem idx_1 (k : IntKind) (len : Nat) : idx (.int k 1) len = guardO (Nat.blt 1 len) (some 1) := rfl
theorem idx_2 (k : IntKind) (len : Nat) : idx (.int k 2) len = guardO (Nat.blt 2 len) (some 2) := rfl
theorem idx_3 (k : IntKind) (len : Nat) : idx (.int k 3) len = guardO (Nat.blt 3 len) (some 3) := rfl
theorem idx_4 (k : IntKind) (len : Nat) : idx (.int k 4) len = guardO (Nat.blt 4 len) (some 4) := rfl
theorem idx_5 (k : IntKind) (len : Nat) : idx (.int k 5) len = guardO (Nat.blt 5 len) (some 5) := rfl
theorem idx_6 (k : IntKind) (len : Nat) : idx (.int k 6) len = guardO (Nat.blt 6 len) (some 6) := rfl
theorem idx_7 (k : IntKind) (len : Nat) : idx (.int k 7) len = guardO (Nat.blt 7 len) (some 7) := rfl
theorem idx_8 (k : IntKind) (len : Nat) : idx (.int k 8) len = guardO (Nat.blt 8 len) (some 8) := rfl
theorem idx_9 (k : IntKind) (len : Nat) : idx (.int k 9) len = guardO (Nat.blt 9 len) (some 9) := rfl
theorem beq_dec (a b : Int) : (a == b) = decide (a = b) := rfl
theorem bne_dec (a b : Int) : (a != b) = !decide (a = b) := rfl
theorem ofVal_bool (b : Bool) : ofVal (.bool b) = some (.bool b) := rfl
theorem ofVal_int (k : IntKind) (n : Int) : ofVal (.int k n) = some (.int k n) := rfl
theorem ofVal_str (s : ByteArray) : ofVal (.string s) = some (.str (strOf s)) := rfl
theorem ofVal_nils : ofVal (.slice none 0 0) = some .nils := rfl
theorem ofVal_nilp : ofVal (.pointer none) = some .nilp := rfl
theorem ble_dec (a b : Nat) : Nat.ble a b = decide (a ≤ b) := by
  by_cases h : a ≤ b
  · simp [h, Nat.ble_eq_true_of_le h]
  · have : Nat.ble a b = false := by cases hb : Nat.ble a b with | false => rfl | true => exact absurd (Nat.le_of_ble_eq_true hb) h
    simp [h, this]
theorem blt_dec (a b : Nat) : Nat.blt a b = decide (a < b) := ble_dec (a + 1) b
def iand (k : IntKind) (a b : Int) : Int := k.wrap (BitVec.ofInt k.bits a &&& BitVec.ofInt k.bits b).toNat
def ior (k : IntKind) (a b : Int) : Int := k.wrap (BitVec.ofInt k.bits a ||| BitVec.ofInt k.bits b).toNat
def ixor (k : IntKind) (a b : Int) : Int := k.wrap (BitVec.ofInt k.bits a ^^^ BitVec.ofInt k.bits b).toNat
def ishl (k : IntKind) (a b : Int) : Int := k.wrap (a * 2 ^ (min b.toNat k.bits))
def ishr (k : IntKind) (a b : Int) : Int := a.fdiv (2 ^ (min b.toNat k.bits))
theorem binI_add (k : IntKind) (a b : Int) : binI .add k a b = some (.int k (k.wrap (a + b))) := rfl
theorem binI_sub (k : IntKind) (a b : Int) : binI .sub k a b = some (.int k (k.wrap (a - b))) := rfl
theorem binI_mul (k : IntKind) (a b : Int) : binI .mul k a b = some (.int k (k.wrap (a * b))) := rfl
theorem binI_and (k : IntKind) (a b : Int) : binI .and k a b = some (.int k (iand k a b)) := rfl
theorem binI_or (k : IntKind) (a b : Int) : binI .or k a b = some (.int k (ior k a b)) := rfl
theorem binI_xor (k : IntKind) (a b : Int) : binI .xor k a b = some (.int k (ixor k a b)) := rfl
theorem binI_eql (k : IntKind) (a b : Int) : binI .eql k a b = some (.bool (decide (a = b))) := rfl
theorem binI_neq (k : IntKind) (a b : Int) : binI .neq k a b = some (.bool (!decide (a = b))) := rfl
theorem binI_lss (k : IntKind) (a b : Int) : binI .lss k a b = some (.bool (decide (a < b))) := rfl
theorem binI_leq (k : IntKind) (a b : Int) : binI .leq k a b = some (.bool (decide (a ≤ b))) := rfl
theorem binI_gtr (k : IntKind) (a b : Int) : binI .gtr k a b = some (.bool (decide (b < a))) := rfl
theorem binI_geq (k : IntKind) (a b : Int) : binI .geq k a b = some (.bool (decide (b ≤ a))) := rfl
theorem binI_quo (k : IntKind) (a b : Int) : binI .quo k a b = guardO (!decide (b = 0)) (some (.int k (k.wrap (a.tdiv b)))) := rfl
theorem binI_rem (k : IntKind) (a b : Int) : binI .rem k a b = guardO (!decide (b = 0)) (some (.int k (a.tmod b))) := rfl
theorem shiftI_shl (k : IntKind) (a b : Int) : shiftI .shl k a b = guardO (!decide (b < 0)) (some (.int k (ishl k a b))) := rfl
theorem shiftI_shr (k : IntKind) (a b : Int) : shiftI .shr k a b = guardO (!decide (b < 0)) (some (.int k (ishr k a b))) := rfl
theorem equalN_struct {f : Nat} {ty : TypeId} {fs : Array Field} (h : P.underlying ty = some (.struct fs)) (xs ys : List V) :
    equalN P (f + 1) ty (.agg xs) (.agg ys) = guardO (!P.stoodInHeld ty) (allR (fun (g : Field) => match decide (g.name = "_") with
      | true => some true
      | false => eqPart P (equalN P f) xs ys g.type g.offset) fs.toList) := by
  unfold equalN
  simp only [h]
  rfl
mutual
theorem V.beq_refl : ∀ (a : V), V.beq a a = true
  | .bool a => by simp [V.beq]
  | .int k a => by simp [V.beq]
  | .str a => by simp [V.beq, strEq_iff]
  | .ptr n o => by simp [V.beq]
  | .nilp => by simp [V.beq]
  | .slice n o l c q => by simp [V.beq]
  | .nils => by simp [V.beq]
  | .map n => by simp [V.beq]
  | .nilm => by simp [V.beq]
  | .func f a c => by simp [V.beq, V.beqs_refl a, V.beqs_refl c]
  | .yield n => by simp [V.beq]
  | .nilf => by simp [V.beq]
  | .iface t v => by simp [V.beq, V.beq_refl v]
  | .nili => by simp [V.beq]
  | .agg c => by simp [V.beq, V.beqs_refl c]
  | .tuple c => by simp [V.beq, V.beqs_refl c]
theorem V.beqs_refl : ∀ (a : List V), V.beqs a a = true
  | [] => rfl
  | x :: a => by simp [V.beqs, V.beq_refl x, V.beqs_refl a]
end
theorem tb (m n : Nat) : Nat.testBit m n = decide (m / 2 ^ n % 2 = 1) := Nat.testBit_eq_decide_div_mod_eq
theorem noT_ok : TabOk P (fun _ _ _ => none) := fun _ _ _ _ _ h => by cases h

theorem guardO_true {α : Type} {k : Option α} : guardO true k = k := rfl
theorem guardO_false {α : Type} {k : Option α} : guardO false k = none := rfl

/-- so many rounds -/
def Rounds (P : Program) (e : Env) (c : Code) (K : Ex → T V → List Nat → Heap → Prop) : Nat → T V → List Nat → Heap → Prop
  | 0, _, _, _ => False
  | n + 1, t, d, L => ACode P e c t d L (thenK (fun t d L => Rounds P e c K n t d L) K)
theorem ACode.rounds {e : Env} {c : Code} {d : List Nat} {K : Ex → T V → List Nat → Heap → Prop} (N : Nat) (h : Rounds P e c K N t d L) : ACode P e (.loop c) t d L K := by
  refine ACode.loop (fun t d L N => Rounds P e c K N t d L) (N := N) h ?_
  intro t d L N h
  cases N with
  | zero => exact h.elim
  | succ N =>
    refine h.mono fun x t' d' L' hx => ?_
    cases x with
    | normal => exact ⟨N, Nat.lt_succ_self _, hx⟩
    | exit i => exact hx
    | goto l => exact hx
    | ret => exact hx

theorem ACode.regS {e : Env} {d : List Nat} {K : Ex → T V → List Nat → Heap → Prop} {S : Tab} (hS : TabOk P S) (hN : NamesOk P) (hmix : P.follows .mixedOrders = true) {id : Nat} {ops : Array Oper} {t' : T V} {L' : Heap}
    (l : List Nat) (hl : List.range ops.size = l) (h : seqE P (recT S) e ops l t L = some (t', L')) (hK : K .normal t' d L') : ACode P e (.region id ops false) t d L K :=
  ACode.region hS hN hmix (by simp only [regionE, hl]; exact h) hK
theorem ACode.regD {e : Env} {d : List Nat} {K : Ex → T V → List Nat → Heap → Prop} {S : Tab} (hS : TabOk P S) (hN : NamesOk P) (hmix : P.follows .mixedOrders = true) {id : Nat} {ops : Array Oper} {t' : T V} {L' : Heap}
    (anc l : List Nat) (ha : ancs ops.toList = anc) (hl : order P ops.toList = l) (ho : orderOk P ops (ancs ops.toList) (order P ops.toList) = true) (h : drawE P (recT S) e ops anc l t [] L = some (t', L')) (hK : K .normal t' d L') : ACode P e (.region id ops true) t d L K :=
  ACode.region hS hN hmix (by simp only [regionE, guardO_some]; exact ⟨ho, by rw [ha, hl]; exact h⟩) hK

theorem seqE_cons {rec : Cmd → Rs} {e : Env} {ops : Array Oper} {i : Nat} {rest : List Nat} {o : Oper} {q : V × Heap} {r : T V × Heap} (ho : ops.toList[i]? = some o) (hf : fits e o = true) (hw : wantedE ops o t = true)
    (h1 : oneE P rec o t L = some q) {v : V} {L1 : Heap} (hq : q = (v, L1)) {t1 : T V} (ht : putD t o.dst v = t1) (h2 : seqE P rec e ops rest t1 L1 = some r) : seqE P rec e ops (i :: rest) t L = some r := by
  subst hq ht
  rw [Array.getElem?_toList] at ho
  simp only [seqE, ho, Option.bind_some, hf, hw, guardO_true, h1]
  exact h2
theorem seqE_skip {rec : Cmd → Rs} {e : Env} {ops : Array Oper} {i : Nat} {rest : List Nat} {o : Oper} {r : T V × Heap} (ho : ops.toList[i]? = some o) (hf : fits e o = true) (hw : wantedE ops o t = false)
    {t1 : T V} (ht : putD t o.dst undefV = t1) (h2 : seqE P rec e ops rest t1 L = some r) : seqE P rec e ops (i :: rest) t L = some r := by
  subst ht
  rw [Array.getElem?_toList] at ho
  simp only [seqE, ho, Option.bind_some, hf, hw, guardO_true]
  exact h2
theorem drawE_quietR {rec : Cmd → Rs} {e : Env} {ops : Array Oper} {anc : List Nat} {i : Nat} {rest : List Nat} {pd : List Pend} {o : Oper} {v : V} {r : T V × Heap} (ho : ops.toList[i]? = some o) (hf : fits e o = true) (hw : wantedE ops o t = true)
    (hc : cls P o = .quiet true) (h1 : quiet P o t L = some v) {t1 : T V} (ht : putD t o.dst v = t1) (h2 : drawE P rec e ops anc rest t1 (⟨i, o, t, v⟩ :: pd) L = some r) : drawE P rec e ops anc (i :: rest) t pd L = some r := by
  subst ht
  rw [Array.getElem?_toList] at ho
  simp only [drawE, ho, Option.bind_some, hf, hw, guardO_true, oneE, hc, h1, Option.map_some]
  exact h2
theorem drawE_quiet {rec : Cmd → Rs} {e : Env} {ops : Array Oper} {anc : List Nat} {i : Nat} {rest : List Nat} {pd : List Pend} {o : Oper} {v : V} {r : T V × Heap} (ho : ops.toList[i]? = some o) (hf : fits e o = true) (hw : wantedE ops o t = true)
    (hc : cls P o = .quiet false) (h1 : quiet P o t L = some v) {t1 : T V} (ht : putD t o.dst v = t1) (h2 : drawE P rec e ops anc rest t1 pd L = some r) : drawE P rec e ops anc (i :: rest) t pd L = some r := by
  subst ht
  rw [Array.getElem?_toList] at ho
  simp only [drawE, ho, Option.bind_some, hf, hw, guardO_true, oneE, hc, h1, Option.map_some]
  exact h2
theorem drawE_make {rec : Cmd → Rs} {e : Env} {ops : Array Oper} {anc : List Nat} {i : Nat} {rest : List Nat} {pd : List Pend} {o : Oper} {p : Blk × NV} {r : T V × Heap} (ho : ops.toList[i]? = some o) (hf : fits e o = true) (hw : wantedE ops o t = true)
    (hc : cls P o = .making) (h1 : making P o t = some p) {bl : Blk} {nv : NV} (hq : p = (bl, nv)) {t1 : T V} (ht : putD t o.dst (nv.mk L.next) = t1) (h2 : drawE P rec e ops anc rest t1 pd ⟨L.t.set L.next bl, L.next + 1⟩ = some r) : drawE P rec e ops anc (i :: rest) t pd L = some r := by
  subst hq ht
  rw [Array.getElem?_toList] at ho
  simp only [drawE, ho, Option.bind_some, hf, hw, guardO_true, oneE, hc, h1, Option.map_some]
  exact h2
theorem drawE_loud {rec : Cmd → Rs} {e : Env} {ops : Array Oper} {anc : List Nat} {i : Nat} {rest : List Nat} {pd : List Pend} {o : Oper} {q : V × Heap} {r : T V × Heap} (ho : ops.toList[i]? = some o) (hf : fits e o = true) (hw : wantedE ops o t = true)
    (hc : isQuiet (cls P o) = false) (h1 : oneE P rec o t L = some q) {v : V} {L1 : Heap} (hq : q = (v, L1)) (hr : recheck P anc i L1 pd = true) {t1 : T V} (ht : putD t o.dst v = t1) (h2 : drawE P rec e ops anc rest t1 pd L1 = some r) : drawE P rec e ops anc (i :: rest) t pd L = some r := by
  subst hq ht
  rw [Array.getElem?_toList] at ho
  simp only [drawE, ho, Option.bind_some, hf, hw, guardO_true, h1]
  cases hx : cls P o with
  | quiet b => rw [hx] at hc; cases hc
  | making => rw [hx] at hc; cases hc
  | loud => simp only [hr, guardO_true]; exact h2
  | call => simp only [hr, guardO_true]; exact h2
theorem drawE_skip {rec : Cmd → Rs} {e : Env} {ops : Array Oper} {anc : List Nat} {i : Nat} {rest : List Nat} {pd : List Pend} {o : Oper} {r : T V × Heap} (ho : ops.toList[i]? = some o) (hf : fits e o = true) (hw : wantedE ops o t = false)
    {t1 : T V} (ht : putD t o.dst undefV = t1) (h2 : drawE P rec e ops anc rest t1 pd L = some r) : drawE P rec e ops anc (i :: rest) t pd L = some r := by
  subst ht
  rw [Array.getElem?_toList] at ho
  simp only [drawE, ho, Option.bind_some, hf, hw, guardO_true]
  exact h2

theorem T.set_set {α : Type} (t : T α) : ∀ (n : Nat) (x y : α), (t.set n x).set n y = t.set n y := by
  have hone : ∀ (f n : Nat) (x y : α), n < f → (T.one x f n).set n y = T.one y f n := by
    intro f
    induction f with
    | zero => intro n x y h; omega
    | succ f ih =>
      intro n x y h
      rw [T.one_succ, T.one_succ]
      by_cases h0 : n = 0
      · simp [h0, T.set_node]
      · by_cases h1 : n % 2 = 1
        · rw [if_neg h0, if_pos h1, if_neg h0, if_pos h1, T.set_node, if_neg h0, if_pos h1, ih _ _ _ (by omega)]
        · rw [if_neg h0, if_neg h1, if_neg h0, if_neg h1, T.set_node, if_neg h0, if_neg h1, ih _ _ _ (by omega)]
  induction t with
  | leaf => intro n x y; exact hone (n + 1) n x y (by omega)
  | node l v r il ir =>
    intro n x y
    rw [T.set_node, T.set_node]
    by_cases h0 : n = 0
    · simp [h0, T.set_node]
    · by_cases h1 : n % 2 = 1
      · rw [if_neg h0, if_pos h1, if_neg h0, if_pos h1, T.set_node, if_neg h0, if_pos h1, il]
      · rw [if_neg h0, if_neg h1, if_neg h0, if_neg h1, T.set_node, if_neg h0, if_neg h1, ir]

theorem Tidy.zero {L1 : Heap} (h : ∀ n, n < L.next → L1.t.get n = L.t.get n) : Tidy L L1 L [] :=
  ⟨List.nodup_nil, rfl, fun _ _ => rfl, h, fun hlim n hn => hlim n (by simpa using hn), fun i m hm => by simp at hm⟩
theorem Tidy.one {L1 : Heap} {m : Nat} {b : Blk} (h : ∀ n, n < L.next → L1.t.get n = L.t.get n) (hm : L.next ≤ m) (hb : L1.t.get m = some b) (hp : b.plain) : Tidy L L1 ⟨L.t.set L.next b, L.next + 1⟩ [m] := by
  refine ⟨by simp, rfl, fun n hn => T.get_set_ne _ _ (by omega), h, fun hlim n hn => ?_, fun i m' hm' => ?_⟩
  · simp only [List.length_singleton] at hn
    show (L.t.set L.next b).get n = none
    rw [T.get_set_ne _ _ (by omega)]
    exact hlim n (by omega)
  · cases i with
    | zero =>
      simp only [List.getElem?_cons_zero, Option.some.injEq] at hm'
      subst hm'
      exact ⟨hm, b, hb, T.get_set_same _ _ _, hp⟩
    | succ i => simp at hm'

theorem VR_pair_new {κ : KM} {nx m : Nat} {dv : V} {len cap : Nat} {q : Bool} {z : Value} (hd : dv.plain = true) (h : VR κ (.tuple [dv, .slice m 0 len cap q]) z) : VR (tidyK κ nx [m]) (.tuple [dv, .slice nx 0 len cap q]) z := by
  simp only [VR] at h ⊢
  obtain ⟨xs, rfl, h⟩ := h
  obtain ⟨x, r, e, h1, h2⟩ := VRs_cons.1 h
  obtain ⟨y, r2, e2, h3, h4⟩ := VRs_cons.1 h2
  rw [VRs_nil] at h4
  subst h4 e2
  refine ⟨xs, rfl, ?_⟩
  rw [e]
  refine VRs_cons'.2 ⟨VR_plain _ _ hd h1, VRs_cons'.2 ⟨?_, VRs_nil.2 rfl⟩⟩
  simp only [VR] at h3 ⊢
  obtain ⟨k, a, c, hk, e3⟩ := h3
  exact ⟨k, a, c, by simp [tidyK, hk], e3⟩
theorem VR_slice_new {κ : KM} {nx m : Nat} {len cap : Nat} {q : Bool} {z : Value} (h : VR κ (.slice m 0 len cap q) z) : VR (tidyK κ nx [m]) (.slice nx 0 len cap q) z := by
  simp only [VR] at h ⊢
  obtain ⟨k, a, c, hk, e3⟩ := h
  exact ⟨k, a, c, by simp [tidyK, hk], e3⟩
theorem plain_one {v : V} (h : v.plain = true) (n sz : Nat) (q : Bool) : (Blk.cells (T.set .leaf 0 [v]) n sz q false).plain :=
  ⟨rfl, fun e l hl => by
    rw [T.get_set] at hl
    split at hl
    · injection hl with hl; subst hl; simp [V.plains, h]
    · cases hl⟩

theorem tidyK_lt {κ : KM} {nx : Nat} {ms : List Nat} {n : Nat} (h : n < nx) : tidyK κ nx ms n = κ n := by simp [tidyK, h]
theorem tidyK_new {κ : KM} {nx m : Nat} : tidyK κ nx [m] nx = κ m := by simp [tidyK]
end Go.Proofs.Ytpfmoolpeecobaa.Ev
