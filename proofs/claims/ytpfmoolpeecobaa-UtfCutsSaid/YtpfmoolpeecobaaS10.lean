/- Plain laws of decoding: codes, and what is below 128. -/
import Derived.Test.YtpfmoolpeecobaaS9
namespace Go.Proofs.Ytpfmoolpeecobaa
open Go Go.Proofs Go.Proofs.Ytpfmoolpeecobaa.Ev
set_option linter.unusedVariables false
set_option linter.unusedSimpArgs false
set_option maxHeartbeats 1000000
set_option maxRecDepth 100000

theorem runD_pre (p : List Int) : ∀ (l : List Nat) (d : Dec) (o : List Int), runD (d, p ++ o) l = ((runD (d, o) l).1, p ++ (runD (d, o) l).2)
  | [], d, o => rfl
  | b :: l, d, o => by
    have h1 : stepD (d, p ++ o) b = ((pushD d b).1, p ++ (o ++ (pushD d b).2)) := by simp [stepD, List.append_assoc]
    have h2 : stepD (d, o) b = ((pushD d b).1, o ++ (pushD d b).2) := rfl
    have ih := runD_pre p l (pushD d b).1 (o ++ (pushD d b).2)
    simp only [runD, List.foldl_cons, h1, h2]
    exact ih
theorem decode_ascii_front {s : List Nat} {c : Nat} (hc : c < 128) : decodeP (c :: s) = (c : Int) :: decodeP s := by
  have h1 : stepD (.zero, []) c = (.zero, [(c : Int)] ++ []) := by
    have : (c : Int) < 128 := by omega
    simp [stepD, pushD, beginD, this]
  have h2 : runD (.zero, []) (c :: s) = runD (.zero, [(c : Int)] ++ []) s := by simp only [runD, List.foldl_cons, h1]
  simp only [decodeP, h2, runD_pre]
  rfl

/-- a code and six more bits -/
theorem more_bits {c m : Int} (hc : 0 ≤ c ∧ c < 32768) (hm : 0 ≤ m ∧ m < 64) : ior .i32 (ishl .i32 c 6) m = c * 64 + m := by
  have h1 : ishl .i32 c 6 = c * 64 := by
    show IntKind.i32.wrap (c * 2 ^ (min (6 : Int).toNat 32)) = _
    rw [show min (6 : Int).toNat 32 = 6 from rfl]
    rw [Go.IntWalk.i32_in _ (by omega)]
    omega
  rw [h1]
  obtain ⟨x, rfl⟩ : ∃ x : Nat, c = x := ⟨c.toNat, by omega⟩
  obtain ⟨y, rfl⟩ : ∃ y : Nat, m = y := ⟨m.toNat, by omega⟩
  have hx : x < 32768 := by omega
  have hy : y < 64 := by omega
  show IntKind.i32.wrap ((BitVec.ofInt 32 ((x : Int) * 64) ||| BitVec.ofInt 32 (y : Int)).toNat : Int) = _
  have e1 : BitVec.ofInt 32 ((x : Int) * 64) = BitVec.ofNat 32 (x * 64) := by
    rw [show ((x : Int) * 64) = ((x * 64 : Nat) : Int) by push_cast; rfl, BitVec.ofInt_natCast]
  have e2 : BitVec.ofInt 32 (y : Int) = BitVec.ofNat 32 y := BitVec.ofInt_natCast _ _
  rw [e1, e2, BitVec.toNat_or, BitVec.toNat_ofNat, BitVec.toNat_ofNat, Nat.mod_eq_of_lt (by omega), Nat.mod_eq_of_lt (by omega)]
  have e3 : x * 64 ||| y = x * 64 + y := by
    have := Nat.shiftLeft_add_eq_or_of_lt (show y < 2 ^ 6 by omega) x
    rw [Nat.shiftLeft_eq] at this
    exact this.symm
  rw [e3, Go.IntWalk.i32_in _ (by push_cast; omega)]
  push_cast
  rfl

/-- what the code of a decoder can be -/
def Dec.Val (d : Dec) : Prop := d = .zero ∨ (128 ≤ d.lo ∧ d.hi ≤ 191 ∧ 0 ≤ d.c ∧
  ((d.left = 1 ∧ 2 ≤ d.c ∧ d.c < 32768) ∨ (d.left = 2 ∧ (1 ≤ d.c ∨ 160 ≤ d.lo) ∧ d.c < 512) ∨ (d.left = 3 ∧ (1 ≤ d.c ∨ 144 ≤ d.lo) ∧ d.c < 8)))

theorem begin_val (b : Int) (hb : 0 ≤ b ∧ b ≤ 255) : (beginD b).1.Val := by
  have h1 := secondL_ge b
  have h2 := secondH_le b
  unfold beginD
  split
  · exact .inl rfl
  · split
    · exact .inl rfl
    · rename_i h3 h4
      split
      · refine .inr ⟨h1, h2, by simp only; omega, .inl ⟨rfl, by simp only; omega, by simp only; omega⟩⟩
      · split
        · refine .inr ⟨h1, h2, by simp only; omega, .inr (.inl ⟨rfl, ?_, by simp only; omega⟩)⟩
          simp only
          by_cases h : b = 224
          · right; simp [secondL, h]
          · left; omega
        · refine .inr ⟨h1, h2, by simp only; omega, .inr (.inr ⟨rfl, ?_, by simp only; omega⟩)⟩
          simp only
          by_cases h : b = 240
          · right; simp [secondL, h]
          · left; omega
theorem push_val {d : Dec} (hd : d.Val) (b : Int) (hb : 0 ≤ b ∧ b ≤ 255) : (pushD d b).1.Val := by
  unfold pushD
  split
  · exact begin_val b hb
  · rename_i hz
    rcases hd with hd | ⟨h1, h2, h3, h4⟩
    · exact absurd hd hz
    · split
      · exact begin_val b hb
      · rename_i h5
        have hc : d.c < 32768 := by omega
        split
        · exact .inl rfl
        · rename_i h6
          rw [u8w (by omega)] at h6 ⊢
          rw [more_bits ⟨h3, hc⟩ (by omega)]
          refine .inr ⟨by simp, by simp, by simp only; omega, ?_⟩
          simp only
          omega
/-- of what a step hands out, that which is below 128 is the byte, if it is -/
theorem push_low {d : Dec} (hd : d.Val) (b : Int) (hb : 0 ≤ b ∧ b ≤ 255) : (pushD d b).2.filter (fun x => decide (x < 128)) = if b < 128 then [b] else [] := by
  have hbegin : (beginD b).2.filter (fun x => decide (x < 128)) = if b < 128 then [b] else [] := by
    unfold beginD
    by_cases h : b < 128
    · simp [h]
    · simp only [if_neg h]
      split
      · simp
      · split
        · simp
        · split <;> simp
  unfold pushD
  split
  · exact hbegin
  · rename_i hz
    rcases hd with hd | ⟨h1, h2, h3, h4⟩
    · exact absurd hd hz
    · split
      · rw [List.filter_cons_of_neg (by simp)]; exact hbegin
      · rename_i h5
        have hb128 : ¬ b < 128 := by omega
        rw [if_neg hb128]
        split
        · rename_i h6
          rw [u8w (by omega)] at h6
          rw [more_bits ⟨h3, by omega⟩ (by omega)]
          have : ¬ (d.c * 64 + b % 64 < 128) := by omega
          simp [this]
        · rfl
theorem run_low : ∀ (l : List Nat) (q : Dec × List Int), (∀ b ∈ l, b < 256) → q.1.Val →
    (runD q l).2.filter (fun x => decide (x < 128)) = q.2.filter (fun x => decide (x < 128)) ++ (l.filter (fun b => decide (b < 128))).map (fun (b : Nat) => (b : Int))
  | [], q, hb, h => by simp [runD]
  | b :: l, q, hb, h => by
    have hbb : 0 ≤ (b : Int) ∧ (b : Int) ≤ 255 := by have := hb b (List.mem_cons_self ..); omega
    have ih := run_low l (stepD q b) (fun c hc => hb c (List.mem_cons_of_mem _ hc)) (push_val h b hbb)
    have hp := push_low h b hbb
    simp only [stepD, List.filter_append, hp] at ih
    simp only [runD, List.foldl_cons] at ih ⊢
    simp only [stepD] at ih ⊢
    rw [ih]
    by_cases hlt : b < 128
    · have : (b : Int) < 128 := by omega
      simp [hlt, this]
    · have : ¬ (b : Int) < 128 := by omega
      simp [hlt, this]
theorem decode_low {s : List Nat} (hs : ∀ b ∈ s, b < 256) : (decodeP s).filter (fun x => decide (x < 128)) = (s.filter (fun b => decide (b < 128))).map (fun (b : Nat) => (b : Int)) := by
  have h := run_low s (.zero, []) hs (.inl rfl)
  simp only [decodeP, List.filter_append, h]
  unfold endD
  split <;> simp
end Go.Proofs.Ytpfmoolpeecobaa
