/- Plain laws of encoding and decoding. -/
import Derived.Test.YtpfmoolpeecobaaS16
namespace Go.Proofs.Ytpfmoolpeecobaa
open Go Go.Proofs Go.Proofs.Ytpfmoolpeecobaa.Ev
set_option linter.unusedVariables false
set_option linter.unusedSimpArgs false
set_option maxHeartbeats 4000000
set_option maxRecDepth 100000

/-- the bytes that a decoder holds -/
inductive Hold : Dec → List Nat → Prop
  | zero : Hold .zero []
  | one (b : Nat) (h : 194 ≤ b ∧ b ≤ 244) : Hold ⟨if b < 224 then (b : Int) % 32 else if b < 240 then (b : Int) % 16 else (b : Int) % 8, if b < 224 then 1 else if b < 240 then 2 else 3, 1, secondL b, secondH b⟩ [b]
  | two (b c : Nat) (h : 224 ≤ b ∧ b ≤ 244) (hc : secondL b ≤ c ∧ (c : Int) ≤ secondH b) : Hold ⟨(if b < 240 then (b : Int) % 16 else (b : Int) % 8) * 64 + (c : Int) % 64, if b < 240 then 1 else 2, 2, 128, 191⟩ [b, c]
  | three (b c e : Nat) (h : 240 ≤ b ∧ b ≤ 244) (hc : secondL b ≤ c ∧ (c : Int) ≤ secondH b) (he : 128 ≤ e ∧ e ≤ 191) : Hold ⟨((b : Int) % 8 * 64 + (c : Int) % 64) * 64 + (e : Int) % 64, 1, 3, 128, 191⟩ [b, c, e]

theorem begin_hold (b : Nat) (hb : b < 256) : (∃ d, beginD b = (d, []) ∧ 194 ≤ b ∧ b ≤ 244 ∧ Hold d [b]) ∨ (b < 128 ∧ beginD b = (.zero, [(b : Int)])) ∨ (¬ (194 ≤ b ∧ b ≤ 244) ∧ 128 ≤ b ∧ beginD b = (.zero, [65533])) := by
  by_cases h1 : b < 128
  · refine .inr (.inl ⟨h1, ?_⟩)
    have : (b : Int) < 128 := by omega
    simp [beginD, this]
  · by_cases h2 : 194 ≤ b ∧ b ≤ 244
    · refine .inl ⟨_, ?_, h2.1, h2.2, .one b h2⟩
      have e1 : ¬ (b : Int) < 128 := by omega
      have e2 : ¬ ((b : Int) < 194 ∨ 244 < (b : Int)) := by omega
      simp only [beginD, e1, e2, if_false]
      by_cases h3 : b < 224
      · have : (b : Int) < 224 := by omega
        simp [h3, this]
      · have : ¬ (b : Int) < 224 := by omega
        by_cases h4 : b < 240
        · have : (b : Int) < 240 := by omega
          simp [*]
        · have : ¬ (b : Int) < 240 := by omega
          simp [*]
    · refine .inr (.inr ⟨h2, by omega, ?_⟩)
      have e1 : ¬ (b : Int) < 128 := by omega
      have e2 : ((b : Int) < 194 ∨ 244 < (b : Int)) := by omega
      simp [beginD, e1, e2]

theorem secondL_224 : secondL 224 = 160 := by decide
theorem second_cases (b : Int) : (b = 224 ∧ secondL b = 160 ∧ secondH b = 191) ∨ (b = 237 ∧ secondL b = 128 ∧ secondH b = 159) ∨ (b = 240 ∧ secondL b = 144 ∧ secondH b = 191) ∨ (b = 244 ∧ secondL b = 128 ∧ secondH b = 143) ∨
    (b ≠ 224 ∧ b ≠ 237 ∧ b ≠ 240 ∧ b ≠ 244 ∧ secondL b = 128 ∧ secondH b = 191) := by
  unfold secondL secondH
  by_cases h1 : b = 224
  · simp [h1]
  by_cases h2 : b = 237
  · simp [h2]
  by_cases h3 : b = 240
  · simp [h3]
  by_cases h4 : b = 244
  · simp [h4]
  simp [h1, h2, h3, h4]

/-- what a decoder that holds bytes does with one more: it holds it too; or it is the last one of a rune's; or it begins anew -/
theorem push_hold {d : Dec} {p : List Nat} (h : Hold d p) (b : Nat) (hb : b < 256) :
    (∃ d', pushD d b = (d', []) ∧ Hold d' (p ++ [b])) ∨
    (∃ r, pushD d b = (.zero, [r]) ∧ isR r = true ∧ (layB r).map Int.toNat = p ++ [b]) ∨
    (p = [] ∧ pushD d b = (.zero, [65533])) ∨
    (p ≠ [] ∧ pushD d b = ((beginD b).1, 65533 :: (beginD b).2)) := by
  cases h with
  | zero =>
    have hp : pushD .zero b = beginD b := by simp [pushD]
    rw [hp]
    rcases begin_hold b hb with ⟨d, h1, _, _, h2⟩ | ⟨h1, h2⟩ | ⟨h1, h2, h3⟩
    · exact .inl ⟨d, h1, h2⟩
    · refine .inr (.inl ⟨b, h2, ?_, ?_⟩)
      · simp [isR]; omega
      · have : (b : Int) < 128 := by omega
        simp [layB, this]
    · exact .inr (.inr (.inl ⟨rfl, h3⟩))
  | one b1 h =>
    have hs := second_cases b1
    have hz : (⟨if b1 < 224 then (b1 : Int) % 32 else if b1 < 240 then (b1 : Int) % 16 else (b1 : Int) % 8, if b1 < 224 then 1 else if b1 < 240 then 2 else 3, 1, secondL b1, secondH b1⟩ : Dec) ≠ .zero := fun h => by simp [Dec.zero] at h
    unfold pushD
    rw [if_neg hz]
    by_cases hr : (b : Int) < secondL b1 ∨ secondH b1 < b
    · rw [if_pos hr]
      exact .inr (.inr (.inr ⟨by simp, rfl⟩))
    · rw [if_neg hr]
      have hm : 0 ≤ (b : Int) % 64 ∧ (b : Int) % 64 < 64 := by omega
      by_cases h1 : b1 < 224
      · simp only [h1, if_true]
        rw [more_bits (by omega) hm]
        rw [if_pos (by rw [u8w (by omega)]; rfl)]
        refine .inr (.inl ⟨_, rfl, ?_, ?_⟩)
        · simp [isR]; omega
        · have e1 : ¬ ((b1 : Int) % 32 * 64 + (b : Int) % 64 < 128) := by omega
          have e2 : ((b1 : Int) % 32 * 64 + (b : Int) % 64 < 2048) := by omega
          simp only [layB, e1, e2, if_false, if_true, List.map_cons, List.map_nil, List.cons_append, List.nil_append]
          congr 1
          · omega
          · congr 1; omega
      · simp only [h1, if_false]
        rw [more_bits (by split <;> omega) hm]
        by_cases h2 : b1 < 240
        · simp only [h2, if_true]
          rw [if_neg (by rw [u8w (by omega)]; omega)]
          refine .inl ⟨_, rfl, ?_⟩
          have := Hold.two b1 b ⟨by omega, h.2⟩ ⟨by omega, by omega⟩
          simp only [h2, if_true] at this
          rw [u8w (by omega), u8w (by omega)]
          exact this
        · simp only [h2, if_false]
          rw [if_neg (by rw [u8w (by omega)]; omega)]
          refine .inl ⟨_, rfl, ?_⟩
          have := Hold.two b1 b ⟨by omega, h.2⟩ ⟨by omega, by omega⟩
          simp only [h2, if_false] at this
          rw [u8w (by omega), u8w (by omega)]
          exact this
  | two b1 c h hc =>
    have hs := second_cases b1
    have hz : (⟨(if b1 < 240 then (b1 : Int) % 16 else (b1 : Int) % 8) * 64 + (c : Int) % 64, if b1 < 240 then 1 else 2, 2, 128, 191⟩ : Dec) ≠ .zero := fun h => by simp [Dec.zero] at h
    unfold pushD
    rw [if_neg hz]
    by_cases hr : (b : Int) < 128 ∨ 191 < (b : Int)
    · rw [if_pos hr]
      exact .inr (.inr (.inr ⟨by simp, rfl⟩))
    · rw [if_neg hr]
      have hm : 0 ≤ (b : Int) % 64 ∧ (b : Int) % 64 < 64 := by omega
      by_cases h2 : b1 < 240
      · simp only [h2, if_true]
        rw [more_bits (by omega) hm]
        rw [if_pos (by rw [u8w (by omega)]; rfl)]
        refine .inr (.inl ⟨_, rfl, ?_, ?_⟩)
        · simp [isR]; omega
        · have e1 : ¬ (((b1 : Int) % 16 * 64 + (c : Int) % 64) * 64 + (b : Int) % 64 < 128) := by omega
          have e2 : ¬ (((b1 : Int) % 16 * 64 + (c : Int) % 64) * 64 + (b : Int) % 64 < 2048) := by omega
          have e3 : (((b1 : Int) % 16 * 64 + (c : Int) % 64) * 64 + (b : Int) % 64 < 65536) := by omega
          simp only [layB, e1, e2, e3, if_false, if_true, List.map_cons, List.map_nil, List.cons_append, List.nil_append]
          congr 1
          · omega
          · congr 1
            · omega
            · congr 1; omega
      · simp only [h2, if_false]
        rw [more_bits (by omega) hm]
        rw [if_neg (by rw [u8w (by omega)]; omega)]
        refine .inl ⟨_, rfl, ?_⟩
        have := Hold.three b1 c b ⟨by omega, h.2⟩ hc ⟨by omega, by omega⟩
        rw [u8w (by omega), u8w (by omega)]
        exact this
  | three b1 c e h hc he =>
    have hs := second_cases b1
    have hz : (⟨((b1 : Int) % 8 * 64 + (c : Int) % 64) * 64 + (e : Int) % 64, 1, 3, 128, 191⟩ : Dec) ≠ .zero := fun h => by simp [Dec.zero] at h
    unfold pushD
    rw [if_neg hz]
    by_cases hr : (b : Int) < 128 ∨ 191 < (b : Int)
    · rw [if_pos hr]
      exact .inr (.inr (.inr ⟨by simp, rfl⟩))
    · rw [if_neg hr]
      have hm : 0 ≤ (b : Int) % 64 ∧ (b : Int) % 64 < 64 := by omega
      rw [more_bits (by simp only; omega) hm]
      rw [if_pos (by rw [u8w (by simp)]; rfl)]
      refine .inr (.inl ⟨_, rfl, ?_, ?_⟩)
      · simp [isR]; omega
      · have e1 : ¬ ((((b1 : Int) % 8 * 64 + (c : Int) % 64) * 64 + (e : Int) % 64) * 64 + (b : Int) % 64 < 128) := by omega
        have e2 : ¬ ((((b1 : Int) % 8 * 64 + (c : Int) % 64) * 64 + (e : Int) % 64) * 64 + (b : Int) % 64 < 2048) := by omega
        have e3 : ¬ ((((b1 : Int) % 8 * 64 + (c : Int) % 64) * 64 + (e : Int) % 64) * 64 + (b : Int) % 64 < 65536) := by omega
        simp only [layB, e1, e2, e3, if_false, if_true, List.map_cons, List.map_nil, List.cons_append, List.nil_append]
        congr 1
        · omega
        · congr 1
          · omega
          · congr 1
            · omega
            · congr 1; omega

/-- bytes of runes that have a sequence -/
def encN (l : List Int) : List Nat := (l.map fun r => (layB r).map Int.toNat).flatten
theorem encN_append (a b : List Int) : encN (a ++ b) = encN a ++ encN b := by simp [encN]

/-- what is handed out has sequences; and what is handed out, and is held, are the bytes that were read, if none is U+FFFD -/
theorem run_hold : ∀ (s : List Nat) (d : Dec) (p : List Nat), (∀ b ∈ s, b < 256) → Hold d p →
    (∀ x ∈ (runD (d, []) s).2, isR x = true) ∧ ∃ p', Hold (runD (d, []) s).1 p' ∧ (65533 ∉ (runD (d, []) s).2 → encN (runD (d, []) s).2 ++ p' = p ++ s)
  | [], d, p, hb, h => ⟨by simp [runD], p, h, by simp [runD, encN]⟩
  | b :: s, d, p, hb, h => by
    have hbb := hb b (List.mem_cons_self ..)
    have hbs : ∀ c ∈ s, c < 256 := fun c hc => hb c (List.mem_cons_of_mem _ hc)
    have hstep : ∀ d' l, pushD d b = (d', l) → runD (d, []) (b :: s) = ((runD (d', []) s).1, l ++ (runD (d', []) s).2) := by
      intro d' l hp
      have := runD_pre l s d' []
      simp only [List.append_nil] at this
      rw [← this]
      simp [runD, stepD, hp]
    rcases push_hold h b hbb with ⟨d', h1, h2⟩ | ⟨r, h1, h2, h3⟩ | ⟨h1, h2⟩ | ⟨h1, h2⟩
    · obtain ⟨g1, p', g2, g3⟩ := run_hold s d' _ hbs h2
      rw [hstep _ _ h1]
      exact ⟨by simpa using g1, p', g2, by simpa [List.append_assoc] using g3⟩
    · obtain ⟨g1, p', g2, g3⟩ := run_hold s .zero _ hbs .zero
      rw [hstep _ _ h1]
      refine ⟨?_, p', g2, ?_⟩
      · intro x hx
        simp only [List.cons_append, List.nil_append, List.mem_cons] at hx
        rcases hx with rfl | hx
        · exact h2
        · exact g1 x hx
      · intro hn
        simp only [List.cons_append, List.nil_append, List.mem_cons, not_or] at hn ⊢
        have := g3 hn.2
        have he : encN (r :: (runD (.zero, []) s).2) = p ++ [b] ++ encN (runD (.zero, []) s).2 := by
          rw [← h3]; simp [encN]
        rw [he, List.append_assoc, this]
        simp
    · obtain ⟨g1, p', g2, g3⟩ := run_hold s .zero _ hbs .zero
      rw [hstep _ _ h2]
      refine ⟨?_, p', g2, fun hn => absurd (by simp) hn⟩
      intro x hx
      simp only [List.cons_append, List.nil_append, List.mem_cons] at hx
      rcases hx with rfl | hx
      · decide
      · exact g1 x hx
    · have hbg : ∃ q, Hold (beginD b).1 q ∧ ∀ x ∈ (beginD b).2, isR x = true := by
        rcases begin_hold b hbb with ⟨d, h1, _, _, h2⟩ | ⟨h1, h2⟩ | ⟨h1, h2, h3⟩
        · rw [h1]; exact ⟨_, h2, by simp⟩
        · rw [h2]; refine ⟨_, .zero, ?_⟩
          intro x hx; simp at hx; subst hx; simp [isR]; omega
        · rw [h3]; refine ⟨_, .zero, ?_⟩
          intro x hx; simp at hx; subst hx; decide
      obtain ⟨q, hq, hq2⟩ := hbg
      obtain ⟨g1, p', g2, g3⟩ := run_hold s _ _ hbs hq
      rw [hstep _ _ h2]
      refine ⟨?_, p', g2, fun hn => absurd (by simp) hn⟩
      intro x hx
      simp only [List.cons_append, List.mem_cons, List.mem_append] at hx
      rcases hx with rfl | hx | hx
      · decide
      · exact hq2 x hx
      · exact g1 x hx

theorem hold_got {d : Dec} {p : List Nat} (h : Hold d p) : d.got = p.length := by cases h <;> rfl
theorem encode_encN {l : List Int} (h : ∀ x ∈ l, isR x = true) : (encodeP l).map Int.toNat = encN l := by
  induction l with
  | nil => rfl
  | cons x l ih =>
    have hx := h x (List.mem_cons_self ..)
    have ih := ih fun y hy => h y (List.mem_cons_of_mem _ hy)
    simp only [encodeP, encN, List.map_cons, List.flatten_cons, List.map_append] at ih ⊢
    rw [ih]
    simp [encR, hx]
/-- all that is decoded has sequences -/
theorem decode_isR {s : List Nat} (hs : ∀ b ∈ s, b < 256) : ∀ x ∈ decodeP s, isR x = true := by
  obtain ⟨h1, p, h2, h3⟩ := run_hold s .zero [] hs .zero
  intro x hx
  simp only [decodeP, List.mem_append] at hx
  rcases hx with hx | hx
  · exact h1 x hx
  · unfold endD at hx
    split at hx
    · simp at hx
    · simp at hx; subst hx; decide
/-- what has no U+FFFD is encoded again just so -/
theorem encode_decode {s : List Nat} (hs : ∀ b ∈ s, b < 256) (h : 65533 ∉ decodeP s) : (encodeP (decodeP s)).map Int.toNat = s := by
  rw [encode_encN (decode_isR hs)]
  obtain ⟨h1, p, h2, h3⟩ := run_hold s .zero [] hs .zero
  simp only [decodeP, List.mem_append, not_or] at h ⊢
  have hg := hold_got h2
  have hp : (runD (.zero, []) s).1.got = 0 := by
    by_cases h0 : (runD (.zero, []) s).1.got = 0
    · exact h0
    · have := h.2; simp [endD, h0] at this
  have hp0 : p = [] := by
    rw [hp] at hg
    cases p with
    | nil => rfl
    | cons x p => simp at hg; omega
  have := h3 h.1
  subst hp0
  simp only [List.append_nil, List.nil_append] at this
  simp only [endD, hp, if_true, List.append_nil]
  exact this

/-- what is laid is read back -/
theorem run_lay {r : Int} (hr : isR r = true) : runD (.zero, []) ((layB r).map Int.toNat) = (.zero, [r]) := by
  have hrr : (0 ≤ r ∧ r ≤ 1114111) ∧ (r < 55296 ∨ 57343 < r) := by simpa [isR] using hr
  have hz : ∀ b, pushD .zero b = beginD b := fun b => by simp [pushD]
  by_cases h1 : r < 128
  · have : ((r.toNat : Nat) : Int) = r := by omega
    simp [layB, h1, runD, stepD, hz, beginD, this]
  by_cases h2 : r < 2048
  · have hb : beginD (192 + r / 64) = (⟨r / 64, 1, 1, 128, 191⟩, []) := by
      have hs := second_cases (192 + r / 64)
      have hL : secondL (192 + r / 64) = 128 := by omega
      have hH : secondH (192 + r / 64) = 191 := by omega
      unfold beginD
      rw [if_neg (by omega), if_neg (by omega), if_pos (by omega), hL, hH, show (192 + r / 64) % 32 = r / 64 by omega]
    have e1 : (((192 + r / 64).toNat : Nat) : Int) = 192 + r / 64 := by omega
    have e2 : (((128 + r % 64).toNat : Nat) : Int) = 128 + r % 64 := by omega
    have hp : pushD ⟨r / 64, 1, 1, 128, 191⟩ (128 + r % 64) = (.zero, [r]) := by
      unfold pushD
      rw [if_neg (by simp [Dec.zero]), if_neg (by simp only; omega)]
      rw [if_pos (by rw [u8w (by simp)]; rfl), show (128 + r % 64) % 64 = r % 64 by omega, more_bits (by simp only; omega) (by omega)]
      simp only
      congr 2
      omega
    simp only [layB, h1, h2, if_false, if_true, List.map_cons, List.map_nil, runD, List.foldl_cons, List.foldl_nil, stepD, hz, e1, hb, e2, hp]
    rfl
  by_cases h3 : r < 65536
  · have hs := second_cases (224 + r / 64 / 64)
    have hb : beginD (224 + r / 64 / 64) = (⟨r / 64 / 64, 2, 1, secondL (224 + r / 64 / 64), secondH (224 + r / 64 / 64)⟩, []) := by
      unfold beginD
      rw [if_neg (by omega), if_neg (by omega), if_neg (by omega), if_pos (by omega), show (224 + r / 64 / 64) % 16 = r / 64 / 64 by omega]
    have e1 : (((224 + r / 64 / 64).toNat : Nat) : Int) = 224 + r / 64 / 64 := by omega
    have e2 : (((128 + r % 64).toNat : Nat) : Int) = 128 + r % 64 := by omega
    have e3 : (((128 + r / 64 % 64).toNat : Nat) : Int) = 128 + r / 64 % 64 := by omega
    have hp : pushD ⟨r / 64 / 64, 2, 1, secondL (224 + r / 64 / 64), secondH (224 + r / 64 / 64)⟩ (128 + r / 64 % 64) = (⟨r / 64, 1, 2, 128, 191⟩, []) := by
      unfold pushD
      rw [if_neg (by simp [Dec.zero]), if_neg (by simp only; omega)]
      rw [if_neg (by rw [u8w (by simp)]; simp), show (128 + r / 64 % 64) % 64 = r / 64 % 64 by omega, more_bits (by simp only; omega) (by omega), u8w (by simp), u8w (by simp)]
      simp only
      congr 2
      omega
    have hp2 : pushD ⟨r / 64, 1, 2, 128, 191⟩ (128 + r % 64) = (.zero, [r]) := by
      unfold pushD
      rw [if_neg (by simp [Dec.zero]), if_neg (by simp only; omega)]
      rw [if_pos (by rw [u8w (by simp)]; rfl), show (128 + r % 64) % 64 = r % 64 by omega, more_bits (by simp only; omega) (by omega)]
      simp only
      congr 2
      omega
    simp only [layB, h1, h2, h3, if_false, if_true, List.map_cons, List.map_nil, runD, List.foldl_cons, List.foldl_nil, stepD, hz, e1, hb, e2, e3, hp, hp2]
    rfl
  · have hs := second_cases (240 + r / 64 / 64 / 64)
    have hb : beginD (240 + r / 64 / 64 / 64) = (⟨r / 64 / 64 / 64, 3, 1, secondL (240 + r / 64 / 64 / 64), secondH (240 + r / 64 / 64 / 64)⟩, []) := by
      unfold beginD
      rw [if_neg (by omega), if_neg (by omega), if_neg (by omega), if_neg (by omega), show (240 + r / 64 / 64 / 64) % 8 = r / 64 / 64 / 64 by omega]
    have e1 : (((240 + r / 64 / 64 / 64).toNat : Nat) : Int) = 240 + r / 64 / 64 / 64 := by omega
    have e2 : (((128 + r % 64).toNat : Nat) : Int) = 128 + r % 64 := by omega
    have e3 : (((128 + r / 64 % 64).toNat : Nat) : Int) = 128 + r / 64 % 64 := by omega
    have e4 : (((128 + r / 64 / 64 % 64).toNat : Nat) : Int) = 128 + r / 64 / 64 % 64 := by omega
    have hp : pushD ⟨r / 64 / 64 / 64, 3, 1, secondL (240 + r / 64 / 64 / 64), secondH (240 + r / 64 / 64 / 64)⟩ (128 + r / 64 / 64 % 64) = (⟨r / 64 / 64, 2, 2, 128, 191⟩, []) := by
      unfold pushD
      rw [if_neg (by simp [Dec.zero]), if_neg (by simp only; omega)]
      rw [if_neg (by rw [u8w (by simp)]; simp), show (128 + r / 64 / 64 % 64) % 64 = r / 64 / 64 % 64 by omega, more_bits (by simp only; omega) (by omega), u8w (by simp), u8w (by simp)]
      simp only
      congr 2
      omega
    have hp1 : pushD ⟨r / 64 / 64, 2, 2, 128, 191⟩ (128 + r / 64 % 64) = (⟨r / 64, 1, 3, 128, 191⟩, []) := by
      unfold pushD
      rw [if_neg (by simp [Dec.zero]), if_neg (by simp only; omega)]
      rw [if_neg (by rw [u8w (by simp)]; simp), show (128 + r / 64 % 64) % 64 = r / 64 % 64 by omega, more_bits (by simp only; omega) (by omega), u8w (by simp), u8w (by simp)]
      simp only
      congr 2
      omega
    have hp2 : pushD ⟨r / 64, 1, 3, 128, 191⟩ (128 + r % 64) = (.zero, [r]) := by
      unfold pushD
      rw [if_neg (by simp [Dec.zero]), if_neg (by simp only; omega)]
      rw [if_pos (by rw [u8w (by simp)]; rfl), show (128 + r % 64) % 64 = r % 64 by omega, more_bits (by simp only; omega) (by omega)]
      simp only
      congr 2
      omega
    simp only [layB, h1, h2, h3, if_false, List.map_cons, List.map_nil, runD, List.foldl_cons, List.foldl_nil, stepD, hz, e1, hb, e2, e3, e4, hp, hp1, hp2]
    rfl
/-- a rune, or U+FFFD for what has no sequence -/
def wantR (r : Int) : Int := if isR r = true then r else 65533
theorem wantR_isR (r : Int) : isR (wantR r) = true := by unfold wantR; split <;> simp_all [isR]
theorem run_encode : ∀ (l : List Int), runD (.zero, []) ((encodeP l).map Int.toNat) = (.zero, l.map wantR)
  | [] => rfl
  | r :: l => by
    have ih := run_encode l
    have h1 : (encodeP (r :: l)).map Int.toNat = (layB (wantR r)).map Int.toNat ++ (encodeP l).map Int.toNat := by
      simp [encodeP, encR, wantR]
    have h2 := runD_pre [wantR r] ((encodeP l).map Int.toNat) .zero []
    simp only [List.append_nil] at h2
    rw [h1, runD_append, run_lay (wantR_isR r), h2, ih]
    rfl
/-- what is encoded is decoded again -/
theorem decode_encode (l : List Int) : decodeP ((encodeP l).map Int.toNat) = l.map wantR := by
  simp only [decodeP, run_encode]
  simp [endD, Dec.zero]
end Go.Proofs.Ytpfmoolpeecobaa
