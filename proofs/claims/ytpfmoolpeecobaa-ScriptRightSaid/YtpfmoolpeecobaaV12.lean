/- Named colours (124), whose entries come in any order. Closed runs: tab stops, modes, colours. -/
import Derived.Test.YtpfmoolpeecobaaV11
import Derived.Test.YtpfmoolpeecobaaX20
import Derived.Test.YtpfmoolpeecobaaXB
namespace Go.Proofs.Ytpfmoolpeecobaa
open Go Go.Proofs Go.Proofs.Ytpfmoolpeecobaa.Ev
set_option linter.unusedVariables false
set_option linter.unusedSimpArgs false
set_option maxRecDepth 100000
set_option maxHeartbeats 4000000

theorem qz256 : zeroV Try.prog 256 = some (.agg [.int .u8 0, .int .u8 0, .int .u8 0]) := by kernel_rfl
theorem qs256 : sizeT Try.prog 256 = some 3 := by kernel_rfl
theorem qa256 : isAggT Try.prog 256 = some true := by kernel_rfl
theorem qt256 : tySlice Try.prog 256 = none := by kernel_rfl
theorem qi256 : tyInt Try.prog 256 = none := by kernel_rfl
theorem qr256 : tyArray Try.prog 256 = some (3, 5) := by kernel_rfl
theorem qz258 : zeroV Try.prog 258 = some (.nilm) := by kernel_rfl
theorem qs258 : sizeT Try.prog 258 = some 1 := by kernel_rfl
theorem qa258 : isAggT Try.prog 258 = some false := by kernel_rfl
theorem qt258 : tySlice Try.prog 258 = none := by kernel_rfl
theorem qi258 : tyInt Try.prog 258 = none := by kernel_rfl
set_option linter.defProp false in
/-- facts of types, in one -/
def TYI := And.intro @qz256 (And.intro @qs256 (And.intro @qa256 (And.intro @qt256 (And.intro @qi256 (And.intro @qr256 (And.intro @Try.underlying256 (And.intro @qz258 (And.intro @qs258 (And.intro @qa258 (And.intro @qt258 (And.intro @qi258 (@Try.underlying258))))))))))))
attribute [go_sem] TYI

theorem qm258 : tyMap Try.prog 258 = some (256, 256) := by kernel_rfl
def agg3 (a b c : Int) : V := .agg [.int .u8 a, .int .u8 b, .int .u8 c]
def ent3 (i : Nat) : Ent := if i = 3 then ⟨agg3 0 0 205, agg3 0 0 238⟩ else if i = 6 then ⟨agg3 205 205 205, agg3 229 229 229⟩ else ⟨agg3 0 0 255, agg3 92 92 255⟩
theorem eq3 : ∀ i ∈ [3, 6, 9], ∀ j ∈ [3, 6, 9], equalN Try.prog 20 256 (ent3 i).key (ent3 j).key = some (decide (i = j)) := by decide +kernel
noncomputable def r124 : Array Oper := match Try.f124.body with
  | some (.seq _ (.seq (.region _ ops _) _)) => ops
  | _ => #[]
theorem lit124 : litB r124 [0,0,0,7,0,0,49,0,0,385,1023,2047] ⟨none, 9⟩ = true := by decide +kernel
theorem none3 {l : List Nat} {i : Nat} (hi : i ∈ [3, 6, 9]) (h : ∀ k ∈ l, k ∈ [3, 6, 9] ∧ k ≠ i) : findEnt Try.prog 256 (ent3 i).key (l.map ent3) = some none := by
  refine findEnt_none.2 fun e he => ?_
  obtain ⟨k, hk, rfl⟩ := List.mem_map.1 he
  rw [eq3 i hi k (h k hk).1, decide_eq_false (fun e => (h k hk).2 e.symm)]
theorem named_ok (L : Heap) : ACall Try.prog 124 [] L (.map L.next) ⟨L.t.set L.next (.map ([3, 6, 9].map ent3)), L.next + 1⟩ := by
  refine ACall.of_body_same Try.func124 rfl ?_
  have hz : Ev.ofVal (.map none) = some .nilm := rfl
  refine ACode.seq (ACode.regS noT_ok names_ok mix (t' := ?_) (L' := ?_) [0] (by rfl) ?_ ?_)
  rotate_left 2
  · refine sq rfl rfl rfl (by simp [go_sem, X, hz, Try.f124]; rfl) ?_
    rfl
  refine ACode.seq ?_
  refine ACode.lit (e := ⟨none, 9⟩) (anc := [0,0,0,7,0,0,49,0,0,385,1023,2047]) (i0 := 0) (ins := [3, 6, 9]) (ent := ent3)
    (tF := T.set (T.set (T.set (T.set (T.set (T.set (T.set (T.set (T.set (T.set .leaf 0 .nilm) 1 (.map L.next)) 2 (agg3 0 0 205)) 3 (agg3 0 0 238)) 4 (agg3 205 205 205)) 5 (agg3 229 229 229)) 6 (agg3 0 0 255)) 7 (agg3 92 92 255)) 8 (.map L.next)) 0 (.map L.next)) noT_ok names_ok mix (LitOk.of_look lit124 (by decide +kernel) (by decide) ?_ ?_) ?_
  · intro x hx
    have h0 : x ≠ 0 := fun e => hx 11 _ rfl (by subst e; rfl)
    have h1 : x ≠ 1 := fun e => hx 0 _ rfl (by subst e; rfl)
    have h2 : x ≠ 2 := fun e => hx 1 _ rfl (by subst e; rfl)
    have h3 : x ≠ 3 := fun e => hx 2 _ rfl (by subst e; rfl)
    have h4 : x ≠ 4 := fun e => hx 4 _ rfl (by subst e; rfl)
    have h5 : x ≠ 5 := fun e => hx 5 _ rfl (by subst e; rfl)
    have h6 : x ≠ 6 := fun e => hx 7 _ rfl (by subst e; rfl)
    have h7 : x ≠ 7 := fun e => hx 8 _ rfl (by subst e; rfl)
    have h8 : x ≠ 8 := fun e => hx 10 _ rfl (by subst e; rfl)
    simp [tget_set, argsT, h0, h1, h2, h3, h4, h5, h6, h7, h8]
  · intro i o ho
    have hi := (Array.getElem?_eq_some_iff.1 ho).1
    have hi' : i = 0 ∨ i = 1 ∨ i = 2 ∨ i = 3 ∨ i = 4 ∨ i = 5 ∨ i = 6 ∨ i = 7 ∨ i = 8 ∨ i = 9 ∨ i = 10 ∨ i = 11 := by
      have : i < 12 := hi
      omega
    have q := fun {i j : Nat} (h : i ∈ [3, 6, 9]) (h' : j ∈ [3, 6, 9]) => eq3 i h j h'
    rcases hi' with rfl | rfl | rfl | rfl | rfl | rfl | rfl | rfl | rfl | rfl | rfl | rfl <;> (injection ho with ho; subst ho)
    · exact .inr (.inl ⟨by decide, rfl, 1, rfl, by simp [go_sem], by simp [tget_set]⟩)
    iterate 2 (exact .inl ⟨by decide, by decide, _, rfl, fun L' => by simp [go_sem, X, tget_set, agg3]⟩)
    · refine .inr (.inr ⟨by decide, by decide, rfl, by decide, fun l hl => ?_⟩)
      have hn : findEnt Try.prog 256 (.agg [.int .u8 0, .int .u8 0, .int .u8 205]) (l.map ent3) = some none := none3 (i := 3) (by decide) hl
      have hs : equalN Try.prog 20 256 (.agg [.int .u8 0, .int .u8 0, .int .u8 205]) (.agg [.int .u8 0, .int .u8 0, .int .u8 205]) = some true := eq3 3 (by decide) 3 (by decide)
      simp [go_sem, X, tget_set, agg3, mapInsert, qm258, T.get_set_same, hn, hs, ent3, T.set_set]
    iterate 2 (exact .inl ⟨by decide, by decide, _, rfl, fun L' => by simp [go_sem, X, tget_set, agg3]⟩)
    · refine .inr (.inr ⟨by decide, by decide, rfl, by decide, fun l hl => ?_⟩)
      have hn : findEnt Try.prog 256 (.agg [.int .u8 205, .int .u8 205, .int .u8 205]) (l.map ent3) = some none := none3 (i := 6) (by decide) hl
      have hs : equalN Try.prog 20 256 (.agg [.int .u8 205, .int .u8 205, .int .u8 205]) (.agg [.int .u8 205, .int .u8 205, .int .u8 205]) = some true := eq3 6 (by decide) 6 (by decide)
      simp [go_sem, X, tget_set, agg3, mapInsert, qm258, T.get_set_same, hn, hs, ent3, T.set_set]
    iterate 2 (exact .inl ⟨by decide, by decide, _, rfl, fun L' => by simp [go_sem, X, tget_set, agg3]⟩)
    · refine .inr (.inr ⟨by decide, by decide, rfl, by decide, fun l hl => ?_⟩)
      have hn : findEnt Try.prog 256 (.agg [.int .u8 0, .int .u8 0, .int .u8 255]) (l.map ent3) = some none := none3 (i := 9) (by decide) hl
      have hs : equalN Try.prog 20 256 (.agg [.int .u8 0, .int .u8 0, .int .u8 255]) (.agg [.int .u8 0, .int .u8 0, .int .u8 255]) = some true := eq3 9 (by decide) 9 (by decide)
      simp [go_sem, X, tget_set, agg3, mapInsert, qm258, T.get_set_same, hn, hs, ent3, T.set_set]
    iterate 2 (exact .inl ⟨by decide, by decide, _, rfl, fun L' => by simp [go_sem, X, tget_set, agg3]⟩)
  · show ACode _ _ _ _ _ _ _
    exact ACode.ret ⟨.inr rfl, [.map L.next], rfl, by simp [Try.f124, resVals, tget_set], rfl⟩
/-- calls of color.named -/
noncomputable def namedT : Tab := fun f args L => match Nat.beq f 124, args with
  | true, [] => some (.map L.next, ⟨L.t.set L.next (.map ([3, 6, 9].map ent3)), L.next + 1⟩)
  | _, _ => none
theorem namedT_ok : TabOk Try.prog namedT := by
  intro f args L v L1 e
  unfold namedT at e
  split at e
  · rename_i hf
    obtain rfl := Nat.eq_of_beq_eq_true hf
    simp only [Option.some.injEq, Prod.mk.injEq] at e
    obtain ⟨rfl, rfl⟩ := e
    exact named_ok L
  · cases e
end Go.Proofs.Ytpfmoolpeecobaa
namespace Go.Proofs.Ytpfmoolpeecobaa
open Go Go.Proofs Go.Proofs.Ytpfmoolpeecobaa.Ev
set_option linter.unusedVariables false
set_option linter.unusedSimpArgs false
set_option maxRecDepth 1000000
set_option maxHeartbeats 4000000

def isAggR (k : Nat) : Rs → Bool
  | .val (.agg cs) _ => V.plains cs && (cs.length == k) && cs.all V.scalar
  | _ => false
theorem aggR_of {N k : Nat} {f : FuncId} {args : List V} (ha : V.plains args = true) (h : isAggR k (ev Try.prog N (.call f args ⟨.leaf, 0⟩)) = true) : ∃ cs, (∀ L, ACall Try.prog f args L (.agg cs) L) ∧ cs.length = k ∧ cs.all V.scalar = true := by
  unfold isAggR at h
  split at h
  · rename_i cs L1 he
    simp only [Bool.and_eq_true, beq_iff_eq] at h
    exact ⟨cs, fun L => (ACall.of_ev names_ok mix he).lift ha (by simpa [V.plain] using h.1.1) L, h.1.2, h.2⟩
  · cases h
def isPairR : Rs → Bool
  | .val (.tuple [.agg [.int .u16 a, .int .u16 b, .int .u16 c], .bool _]) _ => true
  | _ => false
theorem pairR_of {N : Nat} {f : FuncId} {args : List V} (ha : V.plains args = true) (h : isPairR (evS Try.prog namedT N (.call f args ⟨.leaf, 0⟩)) = true) : ∃ (q : Int × Int × Int) (b : Bool), ∀ L, ACall Try.prog f args L (.tuple [.agg [.int .u16 q.1, .int .u16 q.2.1, .int .u16 q.2.2], .bool b]) L := by
  unfold isPairR at h
  split at h
  · rename_i a b c q L1 he
    exact ⟨(a, b, c), q, fun L => (ACall.of_evS namedT_ok names_ok mix he).lift ha rfl L⟩
  · cases h
theorem tabs_00 : ∀ c : Fin 21, isAggR 11 (ev Try.prog 3000 (.call 121 [.int .i64 (Int.ofNat (c.val + 0)), .int .u8 0] ⟨.leaf, 0⟩)) = true := by decide +kernel
theorem tabs_10 : ∀ c : Fin 21, isAggR 11 (ev Try.prog 3000 (.call 121 [.int .i64 (Int.ofNat (c.val + 20)), .int .u8 0] ⟨.leaf, 0⟩)) = true := by decide +kernel
theorem tabs_01 : ∀ c : Fin 21, isAggR 11 (ev Try.prog 3000 (.call 121 [.int .i64 (Int.ofNat (c.val + 0)), .int .u8 1] ⟨.leaf, 0⟩)) = true := by decide +kernel
theorem tabs_11 : ∀ c : Fin 21, isAggR 11 (ev Try.prog 3000 (.call 121 [.int .i64 (Int.ofNat (c.val + 20)), .int .u8 1] ⟨.leaf, 0⟩)) = true := by decide +kernel
theorem tabsNew_ok (c l : Int) (hc : 0 ≤ c ∧ c ≤ 40) (hl : 0 ≤ l ∧ l ≤ 1) : ∃ cs, (∀ L, ACall Try.prog 121 [.int .i64 c, .int .u8 l] L (.agg cs) L) ∧ cs.length = 11 ∧ cs.all V.scalar = true := by
  have hl2 : l = 0 ∨ l = 1 := by omega
  by_cases h : c ≤ 20
  · have e : Int.ofNat ((⟨c.toNat, by omega⟩ : Fin 21).val + 0) = c := by show ((c.toNat : Nat) : Int) = c; omega
    rcases hl2 with rfl | rfl
    · have := tabs_00 ⟨c.toNat, by omega⟩
      rw [e] at this
      exact aggR_of rfl this
    · have := tabs_01 ⟨c.toNat, by omega⟩
      rw [e] at this
      exact aggR_of rfl this
  · have e : Int.ofNat ((⟨c.toNat - 20, by omega⟩ : Fin 21).val + 20) = c := by show ((c.toNat - 20 + 20 : Nat) : Int) = c; omega
    rcases hl2 with rfl | rfl
    · have := tabs_10 ⟨c.toNat - 20, by omega⟩
      rw [e] at this
      exact aggR_of rfl this
    · have := tabs_11 ⟨c.toNat - 20, by omega⟩
      rw [e] at this
      exact aggR_of rfl this
theorem mode_run : isAggR 1 (ev Try.prog 1000 (.call 122 [] ⟨.leaf, 0⟩)) = true := by decide +kernel
theorem modeNew_ok : ∃ cs, (∀ L, ACall Try.prog 122 [] L (.agg cs) L) ∧ cs.length = 1 ∧ cs.all V.scalar = true := aggR_of rfl mode_run
theorem text_run : isAggR 3 (ev Try.prog 1000 (.call 84 [] ⟨.leaf, 0⟩)) = true := by decide +kernel
theorem ground_run : isAggR 3 (ev Try.prog 1000 (.call 85 [] ⟨.leaf, 0⟩)) = true := by decide +kernel
theorem textC_ok : ∃ cs, (∀ L, ACall Try.prog 84 [] L (.agg cs) L) ∧ cs.length = 3 ∧ cs.all V.scalar = true := aggR_of rfl text_run
theorem groundC_ok : ∃ cs, (∀ L, ACall Try.prog 85 [] L (.agg cs) L) ∧ cs.length = 3 ∧ cs.all V.scalar = true := aggR_of rfl ground_run
theorem color_0 : ∀ c : Fin 16, isPairR (evS Try.prog namedT 3000 (.call 105 [.int .i64 (Int.ofNat (c.val + 0))] ⟨.leaf, 0⟩)) = true := by decide +kernel
theorem color_1 : ∀ c : Fin 16, isPairR (evS Try.prog namedT 3000 (.call 105 [.int .i64 (Int.ofNat (c.val + 16))] ⟨.leaf, 0⟩)) = true := by decide +kernel
theorem color_2 : ∀ c : Fin 16, isPairR (evS Try.prog namedT 3000 (.call 105 [.int .i64 (Int.ofNat (c.val + 32))] ⟨.leaf, 0⟩)) = true := by decide +kernel
theorem color_3 : ∀ c : Fin 16, isPairR (evS Try.prog namedT 3000 (.call 105 [.int .i64 (Int.ofNat (c.val + 48))] ⟨.leaf, 0⟩)) = true := by decide +kernel
theorem color_4 : ∀ c : Fin 16, isPairR (evS Try.prog namedT 3000 (.call 105 [.int .i64 (Int.ofNat (c.val + 64))] ⟨.leaf, 0⟩)) = true := by decide +kernel
theorem color_5 : ∀ c : Fin 16, isPairR (evS Try.prog namedT 3000 (.call 105 [.int .i64 (Int.ofNat (c.val + 80))] ⟨.leaf, 0⟩)) = true := by decide +kernel
theorem color_6 : ∀ c : Fin 16, isPairR (evS Try.prog namedT 3000 (.call 105 [.int .i64 (Int.ofNat (c.val + 96))] ⟨.leaf, 0⟩)) = true := by decide +kernel
theorem color_7 : ∀ c : Fin 16, isPairR (evS Try.prog namedT 3000 (.call 105 [.int .i64 (Int.ofNat (c.val + 112))] ⟨.leaf, 0⟩)) = true := by decide +kernel
theorem color_8 : ∀ c : Fin 16, isPairR (evS Try.prog namedT 3000 (.call 105 [.int .i64 (Int.ofNat (c.val + 128))] ⟨.leaf, 0⟩)) = true := by decide +kernel
theorem color_9 : ∀ c : Fin 16, isPairR (evS Try.prog namedT 3000 (.call 105 [.int .i64 (Int.ofNat (c.val + 144))] ⟨.leaf, 0⟩)) = true := by decide +kernel
theorem color_10 : ∀ c : Fin 16, isPairR (evS Try.prog namedT 3000 (.call 105 [.int .i64 (Int.ofNat (c.val + 160))] ⟨.leaf, 0⟩)) = true := by decide +kernel
theorem color_11 : ∀ c : Fin 16, isPairR (evS Try.prog namedT 3000 (.call 105 [.int .i64 (Int.ofNat (c.val + 176))] ⟨.leaf, 0⟩)) = true := by decide +kernel
theorem color_12 : ∀ c : Fin 16, isPairR (evS Try.prog namedT 3000 (.call 105 [.int .i64 (Int.ofNat (c.val + 192))] ⟨.leaf, 0⟩)) = true := by decide +kernel
theorem color_13 : ∀ c : Fin 16, isPairR (evS Try.prog namedT 3000 (.call 105 [.int .i64 (Int.ofNat (c.val + 208))] ⟨.leaf, 0⟩)) = true := by decide +kernel
theorem color_14 : ∀ c : Fin 16, isPairR (evS Try.prog namedT 3000 (.call 105 [.int .i64 (Int.ofNat (c.val + 224))] ⟨.leaf, 0⟩)) = true := by decide +kernel
theorem color_15 : ∀ c : Fin 16, isPairR (evS Try.prog namedT 3000 (.call 105 [.int .i64 (Int.ofNat (c.val + 240))] ⟨.leaf, 0⟩)) = true := by decide +kernel
theorem color_ok (n : Nat) (hn : n < 256) : ∃ (q : Int × Int × Int) (b : Bool), ∀ L, ACall Try.prog 105 [.int .i64 (n : Int)] L (.tuple [.agg [.int .u16 q.1, .int .u16 q.2.1, .int .u16 q.2.2], .bool b]) L := by
  have h : isPairR (evS Try.prog namedT 3000 (.call 105 [.int .i64 (Int.ofNat n)] ⟨.leaf, 0⟩)) = true := by
    have hk : n / 16 < 16 := by omega
    have hm : n % 16 < 16 := by omega
    have e : n = n % 16 + 16 * (n / 16) := by omega
    generalize n / 16 = k at *
    generalize n % 16 = m at *
    subst e
    have : k = 0 ∨ k = 1 ∨ k = 2 ∨ k = 3 ∨ k = 4 ∨ k = 5 ∨ k = 6 ∨ k = 7 ∨ k = 8 ∨ k = 9 ∨ k = 10 ∨ k = 11 ∨ k = 12 ∨ k = 13 ∨ k = 14 ∨ k = 15 := by omega
    rcases this with rfl | rfl | rfl | rfl | rfl | rfl | rfl | rfl | rfl | rfl | rfl | rfl | rfl | rfl | rfl | rfl
    · exact color_0 ⟨m, hm⟩
    · exact color_1 ⟨m, hm⟩
    · exact color_2 ⟨m, hm⟩
    · exact color_3 ⟨m, hm⟩
    · exact color_4 ⟨m, hm⟩
    · exact color_5 ⟨m, hm⟩
    · exact color_6 ⟨m, hm⟩
    · exact color_7 ⟨m, hm⟩
    · exact color_8 ⟨m, hm⟩
    · exact color_9 ⟨m, hm⟩
    · exact color_10 ⟨m, hm⟩
    · exact color_11 ⟨m, hm⟩
    · exact color_12 ⟨m, hm⟩
    · exact color_13 ⟨m, hm⟩
    · exact color_14 ⟨m, hm⟩
    · exact color_15 ⟨m, hm⟩
  exact pairR_of rfl h
end Go.Proofs.Ytpfmoolpeecobaa
