/- Two decoders and four rows. -/
import Derived.Test.YtpfmoolpeecobaaS36
namespace Go.Proofs.Ytpfmoolpeecobaa
open Go Go.Proofs Go.Proofs.Ytpfmoolpeecobaa.Ev
set_option linter.unusedVariables false
set_option linter.unusedSimpArgs false
set_option maxRecDepth 100000
set_option maxHeartbeats 4000000

/-- where UtfCuts stands: its two decoders, its four rows -/
structure CI (B A : Heap) (P : List (List Nat)) (vp va ve vl : V) (q qf : Dec × List Int) (Z : List Int) : Prop where
  d : A.t.get B.next = some (decB q.1)
  f : A.t.get (B.next + 1) = some (decB qf.1)
  hp : OwnG strV (B.next + 2) A vp P
  ha : OwnR (B.next + 2) A va q.2
  he : OwnR (B.next + 2) A ve (Z ++ qf.2)
  hl : OwnR (B.next + 2) A vl Z
  pa : Dj vp va
  pe : Dj vp ve
  pl : Dj vp vl
  ae : Dj va ve
  al : Dj va vl
  el : Dj ve vl
  next : B.next + 2 ≤ A.next
  old : ∀ n, n < B.next → A.t.get n = B.t.get n
variable {B A A' : Heap} {P : List (List Nat)} {vp va ve vl : V} {q qf : Dec × List Int} {Z : List Int}
theorem CI.move (h : CI B A P vp va ve vl q qf Z) (hk : Keep A A') : CI B A' P vp va ve vl q qf Z where
  d := by rw [hk.2 _ (by have := h.next; omega)]; exact h.d
  f := by rw [hk.2 _ (by have := h.next; omega)]; exact h.f
  hp := h.hp.keep hk
  ha := OwnG.keep h.ha hk
  he := OwnG.keep h.he hk
  hl := OwnG.keep h.hl hk
  pa := h.pa
  pe := h.pe
  pl := h.pl
  ae := h.ae
  al := h.al
  el := h.el
  next := Nat.le_trans h.next hk.1
  old := fun n hn => by rw [hk.2 _ (by have := h.next; omega)]; exact h.old n hn
theorem CI.set_d (h : CI B A P vp va ve vl q qf Z) (d1 : Dec) : CI B ⟨A.t.set B.next (decB d1), A.next⟩ P vp va ve vl (d1, q.2) qf Z where
  d := T.get_set_same _ _ _
  f := by show T.get (T.set _ _ _) _ = _; rw [T.get_set_ne _ _ (by omega)]; exact h.f
  hp := h.hp.still (Nat.le_refl _) (fun m hm => T.get_set_ne _ _ (by have := (h.hp.nm_lt hm).1; omega))
  ha := h.ha.still (Nat.le_refl _) (fun m hm => T.get_set_ne _ _ (by have := (h.ha.nm_lt hm).1; omega))
  he := h.he.still (Nat.le_refl _) (fun m hm => T.get_set_ne _ _ (by have := (h.he.nm_lt hm).1; omega))
  hl := h.hl.still (Nat.le_refl _) (fun m hm => T.get_set_ne _ _ (by have := (h.hl.nm_lt hm).1; omega))
  pa := h.pa
  pe := h.pe
  pl := h.pl
  ae := h.ae
  al := h.al
  el := h.el
  next := h.next
  old := fun n hn => by show T.get (T.set _ _ _) _ = _; rw [T.get_set_ne _ _ (by omega)]; exact h.old n hn
theorem CI.set_f (h : CI B A P vp va ve vl q qf Z) (d1 : Dec) : CI B ⟨A.t.set (B.next + 1) (decB d1), A.next⟩ P vp va ve vl q (d1, qf.2) Z where
  d := by show T.get (T.set _ _ _) _ = _; rw [T.get_set_ne _ _ (by omega)]; exact h.d
  f := T.get_set_same _ _ _
  hp := h.hp.still (Nat.le_refl _) (fun m hm => T.get_set_ne _ _ (by have := (h.hp.nm_lt hm).1; omega))
  ha := h.ha.still (Nat.le_refl _) (fun m hm => T.get_set_ne _ _ (by have := (h.ha.nm_lt hm).1; omega))
  he := h.he.still (Nat.le_refl _) (fun m hm => T.get_set_ne _ _ (by have := (h.he.nm_lt hm).1; omega))
  hl := h.hl.still (Nat.le_refl _) (fun m hm => T.get_set_ne _ _ (by have := (h.hl.nm_lt hm).1; omega))
  pa := h.pa
  pe := h.pe
  pl := h.pl
  ae := h.ae
  al := h.al
  el := h.el
  next := h.next
  old := fun n hn => by show T.get (T.set _ _ _) _ = _; rw [T.get_set_ne _ _ (by omega)]; exact h.old n hn
theorem CI.cell_ne {v : V} {α : Type} {f : α → V} {l : List α} (h : OwnG f (B.next + 2) A v l) {n : Nat} (hn : n < B.next + 2) : nm v ≠ some n := fun e => by have := (h.nm_lt e).1; omega

theorem CI.app_a (h : CI B A P vp va ve vl q qf Z) {x : V} {new : List Int} (hx : srcElems A 1 x = some (new.map i32c)) (hs : q.2.length + new.length ≤ 16777216) :
    ∃ va' A', Ev.append Try.prog 27 va x A = some (va', A') ∧ CI B A' P vp va' ve vl (q.1, q.2 ++ new) qf Z ∧ A.next ≤ A'.next ∧ (∀ n, n < A.next → nm va ≠ some n → A'.t.get n = A.t.get n) := by
  obtain ⟨v', A', h1, h2, h3, h4, h5⟩ := append_runes h.ha h.next hx hs
  refine ⟨v', A', h1, ?_, h3, h4⟩
  have hn := h.next
  exact {
    d := by rw [h4 _ (by omega) (CI.cell_ne h.ha (by omega))]; exact h.d
    f := by rw [h4 _ (by omega) (CI.cell_ne h.ha (by omega))]; exact h.f
    hp := h.hp.still h3 (fun m hm => h4 m (h.hp.nm_lt hm).2 (h.pa m hm))
    ha := h2
    he := h.he.still h3 (fun m hm => h4 m (h.he.nm_lt hm).2 (h.ae.symm m hm))
    hl := h.hl.still h3 (fun m hm => h4 m (h.hl.nm_lt hm).2 (h.al.symm m hm))
    pa := h.pa.new h5 (fun m hm => (h.hp.nm_lt hm).2)
    pe := h.pe
    pl := h.pl
    ae := (h.ae.symm.new h5 (fun m hm => (h.he.nm_lt hm).2)).symm
    al := (h.al.symm.new h5 (fun m hm => (h.hl.nm_lt hm).2)).symm
    el := h.el
    next := Nat.le_trans hn h3
    old := fun n hlt => by rw [h4 _ (by omega) (CI.cell_ne h.ha (by omega))]; exact h.old n hlt }
theorem CI.app_e (h : CI B A P vp va ve vl q qf Z) {x : V} {new : List Int} (hx : srcElems A 1 x = some (new.map i32c)) (hs : (Z ++ qf.2).length + new.length ≤ 16777216) :
    ∃ ve' A', Ev.append Try.prog 27 ve x A = some (ve', A') ∧ CI B A' P vp va ve' vl q (qf.1, qf.2 ++ new) Z ∧ A.next ≤ A'.next ∧ (∀ n, n < A.next → nm ve ≠ some n → A'.t.get n = A.t.get n) := by
  obtain ⟨v', A', h1, h2, h3, h4, h5⟩ := append_runes h.he h.next hx hs
  refine ⟨v', A', h1, ?_, h3, h4⟩
  have hn := h.next
  exact {
    d := by rw [h4 _ (by omega) (CI.cell_ne h.he (by omega))]; exact h.d
    f := by rw [h4 _ (by omega) (CI.cell_ne h.he (by omega))]; exact h.f
    hp := h.hp.still h3 (fun m hm => h4 m (h.hp.nm_lt hm).2 (h.pe m hm))
    ha := h.ha.still h3 (fun m hm => h4 m (h.ha.nm_lt hm).2 (h.ae m hm))
    he := by rw [← List.append_assoc]; exact h2
    hl := h.hl.still h3 (fun m hm => h4 m (h.hl.nm_lt hm).2 (h.el.symm m hm))
    pa := h.pa
    pe := h.pe.new h5 (fun m hm => (h.hp.nm_lt hm).2)
    pl := h.pl
    ae := h.ae.new h5 (fun m hm => (h.ha.nm_lt hm).2)
    al := h.al
    el := (h.el.symm.new h5 (fun m hm => (h.hl.nm_lt hm).2)).symm
    next := Nat.le_trans hn h3
    old := fun n hlt => by rw [h4 _ (by omega) (CI.cell_ne h.he (by omega))]; exact h.old n hlt }
/-- the row of what each part means alone; the other one has come that far -/
theorem CI.app_l (h : CI B A P vp va ve vl q qf Z) {x : V} (hx : srcElems A 1 x = some (qf.2.map i32c)) (hs : Z.length + qf.2.length ≤ 16777216) :
    ∃ vl' A', Ev.append Try.prog 27 vl x A = some (vl', A') ∧ CI B A' P vp va ve vl' q (qf.1, []) (Z ++ qf.2) ∧ A.next ≤ A'.next := by
  obtain ⟨v', A', h1, h2, h3, h4, h5⟩ := append_runes h.hl h.next hx hs
  refine ⟨v', A', h1, ?_, h3⟩
  have hn := h.next
  exact {
    d := by rw [h4 _ (by omega) (CI.cell_ne h.hl (by omega))]; exact h.d
    f := by rw [h4 _ (by omega) (CI.cell_ne h.hl (by omega))]; exact h.f
    hp := h.hp.still h3 (fun m hm => h4 m (h.hp.nm_lt hm).2 (h.pl m hm))
    ha := h.ha.still h3 (fun m hm => h4 m (h.ha.nm_lt hm).2 (h.al m hm))
    he := by rw [List.append_nil]; exact h.he.still h3 (fun m hm => h4 m (h.he.nm_lt hm).2 (h.el m hm))
    hl := h2
    pa := h.pa
    pe := h.pe
    pl := h.pl.new h5 (fun m hm => (h.hp.nm_lt hm).2)
    ae := h.ae
    al := h.al.new h5 (fun m hm => (h.ha.nm_lt hm).2)
    el := h.el.new h5 (fun m hm => (h.he.nm_lt hm).2)
    next := Nat.le_trans hn h3
    old := fun n hlt => by rw [h4 _ (by omega) (CI.cell_ne h.hl (by omega))]; exact h.old n hlt }
theorem CI.app_p (h : CI B A P vp va ve vl q qf Z) {x : V} {p : List Nat} (hx : srcElems A 1 x = some [[strV p]]) (hs : P.length + 1 ≤ 16777216) :
    ∃ vp' A', Ev.append Try.prog 39 vp x A = some (vp', A') ∧ CI B A' (P ++ [p]) vp' va ve vl q qf Z ∧ A.next ≤ A'.next := by
  obtain ⟨v', A', h1, h2, h3, h4, h5⟩ := append_strs (new := [p]) h.hp h.next hx hs
  refine ⟨v', A', h1, ?_, h3⟩
  have hn := h.next
  exact {
    d := by rw [h4 _ (by omega) (CI.cell_ne h.hp (by omega))]; exact h.d
    f := by rw [h4 _ (by omega) (CI.cell_ne h.hp (by omega))]; exact h.f
    hp := h2
    ha := h.ha.still h3 (fun m hm => h4 m (h.ha.nm_lt hm).2 (h.pa.symm m hm))
    he := h.he.still h3 (fun m hm => h4 m (h.he.nm_lt hm).2 (h.pe.symm m hm))
    hl := h.hl.still h3 (fun m hm => h4 m (h.hl.nm_lt hm).2 (h.pl.symm m hm))
    pa := (h.pa.symm.new h5 (fun m hm => (h.ha.nm_lt hm).2)).symm
    pe := (h.pe.symm.new h5 (fun m hm => (h.he.nm_lt hm).2)).symm
    pl := (h.pl.symm.new h5 (fun m hm => (h.hl.nm_lt hm).2)).symm
    ae := h.ae
    al := h.al
    el := h.el
    next := Nat.le_trans hn h3
    old := fun n hlt => by rw [h4 _ (by omega) (CI.cell_ne h.hp (by omega))]; exact h.old n hlt }

/-- a byte to both decoders -/
theorem CI.step (h : CI B A P vp va ve vl q qf Z) (b : Int) (hs : q.2.length ≤ 1000000 ∧ (Z ++ qf.2).length ≤ 1000000) :
    ∃ va' ve' A3 A4, Ev.append Try.prog 27 va (pushRow A q.1 b) (pushH (pushH A q.1 b) qf.1 b) = some (va', A3) ∧ Ev.append Try.prog 27 ve (pushRow (pushH A q.1 b) qf.1 b) A3 = some (ve', A4) ∧
      A4.t.get A.next = some (decB (pushD q.1 b).1) ∧ A4.t.get (pushH A q.1 b).next = some (decB (pushD qf.1 b).1) ∧ A4.t.get B.next = some (decB q.1) ∧ A4.t.get (B.next + 1) = some (decB qf.1) ∧
      CI B ⟨(A4.t.set B.next (decB (pushD q.1 b).1)).set (B.next + 1) (decB (pushD qf.1 b).1), A4.next⟩ P vp va' ve' vl ((pushD q.1 b).1, q.2 ++ (pushD q.1 b).2) ((pushD qf.1 b).1, qf.2 ++ (pushD qf.1 b).2) Z ∧ A.next < (pushH A q.1 b).next ∧ (pushH A q.1 b).next < A4.next := by
  have n0 := h.next
  have n1 := pushH_next A q.1 b
  have n2 := pushH_next (pushH A q.1 b) qf.1 b
  have l1 := pushD_len q.1 b
  have l2 := pushD_len qf.1 b
  have hk1 : Keep A (pushH A q.1 b) := ⟨by omega, fun n hn => pushH_old A q.1 b hn⟩
  have hk2 : Keep (pushH A q.1 b) (pushH (pushH A q.1 b) qf.1 b) := ⟨by omega, fun n hn => pushH_old _ qf.1 b hn⟩
  have src1 : srcElems (pushH (pushH A q.1 b) qf.1 b) 1 (pushRow A q.1 b) = some ((pushD q.1 b).2.map i32c) := push_src A q.1 b hk2.1 (fun n _ hn => hk2.2 n hn)
  obtain ⟨va', A3, a1, c1, n3, k3⟩ := (h.move (hk1.trans hk2)).app_a src1 (by omega)
  have hva : ∀ n, A.next ≤ n → nm va ≠ some n := fun n hn e => by have := (h.ha.nm_lt e).2; omega
  have hve : ∀ n, A.next ≤ n → nm ve ≠ some n := fun n hn e => by have := (h.he.nm_lt e).2; omega
  have src2 : srcElems A3 1 (pushRow (pushH A q.1 b) qf.1 b) = some ((pushD qf.1 b).2.map i32c) := push_src _ qf.1 b n3 (fun n hn1 hn2 => k3 n hn2 (hva n (by omega)))
  obtain ⟨ve', A4, a2, c2, n4, k4⟩ := c1.app_e src2 (by omega)
  refine ⟨va', ve', A3, A4, a1, a2, ?_, ?_, c2.d, c2.f, ?_, by omega, by omega⟩
  · rw [k4 _ (by omega) (hve _ (Nat.le_refl _)), k3 _ (by omega) (hva _ (Nat.le_refl _)), hk2.2 _ (by omega)]
    exact pushH_cell A q.1 b
  · rw [k4 _ (by omega) (hve _ (by omega)), k3 _ (by omega) (hva _ (by omega))]
    exact pushH_cell (pushH A q.1 b) qf.1 b
  · exact (c2.set_d (pushD q.1 b).1).set_f (pushD qf.1 b).1
end Go.Proofs.Ytpfmoolpeecobaa
