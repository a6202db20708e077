/- How named values and blocks stand for the machine's: the relations, and that they last. -/
import Derived.Test.YtpfmoolpeecobaaX0
namespace Go.Proofs.Ytpfmoolpeecobaa.Ev
open Go.RowKit
set_option linter.unusedVariables false
set_option linter.unusedSimpArgs false

/-- where a named block lies: the block, the first cell, how much room (open blocks) -/
structure KB where
  r : Nat
  boff : Nat
  cap : Nat
abbrev KM := Nat → Option KB

def KM.le (κ κ' : KM) : Prop := ∀ n k, κ n = some k → κ' n = some k
theorem KM.le_refl (κ : KM) : κ.le κ := fun _ _ h => h
theorem KM.le_trans {a b c : KM} (h : a.le b) (h' : b.le c) : a.le c := fun n k e => h' n k (h n k e)

mutual
def VR (κ : KM) : V → Value → Prop
  | .bool b, x => x = .bool b
  | .int k n, x => x = .int k n
  | .str l, x => ∃ s, x = .string s ∧ strOf s = l
  | .ptr n o, x => ∃ k, κ n = some k ∧ x = .pointer (some ⟨k.r, k.boff + o, none⟩)
  | .nilp, x => x = .pointer none
  | .slice n o len cap q, x => ∃ k a c, κ n = some k ∧ x = .slice (some ⟨k.r, a, none⟩) len c ∧ len ≤ c ∧ (a = k.boff + o ∨ c = 0) ∧ (if q = true then c + cap = k.cap else c = cap)
  | .nils, x => x = .slice none 0 0
  | .map n, x => ∃ k, κ n = some k ∧ x = .map (some k.r)
  | .nilm, x => x = .map none
  | .func f a b, x => ∃ xs ys, x = .func (.func f) xs ys ∧ VRs κ a xs.toList ∧ VRs κ b ys.toList
  | .yield n, x => ∃ k, κ n = some k ∧ x = .func (.yield k.r) #[] #[]
  | .nilf, x => x = .nilFunc
  | .iface t v, x => ∃ y, x = .iface t y ∧ VR κ v y
  | .nili, x => x = .nilIface
  | .agg cs, x => ∃ xs, x = .agg xs ∧ VRs κ cs xs.toList
  | .tuple cs, x => ∃ xs, x = .tuple xs ∧ VRs κ cs xs.toList
def VRs (κ : KM) : List V → List Value → Prop
  | [], l => l = []
  | v :: vs, l => ∃ x xs, l = x :: xs ∧ VR κ v x ∧ VRs κ vs xs
end

mutual
theorem VR_mono {κ κ' : KM} (h : κ.le κ') : ∀ (v : V) (x : Value), VR κ v x → VR κ' v x
  | .bool b, x, hv => by simpa only [VR] using hv
  | .int k n, x, hv => by simpa only [VR] using hv
  | .str l, x, hv => by simpa only [VR] using hv
  | .ptr n o, x, hv => by simp only [VR] at hv ⊢; obtain ⟨k, hk, e⟩ := hv; exact ⟨k, h _ _ hk, e⟩
  | .nilp, x, hv => by simpa only [VR] using hv
  | .slice n o len cap q, x, hv => by simp only [VR] at hv ⊢; obtain ⟨k, a, c, hk, e⟩ := hv; exact ⟨k, a, c, h _ _ hk, e⟩
  | .nils, x, hv => by simpa only [VR] using hv
  | .map n, x, hv => by simp only [VR] at hv ⊢; obtain ⟨k, hk, e⟩ := hv; exact ⟨k, h _ _ hk, e⟩
  | .nilm, x, hv => by simpa only [VR] using hv
  | .func f a b, x, hv => by simp only [VR] at hv ⊢; obtain ⟨xs, ys, e, h1, h2⟩ := hv; exact ⟨xs, ys, e, VRs_mono h _ _ h1, VRs_mono h _ _ h2⟩
  | .yield n, x, hv => by simp only [VR] at hv ⊢; obtain ⟨k, hk, e⟩ := hv; exact ⟨k, h _ _ hk, e⟩
  | .nilf, x, hv => by simpa only [VR] using hv
  | .iface t v, x, hv => by simp only [VR] at hv ⊢; obtain ⟨y, e, h1⟩ := hv; exact ⟨y, e, VR_mono h _ _ h1⟩
  | .nili, x, hv => by simpa only [VR] using hv
  | .agg cs, x, hv => by simp only [VR] at hv ⊢; obtain ⟨y, e, h1⟩ := hv; exact ⟨y, e, VRs_mono h _ _ h1⟩
  | .tuple cs, x, hv => by simp only [VR] at hv ⊢; obtain ⟨y, e, h1⟩ := hv; exact ⟨y, e, VRs_mono h _ _ h1⟩
theorem VRs_mono {κ κ' : KM} (h : κ.le κ') : ∀ (v : List V) (x : List Value), VRs κ v x → VRs κ' v x
  | [], x, hv => by simpa only [VRs] using hv
  | v :: vs, x, hv => by simp only [VRs] at hv ⊢; obtain ⟨y, ys, e, h1, h2⟩ := hv; exact ⟨y, ys, e, VR_mono h _ _ h1, VRs_mono h _ _ h2⟩
end

theorem VRs_nil {κ : KM} {l : List Value} : VRs κ [] l ↔ l = [] := by simp only [VRs]
theorem VRs_cons {κ : KM} {v : V} {vs : List V} {l : List Value} : VRs κ (v :: vs) l ↔ ∃ x xs, l = x :: xs ∧ VR κ v x ∧ VRs κ vs xs := by simp only [VRs]
theorem VRs_cons' {κ : KM} {v : V} {vs : List V} {x : Value} {xs : List Value} : VRs κ (v :: vs) (x :: xs) ↔ VR κ v x ∧ VRs κ vs xs := by
  rw [VRs_cons]
  constructor
  · rintro ⟨y, ys, e, h⟩; injection e with e1 e2; subst e1; subst e2; exact h
  · intro h; exact ⟨x, xs, rfl, h⟩
theorem VRs_length {κ : KM} : ∀ {vs : List V} {l : List Value}, VRs κ vs l → l.length = vs.length
  | [], l, h => by rw [VRs_nil.1 h]; rfl
  | v :: vs, l, h => by obtain ⟨x, xs, rfl, _, h2⟩ := VRs_cons.1 h; simp [VRs_length h2]
theorem VRs_iff {κ : KM} : ∀ {vs : List V} {l : List Value}, VRs κ vs l ↔ l.length = vs.length ∧ ∀ (j : Nat) (v : V), vs[j]? = some v → ∃ x : Value, l[j]? = some x ∧ VR κ v x
  | [], l => by rw [VRs_nil]; constructor <;> simp
  | v :: vs, l => by
    rw [VRs_cons]
    constructor
    · rintro ⟨x, xs, rfl, h1, h2⟩
      obtain ⟨hl, h⟩ := VRs_iff.1 h2
      refine ⟨by simp [hl], fun j u hj => ?_⟩
      cases j with
      | zero => simp at hj; subst hj; exact ⟨x, by simp, h1⟩
      | succ j => simpa using h j u (by simpa using hj)
    · rintro ⟨hl, h⟩
      cases l with
      | nil => simp at hl
      | cons x xs =>
        refine ⟨x, xs, rfl, ?_, VRs_iff.2 ⟨by simpa using hl, fun j u hj => by simpa using h (j + 1) u (by simpa using hj)⟩⟩
        obtain ⟨y, hy, hv⟩ := h 0 v rfl
        simp at hy; subst hy; exact hv
theorem VRs_get {κ : KM} {vs : List V} {l : List Value} (h : VRs κ vs l) {j : Nat} {v : V} (hj : vs[j]? = some v) : ∃ x, l[j]? = some x ∧ VR κ v x := (VRs_iff.1 h).2 j v hj
theorem VRs_append {κ : KM} : ∀ {vs us : List V} {l m : List Value}, VRs κ vs l → VRs κ us m → VRs κ (vs ++ us) (l ++ m)
  | [], us, l, m, h, h' => by rw [VRs_nil.1 h]; exact h'
  | v :: vs, us, l, m, h, h' => by
    obtain ⟨x, xs, rfl, h1, h2⟩ := VRs_cons.1 h
    exact VRs_cons'.2 ⟨h1, VRs_append h2 h'⟩
theorem VRs_drop {κ : KM} : ∀ (n : Nat) {vs : List V} {l : List Value}, VRs κ vs l → VRs κ (vs.drop n) (l.drop n)
  | 0, vs, l, h => h
  | n + 1, [], l, h => by rw [VRs_nil.1 h]; simp [VRs_nil]
  | n + 1, v :: vs, l, h => by obtain ⟨x, xs, rfl, h1, h2⟩ := VRs_cons.1 h; exact VRs_drop n h2
theorem VRs_takeN {κ : KM} : ∀ (n : Nat) {vs us : List V} {l : List Value}, VRs κ vs l → takeN n vs = some us → VRs κ us (l.take n)
  | 0, vs, us, l, h, e => by simp [takeN] at e; subst e; simp [VRs_nil]
  | n + 1, [], us, l, h, e => by simp [takeN] at e
  | n + 1, v :: vs, us, l, h, e => by
    obtain ⟨x, xs, rfl, h1, h2⟩ := VRs_cons.1 h
    simp only [takeN, Option.map_eq_some_iff] at e
    obtain ⟨a, ha, rfl⟩ := e
    exact VRs_cons'.2 ⟨h1, VRs_takeN n h2 ha⟩
theorem takeN_some : ∀ {n : Nat} {vs us : List V}, takeN n vs = some us → us = vs.take n ∧ us.length = n
  | 0, vs, us, e => by simp [takeN] at e; subst e; simp
  | n + 1, [], us, e => by simp [takeN] at e
  | n + 1, v :: vs, us, e => by
    simp only [takeN, Option.map_eq_some_iff] at e
    obtain ⟨a, ha, rfl⟩ := e
    obtain ⟨h1, h2⟩ := takeN_some ha
    exact ⟨by rw [List.take_succ_cons, ← h1], by simp [h2]⟩

theorem VR_undef {κ : KM} : VR κ undefV undef := by simp only [VR, undefV]; exact ⟨#[], rfl, by simp [VRs]⟩

theorem VR_cells {κ : KM} {v : V} {x : Value} (h : VR κ v x) : VRs κ v.cells x.cells.toList := by
  cases v <;> simp only [VR] at h
  case agg cs => obtain ⟨xs, rfl, hx⟩ := h; exact hx
  case bool => subst h; simp [V.cells, Value.cells, VRs, VR]
  case int => subst h; simp [V.cells, Value.cells, VRs, VR]
  case str => obtain ⟨s, rfl, hs⟩ := h; simp [V.cells, Value.cells, VRs, VR, hs]
  case ptr => obtain ⟨s, hs, rfl⟩ := h; simp [V.cells, Value.cells, VRs, VR, hs]
  case nilp => subst h; simp [V.cells, Value.cells, VRs, VR]
  case slice n o len cap q =>
    obtain ⟨k, a, c, hk, rfl, hr⟩ := h
    simp only [V.cells, Value.cells, VRs_cons, VRs_nil, VR]
    exact ⟨_, [], rfl, ⟨k, a, c, hk, rfl, hr⟩, rfl⟩
  case nils => subst h; simp [V.cells, Value.cells, VRs, VR]
  case map => obtain ⟨s, hs, rfl⟩ := h; simp [V.cells, Value.cells, VRs, VR, hs]
  case nilm => subst h; simp [V.cells, Value.cells, VRs, VR]
  case func =>
    obtain ⟨xs, ys, rfl, h1, h2⟩ := h
    simp only [V.cells, Value.cells, VRs_cons, VRs_nil, VR]
    exact ⟨_, [], rfl, ⟨xs, ys, rfl, h1, h2⟩, rfl⟩
  case yield => obtain ⟨s, hs, rfl⟩ := h; simp [V.cells, Value.cells, VRs, VR, hs]
  case nilf => subst h; simp [V.cells, Value.cells, VRs, VR]
  case iface => obtain ⟨y, rfl, hy⟩ := h; simp [V.cells, Value.cells, VRs, VR, hy]
  case nili => subst h; simp [V.cells, Value.cells, VRs, VR]
  case tuple =>
    obtain ⟨xs, rfl, h1⟩ := h
    simp only [V.cells, Value.cells, VRs_cons, VRs_nil, VR]
    exact ⟨_, [], rfl, ⟨xs, rfl, h1⟩, rfl⟩

theorem mapM_VRs {κ : KM} {f : Value → Option V} (hf : ∀ x v, f x = some v → VR κ v x) : ∀ (l : List Value) (vs : List V), l.mapM f = some vs → VRs κ vs l
  | [], vs, h => by simp at h; subst h; simp [VRs_nil]
  | x :: l, vs, h => by
    simp only [List.mapM_cons, Option.bind_eq_bind, Option.bind_eq_some_iff, Option.pure_def] at h
    obtain ⟨v, hv, us, hu, e⟩ := h
    injection e with e
    subst e
    exact VRs_cons'.2 ⟨hf _ _ hv, mapM_VRs hf l us hu⟩

theorem ofValN_VR {κ : KM} : ∀ (f : Nat) (x : Value) (v : V), ofValN f x = some v → VR κ v x := by
  intro f
  induction f with
  | zero => intro x v h; simp [ofValN] at h
  | succ f ih =>
    intro x v h
    unfold ofValN at h
    split at h
    all_goals first
      | (simp at h; done)
      | (simp only [Option.map_eq_some_iff] at h; obtain ⟨cs, hc, rfl⟩ := h; simp only [VR]; exact ⟨_, rfl, mapM_VRs ih _ _ hc⟩)
      | (injection h with h; subst h; simp only [VR]; done)
      | (injection h with h; subst h; simp only [VR]; exact ⟨_, rfl, rfl⟩)
theorem ofVal_VR {κ : KM} {x : Value} {v : V} (h : ofVal x = some v) : VR κ v x := ofValN_VR _ _ _ h

/-- the slots of a frame -/
def AR (κ : KM) (t : T V) (a : Act) : Prop := ∀ x, VR κ (tget t x) (a.tmps.getD x undef)
theorem AR_mono {κ κ' : KM} (h : κ.le κ') {t : T V} {a : Act} (ha : AR κ t a) : AR κ' t a := fun x => VR_mono h _ _ (ha x)

/-- some slots of a frame -/
def AS (κ : KM) (t : T V) (a : Act) (l : List Nat) : Prop := ∀ x, x ∈ l → VR κ (tget t x) (a.tmps.getD x undef)
theorem AR.some {κ : KM} {t : T V} {a : Act} (ha : AR κ t a) (l : List Nat) : AS κ t a l := fun x _ => ha x

def OpR (κ : KM) (t : T V) (a : Act) (x : Operand) : Prop := ∀ y, x = .tmp y → VR κ (tget t y) (a.tmps.getD y undef)
theorem opd_VR {κ : KM} {t : T V} {a : Act} {x : Operand} {v : V} (ha : OpR κ t a x) (h : opd t x = some v) : VR κ v (a.eval x) := by
  cases x with
  | tmp y => simp only [opd] at h; injection h with h; subst h; exact ha y rfl
  | const c => exact ofVal_VR h
  | global g => simp [opd] at h
  | func f => simp only [opd] at h; injection h with h; subst h; simp only [VR, Act.eval]; exact ⟨#[], #[], rfl, by simp [VRs]⟩

structure Ctx where
  w0 : World

/-- a block -/
def BR (κ : KM) (k : KB) : Blk → Obj → Prop
  | .cells c n sz q ro, o => ∃ xs el fr, o = .cells xs el fr ∧ (ro = false → ∀ i, i < xs.size → ¬ (fr.1 ≤ i ∧ i < fr.2)) ∧
      (∀ e l, c.get e = some l → e < n ∧ l.length = sz ∧ ∀ (j : Nat) (v : V), l[j]? = some v → ∃ x : Value, xs[k.boff + (e * sz + j)]? = some x ∧ VR κ v x) ∧
      (q = true → k.boff + k.cap * sz ≤ xs.size ∧ n ≤ k.cap)
  | .map es, o => ∃ xs clock, ∃ es' : List Ent, o = .map xs clock ∧ es'.Perm es ∧ VRs κ (es'.map Ent.key) (xs.toList.map MapEntry.key) ∧ VRs κ (es'.map Ent.val) (xs.toList.map MapEntry.val)
  | .loop st pend nt tm params assign body dfr, o => ∃ lp, o = .loop lp ∧ lp.state = st ∧ lp.pending = pend ∧ lp.params.toList = params ∧ lp.assign = assign ∧ lp.body = body ∧
      nt ≤ lp.tmps.size ∧ (∀ x, VR κ (tget tm x) (lp.tmps.getD x undef)) ∧ ∃ kd, κ dfr = some kd ∧ lp.defers = kd.r
  | .dfr q, o => o = .deferred (if q = true then some [] else none)

theorem BR_mono {κ κ' : KM} (h : κ.le κ') {k : KB} {b : Blk} {o : Obj} (hb : BR κ k b o) : BR κ' k b o := by
  cases b with
  | cells c n sz q ro =>
    obtain ⟨xs, el, fr, rfl, h1, h2, h3⟩ := hb
    refine ⟨xs, el, fr, rfl, h1, fun e l he => ?_, h3⟩
    obtain ⟨ha, hb, hc⟩ := h2 e l he
    exact ⟨ha, hb, fun j v hj => let ⟨x, hx, hv⟩ := hc j v hj; ⟨x, hx, VR_mono h _ _ hv⟩⟩
  | map es => obtain ⟨xs, clock, es', rfl, hp, h1, h2⟩ := hb; exact ⟨xs, clock, es', rfl, hp, VRs_mono h _ _ h1, VRs_mono h _ _ h2⟩
  | loop st pend nt tm params assign body dfr =>
    obtain ⟨lp, rfl, h1, h2, h3, h4, h5, h6, h7, kd, hk, h8⟩ := hb
    exact ⟨lp, rfl, h1, h2, h3, h4, h5, h6, fun x => VR_mono h _ _ (h7 x), kd, h _ _ hk, h8⟩
  | dfr q => exact hb

def Blk.ro : Blk → Bool
  | .cells _ _ _ _ ro => ro
  | _ => false

structure HR (w0 : World) (κ : KM) (L : Heap) (w : World) : Prop where
  below : Below w0.heap.size w0 w
  dom : ∀ n k, κ n = some k → n < L.next ∧ k.r < w.heap.size
  lim : ∀ n, L.next ≤ n → L.t.get n = none
  own : ∀ n k b, κ n = some k → L.t.get n = some b → b.ro = false → w0.heap.size ≤ k.r
  rod : ∀ n k b, κ n = some k → L.t.get n = some b → b.ro = true → k.r < w0.heap.size
  inj : ∀ n m k k' b b', κ n = some k → κ m = some k' → L.t.get n = some b → L.t.get m = some b' → b.ro = false → b'.ro = false → k.r = k'.r → n = m
  blk : ∀ n k b, κ n = some k → L.t.get n = some b → ∃ o, w.heap[k.r]? = some o ∧ BR κ k b o

/-- names that stand for nothing yet are left alone -/
def UN (κ : KM) (L : Heap) (κ' : KM) (L' : Heap) : Prop := L.next ≤ L'.next ∧ ∀ n, n < L.next → κ n = none → κ' n = none ∧ L'.t.get n = L.t.get n
theorem UN_refl (κ : KM) (L : Heap) : UN κ L κ L := ⟨Nat.le_refl _, fun _ _ h => ⟨h, rfl⟩⟩
theorem UN_trans {κ κ' κ'' : KM} {L L' L'' : Heap} (h : UN κ L κ' L') (h' : UN κ' L' κ'' L'') : UN κ L κ'' L'' :=
  ⟨Nat.le_trans h.1 h'.1, fun n hn hk => let ⟨a, b⟩ := h.2 n hn hk; let ⟨c, d⟩ := h'.2 n (Nat.lt_of_lt_of_le hn h.1) a; ⟨c, d.trans b⟩⟩

theorem HR.drew {w0 : World} {κ : KM} {L : Heap} {w : World} (h : HR w0 κ L w) : HR w0 κ L { w with drawn := w.drawn + 1 } :=
  ⟨⟨h.below.os, h.below.tape, h.below.output, h.below.size, h.below.block⟩, h.dom, h.lim, h.own, h.rod, h.inj, h.blk⟩

def KM.set (κ : KM) (n : Nat) (k : KB) : KM := fun m => if m = n then some k else κ m
theorem KM.le_set {κ : KM} {n : Nat} {k : KB} (h : κ n = none) : κ.le (κ.set n k) := by
  intro m k' hm
  unfold KM.set
  split
  · rename_i e; subst e; rw [h] at hm; cases hm
  · exact hm
theorem KM.set_same {κ : KM} {n : Nat} {k : KB} : κ.set n k n = some k := by simp [KM.set]
theorem KM.set_ne {κ : KM} {n m : Nat} {k : KB} (h : m ≠ n) : κ.set n k m = κ m := by simp [KM.set, h]

/-- a new block in the machine's memory stands for a name that stood for nothing -/
theorem HR.put {w0 : World} {κ : KM} {L : Heap} {w w' : World} (h : HR w0 κ L w) {n : Nat} {b : Blk} {o : Obj} {boff cap : Nat}
    (hn : κ n = none) (hlt : n < L.next) (hb : L.t.get n = some b) (hro : b.ro = false)
    (hw : Below w.heap.size w w') (hs : w.heap.size < w'.heap.size) (ho : w'.heap[w.heap.size]? = some o) (hbr : BR (κ.set n ⟨w.heap.size, boff, cap⟩) ⟨w.heap.size, boff, cap⟩ b o) :
    HR w0 (κ.set n ⟨w.heap.size, boff, cap⟩) L w' := by
  have hle : κ.le (κ.set n ⟨w.heap.size, boff, cap⟩) := KM.le_set hn
  have h0 : w0.heap.size ≤ w.heap.size := h.below.size
  refine ⟨h.below.trans (hw.mono h0), ?_, h.lim, ?_, ?_, ?_, ?_⟩
  · intro m k hm
    by_cases e : m = n
    · subst e; rw [KM.set_same] at hm; injection hm with hm; subst hm; exact ⟨hlt, hs⟩
    · rw [KM.set_ne e] at hm
      obtain ⟨h1, h2⟩ := h.dom m k hm
      exact ⟨h1, by omega⟩
  · intro m k b' hm hb' hr'
    by_cases e : m = n
    · subst e; rw [KM.set_same] at hm; injection hm with hm; subst hm; exact h0
    · rw [KM.set_ne e] at hm; exact h.own m k b' hm hb' hr'
  · intro m k b' hm hb' hr'
    by_cases e : m = n
    · subst e; rw [hb] at hb'; injection hb' with hb'; subst hb'; rw [hro] at hr'; cases hr'
    · rw [KM.set_ne e] at hm; exact h.rod m k b' hm hb' hr'
  · intro m m' k k' b1 b2 hm hm' h1 h2 r1 r2 er
    by_cases e : m = n
    · by_cases e' : m' = n
      · rw [e, e']
      · subst e
        rw [KM.set_same] at hm; injection hm with hm; subst hm
        rw [KM.set_ne e'] at hm'
        have := (h.dom m' k' hm').2
        simp only at er
        omega
    · rw [KM.set_ne e] at hm
      by_cases e' : m' = n
      · subst e'
        rw [KM.set_same] at hm'; injection hm' with hm'; subst hm'
        have := (h.dom m k hm).2
        simp only at er
        omega
      · rw [KM.set_ne e'] at hm'
        exact h.inj m m' k k' b1 b2 hm hm' h1 h2 r1 r2 er
  · intro m k b' hm hb'
    by_cases e : m = n
    · subst e
      rw [KM.set_same] at hm; injection hm with hm; subst hm
      rw [hb] at hb'; injection hb' with hb'; subst hb'
      exact ⟨o, ho, hbr⟩
    · rw [KM.set_ne e] at hm
      obtain ⟨o', h1, h2⟩ := h.blk m k b' hm hb'
      exact ⟨o', by rw [hw.block _ (h.dom m k hm).2]; exact h1, BR_mono hle h2⟩

/-- one more name, which stands for nothing yet -/
theorem HR.name {w0 : World} {κ : KM} {L : Heap} {w : World} (h : HR w0 κ L w) (b : Blk) :
    HR w0 κ ⟨L.t.set L.next b, L.next + 1⟩ w := by
  have hk : ∀ m k, κ m = some k → m ≠ L.next := fun m k hm e => by have := (h.dom m k hm).1; omega
  refine ⟨h.below, fun n k hn => ⟨by have := (h.dom n k hn).1; show n < L.next + 1; omega, (h.dom n k hn).2⟩, ?_, ?_, ?_, ?_, ?_⟩
  · intro n hn
    show (L.t.set L.next b).get n = none
    rw [T.get_set_ne _ _ (by simp only at hn; omega)]
    exact h.lim n (by simp only at hn; omega)
  · intro n k b' hn hb' hr
    rw [show (Heap.mk (L.t.set L.next b) (L.next + 1)).t.get n = L.t.get n from T.get_set_ne _ _ (hk n k hn)] at hb'
    exact h.own n k b' hn hb' hr
  · intro n k b' hn hb' hr
    rw [show (Heap.mk (L.t.set L.next b) (L.next + 1)).t.get n = L.t.get n from T.get_set_ne _ _ (hk n k hn)] at hb'
    exact h.rod n k b' hn hb' hr
  · intro n m k k' b1 b2 hn hm h1 h2 r1 r2 er
    rw [show (Heap.mk (L.t.set L.next b) (L.next + 1)).t.get n = L.t.get n from T.get_set_ne _ _ (hk n k hn)] at h1
    rw [show (Heap.mk (L.t.set L.next b) (L.next + 1)).t.get m = L.t.get m from T.get_set_ne _ _ (hk m k' hm)] at h2
    exact h.inj n m k k' b1 b2 hn hm h1 h2 r1 r2 er
  · intro n k b' hn hb'
    rw [show (Heap.mk (L.t.set L.next b) (L.next + 1)).t.get n = L.t.get n from T.get_set_ne _ _ (hk n k hn)] at hb'
    exact h.blk n k b' hn hb'

theorem HR.free {w0 : World} {κ : KM} {L : Heap} {w : World} (h : HR w0 κ L w) {n : Nat} (hn : L.next ≤ n) : κ n = none := by
  cases e : κ n with
  | none => rfl
  | some k => have := (h.dom n k e).1; omega

/-- a block of the machine's turns as its name's does -/
theorem HR.turn {w0 : World} {κ : KM} {L : Heap} {w w' : World} (h : HR w0 κ L w) {n : Nat} {k : KB} {b b' : Blk} {o : Obj}
    (hk : κ n = some k) (hb : L.t.get n = some b) (hro : b.ro = false) (hro' : b'.ro = false)
    (hs : w'.heap.size = w.heap.size) (hos : w'.os = w.os) (ht : w'.tape = w.tape) (hout : w'.output = w.output)
    (hoth : ∀ i, i ≠ k.r → w'.heap[i]? = w.heap[i]?) (ho : w'.heap[k.r]? = some o) (hbr : BR κ k b' o) :
    HR w0 κ ⟨L.t.set n b', L.next⟩ w' := by
  have hr0 := h.own n k b hk hb hro
  have hget : ∀ m c, (L.t.set n b').get m = some c → (m = n ∧ c = b') ∨ (m ≠ n ∧ L.t.get m = some c) := by
    intro m c hm
    by_cases e : m = n
    · subst e; rw [T.get_set_same] at hm; injection hm with hm; exact .inl ⟨rfl, hm.symm⟩
    · rw [T.get_set_ne _ _ e] at hm; exact .inr ⟨e, hm⟩
  refine ⟨⟨hos.trans h.below.os, ht.trans h.below.tape, hout.trans h.below.output, by rw [hs]; exact h.below.size, fun i hi => by rw [hoth i (by omega)]; exact h.below.block i hi⟩,
    fun m k' hm => ⟨(h.dom m k' hm).1, by rw [hs]; exact (h.dom m k' hm).2⟩, ?_, ?_, ?_, ?_, ?_⟩
  · intro m hm
    have hmn : m ≠ n := fun e => by have := (h.dom n k hk).1; simp only at hm; omega
    show (L.t.set n b').get m = none
    rw [T.get_set_ne _ _ hmn]; exact h.lim m hm
  · intro m k' c hm hc hr
    rcases hget m c hc with ⟨rfl, rfl⟩ | ⟨hne, hc'⟩
    · rw [hk] at hm; injection hm with hm; subst hm; exact hr0
    · exact h.own m k' c hm hc' hr
  · intro m k' c hm hc hr
    rcases hget m c hc with ⟨rfl, rfl⟩ | ⟨hne, hc'⟩
    · rw [hro'] at hr; cases hr
    · exact h.rod m k' c hm hc' hr
  · intro m m' k1 k2 b1 b2 hm hm' h1 h2 r1 r2 er
    rcases hget m b1 h1 with ⟨rfl, rfl⟩ | ⟨hne, h1'⟩
    · rcases hget m' b2 h2 with ⟨rfl, rfl⟩ | ⟨hne', h2'⟩
      · rfl
      · exact h.inj m m' k1 k2 b b2 hm hm' hb h2' hro r2 er
    · rcases hget m' b2 h2 with ⟨rfl, rfl⟩ | ⟨hne', h2'⟩
      · exact h.inj m m' k1 k2 b1 b hm hm' h1' hb r1 hro er
      · exact h.inj m m' k1 k2 b1 b2 hm hm' h1' h2' r1 r2 er
  · intro m k' c hm hc
    rcases hget m c hc with ⟨rfl, rfl⟩ | ⟨hne, hc'⟩
    · rw [hk] at hm; injection hm with hm; subst hm; exact ⟨o, ho, hbr⟩
    · obtain ⟨o', h1, h2⟩ := h.blk m k' c hm hc'
      refine ⟨o', ?_, h2⟩
      rw [hoth _ ?_]; exact h1
      intro er
      cases hcr : c.ro with
      | false => exact hne (h.inj m n k' k c b hm hk hc' hb hcr hro er)
      | true => have := h.rod m k' c hm hc' hcr; omega
end Go.Proofs.Ytpfmoolpeecobaa.Ev
