/- An evaluator of Go functions over named blocks of memory: definitions alone; E1 to E4 prove that the machine does what it says, on every tape. -/
import Derived.RangeFuncRecord
import Derived.OrdersIn
import Derived.Below
namespace Go.Proofs.Ytpfmoolpeecobaa.Ev
set_option linter.unusedVariables false
set_option linter.unusedSimpArgs false

/-- A trie by numbers. -/
inductive T (α : Type) where
  | leaf : T α
  | node (l : T α) (v : Option α) (r : T α) : T α

namespace T
variable {α : Type}
/-- what lies at a number (by the recursor: the kernel reckons it) -/
noncomputable def get (t : T α) : Nat → Option α :=
  T.rec (motive := fun _ => Nat → Option α) (fun _ => none)
   (fun _ v _ il ir n => Bool.rec (Bool.rec (ir (Nat.sub (Nat.div n 2) 1)) (il (Nat.div n 2)) (Nat.beq (Nat.mod n 2) 1)) v (Nat.beq n 0)) t
/-- one value alone; f: fuel -/
noncomputable def one (x : α) (f : Nat) : Nat → T α :=
  Nat.rec (motive := fun _ => Nat → T α) (fun _ => .leaf)
   (fun _ ih n => Bool.rec (Bool.rec (.node .leaf none (ih (Nat.sub (Nat.div n 2) 1))) (.node (ih (Nat.div n 2)) none .leaf) (Nat.beq (Nat.mod n 2) 1)) (.node .leaf (some x) .leaf) (Nat.beq n 0)) f
noncomputable def set (t : T α) (n : Nat) (x : α) : T α :=
  T.rec (motive := fun _ => Nat → T α) (fun n => one x (Nat.succ n) n)
   (fun l v r il ir n => Bool.rec (Bool.rec (.node l v (ir (Nat.sub (Nat.div n 2) 1))) (.node (il (Nat.div n 2)) v r) (Nat.beq (Nat.mod n 2) 1)) (.node l (some x) r) (Nat.beq n 0)) t n
noncomputable def del (t : T α) (n : Nat) : T α :=
  T.rec (motive := fun _ => Nat → T α) (fun _ => .leaf)
   (fun l v r il ir n => Bool.rec (Bool.rec (.node l v (ir (Nat.sub (Nat.div n 2) 1))) (.node (il (Nat.div n 2)) v r) (Nat.beq (Nat.mod n 2) 1)) (.node l none r) (Nat.beq n 0)) t n

theorem get_leaf (n : Nat) : (T.leaf : T α).get n = none := rfl
theorem get_node (l : T α) (v : Option α) (r : T α) (n : Nat) : (T.node l v r).get n = if n = 0 then v else if n % 2 = 1 then l.get (n / 2) else r.get (n / 2 - 1) := by
  show @Bool.rec (fun _ => Option α) (@Bool.rec (fun _ => Option α) (r.get (n / 2 - 1)) (l.get (n / 2)) (Nat.beq (n % 2) 1)) v (Nat.beq n 0) = _
  cases h : Nat.beq n 0 with
  | true => rw [if_pos (Nat.eq_of_beq_eq_true h)]
  | false =>
    rw [if_neg (Nat.ne_of_beq_eq_false h)]
    cases h2 : Nat.beq (n % 2) 1 with
    | true => rw [if_pos (Nat.eq_of_beq_eq_true h2)]
    | false => rw [if_neg (Nat.ne_of_beq_eq_false h2)]
theorem one_succ (x : α) (f n : Nat) : one x (f + 1) n = if n = 0 then .node .leaf (some x) .leaf else if n % 2 = 1 then .node (one x f (n / 2)) none .leaf else .node .leaf none (one x f (n / 2 - 1)) := by
  show @Bool.rec (fun _ => T α) (@Bool.rec (fun _ => T α) (.node .leaf none (one x f (n / 2 - 1))) (.node (one x f (n / 2)) none .leaf) (Nat.beq (n % 2) 1)) (.node .leaf (some x) .leaf) (Nat.beq n 0) = _
  cases h : Nat.beq n 0 with
  | true => rw [if_pos (Nat.eq_of_beq_eq_true h)]
  | false =>
    rw [if_neg (Nat.ne_of_beq_eq_false h)]
    cases h2 : Nat.beq (n % 2) 1 with
    | true => rw [if_pos (Nat.eq_of_beq_eq_true h2)]
    | false => rw [if_neg (Nat.ne_of_beq_eq_false h2)]
theorem set_node (l : T α) (v : Option α) (r : T α) (n : Nat) (x : α) : (T.node l v r).set n x = if n = 0 then .node l (some x) r else if n % 2 = 1 then .node (l.set (n / 2) x) v r else .node l v (r.set (n / 2 - 1) x) := by
  show @Bool.rec (fun _ => T α) (@Bool.rec (fun _ => T α) (.node l v (r.set (n / 2 - 1) x)) (.node (l.set (n / 2) x) v r) (Nat.beq (n % 2) 1)) (.node l (some x) r) (Nat.beq n 0) = _
  cases h : Nat.beq n 0 with
  | true => rw [if_pos (Nat.eq_of_beq_eq_true h)]
  | false =>
    rw [if_neg (Nat.ne_of_beq_eq_false h)]
    cases h2 : Nat.beq (n % 2) 1 with
    | true => rw [if_pos (Nat.eq_of_beq_eq_true h2)]
    | false => rw [if_neg (Nat.ne_of_beq_eq_false h2)]
theorem del_node (l : T α) (v : Option α) (r : T α) (n : Nat) : (T.node l v r).del n = if n = 0 then .node l none r else if n % 2 = 1 then .node (l.del (n / 2)) v r else .node l v (r.del (n / 2 - 1)) := by
  show @Bool.rec (fun _ => T α) (@Bool.rec (fun _ => T α) (.node l v (r.del (n / 2 - 1))) (.node (l.del (n / 2)) v r) (Nat.beq (n % 2) 1)) (.node l none r) (Nat.beq n 0) = _
  cases h : Nat.beq n 0 with
  | true => rw [if_pos (Nat.eq_of_beq_eq_true h)]
  | false =>
    rw [if_neg (Nat.ne_of_beq_eq_false h)]
    cases h2 : Nat.beq (n % 2) 1 with
    | true => rw [if_pos (Nat.eq_of_beq_eq_true h2)]
    | false => rw [if_neg (Nat.ne_of_beq_eq_false h2)]
theorem half_inj {n m : Nat} (hn : n ≠ 0) (hm : m ≠ 0) : (n % 2 = 1 → m % 2 = 1 → n / 2 = m / 2 → n = m) ∧ (n % 2 ≠ 1 → m % 2 ≠ 1 → n / 2 - 1 = m / 2 - 1 → n = m) := by omega
theorem one_get (x : α) : ∀ (f n m : Nat), n < f → (one x f n).get m = if m = n then some x else none := by
  intro f
  induction f with
  | zero => intro n m h; omega
  | succ f ih =>
    intro n m h
    rw [one_succ]
    by_cases h0 : n = 0
    · subst h0; rw [if_pos rfl, get_node]; simp only [get_leaf, ite_self]
    · rw [if_neg h0]
      by_cases h1 : n % 2 = 1
      · rw [if_pos h1, get_node]
        by_cases hm : m = 0
        · subst hm; rw [if_pos rfl, if_neg (by omega)]
        · rw [if_neg hm]
          by_cases hm1 : m % 2 = 1
          · rw [if_pos hm1, ih _ _ (by omega)]
            by_cases e : m = n
            · rw [if_pos e, if_pos (by omega)]
            · rw [if_neg e, if_neg (by omega)]
          · rw [if_neg hm1, get_leaf, if_neg (by omega)]
      · rw [if_neg h1, get_node]
        by_cases hm : m = 0
        · subst hm; rw [if_pos rfl, if_neg (by omega)]
        · rw [if_neg hm]
          by_cases hm1 : m % 2 = 1
          · rw [if_pos hm1, get_leaf, if_neg (by omega)]
          · rw [if_neg hm1, ih _ _ (by omega)]
            by_cases e : m = n
            · rw [if_pos e, if_pos (by omega)]
            · rw [if_neg e, if_neg (by omega)]
theorem get_set (t : T α) : ∀ (n m : Nat) (x : α), (t.set n x).get m = if m = n then some x else t.get m := by
  induction t with
  | leaf => intro n m x; show (one x (n + 1) n).get m = _; rw [one_get _ _ _ _ (by omega)]; rfl
  | node l v r il ir =>
    intro n m x
    rw [set_node, get_node]
    by_cases h0 : n = 0
    · subst h0; rw [if_pos rfl, get_node]; split <;> simp_all
    · rw [if_neg h0]
      by_cases h1 : n % 2 = 1
      · rw [if_pos h1, get_node]
        by_cases hm : m = 0
        · subst hm; simp only [if_true]; rw [if_neg (by omega)]
        · rw [if_neg hm, if_neg hm]
          by_cases hm1 : m % 2 = 1
          · rw [if_pos hm1, if_pos hm1, il]
            by_cases e : m = n
            · rw [if_pos e, if_pos (by omega)]
            · rw [if_neg e, if_neg (by omega)]
          · rw [if_neg hm1, if_neg hm1, if_neg (by omega)]
      · rw [if_neg h1, get_node]
        by_cases hm : m = 0
        · subst hm; simp only [if_true]; rw [if_neg (by omega)]
        · rw [if_neg hm, if_neg hm]
          by_cases hm1 : m % 2 = 1
          · rw [if_pos hm1, if_pos hm1, if_neg (by omega)]
          · rw [if_neg hm1, if_neg hm1, ir]
            by_cases e : m = n
            · rw [if_pos e, if_pos (by omega)]
            · rw [if_neg e, if_neg (by omega)]
theorem get_del (t : T α) : ∀ (n m : Nat), (t.del n).get m = if m = n then none else t.get m := by
  induction t with
  | leaf => intro n m; show none = _; rw [get_leaf, ite_self]
  | node l v r il ir =>
    intro n m
    rw [del_node, get_node]
    by_cases h0 : n = 0
    · subst h0; rw [if_pos rfl, get_node]; split <;> simp_all
    · rw [if_neg h0]
      by_cases h1 : n % 2 = 1
      · rw [if_pos h1, get_node]
        by_cases hm : m = 0
        · subst hm; simp only [if_true]; rw [if_neg (by omega)]
        · rw [if_neg hm, if_neg hm]
          by_cases hm1 : m % 2 = 1
          · rw [if_pos hm1, if_pos hm1, il]
            by_cases e : m = n
            · rw [if_pos e, if_pos (by omega)]
            · rw [if_neg e, if_neg (by omega)]
          · rw [if_neg hm1, if_neg hm1, if_neg (by omega)]
      · rw [if_neg h1, get_node]
        by_cases hm : m = 0
        · subst hm; simp only [if_true]; rw [if_neg (by omega)]
        · rw [if_neg hm, if_neg hm]
          by_cases hm1 : m % 2 = 1
          · rw [if_pos hm1, if_pos hm1, if_neg (by omega)]
          · rw [if_neg hm1, if_neg hm1, ir]
            by_cases e : m = n
            · rw [if_pos e, if_pos (by omega)]
            · rw [if_neg e, if_neg (by omega)]
theorem get_set_same (t : T α) (n : Nat) (x : α) : (t.set n x).get n = some x := by rw [get_set, if_pos rfl]
theorem get_set_ne (t : T α) {n m : Nat} (x : α) (h : m ≠ n) : (t.set n x).get m = t.get m := by rw [get_set, if_neg h]
end T

/-- Values, by names of blocks. A slice of an open block: 'cap' is how many elements of it are behind; the room is not known. -/
inductive V where
  | bool (b : Bool)
  | int (k : IntKind) (n : Int)
  | str (s : List Nat)
  | ptr (n off : Nat)
  | nilp
  | slice (n off len cap : Nat) (opn : Bool)
  | nils
  | map (n : Nat)
  | nilm
  | func (f : FuncId) (first cap : List V)
  | yield (n : Nat)
  | nilf
  | iface (t : TypeId) (v : V)
  | nili
  | agg (cs : List V)
  | tuple (vs : List V)
  deriving Inhabited

structure Ent where
  key : V
  val : V

inductive Blk where
  /-- n elements of sz cells each; opn: there may be room behind them; ro: not to be written -/
  | cells (c : T (List V)) (n sz : Nat) (opn ro : Bool)
  | map (es : List Ent)
  | loop (st : LoopState) (pend : Option Code) (nt : Nat) (tm : T V) (params : List Tmp) (assign body : Code) (dfr : Nat)
  | dfr (opn : Bool)

structure Heap where
  t : T Blk
  next : Nat

inductive Ex where
  | normal | exit (id : Nat) | goto (l : Nat) | ret

inductive Rs where
  | no
  | code (e : Ex) (t : T V) (d : List Nat) (L : Heap)
  | val (v : V) (L : Heap)

/-- the round's loop; how many slots the frame has at least -/
structure Env where
  ro : Option Nat
  nt : Nat

inductive Cmd where
  | code (e : Env) (c : Code) (t : T V) (d : List Nat) (L : Heap)
  | call (f : FuncId) (args : List V) (L : Heap)
  | round (l : Nat) (args : List V) (L : Heap)

def V.cells : V → List V
  | .agg cs => cs
  | v => [v]

def undefV : V := .tuple []

def V.scalar : V → Bool
  | .agg _ => false
  | .tuple _ => false
  | _ => true

def strOf (s : ByteArray) : List Nat := s.data.toList.map UInt8.toNat
def toBA (l : List Nat) : ByteArray := ⟨(l.map UInt8.ofNat).toArray⟩

/-- values of the text -/
def ofValN : Nat → Value → Option V
  | 0, _ => none
  | f + 1, v => match v with
    | .bool b => some (.bool b)
    | .int k n => some (.int k n)
    | .string s => some (.str (strOf s))
    | .pointer none => some .nilp
    | .slice none 0 0 => some .nils
    | .map none => some .nilm
    | .nilFunc => some .nilf
    | .nilIface => some .nili
    | .agg cs => (cs.toList.mapM (ofValN f)).map .agg
    | _ => none
def ofVal (v : Value) : Option V := ofValN 3 v

noncomputable def tget (t : T V) (x : Nat) : V := (t.get x).getD undefV

noncomputable def opd (t : T V) : Operand → Option V
  | .tmp x => some (tget t x)
  | .const v => ofVal v
  | .global _ => none
  | .func f => some (.func f [] [])

noncomputable def opds (t : T V) : List Operand → Option (List V)
  | [] => some []
  | o :: l => (opd t o).bind fun v => (opds t l).map (v :: ·)

noncomputable def optOpd (t : T V) : Option Operand → Option (Option V)
  | none => some none
  | some o => (opd t o).map some

noncomputable def pairs (t : T V) : List (Nat × Operand) → Option (List (Nat × V))
  | [] => some []
  | (i, o) :: l => (opd t o).bind fun v => (pairs t l).map ((i, v) :: ·)

def guardO {α : Type} (b : Bool) (k : Option α) : Option α := match b with
  | true => k
  | false => none

/-! what is asked of a value -/
def V.asBool : V → Option Bool | .bool b => some b | _ => none
def V.asInt : V → Option (IntKind × Int) | .int k n => some (k, n) | _ => none
def V.asStr : V → Option (List Nat) | .str s => some s | _ => none
def V.asPtr : V → Option (Nat × Nat) | .ptr n o => some (n, o) | _ => none
def V.asAgg : V → Option (List V) | .agg cs => some cs | _ => none
def V.asTup : V → Option (List V) | .tuple cs => some cs | _ => none
def V.asMap : V → Option Nat | .map n => some n | _ => none

/-! what is asked of a type -/
def tyStruct (P : Program) (ty : TypeId) : Option (Array Field) := match P.underlying ty with | some (.struct fs) => some fs | _ => none
def tyArray (P : Program) (ty : TypeId) : Option (Nat × TypeId) := match P.underlying ty with | some (.array n e) => some (n, e) | _ => none
def tySlice (P : Program) (ty : TypeId) : Option TypeId := match P.underlying ty with | some (.slice e) => some e | _ => none
def tyMap (P : Program) (ty : TypeId) : Option (TypeId × TypeId) := match P.underlying ty with | some (.map k e) => some (k, e) | _ => none
def tyInt (P : Program) (ty : TypeId) : Option IntKind := match P.underlying ty with | some (.int k) => some k | _ => none
def tyStr (P : Program) (ty : TypeId) : Bool := match P.underlying ty with | some .string => true | _ => false
def isAggT (P : Program) (ty : TypeId) : Option Bool :=
  match P.underlying ty with
  | some (.struct _) | some (.array _ _) => some true
  | some _ => some false
  | none => none
def sizeT (P : Program) (ty : TypeId) : Option Nat := (P.info? ty).map (·.size)
def bytesT (P : Program) (ty : TypeId) : Option Nat := (P.info? ty).map (·.bytes)
def zeroV (P : Program) (ty : TypeId) : Option V := (P.info? ty).bind fun i => i.zero.bind ofVal

def takeN : Nat → List V → Option (List V)
  | 0, _ => some []
  | _ + 1, [] => none
  | n + 1, x :: l => (takeN n l).map (x :: ·)

/-- vs over the first ones -/
def over : List V → List V → Option (List V)
  | [], l => some l
  | _ :: _, [] => none
  | x :: vs, _ :: l => (over vs l).map (x :: ·)

def splice : Nat → List V → List V → Option (List V)
  | 0, vs, l => over vs l
  | _ + 1, _, [] => none
  | r + 1, vs, x :: l => (splice r vs l).map (x :: ·)

def part (P : Program) (ty : TypeId) (cs : List V) (off : Nat) : Option V :=
  (isAggT P ty).bind fun a => match a with
    | true => (sizeT P ty).bind fun s => (takeN s (cs.drop off)).map .agg
    | false => cs[off]?

/-- the element at an address, and where in it -/
noncomputable def Heap.elem (L : Heap) (n off : Nat) : Option (List V × Nat) :=
  (L.t.get n).bind fun b => match b with
    | .cells c _ sz _ _ => (c.get (off / sz)).map fun l => (l, off % sz)
    | _ => none

noncomputable def Heap.load (P : Program) (L : Heap) (ty : TypeId) (n off : Nat) : Option V :=
  (L.elem n off).bind fun p => part P ty p.1 p.2

noncomputable def Heap.store (L : Heap) (n off : Nat) (vs : List V) : Option Heap :=
  (L.t.get n).bind fun b => match b with
    | .cells c k sz o false => guardO (vs.all V.scalar) ((c.get (off / sz)).bind fun l => (splice (off % sz) vs l).map fun l' => ⟨L.t.set n (.cells (c.set (off / sz) l') k sz o false), L.next⟩)
    | _ => none

def fillCells (place : Nat → Option (Nat × Nat)) : List (Nat × V) → List V → Option (List V)
  | [], cs => some cs
  | (i, v) :: rest, cs => (place i).bind fun p => guardO (v.cells.length == p.2) ((splice p.1 v.cells cs).bind (fillCells place rest))

def placeS (P : Program) (fs : Array Field) (i : Nat) : Option (Nat × Nat) := (fs[i]?).bind fun f => (sizeT P f.type).map fun s => (f.offset, s)
def placeA (s : Nat) (i : Nat) : Option (Nat × Nat) := some (i * s, s)

def build (P : Program) (ty : TypeId) (parts : List (Nat × V)) : Option V :=
  (zeroV P ty).bind fun z => match P.underlying ty with
    | some (.struct fs) => guardO (fs.toList.all fun f => (sizeT P f.type).isSome) ((fillCells (placeS P fs) parts z.cells).map .agg)
    | some (.array _ e) => (sizeT P e).bind fun s => (fillCells (placeA s) parts z.cells).map .agg
    | _ => none

/-- z at each number below -/
noncomputable def rowOf (z : List V) : Nat → T (List V)
  | 0 => .leaf
  | n + 1 => (rowOf z n).set n z

noncomputable def setParts : List (Nat × V) → T (List V) → T (List V)
  | [], c => c
  | (i, v) :: rest, c => setParts rest (c.set i v.cells)

noncomputable def rowFrom : List (List V) → Nat → T (List V)
  | [], _ => .leaf
  | x :: l, i => (rowFrom l (i + 1)).set i x

def fieldAddr (P : Program) (s : TypeId) (x : V) (i : Nat) : Option V :=
  (tyStruct P s).bind fun fs => (fs[i]?).bind fun f => x.asPtr.bind fun p => (sizeT P f.type).bind fun sz => guardO (sz != 0) (some (.ptr p.1 (p.2 + f.offset)))

def idx (ix : V) (len : Nat) : Option Nat :=
  ix.asInt.bind fun i => match i.2 with
    | .ofNat n => guardO (Nat.blt n len) (some n)
    | .negSucc _ => none

def indexAddr (P : Program) (ty : TypeId) (x ix : V) : Option V :=
  match x with
  | .ptr n o => (tyArray P ty).bind fun a => (sizeT P a.2).bind fun s => (idx ix a.1).map fun i => .ptr n (o + i * s)
  | .slice n o len _ _ => (tySlice P ty).bind fun e => (sizeT P e).bind fun s => (idx ix len).map fun i => .ptr n (o + i * s)
  | _ => none

def index (P : Program) (ty : TypeId) (x ix : V) : Option V :=
  match x with
  | .agg cs => (tyArray P ty).bind fun a => (sizeT P a.2).bind fun s => (idx ix a.1).bind fun i => part P a.2 cs (i * s)
  | .str l => guardO (tyStr P ty) ((idx ix l.length).bind fun i => (l[i]?).map fun (b : Nat) => V.int .u8 (Int.ofNat b))
  | _ => none

/-- a bound of a slice expression: not said: d; else at most m -/
def bound (x : Option V) (d m : Nat) : Option Nat :=
  match x with
  | none => some d
  | some v => idx v (m + 1)

def sliceOp (P : Program) (ty : TypeId) (x : V) (lo hi mx : Option V) : Option V :=
  match x with
  | .str s => guardO (tyStr P ty && mx.isNone) ((bound hi s.length s.length).bind fun h => (bound lo 0 h).map fun l => .str ((s.drop l).take (h - l)))
  | .nils => (tySlice P ty).bind fun e => (sizeT P e).bind fun s => guardO mx.isNone ((bound hi 0 0).bind fun h => (bound lo 0 h).map fun _ => .nils)
  | .slice n o len cap true => (tySlice P ty).bind fun e => (sizeT P e).bind fun s => guardO mx.isNone ((bound hi len len).bind fun h => (bound lo 0 h).map fun l => .slice n (o + l * s) (h - l) (cap + l) true)
  | .slice n o len cap false => (tySlice P ty).bind fun e => (sizeT P e).bind fun s => (bound mx cap cap).bind fun m => guardO (mx.isNone || hi.isSome) ((bound hi len m).bind fun h => (bound lo 0 h).map fun l => .slice n (if m = l then o else o + l * s) (h - l) (m - l) false)
  | .ptr n o => (tyArray P ty).bind fun a => (sizeT P a.2).bind fun s => (bound mx a.1 a.1).bind fun m => guardO (mx.isNone || hi.isSome) ((bound hi a.1 m).bind fun h => (bound lo 0 h).map fun l => .slice n (if m = l then o else o + l * s) (h - l) (m - l) false)
  | _ => none

def lexLess : List Nat → List Nat → Bool
  | _, [] => false
  | [], _ :: _ => true
  | a :: x, b :: y => Nat.blt a b || (Nat.beq a b && lexLess x y)

def strEq : List Nat → List Nat → Bool
  | [], [] => true
  | a :: x, b :: y => Nat.beq a b && strEq x y
  | _, _ => false

/-- all of them; none where one can't be told ahead of the first that fails -/
def allR {α : Type} (r : α → Option Bool) : List α → Option Bool
  | [] => some true
  | a :: l => (r a).bind fun b => match b with
    | true => allR r l
    | false => some false

def eqPart (P : Program) (eq : TypeId → V → V → Option Bool) (xs ys : List V) (ty : TypeId) (off : Nat) : Option Bool :=
  (part P ty xs off).bind fun x => (part P ty ys off).bind fun y => eq ty x y

/-- equality: of what is plain data -/
def equalN (P : Program) : Nat → TypeId → V → V → Option Bool
  | 0, _, _, _ => none
  | f + 1, ty, x, y => match P.underlying ty, x, y with
    | some .bool, .bool a, .bool b => some (a == b)
    | some (.int _), .int k a, .int k' b => guardO (decide (k = k')) (some (a == b))
    | some .string, .str a, .str b => some (strEq a b)
    | some (.struct fs), .agg xs, .agg ys => guardO (!P.stoodInHeld ty) (allR (fun (g : Field) => match decide (g.name = "_") with
      | true => some true
      | false => eqPart P (equalN P f) xs ys g.type g.offset) fs.toList)
    | some (.array len e), .agg xs, .agg ys => (sizeT P e).bind fun n => allR (fun i => eqPart P (equalN P f) xs ys e (i * n)) (List.range len)
    | _, _, _ => none

def isConstO : Operand → Bool
  | .const _ => true
  | _ => false

/-- equality of whatever: with the model's guards -/
def equalV (P : Program) (ty : TypeId) (cst : Bool) (x y : V) : Option Bool :=
  match P.underlying ty, x, y with
  | some (.pointer _), .nilp, .nilp => some true
  | some (.pointer _), .nilp, .ptr _ _ => some false
  | some (.pointer _), .ptr _ _, .nilp => some false
  | some (.interface _), .nili, .nili => guardO cst (some true)
  | some (.interface _), .nili, .iface _ _ => some false
  | some (.interface _), .iface _ _, .nili => some false
  | some (.slice _), .nils, .nils => some true
  | some (.slice _), .nils, .slice .. => some false
  | some (.slice _), .slice .., .nils => some false
  | some (.map _ _), .nilm, .nilm => some true
  | some (.map _ _), .nilm, .map _ => some false
  | some (.map _ _), .map _, .nilm => some false
  | some (.func ..), .nilf, .nilf => some true
  | some (.func ..), .nilf, .func .. => some false
  | some (.func ..), .func .., .nilf => some false
  | _, .agg xs, .agg ys => guardO (!P.eqGuardType P.depth ty) (equalN P 20 ty (.agg xs) (.agg ys))
  | _, .bool a, .bool b => equalN P 20 ty (.bool a) (.bool b)
  | _, _, _ => none

def binI (op : BinOp) (k : IntKind) (a b : Int) : Option V :=
  match op with
  | .add => some (.int k (k.wrap (a + b)))
  | .sub => some (.int k (k.wrap (a - b)))
  | .mul => some (.int k (k.wrap (a * b)))
  | .quo => guardO (!decide (b = 0)) (some (.int k (k.wrap (a.tdiv b))))
  | .rem => guardO (!decide (b = 0)) (some (.int k (a.tmod b)))
  | .and => some (.int k (k.wrap (BitVec.ofInt k.bits a &&& BitVec.ofInt k.bits b).toNat))
  | .or => some (.int k (k.wrap (BitVec.ofInt k.bits a ||| BitVec.ofInt k.bits b).toNat))
  | .xor => some (.int k (k.wrap (BitVec.ofInt k.bits a ^^^ BitVec.ofInt k.bits b).toNat))
  | .andNot => some (.int k (k.wrap (BitVec.ofInt k.bits a &&& ~~~BitVec.ofInt k.bits b).toNat))
  | .eql => some (.bool (a == b))
  | .neq => some (.bool (a != b))
  | .lss => some (.bool (decide (a < b)))
  | .leq => some (.bool (decide (a ≤ b)))
  | .gtr => some (.bool (decide (a > b)))
  | .geq => some (.bool (decide (a ≥ b)))
  | _ => none

def shiftI (op : BinOp) (k : IntKind) (a b : Int) : Option V :=
  guardO (!decide (b < 0)) (match op with
    | .shl => some (.int k (k.wrap (a * 2 ^ (min b.toNat k.bits))))
    | .shr => some (.int k (a.fdiv (2 ^ (min b.toNat k.bits))))
    | _ => none)

def binS (op : BinOp) (a b : List Nat) : Option V :=
  match op with
  | .add => guardO (Nat.ble (a.length + b.length) 1000000000000) (some (.str (a ++ b)))
  | .eql => some (.bool (strEq a b))
  | .neq => some (.bool (!strEq a b))
  | .lss => some (.bool (lexLess a b))
  | .leq => some (.bool (lexLess a b || strEq a b))
  | .gtr => some (.bool (!(lexLess a b || strEq a b)))
  | .geq => some (.bool (!lexLess a b))
  | _ => none

def isShift : BinOp → Bool
  | .shl => true
  | .shr => true
  | _ => false

def binV (P : Program) (op : BinOp) (ty : TypeId) (cst : Bool) (x y : V) : Option V :=
  match x.asInt, y.asInt with
  | some a, some b => match isShift op with
    | true => shiftI op a.1 a.2 b.2
    | false => guardO (decide (a.1 = b.1)) (binI op a.1 a.2 b.2)
  | _, _ => match x.asStr, y.asStr with
    | some a, some b => binS op a b
    | _, _ => match op with
      | .eql => (equalV P ty cst x y).map .bool
      | .neq => (equalV P ty cst x y).map fun b => .bool (!b)
      | _ => none

def unV (op : UnOp) (x : V) : Option V :=
  match op with
  | .not => x.asBool.map fun b => .bool (!b)
  | .neg => x.asInt.bind fun a => binI .sub a.1 0 a.2
  | .xor => x.asInt.bind fun a => binI .xor a.1 (if a.1.signed then -1 else a.1.max) a.2
  | _ => none

/-- the elements of a slice -/
noncomputable def Heap.elems (L : Heap) (n off s : Nat) : Nat → Option (List (List V))
  | 0 => some []
  | k + 1 => (L.elem n off).bind fun p => (takeN s (p.1.drop p.2)).bind fun x => (Heap.elems L n (off + s) s k).map (x :: ·)

def bytesOf : List (List V) → Option (List Nat)
  | [] => some []
  | x :: rest => match x with
    | [.int .u8 n] => (bytesOf rest).map ((UInt8.ofNat n.toNat).toNat :: ·)
    | _ => none

def encodeRune (r : Int) : List Nat := strOf (Utf8.encode r)

def runesOf : List (List V) → Option (List Nat)
  | [] => some []
  | x :: rest => match x with
    | [.int .i32 n] => (runesOf rest).map (encodeRune n ++ ·)
    | _ => none

/-- a conversion that makes no memory -/
noncomputable def convQ (P : Program) (src dst : TypeId) (x : V) (L : Heap) : Option V :=
  match x with
  | .int _ n => (P.underlying src).bind fun _ => match P.underlying dst with
    | some (.int k) => some (.int k (k.wrap n))
    | some .string => some (.str (encodeRune n))
    | _ => none
  | .str s => (P.underlying src).bind fun _ => guardO (tyStr P dst) (some (.str s))
  | .nils => (tySlice P src).bind fun e => guardO (tyStr P dst) (match P.underlying e with
    | some (.int .u8) => some (.str [])
    | some (.int .i32) => some (.str [])
    | _ => none)
  | .slice n o len _ _ => (tySlice P src).bind fun e => guardO (tyStr P dst) (match P.underlying e with
    | some (.int .u8) => (L.elems n o 1 len).bind fun l => (bytesOf l).map .str
    | some (.int .i32) => (L.elems n o 1 len).bind fun l => (runesOf l).map .str
    | _ => none)
  | _ => none

def convNew (P : Program) (dst : TypeId) (x : V) : Option (List Nat) :=
  match x with
  | .str s => (tySlice P dst).bind fun e => match P.underlying e with
    | some (.int .u8) => some s
    | _ => none
  | _ => none

/-- what is appended -/
noncomputable def srcElems (L : Heap) (s : Nat) : V → Option (List (List V))
  | .nils => some []
  | .slice n o len _ _ => L.elems n o s len
  | .str l => guardO (s == 1) (some (l.map fun (b : Nat) => [V.int .u8 b]))
  | _ => none

noncomputable def Heap.storeElems (L : Heap) (n : Nat) (s : Nat) : Nat → List (List V) → Option Heap
  | _, [] => some L
  | off, x :: rest => guardO (x.length == s) ((L.store n off x).bind fun L => Heap.storeElems L n s (off + s) rest)

def small (n bytes : Nat) : Bool := Nat.ble n 16777216 && Nat.ble bytes 65536

noncomputable def newOpen (s : Nat) (all : List (List V)) (L : Heap) (t : T Blk) : V × Heap :=
  (.slice L.next 0 all.length 0 true, ⟨t.set L.next (.cells (rowFrom all 0) all.length s true false), L.next + 1⟩)

noncomputable def append (P : Program) (ty : TypeId) (b : V) (x : V) (L : Heap) : Option (V × Heap) :=
  (tySlice P ty).bind fun e => (sizeT P e).bind fun s => (bytesT P e).bind fun by_ => (zeroV P e).bind fun z =>
  (srcElems L s x).bind fun new => guardO (s != 0 && z.cells.length == s) (match b with
    | .nils => match new with
      | [] => some (.nils, L)
      | _ :: _ => guardO (small new.length by_) (some (newOpen s new L L.t))
    | .slice n o len cap false => match Nat.ble (len + new.length) cap with
      | true => (L.storeElems n s (o + len * s) new).map fun L' => (.slice n o (len + new.length) cap false, L')
      | false => guardO (small (len + new.length) by_) ((L.elems n o s len).map fun old => newOpen s (old ++ new) L L.t)
    | .slice n o len k true => (L.t.get n).bind fun bl => match bl with
      | .cells _ cnt sz true false => guardO (sz == s && o == k * s) (match Nat.ble (o + (len + new.length) * s) (cnt * s) with
        | true => (L.storeElems n s (o + len * s) new).map fun L' => (.slice n o (len + new.length) k true, L')
        | false => guardO (o + len * s == cnt * s && small (len + new.length) by_ && new.all (fun x => x.all V.scalar)) ((L.elems n o s len).map fun old => newOpen s (old ++ new) L (L.t.del n)))
      | _ => none
    | _ => none)

/-- where a key stands -/
def findEnt (P : Program) (kt : TypeId) (k : V) : List Ent → Option (Option V)
  | [] => some none
  | e :: es => (equalN P 20 kt k e.key).bind fun b => match b with
    | true => some (some e.val)
    | false => findEnt P kt k es

/-- at most one entry's key is the key, and every one can be asked -/
def oneKey (P : Program) (kt : TypeId) (k : V) (es : List Ent) : Bool :=
  es.all (fun e => (equalN P 20 kt k e.key).isSome) && Nat.ble (es.filter fun e => equalN P 20 kt k e.key == some true).length 1

noncomputable def lookup (P : Program) (ty : TypeId) (x k : V) (ok : Bool) (L : Heap) : Option V :=
  (tyMap P ty).bind fun m => x.asMap.bind fun n => (L.t.get n).bind fun b => match b with
    | .map es => guardO (equalN P 20 m.1 k k == some true && oneKey P m.1 k es) ((findEnt P m.1 k es).bind fun r => match r with
      | some v => some (match ok with | true => .tuple [v, .bool true] | false => v)
      | none => (zeroV P m.2).map fun z => match ok with | true => .tuple [z, .bool false] | false => z)
    | _ => none

/-- a new entry: the key was not there -/
noncomputable def mapInsert (P : Program) (ty : TypeId) (m k v : V) (L : Heap) : Option Heap :=
  (tyMap P ty).bind fun mt => m.asMap.bind fun n => (L.t.get n).bind fun b => match b with
    | .map es => guardO (equalN P 20 mt.1 k k == some true) ((findEnt P mt.1 k es).bind fun r => match r with
      | none => some ⟨L.t.set n (.map (es ++ [⟨k, v⟩])), L.next⟩
      | some _ => none)
    | _ => none

def minL : Int → List V → Option Int
  | a, [] => some a
  | a, v :: l => v.asInt.bind fun n => minL (if n.2 < a then n.2 else a) l
def maxL : Int → List V → Option Int
  | a, [] => some a
  | a, v :: l => v.asInt.bind fun n => maxL (if n.2 > a then n.2 else a) l

/-- the builtin functions that change nothing -/
noncomputable def builtinQ (P : Program) (b : Builtin) (tys : Array TypeId) (args : List V) (L : Heap) : Option V :=
  match b, args with
  | .len, [x] => (tys[0]?).bind fun ty => match x with
    | .str s => guardO (tyStr P ty) (some (.int .i64 s.length))
    | .slice _ _ len _ _ => (tySlice P ty).map fun _ => .int .i64 len
    | .nils => (tySlice P ty).map fun _ => .int .i64 0
    | _ => none
  | .min, v :: rest => v.asInt.bind fun a => (minL a.2 rest).map fun n => .int a.1 n
  | .max, v :: rest => v.asInt.bind fun a => (maxL a.2 rest).map fun n => .int a.1 n
  | _, _ => none

/-- how a callee is met -/
inductive Goal where
  | fn (f : FuncId) (args : List V)
  | round (l : Nat) (args : List V)
  | no

def goal (f : V) (args : List V) : Goal :=
  match f with
  | .func g first cap => .fn g (first ++ args ++ cap)
  | .yield l => .round l args
  | _ => .no

/-- operations that change nothing -/
noncomputable def quiet (P : Program) (o : Oper) (t : T V) (L : Heap) : Option V :=
  match o.op with
  | .move x => opd t x
  | .assign x => opd t x
  | .pick c a b => (opd t c).bind fun v => v.asBool.bind fun q => match q with
    | true => opd t a
    | false => opd t b
  | .build ty ps => (pairs t ps.toList).bind (build P ty)
  | .load ty a => (opd t a).bind fun v => v.asPtr.bind fun p => L.load P ty p.1 p.2
  | .nilCheck x => (opd t x).bind fun v => match v with
    | .ptr n off => some (.ptr n off)
    | .func f a b => some (.func f a b)
    | .yield n => some (.yield n)
    | _ => none
  | .binOp op ty x y _ => (opd t x).bind fun a => (opd t y).bind fun b => binV P op ty (isConstO x || isConstO y) a b
  | .unOp op _ x => (opd t x).bind (unV op)
  | .convert s d x => (opd t x).bind fun v => convQ P s d v L
  | .makeFunc (.func g) first cap => (opds t first.toList).bind fun a => (opds t cap.toList).map fun b => .func g a b
  | .slice ty x lo hi mx => (opd t x).bind fun v => (optOpd t lo).bind fun a => (optOpd t hi).bind fun b => (optOpd t mx).bind fun c => sliceOp P ty v a b c
  | .fieldAddr s x i => (opd t x).bind fun v => fieldAddr P s v i
  | .field s x i => (opd t x).bind fun v => v.asAgg.bind fun cs => (tyStruct P s).bind fun fs => (fs[i]?).bind fun f => part P f.type cs f.offset
  | .indexAddr ty x ix => (opd t x).bind fun v => (opd t ix).bind fun i => indexAddr P ty v i
  | .index ty x ix => (opd t x).bind fun v => (opd t ix).bind fun i => index P ty v i
  | .lookup ty x ix ok => (opd t x).bind fun v => (opd t ix).bind fun i => lookup P ty v i ok L
  | .extract x i => (opd t x).bind fun v => v.asTup.bind fun vs => vs[i]?
  | .call c => match c.callee with
    | .builtin b => (opds t c.args.toList).bind fun vs => builtinQ P b c.argTypes vs L
    | _ => none
  | _ => none

/-- what a new block's value is -/
inductive NV where
  | ptr
  | slice (len cap : Nat) (opn : Bool)
  | map
def NV.mk (m : Nat) : NV → V
  | .ptr => .ptr m 0
  | .slice len cap opn => .slice m 0 len cap opn
  | .map => .map m

/-- operations that make a block -/
noncomputable def making (P : Program) (o : Oper) (t : T V) : Option (Blk × NV) :=
  match o.op with
  | .alloc e => (zeroV P e).map fun z => (.cells (T.set .leaf 0 z.cells) 1 z.cells.length false false, .ptr)
  | .box e x => (opd t x).map fun v => (.cells (T.set .leaf 0 v.cells) 1 v.cells.length false false, .ptr)
  | .buildSlice ty len ps => (pairs t ps.toList).bind fun parts => (tySlice P ty).bind fun e => (zeroV P e).bind fun z => (sizeT P e).bind fun s =>
      guardO (z.cells.length == s && s != 0 && Nat.ble (len * s) 16777216 && parts.all (fun p => Nat.blt p.1 len && p.2.cells.length == s))
        (some (.cells (setParts parts (rowOf z.cells len)) len s false false, .slice len len false))
  | .makeMap _ none => some (.map [], .map)
  | .makeSlice ty l c => (opd t l).bind fun a => (opd t c).bind fun b => (tySlice P ty).bind fun e => (zeroV P e).bind fun z => (sizeT P e).bind fun s => (bytesT P e).bind fun by_ =>
      (idx b 16777216).bind fun c => (idx a (c + 1)).bind fun l => guardO (z.cells.length == s && s != 0 && Nat.ble by_ 65536)
        (some (.cells (rowOf z.cells c) c s false false, .slice l c false))
  | .convert s d x => (P.underlying s).bind fun _ => (opd t x).bind fun v => (convNew P d v).map fun l =>
      (.cells (rowFrom (l.map fun (b : Nat) => [V.int .u8 b]) 0) l.length 1 true false, .slice l.length 0 true)
  | _ => none

/-- operations that change memory -/
noncomputable def loud (P : Program) (o : Oper) (t : T V) (L : Heap) : Option (V × Heap) :=
  match o.op with
  | .store ty a x => (opd t a).bind fun p => (opd t x).bind fun v => p.asPtr.bind fun q => (sizeT P ty).bind fun s =>
      guardO (v.cells.length == s) ((L.store q.1 q.2 v.cells).map fun L' => (undefV, L'))
  | .insert ty m k x => (opd t m).bind fun a => (opd t k).bind fun b => (opd t x).bind fun c => (mapInsert P ty a b c L).map fun L' => (undefV, L')
  | .call c => match c.callee with
    | .builtin .append => (opds t c.args.toList).bind fun vs => match vs with
      | [b, x] => (c.argTypes[0]?).bind fun ty => (c.argTypes[1]?).bind fun ty2 => (P.underlying ty2).bind fun _ => guardO (tyInt P ty2).isNone (append P ty b x L)
      | _ => none
    | _ => none
  | _ => none

inductive Cls where
  | quiet (reads : Bool)
  | making
  | loud
  | call
  deriving DecidableEq

/-- of which class an operation is -/
def cls (P : Program) (o : Oper) : Cls :=
  match o.op with
  | .load .. => .quiet true
  | .lookup .. => .quiet true
  | .alloc _ => .making
  | .box .. => .making
  | .buildSlice .. => .making
  | .makeMap .. => .making
  | .makeSlice .. => .making
  | .convert _ d _ => match tySlice P d with
    | some _ => .making
    | none => .quiet true
  | .store .. => .loud
  | .insert .. => .loud
  | .call c => match c.callee with
    | .builtin .append => .loud
    | .builtin _ => .quiet true
    | _ => .call
  | _ => .quiet false

noncomputable def wantedE (ops : Array Oper) (o : Oper) (t : T V) : Bool :=
  match o.guard with
  | none => true
  | some (j, want) => match (ops[j]?).bind (·.dst) with
    | some d => match tget t d with
      | .bool b => b == want
      | _ => false
    | none => false

noncomputable def putD (t : T V) : Option Tmp → V → T V
  | some d, v => t.set d v
  | none, _ => t

def fits (e : Env) (o : Oper) : Bool := match o.dst with
  | some d => Nat.blt d e.nt
  | none => true

/-- one operation -/
noncomputable def oneE (P : Program) (rec : Cmd → Rs) (o : Oper) (t : T V) (L : Heap) : Option (V × Heap) :=
  match cls P o with
  | .quiet _ => (quiet P o t L).map fun v => (v, L)
  | .making => (making P o t).map fun p => (p.2.mk L.next, ⟨L.t.set L.next p.1, L.next + 1⟩)
  | .loud => loud P o t L
  | .call => match o.op with
    | .call c => match c.callee with
      | .value f => (opd t f).bind fun fv => (opds t c.args.toList).bind fun vs => match goal fv vs with
        | .fn g args => match rec (.call g args L) with
          | .val v L' => some (v, L')
          | _ => none
        | .round l args => match rec (.round l args L) with
          | .val v L' => some (v, L')
          | _ => none
        | .no => none
      | _ => none
    | _ => none

/-- operations one behind the other -/
noncomputable def seqE (P : Program) (rec : Cmd → Rs) (e : Env) (ops : Array Oper) : List Nat → T V → Heap → Option (T V × Heap)
  | [], t, L => some (t, L)
  | i :: rest, t, L => (ops[i]?).bind fun o => guardO (fits e o) (match wantedE ops o t with
      | true => (oneE P rec o t L).bind fun r => seqE P rec e ops rest (putD t o.dst r.1) r.2
      | false => seqE P rec e ops rest (putD t o.dst undefV) L)

/-! a region that draws its order -/
mutual
def V.beq : V → V → Bool
  | .bool a, .bool b => a == b
  | .int k a, .int k' b => decide (k = k') && decide (a = b)
  | .str a, .str b => strEq a b
  | .ptr n o, .ptr m p => Nat.beq n m && Nat.beq o p
  | .nilp, .nilp => true
  | .slice n o l c q, .slice n' o' l' c' q' => Nat.beq n n' && Nat.beq o o' && Nat.beq l l' && Nat.beq c c' && (q == q')
  | .nils, .nils => true
  | .map n, .map m => Nat.beq n m
  | .nilm, .nilm => true
  | .func f a b, .func g c d => Nat.beq f g && V.beqs a c && V.beqs b d
  | .yield n, .yield m => Nat.beq n m
  | .nilf, .nilf => true
  | .iface t v, .iface u w => Nat.beq t u && V.beq v w
  | .nili, .nili => true
  | .agg a, .agg b => V.beqs a b
  | .tuple a, .tuple b => V.beqs a b
  | _, _ => false
def V.beqs : List V → List V → Bool
  | [], [] => true
  | a :: x, b :: y => V.beq a b && V.beqs x y
  | _, _ => false
end

/-- the operations ahead of each one, as numbers' bits -/
def ancs (ops : List Oper) : List Nat :=
  ops.foldl (fun (acc : List Nat) o => acc ++ [o.after.toList.foldl (fun m e => if Region.binds .any e then m ||| (1 <<< e.on) ||| acc.getD e.on 0 else m) 0]) []

def isAnc (anc : List Nat) (i j : Nat) : Bool := (anc.getD j 0).testBit i

def isQuiet : Cls → Bool
  | .quiet _ => true
  | .making => true
  | _ => false

/-- quiet ones first -/
def orderGo (P : Program) (ops : List Oper) (anc : List Nat) : Nat → Nat → List Nat → List Nat → List Nat
  | 0, _, _, acc => acc.reverse
  | f + 1, dn, rest, acc =>
    match rest.filter fun i => (anc.getD i 0) &&& dn == anc.getD i 0 with
    | [] => acc.reverse
    | r :: rs => match (r :: rs).find? fun i => isQuiet (cls P (ops.getD i default)) with
      | some i => orderGo P ops anc f (dn ||| (1 <<< i)) (rest.filter (· != i)) (i :: acc)
      | none => orderGo P ops anc f (dn ||| (1 <<< r)) (rest.filter (· != r)) (r :: acc)
def order (P : Program) (ops : List Oper) : List Nat := orderGo P ops (ancs ops) (ops.length + 1) 0 (List.range ops.length) []

def looks (ops : Array Oper) (o : Oper) : List Nat :=
  (o.op.operands.toList.filterMap fun | .tmp t => some t | _ => none) ++
  (match o.guard with
   | some (g, _) => ((ops[g]?).bind (·.dst)).toList
   | none => [])

/-- the look at an order: it holds each operation once; those ahead stand ahead; behind one that is not quiet stands none that it is not ahead of; slots -/
def orderOk (P : Program) (ops : Array Oper) (anc : List Nat) (ord : List Nat) : Bool :=
  (List.range ops.size).all (fun i => ord.contains i) && ord.all (fun i => i < ops.size) && decide (ord.Nodup) &&
  (List.range ops.size).all (fun j => match ops[j]? with
    | none => false
    | some oj =>
      oj.after.toList.all (fun e => !Region.binds .any e || (isAnc anc e.on j && decide (e.on < ops.size))) &&
      !isAnc anc j j &&
      (List.range ops.size).all (fun i => match ops[i]? with
        | none => false
        | some oi =>
          (!isAnc anc i j || (decide (ord.idxOf i < ord.idxOf j) && oj.after.toList.any fun e => Region.binds .any e && (e.on == i || isAnc anc i e.on))) &&
          (isQuiet (cls P oi) || isAnc anc i j || !decide (ord.idxOf i < ord.idxOf j)) &&
          (match oi.dst with
            | none => true
            | some d => (i == j || decide (oj.dst ≠ some d)) && (!(looks ops oj).contains d || i == j || isAnc anc i j || isAnc anc j i))))

structure Pend where
  i : Nat
  o : Oper
  t : T V
  v : V

/-- do the pending reads that are not ahead of i read as they did? -/
noncomputable def recheck (P : Program) (anc : List Nat) (i : Nat) (L : Heap) : List Pend → Bool
  | [] => true
  | p :: l => (isAnc anc p.i i || (match quiet P p.o p.t L with
      | some v => V.beq v p.v
      | none => false)) && recheck P anc i L l

noncomputable def drawE (P : Program) (rec : Cmd → Rs) (e : Env) (ops : Array Oper) (anc : List Nat) : List Nat → T V → List Pend → Heap → Option (T V × Heap)
  | [], t, _, L => some (t, L)
  | i :: rest, t, pd, L => (ops[i]?).bind fun o => guardO (fits e o) (match wantedE ops o t with
      | true => (oneE P rec o t L).bind fun r => match cls P o with
        | .quiet true => drawE P rec e ops anc rest (putD t o.dst r.1) (⟨i, o, t, r.1⟩ :: pd) r.2
        | .quiet false => drawE P rec e ops anc rest (putD t o.dst r.1) pd r.2
        | .making => drawE P rec e ops anc rest (putD t o.dst r.1) pd r.2
        | _ => guardO (recheck P anc i r.2 pd) (drawE P rec e ops anc rest (putD t o.dst r.1) pd r.2)
      | false => drawE P rec e ops anc rest (putD t o.dst undefV) pd L)

noncomputable def regionE (P : Program) (rec : Cmd → Rs) (e : Env) (ops : Array Oper) (draw : Bool) (t : T V) (L : Heap) : Option (T V × Heap) :=
  match draw with
  | false => seqE P rec e ops (List.range ops.size) t L
  | true => guardO (orderOk P ops (ancs ops.toList) (order P ops.toList)) (drawE P rec e ops (ancs ops.toList) (order P ops.toList) t [] L)

noncomputable def argsT : List V → Nat → T V
  | [], _ => .leaf
  | v :: l, i => (argsT l (i + 1)).set i v

noncomputable def resVals (P : Program) (t : T V) (L : Heap) : List ResultVar → Option (List V)
  | [] => some []
  | .tmp x :: l => (resVals P t L l).map (tget t x :: ·)
  | .cell a ty :: l => (tget t a).asPtr.bind fun p => (L.load P ty p.1 p.2).bind fun v => (resVals P t L l).map (v :: ·)

/-- the marks of loops over functions -/
noncomputable def closeMarks (L : Heap) : List Nat → Option Heap
  | [] => some L
  | r :: ds => (L.t.get r).bind fun b => match b with
    | .dfr true => closeMarks ⟨L.t.set r (.dfr false), L.next⟩ ds
    | _ => none

noncomputable def setParams (nt : Nat) (t : T V) : List (Tmp × V) → Option (T V)
  | [] => some t
  | (x, v) :: l => guardO (Nat.blt x nt) (setParams nt (t.set x v) l)

noncomputable def loopE (body : T V → List Nat → Heap → Rs) : Nat → T V → List Nat → Heap → Rs
  | 0, _, _, _ => .no
  | m + 1, t, d, L => match body t d L with
    | .code .normal t d L => loopE body m t d L
    | r => r

def jumpOf : Ex → Option Code
  | .normal => none
  | .ret => some .ret
  | .exit id => some (.exit id)
  | .goto g => some (.goto g)

def one1 : List V → V
  | [v] => v
  | vs => .tuple vs

def ofOpt (d : List Nat) : Option (T V × Heap) → Rs
  | some r => .code .normal r.1 d r.2
  | none => .no

noncomputable def startLoop (e : Env) (d : List Nat) (L : Heap) : Option (Nat × List Nat × Heap) :=
  match e.ro with
  | none => some (L.next, L.next :: d, ⟨L.t.set L.next (.dfr true), L.next + 1⟩)
  | some l => (L.t.get l).bind fun b => match b with
    | .loop _ _ _ _ _ _ _ dfr => some (dfr, d, L)
    | _ => none

noncomputable def stepE (P : Program) (rec : Cmd → Rs) : Cmd → Rs
  | .code e c t d L => match c with
    | .skip => .code .normal t d L
    | .label _ => .code .normal t d L
    | .region _ ops draw => ofOpt d (regionE P rec e ops draw t L)
    | .seq a b => match rec (.code e a t d L) with
      | .code .normal t d L => rec (.code e b t d L)
      | r => r
    | .cond x a b => match (opd t x).bind V.asBool with
      | some true => rec (.code e a t d L)
      | some false => rec (.code e b t d L)
      | none => .no
    | .block id b => match rec (.code e b t d L) with
      | .code (.exit i) t d L => match Nat.beq i id with
        | true => .code .normal t d L
        | false => .code (.exit i) t d L
      | r => r
    | .loop b => loopE (fun t d L => rec (.code e b t d L)) 1000000 t d L
    | .exit id => .code (.exit id) t d L
    | .ret => .code .ret t d L
    | .rangeFunc f params assign body =>
      match startLoop e d L with
      | none => .no
      | some s => match opd t f with
        | some fv => match goal fv [.yield s.2.2.next] with
          | .fn g args => match rec (.call g args ⟨s.2.2.t.set s.2.2.next (.loop .ready none e.nt t params.toList assign body s.1), s.2.2.next + 1⟩) with
            | .val _ L => match L.t.get s.2.2.next with
              | some (.loop .busy _ _ _ _ _ _ _) => .no
              | some (.loop _ pend nt tm ps as bd df) => match pend with
                | none => .code .normal t s.2.1 ⟨L.t.set s.2.2.next (.loop .exhausted pend nt tm ps as bd df), L.next⟩
                | some c => rec (.code e c t s.2.1 ⟨L.t.set s.2.2.next (.loop .exhausted pend nt tm ps as bd df), L.next⟩)
              | _ => .no
            | _ => .no
          | _ => .no
        | none => .no
    | _ => .no
  | .call f args L => match (P.funcs[f]?).bind fun fn => fn.body.map fun c => (fn, c) with
    | none => .no
    | some p => match rec (.code ⟨none, p.1.ntmps⟩ p.2 (argsT args 0) [] L) with
        | .code .normal t d L => match (closeMarks L d).bind fun L' => (resVals P t L' p.1.results.toList).map fun vs => (one1 vs, L') with
          | some r => .val r.1 r.2
          | none => .no
        | .code .ret t d L => match (closeMarks L d).bind fun L' => (resVals P t L' p.1.results.toList).map fun vs => (one1 vs, L') with
          | some r => .val r.1 r.2
          | none => .no
        | _ => .no
  | .round l args L => match L.t.get l with
    | some (.loop st pend nt tm ps as bd df) => match guardO (args.length == ps.length) (setParams nt tm (ps.zip args)) with
      | none => .no
      | some t0 => match rec (.code ⟨some l, nt⟩ as t0 [] L) with
        | .code .normal t d L => match L.t.get l with
          | some (.loop .ready pend nt' tm ps as bd' df) =>
            match rec (.code ⟨some l, nt⟩ bd t d ⟨L.t.set l (.loop .busy pend nt' tm ps as bd' df), L.next⟩) with
            | .code e t d L => match d, L.t.get l with
              | [], some (.loop _ _ nt tm ps as bd df) => .val (.bool (jumpOf e).isNone) ⟨L.t.set l (.loop (if (jumpOf e).isNone then .ready else .done) (jumpOf e) nt tm ps as bd df), L.next⟩
              | _, _ => .no
            | _ => .no
          | _ => .no
        | _ => .no
    | _ => .no

noncomputable def ev (P : Program) : Nat → Cmd → Rs
  | 0, _ => .no
  | n + 1, c => stepE P (ev P n) c
end Go.Proofs.Ytpfmoolpeecobaa.Ev
