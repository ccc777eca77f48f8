/- An evaluator of the model code over partly known values: its definitions. -/
import GoSem.Claims
/- The abstract evaluator: tries, rows. Written for the kernel: recursors and the numbers' own functions stand where speed asks for them. -/
namespace Go.Ab

/-! ### tries keyed by numbers -/

inductive Tr (α : Type) where
  | nil
  | node (v : Option α) (l r : Tr α)

namespace Tr
variable {α : Type}

noncomputable def get (t : Tr α) : Nat → Option α :=
  Tr.rec (fun _ => none)
    (fun v _ _ gl gr k => Bool.rec (Bool.rec (gr (Nat.pred (Nat.div k 2))) (gl (Nat.div k 2)) (Nat.beq (Nat.mod k 2) 1)) v (Nat.beq k 0)) t

/-- fuel: more than the bits of the key -/
noncomputable def set (x : Option α) (n : Nat) : Tr α → Nat → Tr α :=
  Nat.rec (fun t _ => t)
    (fun _ ih t k => Tr.rec
      (Bool.rec (Bool.rec (.node none .nil (ih .nil (Nat.pred (Nat.div k 2)))) (.node none (ih .nil (Nat.div k 2)) .nil) (Nat.beq (Nat.mod k 2) 1)) (.node x .nil .nil) (Nat.beq k 0))
      (fun v l r _ _ => Bool.rec (Bool.rec (.node v l (ih r (Nat.pred (Nat.div k 2)))) (.node v (ih l (Nat.div k 2)) r) (Nat.beq (Nat.mod k 2) 1)) (.node x l r) (Nat.beq k 0)) t) n

end Tr

/-! ### rows -/

/-- the element at a place -/
noncomputable def nth {α : Type} (l : List α) : Nat → Option α :=
  List.rec (fun _ => none) (fun x _ ih k => Nat.rec (some x) (fun k' _ => ih k') k) l

/-- the first n -/
noncomputable def takeN {α : Type} (n : Nat) : List α → Option (List α) :=
  Nat.rec (fun _ => some []) (fun _ ih l => List.rec none (fun x xs _ => Option.rec none (fun ys => some (x :: ys)) (ih xs)) l) n

noncomputable def dropN {α : Type} (n : Nat) : List α → List α :=
  Nat.rec (fun l => l) (fun _ ih l => List.rec [] (fun _ xs _ => ih xs) l) n

noncomputable def lenL {α : Type} (l : List α) : Nat := List.rec 0 (fun _ _ n => Nat.succ n) l

noncomputable def mapL {α β : Type} (f : α → β) (l : List α) : List β := List.rec [] (fun x _ ys => f x :: ys) l

noncomputable def appL {α : Type} (l m : List α) : List α := List.rec m (fun x _ ys => x :: ys) l

/-- cells from o on are replaced; all are there already -/
noncomputable def overwrite {α : Type} (cs : List α) : Nat → List α → Option (List α) :=
  List.rec
    (fun o vs => Nat.rec (List.rec (some []) (fun _ _ _ => none) vs) (fun _ _ => none) o)
    (fun c cs' ih o vs => Nat.rec
      (List.rec (some (c :: cs')) (fun v vs' _ => Option.rec none (fun l => some (v :: l)) (ih 0 vs')) vs)
      (fun o' _ => Option.rec none (fun l => some (c :: l)) (ih o' vs)) o) cs

/-- as 'overwrite', but the row may become longer -/
noncomputable def extend {α : Type} (cs : List α) : Nat → List α → Option (List α) :=
  List.rec
    (fun o vs => Nat.rec (some vs) (fun _ _ => List.rec (some []) (fun _ _ _ => none) vs) o)
    (fun c cs' ih o vs => Nat.rec
      (List.rec (some (c :: cs')) (fun v vs' _ => Option.rec none (fun l => some (v :: l)) (ih 0 vs')) vs)
      (fun o' _ => Option.rec none (fun l => some (c :: l)) (ih o' vs)) o) cs

/-- the elements' test, all of them -/
noncomputable def allL {α : Type} (p : α → Bool) (l : List α) : Bool := List.rec true (fun x _ ih => Bool.rec false ih (p x)) l

end Go.Ab
/- The abstract evaluator: values and memory. -/
namespace Go.Ab

/-- texts: known; hidden; what a function of texts makes of texts -/
inductive AStr where
  | lit (l : List Nat)
  | atom (i : Nat)
  | app (f : Nat) (args : List AStr)

inductive AVal where
  | bool (b : Bool)
  | int (k : IntKind) (n : Int)
  /-- the length of a text -/
  | isym (s : AStr)
  | str (s : AStr)
  | nilptr
  | ptr (b o : Nat)
  | nilslice
  /-- at b, o: len elements of esz cells; the capacity is at least cap, and just cap where exact -/
  | slice (b o len cap : Nat) (exact : Bool) (esz : Nat)
  | nilmap
  | map (r : Nat)
  | func (fn : Fn) (first captured : List AVal)
  | nilFunc
  | iface (t : Nat) (v : AVal)
  | nilIface
  | agg (cells : List AVal)
  | tuple (vs : List AVal)

def aundef : AVal := .tuple []
/-- what lies in a temporary of an operation that was not wanted -/
def aund : AVal := .tuple [.tuple []]

instance : Inhabited AVal := ⟨aundef⟩

/-- the cells of a value that is known to be a value -/
def cellsO (v : AVal) : Option (List AVal) :=
  match v with
  | .agg cs => some cs
  | .tuple _ => none
  | v => some [v]

/-- is it the value of one cell? -/
def isCell (v : AVal) : Bool :=
  match v with
  | .agg _ => false
  | .tuple _ => false
  | _ => true

noncomputable def bytesOf (s : ByteArray) : List Nat := mapL UInt8.toNat s.data.toList

/-- constants: scalars, and rows of scalars -/
noncomputable def absScalar : Value → Option AVal
  | .bool b => some (.bool b)
  | .int k n => some (.int k n)
  | .string s => some (.str (.lit (bytesOf s)))
  | .pointer none => some .nilptr
  | .slice none 0 0 => some .nilslice
  | .map none => some .nilmap
  | .func (.func f) ⟨[]⟩ ⟨[]⟩ => some (.func (.func f) [] [])
  | .nilFunc => some .nilFunc
  | .nilIface => some .nilIface
  | _ => none

noncomputable def absScalars : List Value → Option (List AVal)
  | [] => some []
  | v :: vs => match absScalar v with
    | some x => match absScalars vs with
      | some xs => some (x :: xs)
      | none => none
    | none => none

noncomputable def absV : Value → Option AVal
  | .agg cs => match absScalars cs.toList with
    | some l => some (.agg l)
    | none => none
  | .tuple cs => match absScalars cs.toList with
    | some l => some (.tuple l)
    | none => none
  | v => absScalar v

/-! ### memory -/

/-- which cells of a row a string may share: none; those below n; none, but the row is marked behind its end; never written -/
inductive Frz where
  | free
  | upto (n : Nat)
  | marked
  | ro

structure ALoop where
  state : LoopState
  pending : Option Code
  tmps : Tr AVal
  params : List Tmp
  assign : Code
  body : Code
  defers : Nat

inductive AObj where
  | cells (cs : List AVal) (elem : Nat) (fz : Frz)
  | map (es : List (AVal × AVal × Nat)) (clock : Nat)
  | mapIter (m : Option Nat) (since : Nat) (seen : List Nat) (last : Nat)
  | loop (l : ALoop)
  | deferred (shut : Bool)

structure AHeap where
  next : Nat
  objs : Tr AObj

noncomputable def AHeap.get (H : AHeap) (b : Nat) : Option AObj := H.objs.get b
noncomputable def AHeap.put (H : AHeap) (b : Nat) (o : AObj) : AHeap := ⟨H.next, H.objs.set (some o) (Nat.succ b) b⟩
noncomputable def AHeap.kill (H : AHeap) (b : Nat) : AHeap := ⟨H.next, H.objs.set none (Nat.succ b) b⟩
noncomputable def AHeap.alloc (H : AHeap) (o : AObj) : AHeap := ⟨Nat.succ H.next, H.objs.set (some o) (Nat.succ H.next) H.next⟩

noncomputable def AHeap.cell (H : AHeap) (b o : Nat) : Option AVal :=
  match H.get b with
  | some (.cells cs _ _) => nth cs o
  | _ => none

noncomputable def AHeap.row (H : AHeap) (b o n : Nat) : Option (List AVal) :=
  match H.get b with
  | some (.cells cs _ _) => takeN n (dropN o cs)
  | _ => none

def Frz.lets (f : Frz) (o : Nat) : Bool :=
  match f with
  | .free => true
  | .marked => true
  | .upto n => Nat.ble n o
  | .ro => false

noncomputable def AHeap.storeN (H : AHeap) (b o : Nat) (vs : List AVal) : Option AHeap :=
  match H.get b with
  | some (.cells cs e fz) => bif fz.lets o then bif allL isCell vs then (match overwrite cs o vs with
    | some cs' => some (H.put b (.cells cs' e fz))
    | none => none) else none else none
  | _ => none

noncomputable def AHeap.store (H : AHeap) (b o : Nat) (vs : List AVal) : Option AHeap :=
  match vs with
  | [] => some H
  | v :: vs => H.storeN b o (v :: vs)

noncomputable def AHeap.growN (H : AHeap) (b o : Nat) (vs : List AVal) : Option AHeap :=
  match H.get b with
  | some (.cells cs e fz) => bif fz.lets o then bif allL isCell vs then (match extend cs o vs with
    | some cs' => some (H.put b (.cells cs' e fz))
    | none => none) else none else none
  | _ => none

/-- a store at the end of what is known of a row -/
noncomputable def AHeap.grow (H : AHeap) (b o : Nat) (vs : List AVal) : Option AHeap :=
  match vs with
  | [] => some H
  | v :: vs => H.growN b o (v :: vs)

/-! ### equality of abstract values -/

def fnBeq (a b : Fn) : Bool := match a, b with
  | .func f, .func g => Nat.beq f g
  | .yield f, .yield g => Nat.beq f g
  | _, _ => false

def natsBeq : List Nat → List Nat → Bool
  | [], [] => true
  | x :: xs, y :: ys => bif Nat.beq x y then natsBeq xs ys else false
  | _, _ => false

mutual
def strBeq : AStr → AStr → Bool
  | .lit a, .lit b => natsBeq a b
  | .atom a, .atom b => Nat.beq a b
  | .app f a, .app g b => bif Nat.beq f g then strsBeq a b else false
  | _, _ => false
def strsBeq : List AStr → List AStr → Bool
  | [], [] => true
  | x :: xs, y :: ys => bif strBeq x y then strsBeq xs ys else false
  | _, _ => false
end

def intBeq : Int → Int → Bool
  | .ofNat a, .ofNat b => Nat.beq a b
  | .negSucc a, .negSucc b => Nat.beq a b
  | _, _ => false

def kindBeq : IntKind → IntKind → Bool
  | .i8, .i8 => true | .i16, .i16 => true | .i32, .i32 => true | .i64, .i64 => true
  | .u8, .u8 => true | .u16, .u16 => true | .u32, .u32 => true | .u64, .u64 => true
  | _, _ => false

def boolBeq : Bool → Bool → Bool
  | true, b => b
  | false, true => false
  | false, false => true

mutual
def AVal.beq : AVal → AVal → Bool
  | .bool a, .bool b => boolBeq a b
  | .int j a, .int k b => bif kindBeq j k then intBeq a b else false
  | .str a, .str b => strBeq a b
  | .isym a, .isym b => strBeq a b
  | .nilptr, .nilptr => true
  | .ptr a b, .ptr c d => bif Nat.beq a c then Nat.beq b d else false
  | .nilslice, .nilslice => true
  | .slice a b c d e f, .slice a' b' c' d' e' f' => bif Nat.beq a a' then bif Nat.beq b b' then bif Nat.beq c c' then bif Nat.beq d d' then bif boolBeq e e' then Nat.beq f f' else false else false else false else false else false
  | .nilmap, .nilmap => true
  | .map a, .map b => Nat.beq a b
  | .func f a b, .func g c d => bif fnBeq f g then bif AVal.beqs a c then AVal.beqs b d else false else false
  | .nilFunc, .nilFunc => true
  | .iface t a, .iface u b => bif Nat.beq t u then a.beq b else false
  | .nilIface, .nilIface => true
  | .agg a, .agg b => AVal.beqs a b
  | .tuple a, .tuple b => AVal.beqs a b
  | _, _ => false
def AVal.beqs : List AVal → List AVal → Bool
  | [], [] => true
  | x :: xs, y :: ys => bif x.beq y then AVal.beqs xs ys else false
  | _, _ => false
end

end Go.Ab
/- The abstract evaluator: single operations. -/
namespace Go.Ab

/-- What the evaluator is told: decisions about hidden texts, and functions that are answered by a contract ('some none': not here). -/
structure Env where
  P : Program
  globals : Nat
  eqs : AStr → AStr → Option Bool
  cmps : BinOp → AStr → Int → Option Bool
  cat : AStr → AStr → Option AStr
  orc : Nat → List AVal → AHeap → Option (Option (AVal × AHeap))

variable (E : Env)

def szOf (t : Nat) : Option Nat := match E.P.info? t with
  | some i => some i.size
  | none => none
def bytesT (t : Nat) : Option Nat := match E.P.info? t with
  | some i => some i.bytes
  | none => none
def under (t : Nat) : Option TypeDesc := E.P.underlying t
def aggB (t : Nat) : Option Bool := match under E t with
  | some (.struct _) => some true
  | some (.array _ _) => some true
  | some _ => some false
  | none => none
noncomputable def zeroA (t : Nat) : Option AVal := match E.P.info? t with
  | some i => match i.zero with
    | some v => absV v
    | none => none
  | none => none

/-- the cells of a type's zero value, as many as the type says -/
noncomputable def zeroCellsA (t : Nat) : Option (List AVal) :=
  match zeroA E t with
  | some z => match cellsO z with
    | some l => match szOf E t with
      | some s => bif Nat.beq (lenL l) s then some l else none
      | none => none
    | none => none
  | none => none

noncomputable def asAggA : Option (List AVal) → Option AVal
  | some l => some (.agg l)
  | none => none

noncomputable def partA (t : Nat) (cs : List AVal) (off : Nat) : Option AVal :=
  match aggB E t with
  | some true => match szOf E t with
    | some n => asAggA (takeN n (dropN off cs))
    | none => none
  | some false => nth cs off
  | none => none

noncomputable def loadA (t : Nat) (H : AHeap) (b o : Nat) : Option AVal :=
  match aggB E t with
  | some true => match szOf E t with
    | some n => asAggA (H.row b o n)
    | none => none
  | some false => H.cell b o
  | none => none

noncomputable def storeA (t : Nat) (H : AHeap) (b o : Nat) (v : AVal) : Option AHeap :=
  match szOf E t, cellsO v with
  | some n, some l => bif Nat.beq (lenL l) n then H.store b o l else none
  | _, _ => none

/-! ### numbers -/

/-- small numbers are not wrapped -/
def wrapI (k : IntKind) (n : Int) : Int :=
  match k, n with
  | .i64, .ofNat m => bif Nat.ble m 9223372036854775807 then .ofNat m else IntKind.i64.wrap (.ofNat m)
  | .u64, .ofNat m => bif Nat.ble m 18446744073709551615 then .ofNat m else IntKind.u64.wrap (.ofNat m)
  | k, n => k.wrap n

def negB : Bool → Bool
  | true => false
  | false => true

/-- a < b -/
def intLt : Int → Int → Bool
  | .ofNat a, .ofNat b => Nat.ble (Nat.succ a) b
  | .ofNat _, .negSucc _ => false
  | .negSucc _, .ofNat _ => true
  | .negSucc a, .negSucc b => Nat.ble (Nat.succ b) a

def isZero : Int → Bool
  | .ofNat 0 => true
  | _ => false

def arith (op : BinOp) (k : IntKind) (x y : Int) : Option AVal :=
  match op with
  | .add => some (.int k (wrapI k (Int.add x y)))
  | .sub => some (.int k (wrapI k (Int.sub x y)))
  | .mul => some (.int k (wrapI k (Int.mul x y)))
  | .quo => bif isZero y then none else some (.int k (wrapI k (x.tdiv y)))
  | .rem => bif isZero y then none else some (.int k (x.tmod y))
  | .and => some (.int k (k.wrap (BitVec.ofInt k.bits x &&& BitVec.ofInt k.bits y).toNat))
  | .or => some (.int k (k.wrap (BitVec.ofInt k.bits x ||| BitVec.ofInt k.bits y).toNat))
  | .xor => some (.int k (k.wrap (BitVec.ofInt k.bits x ^^^ BitVec.ofInt k.bits y).toNat))
  | .andNot => some (.int k (k.wrap (BitVec.ofInt k.bits x &&& ~~~BitVec.ofInt k.bits y).toNat))
  | .eql => some (.bool (intBeq x y))
  | .neq => some (.bool (negB (intBeq x y)))
  | .lss => some (.bool (intLt x y))
  | .leq => some (.bool (negB (intLt y x)))
  | .gtr => some (.bool (intLt y x))
  | .geq => some (.bool (negB (intLt x y)))
  | .shl => none
  | .shr => none

def shiftA (op : BinOp) (k : IntKind) (x y : Int) : Option AVal :=
  match y with
  | .negSucc _ => none
  | .ofNat y => match op with
    | .shl => some (.int k (k.wrap (x * 2 ^ (min y k.bits))))
    | .shr => some (.int k (x.fdiv (2 ^ (min y k.bits))))
    | _ => none

def natsLess : List Nat → List Nat → Bool
  | _, [] => false
  | [], _ :: _ => true
  | a :: x, b :: y => bif Nat.ble (Nat.succ a) b then true else bif Nat.beq a b then natsLess x y else false

def strCmp (x y : AStr) : Option Bool :=
  match x, y with
  | .lit a, .lit b => some (natsBeq a b)
  | x, y => bif strBeq x y then some true else E.eqs x y

def obool : Option Bool → Option AVal
  | some b => some (.bool b)
  | none => none
def onot : Option Bool → Option AVal
  | some b => some (.bool (negB b))
  | none => none

def ostr : Option AStr → Option AVal
  | some s => some (.str s)
  | none => none

noncomputable def strOp (op : BinOp) (x y : AStr) : Option AVal :=
  match op with
  | .eql => obool (strCmp E x y)
  | .neq => onot (strCmp E x y)
  | op => match x, y with
    | .lit a, .lit b => match op with
      | .add => bif Nat.ble (lenL a + lenL b) 1000000000 then some (.str (.lit (appL a b))) else none
      | .lss => some (.bool (natsLess a b))
      | .leq => some (.bool (bif natsLess a b then true else natsBeq a b))
      | .gtr => some (.bool (negB (bif natsLess a b then true else natsBeq a b)))
      | .geq => some (.bool (negB (natsLess a b)))
      | _ => none
    | x, y => match op with
      | .add => ostr (E.cat x y)
      | _ => none

/-! ### equality -/

mutual
/-- fuel, type, values -/
noncomputable def eqA : Nat → Nat → AVal → AVal → Option Bool
  | 0, _, _, _ => none
  | d + 1, t, x, y =>
    match under E t, x, y with
    | some .bool, .bool a, .bool b => some (boolBeq a b)
    | some (.int _), .int k a, .int k' b => bif kindBeq k k' then some (intBeq a b) else none
    | some .string, .str a, .str b => strCmp E a b
    | some (.pointer _), .nilptr, .nilptr => some true
    | some (.pointer _), .nilptr, .ptr _ _ => some false
    | some (.pointer _), .ptr _ _, .nilptr => some false
    | some (.pointer e), .ptr a o, .ptr b o' => match szOf E e with
      | some (_ + 1) => bif Nat.beq a b then some (Nat.beq o o') else none
      | _ => none
    | some (.interface _), .nilIface, .nilIface => some true
    | some (.interface _), .nilIface, .iface _ _ => some false
    | some (.interface _), .iface _ _, .nilIface => some false
    | some (.struct fs), .agg xs, .agg ys => bif E.P.stoodInHeld t then none else eqFields d fs.toList xs ys
    | some (.array n e), .agg xs, .agg ys =>
      match szOf E e with
      | some s => eqElems d e s n 0 xs ys
      | none => none
    | some (.slice _), .nilslice, .nilslice => some true
    | some (.slice _), .nilslice, .slice .. => some false
    | some (.slice _), .slice .., .nilslice => some false
    | some (.map _ _), .nilmap, .nilmap => some true
    | some (.map _ _), .nilmap, .map _ => some false
    | some (.map _ _), .map _, .nilmap => some false
    | some (.func _ _ _), .nilFunc, .nilFunc => some true
    | some (.func _ _ _), .nilFunc, .func .. => some false
    | some (.func _ _ _), .func .., .nilFunc => some false
    | _, _, _ => none
noncomputable def eqFields : Nat → List Field → List AVal → List AVal → Option Bool
  | 0, _, _, _ => none
  | _ + 1, [], _, _ => some true
  | d + 1, f :: fs, xs, ys =>
    match f.name == "_", partA E f.type xs f.offset, partA E f.type ys f.offset with
    | false, some a, some b =>
      match eqA d f.type a b with
      | some true => eqFields d fs xs ys
      | r => r
    | _, _, _ => none
noncomputable def eqElems : Nat → Nat → Nat → Nat → Nat → List AVal → List AVal → Option Bool
  | 0, _, _, _, _, _, _ => none
  | _ + 1, _, _, 0, _, _, _ => some true
  | d + 1, e, s, n + 1, i, xs, ys =>
    match partA E e xs (i * s), partA E e ys (i * s) with
    | some a, some b =>
      match eqA d e a b with
      | some true => eqElems d e s n (i + 1) xs ys
      | r => r
    | _, _ => none
end

noncomputable def eqOp (op : BinOp) (t : Nat) (x y : AVal) : Option AVal :=
  match op with
  | .eql => obool (eqA E 40 t x y)
  | .neq => onot (eqA E 40 t x y)
  | _ => none

noncomputable def binA (op : BinOp) (t : Nat) (c : Bool) (x y : AVal) : Option AVal :=
  match x, y with
  | .int k a, .int k' b =>
    match op with
    | .shl => shiftA .shl k a b
    | .shr => shiftA .shr k a b
    | op => bif kindBeq k k' then arith op k a b else none
  | .str a, .str b => strOp E op a b
  | .isym s, .int .i64 b => obool (E.cmps op s b)
  | .nilIface, .nilIface => bif c then eqOp E op t .nilIface .nilIface else none
  | .agg a, .agg b => bif E.P.eqGuardType E.P.depth t then none else eqOp E op t (.agg a) (.agg b)
  | x, y => eqOp E op t x y

def unA (op : UnOp) (x : AVal) : Option AVal :=
  match op, x with
  | .neg, .int k n => some (.int k (wrapI k (Int.sub 0 n)))
  | .xor, .int k n => some (.int k (k.wrap (BitVec.ofInt k.bits (if k.signed then -1 else k.max) ^^^ BitVec.ofInt k.bits n).toNat))
  | .not, .bool b => some (.bool (negB b))
  | _, _ => none

/-! ### aggregates -/

/-- as Instr.fill -/
noncomputable def fillA (place : Nat → Option (Nat × Nat)) : List AVal → List (Nat × AVal) → Option (List AVal)
  | cells, [] => some cells
  | cells, (i, v) :: rest =>
    match place i, cellsO v with
    | some (off, size), some l =>
      bif Nat.beq (lenL l) size then
        match overwrite cells off l with
        | some cells' => fillA place cells' rest
        | none => none
      else none
    | _, _ => none

def fieldsPlaces : List Field → Option (List (Nat × Nat))
  | [] => some []
  | f :: fs => match szOf E f.type with
    | some s => match fieldsPlaces fs with
      | some l => some ((f.offset, s) :: l)
      | none => none
    | none => none

noncomputable def buildA (t : Nat) (parts : List (Nat × AVal)) : Option AVal :=
  match zeroCellsA E t with
  | none => none
  | some z => match under E t with
    | some (.struct fs) => match fieldsPlaces E fs.toList with
      | some l => asAggA (fillA (nth l) z parts)
      | none => none
    | some (.array _ e) => match szOf E e with
      | some s => asAggA (fillA (fun i => some (Nat.mul i s, s)) z parts)
      | none => none
    | _ => none

noncomputable def copies (n : Nat) (z : List AVal) : List AVal := Nat.rec [] (fun _ l => appL z l) n

/-- the value that leads to a new block -/
inductive NewV where
  | ptr
  | map
  | slice (l c s : Nat)

def NewV.at (b : Nat) : NewV → AVal
  | .ptr => .ptr b 0
  | .map => .map b
  | .slice l c s => .slice b 0 l c true s

noncomputable def buildSliceC (len s : Nat) (z : List AVal) (e : Nat) (parts : List (Nat × AVal)) : Option (AObj × NewV) :=
  bif Nat.ble (Nat.mul len s) 16777216 then
    match fillA (fun i => some (Nat.mul i s, s)) (copies len z) parts with
    | some cs => some (.cells cs e .free, .slice len len s)
    | none => none
  else none

noncomputable def buildSliceA (t len : Nat) (parts : List (Nat × AVal)) : Option (AObj × NewV) :=
  match under E t with
  | some (.slice e) => match szOf E e with
    | some s => match zeroCellsA E e with
      | some z => buildSliceC len s z e parts
      | none => none
    | none => none
  | _ => none

/-! ### addresses, slices -/

def ptrAt (b o s : Nat) (n : Nat) (i : Int) : Option AVal :=
  match i with
  | .ofNat m => bif Nat.ble (Nat.succ m) n then some (.ptr b (Nat.add o (Nat.mul m s))) else none
  | .negSucc _ => none

def fieldAddrA (t : Nat) (x : AVal) (i : Nat) : Option AVal :=
  match x with
  | .ptr b o => match under E t with
    | some (.struct fs) => match fs[i]? with
      | some f => match szOf E f.type with
        | some (_ + 1) => some (.ptr b (Nat.add o f.offset))
        | _ => none
      | none => none
    | _ => none
  | _ => none

noncomputable def fieldA (t : Nat) (x : AVal) (i : Nat) : Option AVal :=
  match x with
  | .agg cs => match under E t with
    | some (.struct fs) => match fs[i]? with
      | some f => partA E f.type cs f.offset
      | none => none
    | _ => none
  | _ => none

def indexAddrA (t : Nat) (x i : AVal) : Option AVal :=
  match x, i with
  | .ptr b o, .int _ i => match under E t with
    | some (.array n e) => match szOf E e with
      | some s => ptrAt b o s n i
      | none => none
    | _ => none
  | .slice b o n _ _ _, .int _ i => match under E t with
    | some (.slice e) => match szOf E e with
      | some s => ptrAt b o s n i
      | none => none
    | _ => none
  | _, _ => none

noncomputable def indexA (t : Nat) (x i : AVal) : Option AVal :=
  match x, i with
  | .agg cs, .int _ (.ofNat i) => match under E t with
    | some (.array n e) => match szOf E e with
      | some s => bif Nat.ble (Nat.succ i) n then partA E e cs (Nat.mul i s) else none
      | none => none
    | _ => none
  | .str (.lit l), .int _ (.ofNat i) => match under E t with
    | some .string => match nth l i with
      | some c => some (.int .u8 (.ofNat c))
      | none => none
    | _ => none
  | _, _ => none

/-- an optional bound of a slice expression -/
def boundA (x : Option AVal) (dflt most : Nat) : Option Nat :=
  match x with
  | none => some dflt
  | some (.int _ (.ofNat i)) => bif Nat.ble i most then some i else none
  | some _ => none

noncomputable def sliceStr (l : List Nat) (lo hi : Option AVal) : Option AVal :=
  match boundA hi (lenL l) (lenL l) with
  | some h => match boundA lo 0 h with
    | some lo => match takeN (Nat.sub h lo) (dropN lo l) with
      | some l' => some (.str (.lit l'))
      | none => none
    | none => none
  | none => none

/-- low and high against a known most -/
def slicePair (lo hi : Option AVal) (len most : Nat) : Option (Nat × Nat) :=
  match boundA hi len most with
  | some h => match boundA lo 0 h with
    | some l => some (l, h)
    | none => none
  | none => none

def sliceSl (b o len cap : Nat) (exact : Bool) (s : Nat) (lo hi mx : Option AVal) : Option AVal :=
  match mx with
  | none => match slicePair lo hi len cap with
    | some (l, h) => some (.slice b (Nat.add o (Nat.mul l s)) (Nat.sub h l) (Nat.sub cap l) exact s)
    | none => none
  | some m => match boundA (some m) 0 cap with
    | some m => match hi with
      | some h => match slicePair lo (some h) 0 m with
        | some (l, h) => some (.slice b (Nat.add o (Nat.mul l s)) (Nat.sub h l) (Nat.sub m l) true s)
        | none => none
      | none => none
    | none => none

def sliceNil (lo hi mx : Option AVal) : Option AVal :=
  match mx with
  | none => match slicePair lo hi 0 0 with
    | some _ => some .nilslice
    | none => none
  | some m => match boundA (some m) 0 0 with
    | some m => match hi with
      | some h => match slicePair lo (some h) 0 m with
        | some _ => some .nilslice
        | none => none
      | none => none
    | none => none

/-- is the row at b known as far as n? -/
noncomputable def knownTo (H : AHeap) (b n : Nat) : Bool :=
  match H.get b with
  | some (.cells cs _ _) => Nat.ble n (lenL cs)
  | _ => false

noncomputable def sliceArr (n s b o : Nat) (lo hi : Option AVal) (H : AHeap) : Option AVal :=
  bif knownTo H b (Nat.add o (Nat.mul n s)) then
    match slicePair lo hi n n with
    | some (l, h) => some (.slice b (Nat.add o (Nat.mul l s)) (Nat.sub h l) (Nat.sub n l) true s)
    | none => none
  else none

noncomputable def sliceA (t : Nat) (x : AVal) (lo hi mx : Option AVal) (H : AHeap) : Option AVal :=
  match x with
  | .str (.lit l) => match under E t, mx with
    | some .string, none => sliceStr l lo hi
    | _, _ => none
  | .nilslice => match under E t with
    | some (.slice e) => match szOf E e with
      | some _ => sliceNil lo hi mx
      | none => none
    | _ => none
  | .slice b o len cap exact s => match under E t with
    | some (.slice e) => match szOf E e with
      | some s' => bif Nat.beq s s' then sliceSl b o len cap exact s lo hi mx else none
      | none => none
    | _ => none
  | .ptr b o => match under E t, mx with
    | some (.array n e), none => match szOf E e with
      | some s => sliceArr n s b o lo hi H
      | none => none
    | _, _ => none
  | _ => none

noncomputable def lenA (t : Nat) (x : AVal) (H : AHeap) : Option AVal :=
  match under E t with
  | some .string => match x with
    | .str (.lit l) => some (.int .i64 (.ofNat (lenL l)))
    | .str s => some (.isym s)
    | _ => none
  | some (.array n _) => some (.int .i64 (.ofNat n))
  | some (.slice _) => match x with
    | .nilslice => some (.int .i64 (.ofNat 0))
    | .slice _ _ n _ _ _ => some (.int .i64 (.ofNat n))
    | _ => none
  | some (.map _ _) => match x with
    | .nilmap => some (.int .i64 (.ofNat 0))
    | .map r => match H.get r with
      | some (.map es _) => some (.int .i64 (.ofNat (lenL es)))
      | _ => none
    | _ => none
  | _ => none

def capA (t : Nat) (x : AVal) : Option AVal :=
  match under E t with
  | some (.slice _) => match x with
    | .nilslice => some (.int .i64 (.ofNat 0))
    | .slice _ _ _ c true _ => some (.int .i64 (.ofNat c))
    | _ => none
  | _ => none

def minmaxA (isMax : Bool) : AVal → List AVal → Option AVal
  | x, [] => some x
  | .int k x, .int _ y :: rest => minmaxA isMax (.int k (bif isMax then (bif intLt x y then y else x) else (bif intLt y x then y else x))) rest
  | _, _ => none

noncomputable def makeSliceC (e s bs l c : Nat) (z : List AVal) : Option (AObj × NewV) :=
  bif Nat.ble l c then bif Nat.ble c 1000000000 then bif Nat.ble (Nat.mul bs c) 281474976710656 then
    some (.cells (copies c z) e .free, .slice l c s)
  else none else none else none

noncomputable def makeSliceA (t : Nat) (l c : AVal) : Option (AObj × NewV) :=
  match l, c with
  | .int .i64 (.ofNat l), .int .i64 (.ofNat c) => match under E t with
    | some (.slice e) => match szOf E e, bytesT E e, zeroCellsA E e with
      | some s, some bs, some z => makeSliceC e s bs l c z
      | _, _, _ => none
    | _ => none
  | _, _ => none

def u8 (c : Nat) : AVal := .int .u8 (.ofNat c)

noncomputable def orow (H : AHeap) (b o : Nat) : Nat → Option (List AVal)
  | 0 => some []
  | n + 1 => H.row b o (n + 1)

/-- the first n elements of what is appended or copied -/
noncomputable def elemsA (s n : Nat) (x : AVal) (H : AHeap) : Option (List AVal) :=
  match x with
  | .nilslice => match n with
    | 0 => some []
    | _ => none
  | .slice b o len _ _ s' => bif Nat.ble n len then bif Nat.beq s s' then orow H b o (Nat.mul n s) else none else none
  | .str (.lit l) => match takeN n l with
    | some l => bif Nat.beq s 1 then some (mapL u8 l) else none
    | none => none
  | _ => none

noncomputable def lenOfA : AVal → Option Nat
  | .nilslice => some 0
  | .slice _ _ n _ _ _ => some n
  | .str (.lit l) => some (lenL l)
  | _ => none

/-- what is added: how many elements, their cells -/
noncomputable def addedA (dx : TypeDesc) (s bs : Nat) (z : List AVal) (y : AVal) (H : AHeap) : Option (Nat × List AVal) :=
  match dx with
  | .int _ => match y with
    | .int .i64 (.ofNat n) => bif Nat.ble n 1000000000 then bif Nat.ble (Nat.mul bs n) 281474976710656 then some (n, copies n z) else none else none
    | _ => none
  | _ => match lenOfA y with
    | some n => match elemsA s n y H with
      | some l => some (n, l)
      | none => none
    | none => none

/-- room that the model always gives -/
def roomy (need bs : Nat) : Bool := bif Nat.ble need 1152921504606846976 then Nat.ble (Nat.mul (Nat.add (Nat.mul 2 need) 1000) bs) 140737488355328 else false

noncomputable def appendNew (e s bs need : Nat) (cells : List AVal) (H : AHeap) : Option (AVal × AHeap) :=
  bif roomy need bs then some (.slice H.next 0 need need false s, H.alloc (.cells cells e .free)) else none

/-- in place or not: the old row is given up -/
noncomputable def appendMaybe (e s bs b len need : Nat) (old new : List AVal) (H : AHeap) : Option (AVal × AHeap) :=
  bif roomy need bs then bif allL isCell new then
    match H.get b with
    | some (.cells _ e' fz) => bif Nat.beq e e' then bif fz.lets (Nat.mul len s) then
        some (.slice H.next 0 need need false s, (H.kill b).alloc (.cells (appL old new) e fz)) else none else none
    | _ => none
  else none else none

noncomputable def appendC (e s bs : Nat) (x : AVal) (n : Nat) (new : List AVal) (H : AHeap) : Option (AVal × AHeap) :=
  match x with
  | .nilslice => match n with
    | 0 => some (.nilslice, H)
    | n + 1 => appendNew e s bs (n + 1) new H
  | .slice b o len cap exact s0 =>
    bif Nat.beq s0 s then
      bif Nat.ble (Nat.add len n) cap then
        match H.grow b (Nat.add o (Nat.mul len s)) new with
        | some H' => some (.slice b o (Nat.add len n) cap exact s, H')
        | none => none
      else
        match elemsA s len x H with
        | none => none
        | some old =>
          bif exact then appendNew e s bs (Nat.add len n) (appL old new) H
          else match o with
            | 0 => appendMaybe e s bs b len (Nat.add len n) old new H
            | _ => none
    else none
  | _ => none

/-- append: what is there, how much, what is added -/
noncomputable def appendA (ts tx : Nat) (x y : AVal) (H : AHeap) : Option (AVal × AHeap) :=
  match under E ts with
  | some (.slice e) =>
    match szOf E e, bytesT E e, zeroCellsA E e, under E tx with
    | some (s' + 1), some bs, some z, some dx =>
      match addedA dx (s' + 1) bs z y H with
      | none => none
      | some (n, new) => appendC e (s' + 1) bs x n new H
    | _, _, _, _ => none
  | _ => none

noncomputable def copyA (td : Nat) (x y : AVal) (H : AHeap) : Option (AVal × AHeap) :=
  match under E td with
  | some (.slice e) =>
    match szOf E e, lenOfA x, lenOfA y with
    | some s, some dn, some sn =>
      match elemsA s (Nat.min sn dn) y H, x with
      | some new, .slice b o _ _ _ _ => match H.store b o new with
        | some H' => some (.int .i64 (.ofNat (Nat.min sn dn)), H')
        | none => none
      | some _, .nilslice => some (.int .i64 (.ofNat 0), H)
      | _, _ => none
    | _, _, _ => none
  | _ => none

noncomputable def clearA (t : Nat) (x : AVal) (H : AHeap) : Option AHeap :=
  match under E t with
  | some (.slice e) => match x with
    | .nilslice => some H
    | .slice _ _ 0 _ _ _ => some H
    | .slice b o n _ _ _ => match zeroCellsA E e with
      | some z => H.store b o (copies n z)
      | none => none
    | _ => none
  | _ => none

/-! ### maps -/

noncomputable def findA (t : Nat) (k : AVal) : List (AVal × AVal × Nat) → Nat → Option (Option (Nat × AVal × Nat))
  | [], _ => some none
  | (k', v) :: es, i =>
    match eqA E 40 t k k' with
    | some true => some (some (i, v))
    | some false => findA t k es (Nat.succ i)
    | none => none

/-- types of which 'checkKey' does nothing -/
noncomputable def flatT (t : Nat) : Bool :=
  match under E t with
  | some .bool => true
  | some (.int _) => true
  | some .string => true
  | _ => false

noncomputable def flatFields (cs : List AVal) : List Field → Bool
  | [] => true
  | f :: fs => bif flatT E f.type then match nth cs f.offset with
    | some _ => flatFields cs fs
    | none => false else false

/-- keys of which 'checkKey' does nothing -/
noncomputable def plainKey (t : Nat) (k : AVal) : Bool :=
  match under E t with
  | some .bool => true
  | some (.int _) => true
  | some .string => true
  | some (.array n e) => bif flatT E e then match szOf E e, k with
    | some 1, .agg cs => Nat.ble n (lenL cs)
    | _, _ => false else false
  | some (.struct fs) => match k with
    | .agg cs => flatFields E cs fs.toList
    | _ => false
  | _ => false

/-- the same key, as it is written -/
def sameKey1 : AVal → AVal → Bool
  | .bool a, .bool b => boolBeq a b
  | .int k a, .int j b => bif kindBeq k j then intBeq a b else false
  | .str a, .str b => strBeq a b
  | _, _ => false

def sameKeys : List AVal → List AVal → Bool
  | [], [] => true
  | x :: xs, y :: ys => bif sameKey1 x y then sameKeys xs ys else false
  | _, _ => false

def sameKey (x y : AVal) : Bool :=
  match x, y with
  | .agg xs, .agg ys => sameKeys xs ys
  | x, y => sameKey1 x y

noncomputable def entriesA (x : AVal) (H : AHeap) : Option (List (AVal × AVal × Nat)) :=
  match x with
  | .nilmap => some []
  | .map r => match H.get r with
    | some (.map es _) => some es
    | _ => none
  | _ => none

def okPair (ok : Bool) (v : AVal) (b : Bool) : AVal := bif ok then .tuple [v, .bool b] else v

noncomputable def lookupA (t : Nat) (x k : AVal) (ok : Bool) (H : AHeap) : Option AVal :=
  match under E t with
  | some (.map kt et) =>
    bif plainKey E kt k then
      match entriesA x H with
      | none => none
      | some es =>
        match findA E kt k es 0 with
        | some (some (_, v, _)) => some (okPair ok v true)
        | some none => match zeroA E et with
          | some z => some (okPair ok z false)
          | none => none
        | none => none
    else none
  | _ => none

/-- an entry's value is replaced -/
def setVal : List (AVal × AVal × Nat) → Nat → AVal → List (AVal × AVal × Nat)
  | [], _, _ => []
  | (k, _, b) :: es, 0, v => (k, v, b) :: es
  | e :: es, i + 1, v => e :: setVal es i v

noncomputable def mapSetC (kt r : Nat) (k v : AVal) (H : AHeap) : Option AHeap :=
  match H.get r with
  | some (.map es clock) =>
    match findA E kt k es 0 with
    | some (some (i, _)) => match nth es i with
      | some (ko, _) => bif sameKey ko k then some (H.put r (.map (setVal es i v) clock)) else none
      | none => none
    | some none => some (H.put r (.map (appL es [(k, v, clock)]) (Nat.succ clock)))
    | none => none
  | _ => none

noncomputable def mapSetA (t : Nat) (x k v : AVal) (H : AHeap) : Option AHeap :=
  match under E t, x with
  | some (.map kt _), .map r => bif plainKey E kt k then mapSetC E kt r k v H else none
  | _, _ => none

noncomputable def mapEntryA (t : Nat) (x k : AVal) (H : AHeap) : Option (AVal × AHeap) :=
  match under E t, x with
  | some (.map kt et), .map r =>
    bif plainKey E kt k then
      match H.get r with
      | some (.map es clock) =>
        match findA E kt k es 0 with
        | some (some (i, v, b)) => match nth es i with
          | some (ko, _) => bif sameKey ko k then some (.tuple [v, .int .i64 (.ofNat b)], H) else none
          | none => none
        | some none => match zeroA E et with
          | some z => some (.tuple [z, .int .i64 (.ofNat clock)], H.put r (.map (appL es [(k, z, clock)]) (Nat.succ clock)))
          | none => none
        | none => none
      | _ => none
    else none
  | _, _ => none

/-- the place of the entry with a stamp -/
def stampAt (b : Nat) : List (AVal × AVal × Nat) → Nat → Option Nat
  | [], _ => none
  | (_, _, c) :: es, i => bif Nat.beq c b then some i else stampAt b es (Nat.succ i)

noncomputable def entryStoreA (x stamp v : AVal) (H : AHeap) : Option AHeap :=
  match x, stamp with
  | .map r, .int _ (.ofNat b) =>
    match H.get r with
    | some (.map es clock) => match stampAt b es 0 with
      | some i => some (H.put r (.map (setVal es i v) clock))
      | none => none
    | _ => none
  | _, _ => none

noncomputable def rangeA (t : Nat) (x : AVal) (H : AHeap) : Option (AVal × AHeap) :=
  match under E t, x with
  | some (.map _ _), .nilmap => some (.ptr H.next 0, H.alloc (.mapIter none 0 [] 0))
  | some (.map _ _), .map m => match H.get m with
    | some (.map _ clock) => some (.ptr H.next 0, H.alloc (.mapIter (some m) clock [] clock))
    | _ => none
  | _, _ => none

def memN (x : Nat) : List Nat → Bool
  | [] => false
  | y :: l => bif Nat.beq x y then true else memN x l

/-- the entries that are left -/
def leftA (seen : List Nat) : List (AVal × AVal × Nat) → List (AVal × AVal × Nat)
  | [] => []
  | (k, v, b) :: es => bif memN b seen then leftA seen es else (k, v, b) :: leftA seen es

/-- do all entries that there are date from behind the last step? -/
def allNew (last : Nat) : List (AVal × AVal × Nat) → Bool
  | [] => true
  | (_, _, b) :: es => bif Nat.ble last b then allNew last es else false

def nextL (m since : Nat) (seen : List Nat) (clock : Nat) (left : List (AVal × AVal × Nat)) (H : AHeap) (put : AObj → AHeap) : Option (AVal × AHeap) :=
  match left with
  | [] => some (.tuple [.bool false], H)
  | [(k, v, b)] => bif Nat.ble (Nat.succ b) since then some (.tuple [.bool true, k, v], put (.mapIter (some m) since (seen ++ [b]) clock)) else none
  | _ => none

noncomputable def nextC (r m since : Nat) (seen : List Nat) (last : Nat) (H : AHeap) : Option (AVal × AHeap) :=
  match H.get m with
  | some (.map es clock) =>
    match seen, es with
    | _ :: _, _ :: _ => bif allNew last es then none else nextL m since seen clock (leftA seen es) H (H.put r)
    | _, _ => nextL m since seen clock (leftA seen es) H (H.put r)
  | _ => none

noncomputable def nextA (x : AVal) (H : AHeap) : Option (AVal × AHeap) :=
  match x with
  | .ptr r 0 =>
    match H.get r with
    | some (.mapIter none _ _ _) => some (.tuple [.bool false], H)
    | some (.mapIter (some m) since seen last) => nextC r m since seen last H
    | _ => none
  | _ => none

/-! ### conversions, interfaces, raw texts -/

def bytesIn : List AVal → Option (List Nat)
  | [] => some []
  | .int .u8 (.ofNat c) :: cs => bif Nat.ble c 255 then match bytesIn cs with
      | some l => some (c :: l)
      | none => none else none
  | _ => none

noncomputable def toStr (b o n : Nat) (H : AHeap) : Option AVal :=
  match orow H b o n with
  | some cs => match bytesIn cs with
    | some l => some (.str (.lit l))
    | none => none
  | none => none

noncomputable def toUnsafeA (t : Nat) (x : AVal) (H : AHeap) : Option (AVal × AHeap) :=
  match x with
  | .ptr b o => match szOf E t, H.get b with
    | some (_ + 1), some (.cells cs _ _) => bif Nat.ble (Nat.succ o) (lenL cs) then some (.ptr b o, H) else none
    | _, _ => none
  | _ => none

noncomputable def fromUnsafeA (u : Nat) (x : AVal) (H : AHeap) : Option (AVal × AHeap) :=
  match x with
  | .ptr b 0 => match szOf E u, H.get b with
    | some (s + 1), some (.cells cs e _) => bif Nat.beq e u then bif Nat.ble (s + 1) (lenL cs) then some (.ptr b 0, H) else none else none
    | _, _ => none
  | _ => none

noncomputable def convA (src dst : Nat) (x : AVal) (H : AHeap) : Option (AVal × AHeap) :=
  match under E src, under E dst with
  | some (.int _), some (.int k) => match x with
    | .int _ n => some (.int k (wrapI k n), H)
    | _ => none
  | some .string, some .string => match x with
    | .str s => some (.str s, H)
    | _ => none
  | some .string, some (.slice e) => match x with
    | .str (.lit l) => match under E e, szOf E e with
      | some (.int .u8), some 1 => some (.slice H.next 0 (lenL l) (lenL l) false 1, H.alloc (.cells (mapL u8 l) e .marked))
      | _, _ => none
    | _ => none
  | some (.slice e), some .string => match under E e, x with
    | some (.int .u8), .nilslice => some (.str (.lit []), H)
    | some (.int .u8), .slice b o n _ _ _ => match toStr b o n H with
      | some v => some (v, H)
      | none => none
    | _, _ => none
  | some .unsafePointer, some (.pointer u) => fromUnsafeA E u x H
  | some (.pointer t), some .unsafePointer => toUnsafeA E t x H
  | _, _ => none

def ifaceA (t : Nat) (x : AVal) : Option AVal :=
  match under E t with
  | some (.interface _) => none
  | some _ => some (.iface t x)
  | none => none

noncomputable def assertC (t : Nat) (ok : Bool) : Option AVal :=
  bif ok then match zeroA E t with
    | some z => some (.tuple [z, .bool false])
    | none => none else none

noncomputable def assertV (x : AVal) (t : Nat) (ok : Bool) : Option AVal :=
  match x with
  | .iface u v => bif Nat.beq u t then some (okPair ok v true) else assertC E t ok
  | .nilIface => assertC E t ok
  | _ => none

noncomputable def assertA (x : AVal) (t : Nat) (ok : Bool) : Option AVal :=
  match under E t with
  | some (.interface _) => none
  | some _ => assertV E x t ok
  | none => none

noncomputable def extractA (x : AVal) (i : Nat) : Option AVal :=
  match x with
  | .tuple [.tuple []] => none
  | .tuple vs => nth vs i
  | _ => none

def sliceDataA (x : AVal) : Option AVal :=
  match x with
  | .nilslice => some .nilptr
  | .slice b o _ (_ + 1) _ _ => some (.ptr b o)
  | _ => none

/-- marks on the first n cells -/
def frozenA (fz : Frz) (n : Nat) : Option Frz :=
  match fz with
  | .free => some (.upto n)
  | .upto h => some (.upto (Nat.max h n))
  | _ => none

noncomputable def unsafeStringC (_t u b n : Nat) (H : AHeap) : Option (AVal × AHeap) :=
  match H.get b with
  | some (.cells cs e fz) =>
    match under E u, szOf E e with
    | some (.int .u8), some 1 =>
      bif Nat.beq u e then bif Nat.ble n 1000000000 then
        match takeN n cs with
        | some l => match bytesIn l with
          | some s => match frozenA fz n with
            | some fz' => some (.str (.lit s), H.put b (.cells cs e fz'))
            | none => none
          | none => none
        | none => none
      else none else none
    | _, _ => none
  | _ => none

noncomputable def unsafeStringA (t : Nat) (p n : AVal) (H : AHeap) : Option (AVal × AHeap) :=
  match p, n with
  | .nilptr, .int .i64 (.ofNat 0) => some (.str (.lit []), H)
  | .ptr _ _, .int .i64 (.ofNat 0) => some (.str (.lit []), H)
  | .ptr b 0, .int .i64 (.ofNat (n + 1)) => match under E t with
    | some (.pointer u) => unsafeStringC E t u b (n + 1) H
    | _ => none
  | _, _ => none

end Go.Ab
/- The abstract evaluator: regions, statements, calls. -/
namespace Go.Ab

inductive ADef where
  | fn (f : Nat) (captured args : List AVal)
  | collected (d : Nat)

/-- what one operation comes to -/
inductive Op1 where
  | val (v : AVal) (H : AHeap)
  | skip (H : AHeap)
  | call (f : Nat) (args : List AVal)
  | round (l : Nat) (args : List AVal)
  | defer (d : ADef)
  | pan (v : AVal)
  | fail

def Op1.ofV (H : AHeap) : Option AVal → Op1
  | some v => .val v H
  | none => .fail
def Op1.ofVH : Option (AVal × AHeap) → Op1
  | some (v, H) => .val v H
  | none => .fail
noncomputable def Op1.ofNew (H : AHeap) : Option (AObj × NewV) → Op1
  | some (o, nv) => .val (nv.at H.next) (H.alloc o)
  | none => .fail
def Op1.ofH : Option AHeap → Op1
  | some H => .skip H
  | none => .fail

variable (E : Env)

def orUndef : Option AVal → AVal
  | some v => v
  | none => aundef

noncomputable def aeval (τ : Tr AVal) (x : Operand) : AVal :=
  match x with
  | .tmp t => orUndef (τ.get t)
  | .const v => orUndef (absV v)
  | .global g => bif Nat.ble (Nat.succ g) E.globals then .ptr g 0 else aundef
  | .func f => .func (.func f) [] []

def isConst (x : Operand) : Bool :=
  match x with
  | .const _ => true
  | _ => false

noncomputable def clearOp (t : Nat) (x : AVal) (H : AHeap) : Op1 :=
  match clearA E t x H with
  | some H' => .val (.tuple []) H'
  | none => .fail

noncomputable def builtin1 (b : Builtin) (t : Nat) (x : AVal) (H : AHeap) : Op1 :=
  match b with
  | .len => .ofV H (lenA E t x H)
  | .cap => .ofV H (capA E t x)
  | .clear => clearOp E t x H
  | .unsafeSliceData => .ofV H (sliceDataA x)
  | _ => .fail

noncomputable def builtin2 (b : Builtin) (t u : Nat) (x y : AVal) (H : AHeap) : Op1 :=
  match b with
  | .append => .ofVH (appendA E t u x y H)
  | .copy => .ofVH (copyA E t x y H)
  | .unsafeString => .ofVH (unsafeStringA E t x y H)
  | _ => .fail

noncomputable def builtinN (b : Builtin) (ts : List Nat) (args : List AVal) (H : AHeap) : Op1 :=
  match ts, args with
  | t :: _, [x] => builtin1 E b t x H
  | [t, u], [x, y] => builtin2 E b t u x y H
  | _, _ => .fail

noncomputable def builtinA (b : Builtin) (ts : List Nat) (args : List AVal) (H : AHeap) : Op1 :=
  match b with
  | .max => match args with
    | x :: xs => .ofV H (minmaxA true x xs)
    | [] => .fail
  | .min => match args with
    | x :: xs => .ofV H (minmaxA false x xs)
    | [] => .fail
  | b => builtinN E b ts args H

/-- the function that a method of a value with a dynamic type leads to -/
def methodA (t : Nat) (name : String) : Option (Nat × Bool) :=
  match E.P.info? t with
  | some i => match i.methods.find? (·.name == name) with
    | some m => bif m.path.isEmpty then m.func else none
    | none => none
  | none => none

def invokeA (x : AVal) (name : String) (args : List AVal) : Op1 :=
  match x with
  | .iface t v =>
    match methodA E t name, under E t with
    | some (f, true), some (.pointer _) => .call f (v :: args)
    | _, _ => .fail
  | _ => .fail

noncomputable def callV (f : AVal) (args : List AVal) : Op1 :=
  match f with
  | .func (.func g) first captured => .call g (appL first (appL args captured))
  | .func (.yield l) first [] => .round l (appL first args)
  | _ => .fail

noncomputable def callA (c : Call) (ρ : Operand → AVal) (H : AHeap) : Op1 :=
  match c.callee with
  | .builtin b => builtinA E b c.argTypes.toList (mapL ρ c.args.toList) H
  | .invoke r name => invokeA E (ρ r) name (mapL ρ c.args.toList)
  | .value f => callV (ρ f) (mapL ρ c.args.toList)

noncomputable def deferV (f : AVal) (args : List AVal) : Op1 :=
  match f with
  | .func (.func g) first captured => .defer (.fn g captured (appL first args))
  | _ => .fail

noncomputable def deferA (c : Call) (ρ : Operand → AVal) : Op1 :=
  match c.callee with
  | .value f => deferV (ρ f) (mapL ρ c.args.toList)
  | _ => .fail

def nilCheckA (x : AVal) : Option AVal :=
  match x with
  | .ptr b o => some (.ptr b o)
  | .func (.func f) a b => some (.func (.func f) a b)
  | .func (.yield f) a b => some (.func (.yield f) a b)
  | .iface t v => some (.iface t v)
  | _ => none

def pickA (c a b : AVal) : Option AVal :=
  match c with
  | .bool true => some a
  | .bool false => some b
  | _ => none

noncomputable def allocA (t : Nat) : Option (AObj × NewV) :=
  match zeroCellsA E t with
  | some z => some (.cells z t .free, .ptr)
  | none => none

noncomputable def boxA (t : Nat) (x : AVal) : Option (AObj × NewV) :=
  match cellsO x with
  | some l => some (.cells l t .free, .ptr)
  | none => none

noncomputable def loadOp (t : Nat) (a : AVal) (H : AHeap) : Op1 :=
  match a with
  | .ptr b o => .ofV H (loadA E t H b o)
  | _ => .fail

noncomputable def storeOp (t : Nat) (a v : AVal) (H : AHeap) : Op1 :=
  match a with
  | .ptr b o => .ofH (storeA E t H b o v)
  | _ => .fail

def panicOp (x : AVal) : Op1 :=
  match x with
  | .iface t v => .pan (.iface t v)
  | _ => .fail

noncomputable def oval (ρ : Operand → AVal) (x : Option Operand) : Option AVal :=
  match x with
  | some o => some (ρ o)
  | none => none

noncomputable def partsA (ρ : Operand → AVal) (ps : Array (Nat × Operand)) : List (Nat × AVal) := mapL (fun p => (p.1, ρ p.2)) ps.toList

noncomputable def opA (ρ : Operand → AVal) (op : Op) (H : AHeap) : Op1 :=
  match op with
  | .move x => .val (ρ x) H
  | .assign x => .val (ρ x) H
  | .pick c a b => .ofV H (pickA (ρ c) (ρ a) (ρ b))
  | .alloc t => .ofNew H (allocA E t)
  | .box t x => .ofNew H (boxA t (ρ x))
  | .build t ps => .ofV H (buildA E t (partsA ρ ps))
  | .buildSlice t n ps => .ofNew H (buildSliceA E t n (partsA ρ ps))
  | .insert t m k v => .ofH (mapSetA E t (ρ m) (ρ k) (ρ v) H)
  | .load t a => loadOp E t (ρ a) H
  | .store t a v => storeOp E t (ρ a) (ρ v) H
  | .nilCheck x => .ofV H (nilCheckA (ρ x))
  | .binOp op t x y _ => .ofV H (binA E op t (bif isConst x then true else isConst y) (ρ x) (ρ y))
  | .unOp op _ x => .ofV H (unA op (ρ x))
  | .convert s d x => .ofVH (convA E s d (ρ x) H)
  | .makeInterface t x => .ofV H (ifaceA E t (ρ x))
  | .makeFunc (.func f) first captured => .val (.func (.func f) (mapL ρ first.toList) (mapL ρ captured.toList)) H
  | .makeMap _ none => .ofNew H (some (.map [] 0, .map))
  | .makeSlice t l c => .ofNew H (makeSliceA E t (ρ l) (ρ c))
  | .slice t x lo hi mx => .ofV H (sliceA E t (ρ x) (oval ρ lo) (oval ρ hi) (oval ρ mx) H)
  | .fieldAddr t x f => .ofV H (fieldAddrA E t (ρ x) f)
  | .field t x f => .ofV H (fieldA E t (ρ x) f)
  | .indexAddr t x i => .ofV H (indexAddrA E t (ρ x) (ρ i))
  | .index t x i => .ofV H (indexA E t (ρ x) (ρ i))
  | .lookup t x k ok => .ofV H (lookupA E t (ρ x) (ρ k) ok H)
  | .mapUpdate t m k v => .ofH (mapSetA E t (ρ m) (ρ k) (ρ v) H)
  | .mapEntry t m k => .ofVH (mapEntryA E t (ρ m) (ρ k) H)
  | .entryStore _ m b v => .ofH (entryStoreA (ρ m) (ρ b) (ρ v) H)
  | .range t x => .ofVH (rangeA E t (ρ x) H)
  | .next x false => .ofVH (nextA (ρ x) H)
  | .typeAssert x _ t ok => .ofV H (assertA E (ρ x) t ok)
  | .extract x i => .ofV H (extractA (ρ x) i)
  | .call c => callA E c ρ H
  | .defer c => deferA c ρ
  | .panic x => panicOp (ρ x)
  | _ => .fail

/-- the new block of an operation that lays one and does nothing else -/
noncomputable def newOf (ρ : Operand → AVal) (op : Op) : Option (AObj × NewV) :=
  match op with
  | .alloc t => allocA E t
  | .box t x => boxA t (ρ x)
  | .buildSlice t n ps => buildSliceA E t n (partsA ρ ps)
  | .makeMap _ none => some (.map [] 0, .map)
  | .makeSlice t l c => makeSliceA E t (ρ l) (ρ c)
  | _ => none

/-! ### activations -/

noncomputable def putA (τ : Tr AVal) (d : Option Nat) (v : AVal) : Tr AVal :=
  match d with
  | some d => τ.set (some v) (Nat.succ d) d
  | none => τ

abbrev Chain := List (AVal × Bool)

inductive AExit where
  | normal
  | exit (id : Nat)
  | ret
  | pan (ch : Chain)

inductive Out where
  | st (e : AExit) (τ : Tr AVal) (ds : List ADef) (H : AHeap)
  | val (v : AVal) (H : AHeap)
  | pan (ch : Chain) (H : AHeap)
  /-- in a deferred call: with the mode of the frame below -/
  | sts (e : AExit) (τ : Tr AVal) (ds : List ADef) (H : AHeap) (m : Option Chain)
  /-- a deferred call has ended: what it came to, the mode of the frame below -/
  | dval (m : Option Chain) (H : AHeap)
  | dpan (ch : Chain) (m : Option Chain) (H : AHeap)

def boolIs (want : Bool) (v : Option AVal) : Option Bool :=
  match v with
  | some (.bool b) => some (boolBeq b want)
  | some (.tuple [.tuple []]) => some false
  | _ => none

/-- is the operation wanted? -/
noncomputable def wantedA (ops : Array Oper) (τ : Tr AVal) (g : Option (Nat × Bool)) : Option Bool :=
  match g with
  | none => some true
  | some (j, want) =>
    match ops[j]? with
    | some o => match o.dst with
      | some d => boolIs want (τ.get d)
      | none => some false
    | none => some false

/-! ### regions whose order is open -/

inductive Kind where
  | pure | read | new | act

def Kind.isAct : Kind → Bool
  | .act => true
  | _ => false

def kindConv (s d : Option TypeDesc) : Kind :=
  match s, d with
  | some (.int _), some (.int _) => .pure
  | _, _ => .act

def kindLen (t : Option TypeDesc) : Kind :=
  match t with
  | some (.map ..) => .read
  | _ => .pure

def kindSlice (t : Option TypeDesc) : Kind :=
  match t with
  | some (.array ..) => .read
  | _ => .pure

def kindBuiltin (b : Builtin) (t : Nat) : Kind :=
  match b with
  | .len => kindLen (under E t)
  | .cap => .pure
  | .min => .pure
  | .max => .pure
  | .unsafeSliceData => .pure
  | _ => .act

def kindOf (op : Op) : Kind :=
  match op with
  | .load .. => .read
  | .lookup .. => .read
  | .alloc _ => .new
  | .box .. => .new
  | .buildSlice .. => .new
  | .makeMap .. => .new
  | .makeSlice .. => .new
  | .move _ => .pure
  | .assign _ => .pure
  | .pick .. => .pure
  | .build .. => .pure
  | .nilCheck _ => .pure
  | .binOp .. => .pure
  | .unOp .. => .pure
  | .makeInterface .. => .pure
  | .makeFunc .. => .pure
  | .slice t .. => kindSlice (under E t)
  | .fieldAddr .. => .pure
  | .field .. => .pure
  | .indexAddr .. => .pure
  | .index .. => .pure
  | .typeAssert .. => .pure
  | .extract .. => .pure
  | .convert s d _ => kindConv (under E s) (under E d)
  | .call c => match c.callee with
    | .builtin b => kindBuiltin E b (c.argTypes.getD 0 0)
    | _ => .act
  | _ => .act

/-- what is known of an operation of a region ahead of any run: its kind; its place; who comes before it in any order (the bits of a number); how many acts have come before it at least, at most -/
structure Slot where
  oper : Oper
  kind : Kind
  ix : Nat
  before : Nat
  lo : Nat
  hi : Nat

def ancStep (i : Nat) (bs : List Nat) (s : Option Nat) (e : Edge) : Option Nat :=
  match s with
  | none => none
  | some m => bif Region.binds .any e then (bif Nat.ble (Nat.succ e.on) i then some (Nat.lor (Nat.lor m (Nat.shiftLeft 1 e.on)) (bs.getD e.on 0)) else none) else some m

/-- the operations that come before, as the bits of a number -/
def ancestors (o : Oper) (i : Nat) (bs : List Nat) : Option Nat := o.after.toList.foldl (ancStep i bs) (some 0)

def allAncestors : List Oper → Nat → List Nat → Option (List Nat)
  | [], _, bs => some bs
  | o :: os, i, bs => match ancestors o i bs with
    | some m => allAncestors os (Nat.succ i) (bs ++ [m])
    | none => none

def tmpsOf (l : List Operand) : List Nat := l.filterMap fun | .tmp t => some t | _ => none

/-- the temporaries at which an operation looks -/
def looks (ops : Array Oper) (o : Oper) : List Nat :=
  tmpsOf o.op.operands.toList ++ (match o.guard with | some (j, _) => ((ops[j]?).bind (·.dst)).toList | none => [])

def countB (n : Nat) (p : Nat → Bool) : Nat := ((List.range n).filter p).length

def sameDst (a b : Option Nat) : Bool :=
  match a, b with
  | some x, some y => Nat.beq x y
  | _, _ => false

def dstIn (d : Option Nat) (l : List Nat) : Bool :=
  match d with
  | some d => memN d l
  | none => false

/-- what a pair j < i of operations must meet -/
def pairOk (ki kj : Kind) (before : Bool) (di dj : Option Nat) (li lj : List Nat) : Bool :=
  (match ki, kj with
   | .act, .act => before
   | .act, .new => before
   | _, _ => true) && negB (sameDst di dj) && (before || (negB (dstIn dj li) && negB (dstIn di lj)))

structure Row where
  kind : Kind
  before : Nat
  dst : Option Nat
  looks : List Nat

def rowsOk : List Row → Nat → List Row → Bool
  | [], _, _ => true
  | r :: rest, i, done =>
    (List.range i).all (fun j => match done[j]? with
      | some q => pairOk r.kind q.kind (r.before.testBit j) r.dst q.dst r.looks q.looks
      | none => false) && rowsOk rest (i + 1) (done ++ [r])

def rowOf (ops : Array Oper) (o : Oper) (b : Nat) : Row := { kind := kindOf E o.op, before := b, dst := o.dst, looks := looks ops o }

/-- how many acts lie ahead of the place, in the text -/
def actsTo (rows : List Row) (i : Nat) : Nat := ((rows.take i).filter fun q => q.kind.isAct).length

def loOf (rows : List Row) (before : Nat) : List Row → Nat → Nat
  | [], _ => 0
  | q :: l, j => if q.kind.isAct && before.testBit j then max (actsTo rows j + 1) (loOf rows before l (j + 1)) else loOf rows before l (j + 1)

def hiOf (rows : List Row) (i : Nat) : List Row → Nat → Nat
  | [], _ => rows.length
  | q :: l, j => if q.kind.isAct && q.before.testBit i then min (actsTo rows j) (hiOf rows i l (j + 1)) else hiOf rows i l (j + 1)

def slotOf (rows : List Row) (i : Nat) (o : Oper) (r : Row) : Slot :=
  { oper := o, kind := r.kind, ix := i, before := r.before, lo := loOf rows r.before rows 0, hi := hiOf rows i rows 0 }

def slotsOf (rows : List Row) : List Oper → List Row → Nat → List Slot
  | o :: os, r :: rs, i => slotOf rows i o r :: slotsOf rows os rs (i + 1)
  | _, _, _ => []

def rowsOf (ops : Array Oper) : List Oper → List Nat → List Row
  | o :: os, b :: bs => rowOf E ops o b :: rowsOf ops os bs
  | _, _ => []

def slots (ops : Array Oper) : Option (List Slot) :=
  match allAncestors ops.toList 0 [] with
  | none => none
  | some bs => bif rowsOk (rowsOf E ops ops.toList bs) 0 [] then some (slotsOf (rowsOf E ops ops.toList bs) ops.toList (rowsOf E ops ops.toList bs) 0) else none

/-- a reading operation as it was carried out -/
structure Read where
  op : Op
  τ : Tr AVal
  v : AVal
  at_ : Nat
  lo : Nat
  hi : Nat

/-- the value of a reading operation in another memory -/
noncomputable def readAgain (r : Read) (H : AHeap) : Bool :=
  match opA E (aeval E r.τ) r.op H with
  | .val v _ => v.beq r.v
  | _ => false

noncomputable def checkAt (r : Read) (k : Nat) (H : AHeap) : Bool :=
  bif Nat.ble r.lo k then bif Nat.ble k r.hi then bif Nat.beq k r.at_ then true else readAgain E r H else true else true

noncomputable def checkRead (r : Read) : List AHeap → Nat → Bool
  | [], _ => true
  | H :: hs, k => bif checkAt E r k H then checkRead r hs (Nat.succ k) else false

noncomputable def checkReads (hs : List AHeap) : List Read → Bool
  | [] => true
  | r :: rs => bif checkRead E r hs 0 then checkReads hs rs else false

/-- how far a region has come: the memory behind each act, from the beginning on; how many acts; what was read; an act that panicked, and the memory behind it -/
structure Prog where
  base : Nat
  hs : List AHeap
  k : Nat
  reads : List Read
  dead : Option (Nat × Chain × AHeap)
  /-- the temporaries at the region's beginning -/
  tau : Tr AVal

inductive Task where
  | code (ro : Option Nat) (c : Code) (τ : Tr AVal) (ds : List ADef) (H : AHeap)
  | codeS (c : Code) (τ : Tr AVal) (ds : List ADef) (H : AHeap) (m : Option Chain)
  | ops (ro : Option Nat) (all : Array Oper) (l : List Oper) (τ : Tr AVal) (ds : List ADef) (H : AHeap)
  | opsS (all : Array Oper) (l : List Oper) (τ : Tr AVal) (ds : List ADef) (H : AHeap) (m : Option Chain)
  | draw (ro : Option Nat) (all : Array Oper) (l : List Slot) (τ : Tr AVal) (ds : List ADef) (H : AHeap) (p : Prog)
  | call (f : Nat) (args : List AVal) (H : AHeap)
  | callD (f : Nat) (args : List AVal) (m : Option Chain) (H : AHeap)
  | round (l : Nat) (args : List AVal) (H : AHeap)
  /-- the way out: deferred calls, the mode (none: it returns) -/
  | leave (fn : Func) (τ : Tr AVal) (ds : List ADef) (m : Option Chain) (H : AHeap)

noncomputable def enterTr : List AVal → Nat → Tr AVal → Tr AVal
  | [], _, τ => τ
  | v :: vs, i, τ => enterTr vs (Nat.succ i) (τ.set (some v) (Nat.succ i) i)

noncomputable def resultAt (t : Nat) (a : AVal) (H : AHeap) : Option AVal :=
  match a with
  | .ptr b o => loadA E t H b o
  | _ => none

noncomputable def resultA (τ : Tr AVal) (H : AHeap) (r : ResultVar) : Option AVal :=
  match r with
  | .tmp t => some (orUndef (τ.get t))
  | .cell a t => resultAt E t (orUndef (τ.get a)) H

noncomputable def resultsA (τ : Tr AVal) (H : AHeap) : List ResultVar → Option (List AVal)
  | [] => some []
  | r :: rs => match resultA E τ H r with
    | some v => match resultsA τ H rs with
      | some vs => some (v :: vs)
      | none => none
    | none => none

noncomputable def resultOf (fn : Func) (τ : Tr AVal) (H : AHeap) : Option AVal :=
  match resultsA E τ H fn.results.toList with
  | some [v] => some v
  | some vs => some (.tuple vs)
  | none => none

/-- 'settle' -/
def settleA (m : Option Chain) : Option Chain :=
  match m with
  | some ((_, true) :: _) => none
  | m => m

/-- 'raised' -/
def raisedA (m : Option Chain) (ch : Chain) : Option Chain :=
  match m with
  | some old => some (ch ++ old)
  | none => some ch

def isRecover (op : Op) : Bool :=
  match op with
  | .call c => match c.callee with
    | .builtin .recover => true
    | _ => false
  | _ => false

def usesDefer (op : Op) : Bool :=
  match op with
  | .defer _ => true
  | _ => false

/-- deferred calls within a round are not taken in -/
def okRound (ro : Option Nat) (op : Op) : Bool :=
  match ro with
  | none => true
  | some _ => negB (usesDefer op)

section steps
variable (rec : Task → Option Out)

/-- on behind an operation that was carried out -/
noncomputable def opsNext (ro : Option Nat) (all : Array Oper) (l : List Oper) (dst : Option Nat) (τ : Tr AVal) (ds : List ADef) (H : AHeap) (r : Op1) : Option Out :=
  match r with
  | .val v H' => rec (.ops ro all l (putA τ dst v) ds H')
  | .skip H' => rec (.ops ro all l (putA τ dst aundef) ds H')
  | .defer d => rec (.ops ro all l (putA τ dst aundef) (d :: ds) H)
  | .pan v => some (.st (.pan [(v, false)]) τ ds H)
  | .call f args =>
    match rec (.call f args H) with
    | some (.val v H') => rec (.ops ro all l (putA τ dst v) ds H')
    | some (.pan ch H') => some (.st (.pan ch) τ ds H')
    | _ => none
  | .round i args =>
    match rec (.round i args H) with
    | some (.val v H') => rec (.ops ro all l (putA τ dst v) ds H')
    | _ => none
  | .fail => none

noncomputable def opsStep (ro : Option Nat) (all : Array Oper) (o : Oper) (l : List Oper) (τ : Tr AVal) (ds : List ADef) (H : AHeap) : Option Out :=
  match wantedA all τ o.guard with
  | some true => bif okRound ro o.op then opsNext rec ro all l o.dst τ ds H (opA E (aeval E τ) o.op H) else none
  | some false => rec (.ops ro all l (putA τ o.dst aund) ds H)
  | none => none

noncomputable def opsSNext (all : Array Oper) (l : List Oper) (dst : Option Nat) (τ : Tr AVal) (ds : List ADef) (H : AHeap) (m : Option Chain) (r : Op1) : Option Out :=
  match r with
  | .val v H' => rec (.opsS all l (putA τ dst v) ds H' m)
  | .skip H' => rec (.opsS all l (putA τ dst aundef) ds H' m)
  | .pan v => some (.sts (.pan [(v, false)]) τ ds H m)
  | _ => none

noncomputable def recoverStep (all : Array Oper) (l : List Oper) (dst : Option Nat) (τ : Tr AVal) (ds : List ADef) (H : AHeap) (m : Option Chain) : Option Out :=
  match m with
  | some ((v, false) :: older) => rec (.opsS all l (putA τ dst v) ds H (some ((v, true) :: older)))
  | m => rec (.opsS all l (putA τ dst .nilIface) ds H m)

noncomputable def opsSStep (all : Array Oper) (o : Oper) (l : List Oper) (τ : Tr AVal) (ds : List ADef) (H : AHeap) (m : Option Chain) : Option Out :=
  match wantedA all τ o.guard with
  | some true => bif isRecover o.op then recoverStep rec all l o.dst τ ds H m
    else opsSNext rec all l o.dst τ ds H m (opA E (aeval E τ) o.op H)
  | some false => rec (.opsS all l (putA τ o.dst aund) ds H m)
  | none => none

/-- no longer known: the temporaries that a region's operations set -/
noncomputable def forgetDsts : List Oper → Tr AVal → Tr AVal
  | [], τ => τ
  | o :: l, τ => forgetDsts l (putA τ o.dst aundef)

noncomputable def drawEnd (all : Array Oper) (τ : Tr AVal) (ds : List ADef) (H : AHeap) (p : Prog) : Option Out :=
  bif checkReads E p.hs p.reads then
    match p.dead with
    | none => some (.st .normal τ ds H)
    | some (_, ch, H') => some (.st (.pan ch) (forgetDsts all.toList p.tau) ds H')
  else none

noncomputable def drawAct (ro : Option Nat) (all : Array Oper) (i : Nat) (l : List Slot) (dst : Option Nat) (τ : Tr AVal) (ds : List ADef) (H : AHeap) (p : Prog) (r : Op1) : Option Out :=
  match r with
  | .val v H' => rec (.draw ro all l (putA τ dst v) ds H' ⟨p.base, appL p.hs [H'], Nat.succ p.k, p.reads, none, p.tau⟩)
  | .skip H' => rec (.draw ro all l (putA τ dst aundef) ds H' ⟨p.base, appL p.hs [H'], Nat.succ p.k, p.reads, none, p.tau⟩)
  | .pan v => rec (.draw ro all l τ ds H ⟨p.base, p.hs, p.k, p.reads, some (i, [(v, false)], H), p.tau⟩)
  | .call f args =>
    match rec (.call f args H) with
    | some (.val v H') => rec (.draw ro all l (putA τ dst v) ds H' ⟨p.base, appL p.hs [H'], Nat.succ p.k, p.reads, none, p.tau⟩)
    | some (.pan ch H') => rec (.draw ro all l τ ds H ⟨p.base, p.hs, p.k, p.reads, some (i, ch, H'), p.tau⟩)
    | _ => none
  | .round j args =>
    match rec (.round j args H) with
    | some (.val v H') => rec (.draw ro all l (putA τ dst v) ds H' ⟨p.base, appL p.hs [H'], Nat.succ p.k, p.reads, none, p.tau⟩)
    | _ => none
  | _ => none

noncomputable def drawPure (ro : Option Nat) (all : Array Oper) (x : Slot) (l : List Slot) (τ : Tr AVal) (ds : List ADef) (H : AHeap) (p : Prog) (r : Op1) : Option Out :=
  match r with
  | .val v _ => rec (.draw ro all l (putA τ x.oper.dst v) ds H p)
  | _ => none

noncomputable def drawRead (ro : Option Nat) (all : Array Oper) (x : Slot) (l : List Slot) (τ : Tr AVal) (ds : List ADef) (H : AHeap) (p : Prog) (r : Op1) : Option Out :=
  match r with
  | .val v _ => rec (.draw ro all l (putA τ x.oper.dst v) ds H ⟨p.base, p.hs, p.k, ⟨x.oper.op, τ, v, p.k, x.lo, x.hi⟩ :: p.reads, p.dead, p.tau⟩)
  | _ => none

noncomputable def drawNew (ro : Option Nat) (all : Array Oper) (x : Slot) (l : List Slot) (τ : Tr AVal) (ds : List ADef) (H : AHeap) (p : Prog) (b : Nat) (r : Option (AObj × NewV)) : Option Out :=
  match r with
  | some (o, nv) => rec (.draw ro all l (putA τ x.oper.dst (nv.at b)) ds (H.put b o) p)
  | none => none

/-- an operation that comes behind an act that panicked, in any order -/
def passedBy (x : Slot) (p : Prog) : Bool :=
  match p.dead with
  | none => false
  | some (d, _) => x.before.testBit d

noncomputable def drawUnwanted (ro : Option Nat) (all : Array Oper) (x : Slot) (l : List Slot) (τ : Tr AVal) (ds : List ADef) (H : AHeap) (p : Prog) : Option Out :=
  match x.kind with
  | .act => rec (.draw ro all l (putA τ x.oper.dst aund) ds H ⟨p.base, appL p.hs [H], Nat.succ p.k, p.reads, p.dead, p.tau⟩)
  | _ => rec (.draw ro all l (putA τ x.oper.dst aund) ds H p)

noncomputable def drawStep (ro : Option Nat) (all : Array Oper) (x : Slot) (l : List Slot) (τ : Tr AVal) (ds : List ADef) (H : AHeap) (p : Prog) : Option Out :=
  bif passedBy x p then rec (.draw ro all l τ ds H p) else
  match wantedA all τ x.oper.guard with
  | some true =>
    bif okRound ro x.oper.op then
      match x.kind with
      | .act => drawAct rec ro all x.ix l x.oper.dst τ ds H p (opA E (aeval E τ) x.oper.op H)
      | .pure => drawPure rec ro all x l τ ds H p (opA E (aeval E τ) x.oper.op H)
      | .read => drawRead rec ro all x l τ ds H p (opA E (aeval E τ) x.oper.op H)
      | .new => drawNew rec ro all x l τ ds H p (Nat.add p.base x.ix) (newOf E (aeval E τ) x.oper.op)
    else none
  | some false => drawUnwanted rec ro all x l τ ds H p
  | none => none

/-- behind the function that was ranged over -/
noncomputable def rangeEnd (ro : Option Nat) (l : Nat) (τ : Tr AVal) (ds : List ADef) (H : AHeap) (r : ALoop) : Option Out :=
  match r.state with
  | .busy => none
  | _ =>
    match r.pending with
    | none => some (.st .normal τ ds (H.put l (.loop { r with state := .exhausted })))
    | some c => rec (.code ro c τ ds (H.put l (.loop { r with state := .exhausted })))

/-- does the function have a body to enter? -/
def hasBody (f : Nat) : Bool :=
  match E.P.funcs[f]? with
  | some fn => match fn.body with
    | some _ => negB (fn.name == "runtime.NumGoroutine")
    | none => false
  | none => false

noncomputable def rangeGo (ro : Option Nat) (g : Nat) (captured : List AVal) (params : Array Tmp) (assign body : Code) (τ : Tr AVal) (ds : List ADef) (H : AHeap) (D : Nat) : Option Out :=
  match rec (.call g (.func (.yield H.next) [] [] :: captured) (H.alloc (.loop ⟨.ready, none, τ, params.toList, assign, body, D⟩))) with
  | some (.val _ H3) =>
    match H3.get H.next with
    | some (.loop r) => rangeEnd rec ro H.next τ ds H3 r
    | _ => none
  | some (.pan ch H3) => some (.st (.pan ch) τ ds H3)
  | _ => none

noncomputable def rangeStep (ro : Option Nat) (f : AVal) (params : Array Tmp) (assign body : Code) (τ : Tr AVal) (ds : List ADef) (H : AHeap) : Option Out :=
  match f with
  | .func (.func g) [] captured =>
    bif hasBody E g then
    match ro with
    | none => rangeGo rec ro g captured params assign body τ (.collected H.next :: ds) (H.alloc (.deferred false)) H.next
    | some l => match H.get l with
      | some (.loop r) => rangeGo rec ro g captured params assign body τ ds H r.defers
      | _ => none
    else none
  | _ => none

noncomputable def seqStep (ro : Option Nat) (b : Code) (r : Option Out) : Option Out :=
  match r with
  | some (.st .normal τ ds H) => rec (.code ro b τ ds H)
  | r => r

noncomputable def condStep (ro : Option Nat) (c : AVal) (a b : Code) (τ : Tr AVal) (ds : List ADef) (H : AHeap) : Option Out :=
  match c with
  | .bool true => rec (.code ro a τ ds H)
  | .bool false => rec (.code ro b τ ds H)
  | _ => none

def blockStep (id : Nat) (r : Option Out) : Option Out :=
  match r with
  | some (.st (.exit id') τ ds H) => bif Nat.beq id' id then some (.st .normal τ ds H) else some (.st (.exit id') τ ds H)
  | r => r

noncomputable def regionDraw (ro : Option Nat) (ops : Array Oper) (τ : Tr AVal) (ds : List ADef) (H : AHeap) (l : Option (List Slot)) : Option Out :=
  match l with
  | some l => rec (.draw ro ops l τ ds ⟨Nat.add H.next ops.size, H.objs⟩ ⟨H.next, [⟨Nat.add H.next ops.size, H.objs⟩], 0, [], none, τ⟩)
  | none => none

noncomputable def codeStep (ro : Option Nat) (c : Code) (τ : Tr AVal) (ds : List ADef) (H : AHeap) : Option Out :=
  match c with
  | .skip => some (.st .normal τ ds H)
  | .label _ => some (.st .normal τ ds H)
  | .region _ ops d => match d with
    | false => rec (.ops ro ops ops.toList τ ds H)
    | true => regionDraw rec ro ops τ ds H (slots E ops)
  | .seq a b => seqStep rec ro b (rec (.code ro a τ ds H))
  | .cond c a b => condStep rec ro (aeval E τ c) a b τ ds H
  | .block id b => blockStep id (rec (.code ro b τ ds H))
  | .loop b => seqStep rec ro (.loop b) (rec (.code ro b τ ds H))
  | .exit id => some (.st (.exit id) τ ds H)
  | .scope b => rec (.code ro b τ ds H)
  | .ret => some (.st .ret τ ds H)
  | .rangeFunc f params assign body => rangeStep E rec ro (aeval E τ f) params assign body τ ds H
  | _ => none

noncomputable def seqSStep (b : Code) (r : Option Out) : Option Out :=
  match r with
  | some (.sts .normal τ ds H m) => rec (.codeS b τ ds H m)
  | r => r

noncomputable def condSStep (c : AVal) (a b : Code) (τ : Tr AVal) (ds : List ADef) (H : AHeap) (m : Option Chain) : Option Out :=
  match c with
  | .bool true => rec (.codeS a τ ds H m)
  | .bool false => rec (.codeS b τ ds H m)
  | _ => none

def plainS (m : Option Chain) (r : Option Out) : Option Out :=
  match r with
  | some (.st e τ ds H) => some (.sts e τ ds H m)
  | _ => none

noncomputable def codeSStep (c : Code) (τ : Tr AVal) (ds : List ADef) (H : AHeap) (m : Option Chain) : Option Out :=
  match c with
  | .region id ops false => bif ops.toList.any (fun o => isRecover o.op) then rec (.opsS ops ops.toList τ ds H m) else plainS m (rec (.code none (.region id ops false) τ ds H))
  | .seq a b => seqSStep rec b (rec (.codeS a τ ds H m))
  | .cond c a b => condSStep rec (aeval E τ c) a b τ ds H m
  | c => plainS m (rec (.code none c τ ds H))

noncomputable def bodyEnd (fn : Func) (r : Option Out) : Option Out :=
  match r with
  | some (.st .normal τ ds H) => rec (.leave fn τ ds none H)
  | some (.st .ret τ ds H) => rec (.leave fn τ ds none H)
  | some (.st (.pan ch) τ ds H) => rec (.leave fn τ ds (some ch) H)
  | _ => none

noncomputable def callBody (f : Nat) (args : List AVal) (H : AHeap) : Option Out :=
  match E.P.funcs[f]? with
  | some fn =>
    match fn.body with
    | some c => bif fn.name == "runtime.NumGoroutine" then none else bodyEnd rec fn (rec (.code none c (enterTr args 0 .nil) [] H))
    | none => none
  | none => none

noncomputable def callStep (f : Nat) (args : List AVal) (H : AHeap) : Option Out :=
  match E.orc f args H with
  | some (some (v, H')) => some (.val v H')
  | some none => none
  | none => callBody E rec f args H

noncomputable def resultStep (r : Option AVal) (H : AHeap) : Option Out :=
  match r with
  | some v => some (.val v H)
  | none => none

noncomputable def leaveD (fn : Func) (τ : Tr AVal) (ds : List ADef) (r : Option Out) : Option Out :=
  match r with
  | some (.dval m' H') => rec (.leave fn τ ds (settleA m') H')
  | some (.dpan ch m' H') => rec (.leave fn τ ds (raisedA m' ch) H')
  | _ => none

noncomputable def leaveC (fn : Func) (τ : Tr AVal) (ds : List ADef) (m : Option Chain) (d : Nat) (H : AHeap) : Option Out :=
  match H.get d with
  | some (.deferred false) => rec (.leave fn τ ds m (H.put d (.deferred true)))
  | _ => none

noncomputable def leaveStep (fn : Func) (τ : Tr AVal) (ds : List ADef) (m : Option Chain) (H : AHeap) : Option Out :=
  match ds with
  | [] => match m with
    | none => resultStep (resultOf E fn τ H) H
    | some ch => some (.pan ch H)
  | .collected d :: ds => leaveC rec fn τ ds m d H
  | .fn f captured args :: ds => leaveD rec fn τ ds (rec (.callD f (appL args captured) m H))

noncomputable def dEnd (fn : Func) (e : AExit) (τ : Tr AVal) (H : AHeap) (m : Option Chain) : Option Out :=
  match e with
  | .pan ch => some (.dpan ch m H)
  | .exit _ => none
  | _ => match resultOf E fn τ H with
    | some _ => some (.dval m H)
    | none => none

noncomputable def callDEnd (fn : Func) (r : Option Out) : Option Out :=
  match r with
  | some (.sts e τ [] H m) => dEnd E fn e τ H m
  | _ => none

noncomputable def callDStep (f : Nat) (args : List AVal) (m : Option Chain) (H : AHeap) : Option Out :=
  match E.P.funcs[f]? with
  | some fn =>
    match fn.body with
    | some c => bif fn.name == "runtime.NumGoroutine" then none else callDEnd E fn (rec (.codeS c (enterTr args 0 .nil) [] H m))
    | none => none
  | none => none

noncomputable def setAll : List Tmp → List AVal → Tr AVal → Tr AVal
  | t :: ts, v :: vs, τ => setAll ts vs (τ.set (some v) (Nat.succ t) t)
  | _, _, τ => τ

noncomputable def roundFin (i : Nat) (jump : Option Code) (H : AHeap) : Option Out :=
  match H.get i with
  | some (.loop r) => match jump with
    | none => some (.val (.bool true) (H.put i (.loop { r with state := .ready, pending := none })))
    | some c => some (.val (.bool false) (H.put i (.loop { r with state := .done, pending := some c })))
  | _ => none

noncomputable def roundEnd (i : Nat) (r : Option Out) : Option Out :=
  match r with
  | some (.st .normal _ _ H) => roundFin i none H
  | some (.st .ret _ _ H) => roundFin i (some .ret) H
  | some (.st (.exit id) _ _ H) => roundFin i (some (.exit id)) H
  | _ => none

noncomputable def roundBody (i : Nat) (body : Code) (τ : Tr AVal) (ds : List ADef) (H : AHeap) (r : ALoop) : Option Out :=
  match r.state with
  | .ready => roundEnd i (rec (.code (some i) body τ ds (H.put i (.loop { r with state := .busy }))))
  | _ => none

noncomputable def roundAssigned (i : Nat) (body : Code) (r : Option Out) : Option Out :=
  match r with
  | some (.st .normal τ ds H) => match H.get i with
    | some (.loop r) => roundBody rec i body τ ds H r
    | _ => none
  | _ => none

noncomputable def roundStep (i : Nat) (args : List AVal) (H : AHeap) : Option Out :=
  match H.get i with
  | some (.loop r) =>
    bif Nat.beq (lenL args) (lenL r.params) then
      roundAssigned rec i r.body (rec (.code (some i) r.assign (setAll r.params args r.tmps) [] H))
    else none
  | _ => none

noncomputable def evStep (t : Task) : Option Out :=
  match t with
  | .code ro c τ ds H => codeStep E rec ro c τ ds H
  | .codeS c τ ds H m => codeSStep E rec c τ ds H m
  | .ops ro all l τ ds H => match l with
    | [] => some (.st .normal τ ds H)
    | o :: l => opsStep E rec ro all o l τ ds H
  | .opsS all l τ ds H m => match l with
    | [] => some (.sts .normal τ ds H m)
    | o :: l => opsSStep E rec all o l τ ds H m
  | .draw ro all l τ ds H p => match l with
    | [] => drawEnd E all τ ds H p
    | x :: l => drawStep E rec ro all x l τ ds H p
  | .call f args H => callStep E rec f args H
  | .callD f args m H => callDStep E rec f args m H
  | .round l args H => roundStep rec l args H
  | .leave fn τ ds m H => leaveStep E rec fn τ ds m H

end steps

noncomputable def ev (n : Nat) : Task → Option Out := Nat.rec (fun _ => none) (fun _ r => evStep E r) n

end Go.Ab
/- Functions of the library without a Go body, as the evaluator answers them. -/
namespace Go.Ab

def findByte (c : Int) : List Nat → Nat → Int
  | [], _ => -1
  | x :: xs, i => bif intBeq (.ofNat x) c then .ofNat i else findByte c xs (Nat.succ i)

def countByte (c : Int) : List Nat → Nat → Nat
  | [], n => n
  | x :: xs, n => countByte c xs (bif intBeq (.ofNat x) c then Nat.succ n else n)

def ovh (v : AVal) : Option AHeap → Option (AVal × AHeap)
  | some H => some (v, H)
  | none => none

noncomputable def casA (b o : Nat) (x y : Int) (H : AHeap) : Option (AVal × AHeap) :=
  match H.cell b o with
  | some (.int .i32 n) => bif intBeq n x then ovh (.bool true) (H.store b o [.int .i32 y]) else none
  | _ => none

noncomputable def addI32A (b o : Nat) (x : Int) (H : AHeap) : Option (AVal × AHeap) :=
  match H.cell b o with
  | some (.int .i32 n) => ovh (.int .i32 (IntKind.i32.wrap (n + x))) (H.store b o [.int .i32 (IntKind.i32.wrap (n + x))])
  | _ => none

noncomputable def cloneA (t r : Nat) (H : AHeap) : Option (AVal × AHeap) :=
  match H.get r with
  | some (.map es c) => some (.iface t (.map H.next), H.alloc (.map es c))
  | _ => none

inductive Ext where
  | noEscape | makeNoZero | indexByte | countByte | loadU32 | storeU32 | casI32 | addI32 | race0 | race1 | clone

noncomputable def externA (x : Ext) (args : List AVal) (H : AHeap) : Option (AVal × AHeap) :=
  match x, args with
  | .noEscape, [x] => some (x, H)
  | .makeNoZero, [.int .i64 (.ofNat n)] => bif Nat.ble n 1000000000 then some (.slice H.next 0 n n false 1, H.alloc (.cells [] 5 .free)) else none
  | .indexByte, [.str (.lit l), .int .u8 c] => some (.int .i64 (findByte c l 0), H)
  | .countByte, [.str (.lit l), .int .u8 c] => some (.int .i64 (.ofNat (Ab.countByte c l 0)), H)
  | .loadU32, [.ptr b o] => match H.cell b o with
    | some (.int .u32 n) => some (.int .u32 n, H)
    | _ => none
  | .storeU32, [.ptr b o, .int .u32 n] => ovh (.tuple []) (H.store b o [.int .u32 n])
  | .casI32, [.ptr b o, .int .i32 x, .int .i32 y] => casA b o x y H
  | .addI32, [.ptr b o, .int .i32 x] => addI32A b o x H
  | .race0, [] => some (.tuple [], H)
  | .race1, [.ptr _ _] => some (.tuple [], H)
  | .clone, [.iface t (.map r)] => cloneA t r H
  | _, _ => none

end Go.Ab
