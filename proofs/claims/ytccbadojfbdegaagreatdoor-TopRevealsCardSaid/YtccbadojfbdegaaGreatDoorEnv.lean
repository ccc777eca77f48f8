/- What the evaluator is told; the law at texts out of its bounds. -/
import Derived.KernelRfl
import Derived.Test.YtccbadojfbdegaaGreatDoorProg
import Derived.Test.YtccbadojfbdegaaGreatDoorAbA
import Derived.Test.YtccbadojfbdegaaGreatDoorAbH
/- The environment of the evaluation: what the evaluator is told of digests, joined texts, quoted texts. -/
namespace Go.Rev
open Go.Ab Go.Proofs

mutual
/-- a bound of a text's length -/
noncomputable def bnd : AStr → Nat
  | .lit l => lenL l
  | .atom _ => 100
  | .app f args => bif Nat.beq f 6 then 16 else bif Nat.beq f 11 then 16 else bif Nat.beq f 37 then Nat.add (bnds args) (lenL args) else bif Nat.beq f 42 then Nat.add (Nat.mul 2 (bnds args)) 2 else 1000000
noncomputable def bnds : List AStr → Nat
  | [] => 0
  | x :: xs => Nat.add (bnd x) (bnds xs)
end

noncomputable def smalls (m : Nat) : List AStr → Bool
  | [] => true
  | x :: xs => bif Nat.ble (bnd x) m then smalls m xs else false

noncomputable def strsOf : List AVal → Option (List AStr)
  | [] => some []
  | .str s :: l => match strsOf l with
    | some r => some (s :: r)
    | none => none
  | _ => none

/-- the texts of a list -/
noncomputable def listOf (m : Nat) (x : AVal) (H : AHeap) : Option (List AStr) :=
  match x with
  | .slice b o n _ _ 1 => match H.row b o n with
    | some cs => match strsOf cs with
      | some l => bif smalls m l then bif Nat.ble (lenL l) 100 then some l else none else none
      | none => none
    | none => none
  | _ => none

noncomputable def isLit : AStr → Bool
  | .lit _ => true
  | _ => false

noncomputable def allLit : List AStr → Bool
  | [] => true
  | x :: xs => bif isLit x then allLit xs else false

noncomputable def litOf : AStr → List Nat
  | .lit l => l
  | _ => []

noncomputable def joinN (sep : List Nat) : List AStr → List Nat
  | [] => []
  | [x] => litOf x
  | x :: y :: xs => appL (litOf x) (appL sep (joinN sep (y :: xs)))

noncomputable def u8L (l : List Nat) : List AVal := mapL (fun c => .int .u8 (.ofNat c)) l
noncomputable def hexRow : List AVal := u8L [48, 49, 50, 51, 52, 53, 54, 55, 56, 57, 97, 98, 99, 100, 101, 102]
noncomputable def powRow : List AVal := mapL (fun c => .int .u64 (.ofNat c)) [1, 10, 100, 1000, 10000, 100000, 1000000, 10000000, 100000000, 1000000000, 10000000000, 100000000000, 1000000000000, 10000000000000, 100000000000000, 1000000000000000, 10000000000000000, 100000000000000000, 1000000000000000000, 10000000000000000000]

noncomputable def roRow (o : Option AObj) (e : Nat) (l : List AVal) : Bool :=
  match o with
  | some (.cells cs e' .ro) => bif Nat.beq e' e then AVal.beqs cs l else false
  | _ => false

/-- do the variables hold the digits? -/
noncomputable def known (H : AHeap) : Bool := bif roRow (H.get 0) 156 hexRow then roRow (H.get 1) 325 powRow else false

abbrev Ans := Option (Option (AVal × AHeap))
noncomputable def answer (H : AHeap) (v : AVal) : Ans := some (some (v, H))

noncomputable def orcList (args : List AVal) (H : AHeap) : Ans :=
  match args with
  | [x] => match listOf 100 x H with
    | some l => bif known H then answer H (.str (.app 6 l)) else some none
    | none => some none
  | _ => some none

noncomputable def orcJoined (args : List AVal) (H : AHeap) : Ans :=
  match args with
  | [x] => match listOf 100 x H with
    | some l => answer H (.str (.app 8 l))
    | none => some none
  | _ => some none

noncomputable def orcJoin (args : List AVal) (H : AHeap) : Ans :=
  match args with
  | [x, .str (.lit [c])] => match listOf 1000 x H with
    | some l => bif allLit l then answer H (.str (.lit (joinN [c] l))) else answer H (.str (.app 37 (.lit [c] :: l)))
    | none => some none
  | _ => some none

noncomputable def orcSum (args : List AVal) (H : AHeap) : Ans :=
  match args with
  | [.str s] => bif Nat.ble (bnd s) 1000 then bif known H then answer H (.str (.app 11 [s])) else some none else some none
  | _ => some none

noncomputable def orcQuote (args : List AVal) (H : AHeap) : Ans :=
  match args with
  | [.str s] => bif Nat.ble (bnd s) 1000 then bif known H then answer H (.str (.app 42 [s])) else some none else some none
  | _ => some none

/-- the byte replacer's tables -/
noncomputable def isPair (x : AVal) (c : Nat) (H : AHeap) : Bool :=
  match x with
  | .slice b 0 2 _ _ 1 => match H.get b with
    | some (.cells [.int .u8 (.ofNat x), .int .u8 (.ofNat y)] _ _) => bif Nat.beq x 92 then Nat.beq y c else false
    | _ => false
  | _ => false
noncomputable def isThree (x : AVal) (H : AHeap) : Bool :=
  match x with
  | .slice b 0 3 _ _ 1 => match H.get b with
    | some (.cells [.str (.lit x), .str (.lit y), .str (.lit z)] _ _) => bif natsBeq x [10] then bif natsBeq y [34] then natsBeq z [92] else false else false
    | _ => false
  | _ => false
noncomputable def isNone : AVal → Bool
  | .nilslice => true
  | _ => false
noncomputable def tablesOk (H : AHeap) (cs : List AVal) (i : Nat) : Bool :=
  match cs with
  | [] => Nat.beq i 257
  | x :: cs => bif (bif Nat.beq i 10 then isPair x 110 H else bif Nat.beq i 34 then isPair x 34 H else bif Nat.beq i 92 then isPair x 92 H else bif Nat.beq i 256 then isThree x H else isNone x) then tablesOk H cs (Nat.succ i) else false
noncomputable def orcRepl (args : List AVal) (H : AHeap) : Ans :=
  match args with
  | [.ptr b 0, .str (.atom 0)] => match H.get b with
    | some (.cells cs _ _) => bif tablesOk H cs 0 then answer H (.str (.app 654 [.atom 0])) else some none
    | _ => some none
  | _ => some none
noncomputable def catQ (x y : AStr) : Option AStr :=
  match x, y with
  | .lit [34], .app 654 [.atom 0] => some (.app 655 [.atom 0])
  | .app 655 [.atom 0], .lit [34] => some (.app 42 [.atom 0])
  | _, _ => none
/-- the functions without a body that the replacer needs -/
noncomputable def orcQ (f : Nat) (args : List AVal) (H : AHeap) : Ans :=
  bif Nat.beq f 654 then orcRepl args H else
  bif Nat.beq f 310 then some (externA .loadU32 args H) else
  bif Nat.beq f 404 then some (externA .storeU32 args H) else
  bif Nat.beq f 485 then some (externA .race0 args H) else
  bif Nat.beq f 486 then some (externA .casI32 args H) else
  bif Nat.beq f 487 then some (externA .race0 args H) else
  bif Nat.beq f 488 then some (externA .race1 args H) else
  bif Nat.beq f 490 then some (externA .race1 args H) else
  bif Nat.beq f 491 then some (externA .addI32 args H) else none

noncomputable def isDigest : AStr → Bool
  | .app 6 _ => true
  | .app 11 [_] => true
  | _ => false

noncomputable def orcIs (args : List AVal) (H : AHeap) : Ans :=
  match args with
  | [.str s] => bif isDigest s then answer H (.bool true) else some none
  | _ => some none

/-- the bits of the orders of the lotteries: seed, bit -/
noncomputable def bitOf (s : AStr) : List (AStr × Bool) → Option Bool
  | [] => none
  | (t, b) :: l => bif strBeq s t then some b else bitOf s l

noncomputable def orcBelow (bits : List (AStr × Bool)) (args : List AVal) (H : AHeap) : Ans :=
  match args with
  | [.str s, .int .i64 (.ofNat 2)] => match bitOf s bits with
    | some b => answer H (.int .i64 (.ofNat (bif b then 1 else 0)))
    | none => some none
  | _ => some none

noncomputable def ruleOf (x y : AStr) : List (AStr × AStr × Bool) → Option Bool
  | [] => none
  | (s, t, b) :: l => bif strBeq x s then (bif strBeq y t then some b else ruleOf x y l) else ruleOf x y l

noncomputable def eqsR (rules : List (AStr × AStr × Bool)) (x y : AStr) : Option Bool :=
  match x, y with
  | .atom _, .lit [] => some false
  | .app 37 (.lit [_] :: _ :: _ :: _), .lit [] => some false
  | x, y => ruleOf x y rules

noncomputable def cmpsR (op : BinOp) (s : AStr) (n : Int) : Option Bool :=
  match op, n with
  | .leq, .ofNat m => bif Nat.ble (bnd s) 1000 then bif Nat.ble (bnd s) m then some true else none else none
  | .gtr, .ofNat m => bif Nat.ble (bnd s) 1000 then bif Nat.ble (bnd s) m then some false else none else none
  | _, _ => none

/-- decimal digits -/
noncomputable def decN (fuel n : Nat) : List Nat := Nat.rec (fun n => [Nat.add 48 n]) (fun _ r n => bif Nat.ble n 9 then [Nat.add 48 n] else appL (r (Nat.div n 10)) [Nat.add 48 (Nat.mod n 10)]) fuel n

noncomputable def orcItoa (args : List AVal) (H : AHeap) : Ans :=
  match args with
  | [.int .i64 (.ofNat n)] => bif Nat.ble n 99 then answer H (.str (.lit (decN 20 n))) else bif Nat.beq n 100 then bif known H then answer H (.str (.lit [49, 48, 48])) else some none else some none
  | _ => some none

noncomputable def orcIndex (args : List AVal) (H : AHeap) : Ans :=
  match args with
  | [.str (.lit l), .int .u8 (.ofNat c)] => bif Nat.ble c 255 then answer H (.int .i64 (findByte (.ofNat c) l 0)) else some none
  | _ => some none

/-- more answers: function, what it answers -/
abbrev More := Nat → List AVal → AHeap → Ans

noncomputable def orcR (bits : List (AStr × Bool)) (more : More) : More := fun f args H =>
  bif Nat.beq f 6 then orcList args H else
  bif Nat.beq f 8 then orcJoined args H else
  bif Nat.beq f 11 then orcSum args H else
  bif Nat.beq f 14 then orcItoa args H else
  bif Nat.beq f 37 then orcJoin args H else
  bif Nat.beq f 42 then orcQuote args H else
  bif Nat.beq f 82 then orcIs args H else
  bif Nat.beq f 120 then orcBelow bits args H else
  bif Nat.beq f 612 then orcIndex args H else
  more f args H

noncomputable def noMore : More := fun _ _ _ => none

noncomputable def envR (rules : List (AStr × AStr × Bool)) (bits : List (AStr × Bool)) (more : More) : Env where
  P := Tryz.prog
  globals := 9
  eqs := eqsR rules
  cmps := cmpsR
  cat _ _ := none
  orc := orcR bits more

noncomputable def envN : Env where
  P := Tryz.prog
  globals := 9
  eqs _ _ := none
  cmps _ _ _ := none
  cat _ _ := none
  orc _ _ _ := none

noncomputable def envQ : Env where
  P := Tryz.prog
  globals := 9
  eqs _ _ := none
  cmps _ _ _ := none
  cat := catQ
  orc := orcQ

/-- the memory in which a call begins: the variables -/
noncomputable def H0 : AHeap := { next := 9, objs := Tr.set (some (.cells powRow 325 .ro)) 2 (Tr.set (some (.cells hexRow 156 .ro)) 1 Tr.nil 0) 1 }

def isTrue : Option Out → Bool
  | some (.val (.bool b) _) => b
  | _ => false
def isVal : Option Out → Bool
  | some (.val _ _) => true
  | _ => false

noncomputable def dl (l : List AStr) : AStr := .app 6 l
/-- the root of the entries' tree -/
noncomputable def root : AStr := dl [(.lit [110, 111, 100, 101]), dl [(.lit [108, 101, 97, 102]), .app 37 [(.lit [32]), (.lit [97, 110, 110]), .app 11 [(.lit [112])], dl [(.lit [97, 110, 110]), (.lit [115])]]], dl [(.lit [108, 101, 97, 102]), .app 37 [(.lit [32]), (.lit [98, 111, 98]), .app 11 [(.lit [113])], dl [(.lit [98, 111, 98]), (.lit [115])]]]]
noncomputable def seed (a b : AStr) : AStr := dl [dl [root, (.lit [120]), a, (.lit [121]), b], (.lit [49])]
noncomputable def payRule : AStr × AStr × Bool := (.app 11 [(.lit [113])], .app 11 [(.lit [112])], false)

end Go.Rev
/- Calls that were evaluated before, as answers: what is computed. -/
namespace Go.Rev
open Go.Ab Go.Proofs

/-- a call that was evaluated before: in which memory it began, what it answered -/
structure Know where
  f : Nat
  args : List AVal
  /-- the rows that lay there before -/
  pre : List (Nat × AObj)
  /-- the next block's number, before -/
  next : Nat
  /-- the block of the first argument -/
  at_ : Nat
  v : AVal
  objs : List (Nat × AObj)
  top : Nat

noncomputable def setAll : List (Nat × AObj) → Tr AObj → Tr AObj
  | [], t => t
  | (b, o) :: l, t => (setAll l t).set (some o) (Nat.succ b) b

noncomputable def Know.heap (K : Know) : AHeap := { next := K.next, objs := setAll K.pre H0.objs }

noncomputable def shift (d b : Nat) : Nat := bif Nat.ble b 8 then b else Nat.add b d

noncomputable def firstAt : List AVal → Nat
  | .slice b _ _ _ _ _ :: _ => b
  | _ => 0

noncomputable def preOk (H : AHeap) (ρ : Nat → Nat) : List (Nat × AObj) → Bool
  | [] => true
  | (b, .cells cs e _) :: l => match H.get (ρ b) with
    | some (.cells cs' e' _) => bif Nat.beq e e' then bif AVal.beqs cs' (renVs ρ cs) then preOk H ρ l else false else false
    | _ => false
  | _ => false

noncomputable def tryAt (K : Know) (d : Nat) (args : List AVal) (H : AHeap) : Ans :=
  bif AVal.beqs args (renVs (shift d) K.args) then bif known H then bif preOk H (shift d) K.pre then
    answer ⟨Nat.add H.next (Nat.sub K.top K.next), putAll (into (shift d) K.next H.next) K.objs H.objs⟩ (renV (into (shift d) K.next H.next) K.v)
  else none else none else none

noncomputable def tryK (K : Know) (f : Nat) (args : List AVal) (H : AHeap) : Ans :=
  bif Nat.beq f K.f then tryAt K (Nat.sub (firstAt args) K.at_) args H else none

noncomputable def orElse (K : Know) (more : More) : More := fun f args H =>
  match tryK K f args H with
  | some r => some r
  | none => more f args H

noncomputable def frzBeq : Frz → Frz → Bool
  | .free, .free => true
  | .upto n, .upto m => Nat.beq n m
  | .marked, .marked => true
  | _, _ => false

noncomputable def objBeq : AObj → AObj → Bool
  | .cells cs e fz, .cells cs' e' fz' => bif Nat.beq e e' then bif frzBeq fz fz' then AVal.beqs cs cs' else false else false
  | _, _ => false

noncomputable def objsOk (H : AHeap) (next : Nat) : List (Nat × AObj) → Bool
  | [] => true
  | (b, o) :: l => match H.get b with
    | some o' => bif objBeq o' o then bif Nat.ble next b then objsOk H next l else false else false
    | none => false

/-- the evaluation answered so -/
noncomputable def agrees (K : Know) : Option Out → Bool
  | some (.val v H) => bif AVal.beq v K.v then bif Nat.ble H.next K.top then objsOk H K.next K.objs else false else false
  | _ => false

noncomputable def presOk (next : Nat) : List (Nat × AObj) → Bool
  | [] => true
  | (b, .cells cs _ .ro) :: l => bif Nat.ble 9 b then bif Nat.ble (Nat.succ b) next then bif closedVs next cs then presOk next l else false else false else false
  | _ => false

/-- all that the call was given lay there -/
noncomputable def Know.good (K : Know) : Bool :=
  bif Nat.ble 9 K.next then bif closedVs K.next K.args then bif Nat.ble K.next K.top then presOk K.next K.pre else false else false else false
end Go.Rev
/- The law at texts that are out of its bounds: it answers what the example answers. -/
namespace Go.Rev
open Go.Ab Go.Proofs

noncomputable def orcDrawn (args : List AVal) (H : AHeap) : Ans :=
  match args with
  | [] => bif known H then answer H (.bool true) else some none
  | _ => some none

noncomputable def three {α : Type} (a b c : α) (i : Nat) : α := bif Nat.beq i 0 then a else bif Nat.beq i 1 then b else c

noncomputable def eqsA (e : Nat → Bool) (d : Bool) (x y : AStr) : Option Bool :=
  match x, y with
  | .atom i, .lit [] => some (e i)
  | .atom 2, .atom 1 => some d
  | _, _ => none

noncomputable def cmpsA (l : Nat → Bool) (op : BinOp) (s : AStr) (n : Int) : Option Bool :=
  match op, s, n with
  | .gtr, .atom i, .ofNat 100 => some (l i)
  | _, _, _ => none

noncomputable def envA (l e : Nat → Bool) (d : Bool) : Env where
  P := Tryz.prog
  globals := 9
  eqs := eqsA e d
  cmps := cmpsA l
  cat _ _ := none
  orc f args H := bif Nat.beq f 4 then orcDrawn args H else none

noncomputable def topArgs : List AVal := [.str (.atom 0), .str (.atom 1), .str (.atom 2)]

set_option maxRecDepth 1000000
theorem envA_ev (l0 l1 l2 e0 e1 e2 d : Bool) (h : (l0 || l1 || l2 || e0 || e1 || e2 || d) = true) : isTrue (ev (envA (three l0 l1 l2) (three e0 e1 e2) d) 100000 (.call 3 topArgs H0)) = true := by
  cases l0 <;> cases l1 <;> cases l2 <;> cases e0 <;> cases e1 <;> cases e2 <;> cases d <;> first | (cases h; done) | kernel_rfl
end Go.Rev
