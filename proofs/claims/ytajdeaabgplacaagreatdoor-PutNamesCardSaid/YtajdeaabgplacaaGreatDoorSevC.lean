/-
  Sev: an evaluator of the program's code over abstract values, written for the kernel: the definitions. No theorem here.
  Sev, the second part: what each operation does. Definitions alone.
  Sev, the third part: regions, code, calls. Definitions alone.
-/
import Derived.Calls
namespace Go.Proofs.YtajdeaabgplacaaGreatDoor.Sev
open Go
set_option linter.unusedVariables false

/-- Trees by number: 0 is the root, 2 i + 1 stands left, 2 i + 2 right. -/
inductive Tr (α : Type) where
  | lf : Tr α
  | nd (l : Tr α) (x : α) (r : Tr α) : Tr α

/-- Values: names for blocks (stp: the number of a map's entry); a slice's capacity is known (sl) or that of its block, less o (slo); sle: an empty slice at the end of one: at off if no capacity is left, else at off1; agt: a great aggregate, whose cells a name keeps. -/
inductive AV where
  | bool (b : Bool)
  | int (k : IntKind) (n : Int)
  | str (s : List Nat)
  | ptr (b off : Nat)
  | nilptr
  | sl (b off len cap : Nat)
  | slo (b off len o : Nat)
  | sle (b off off1 o : Nat)
  | nilsl
  | map (b : Nat)
  | nilmap
  | fn (f : Fn) (first captured : List AV)
  | yld (b : Nat)
  | stp (b : Nat)
  | nilfn
  | ifc (t : Nat) (v : AV)
  | nilifc
  | agg (cs : List AV)
  | agt (b : Nat)
  | tup (vs : List AV)

/-- One cell is enough for it. -/
def isCell : AV → Bool
  | .agg _ | .agt _ | .tup _ => false
  | _ => true

/-- What a name stands for. cells: n are known; op: there may be more; stale: a younger name may share its place; el: the elder names; fz: the place behind the last cell is marked. ver: changes with each key that comes into a map. -/
inductive AO where
  | dead
  | cells (c : Tr AV) (n : Nat) (t : TypeId) (op stale : Bool) (el : List Nat) (fz : Bool)
  | map (es : List (AV × AV)) (ver : Nat)
  | iter (m ver : Nat) (rem : List AV) (last : Option AV)
  | ent (m ver : Nat) (key : AV)
  | iter0
  | sit (s : List Nat) (pos : Nat)
  | loop (st : LoopState) (fn : FuncId) (f : Tr AV) (ps : List Tmp) (asg body : Code) (pend : Option Code) (dfr : Nat)
  | dfr
  | snap (c : Tr AV) (n : Nat)

/-- Digits. -/
inductive D4 where
  | a | b | c | d
/-- Four of a kind. -/
structure Q (α : Type) where
  a : α
  b : α
  c : α
  d : α
/-- Memory: what each name stands for, by the digits of its number, the lowest first. -/
abbrev H0 := Option AO
abbrev H1 := Q H0
abbrev H2 := Q H1
abbrev H3 := Q H2
abbrev H4 := Q H3
abbrev H5 := Q H4
abbrev H6 := Q H5
abbrev H7 := Q H6
def HT : Type := H7

structure St where
  h : HT
  nx : Nat
  fl : Nat

/-- What waits for a function's end: the mark of a range over a function; a call. -/
inductive DI where
  | mark (b : Nat)
  | fn (f : FuncId) (args : List AV)

structure Fr where
  fn : FuncId
  tm : Tr AV
  dl : List DI
  rd : Option Nat

inductive Ans where
  | no (why : String) (n : Nat)
  | outs (l : List (AV × St))

noncomputable section

abbrev undefA : AV := .tup []

/-! ### trees -/
/-- The way to a number's place. -/
inductive Ps where
  | h : Ps
  | l (p : Ps) : Ps
  | r (p : Ps) : Ps
def path (n : Nat) : Ps :=
  Nat.rec (fun _ => .h) (fun _ ih n => Nat.rec .h (fun m _ => Bool.rec (.l (ih (Nat.div m 2))) (.r (ih (Nat.div m 2))) (Nat.beq (Nat.mod m 2) 1)) n) n n
def getP {α : Type} (p : Ps) : Tr α → (α → Ans) → Ans :=
  Ps.rec (fun t k => Tr.rec (.no "get" 0) (fun _ x _ _ _ => k x) t)
    (fun _ ih t k => Tr.rec (.no "get" 0) (fun l _ _ _ _ => ih l k) t)
    (fun _ ih t k => Tr.rec (.no "get" 0) (fun _ _ r _ _ => ih r k) t) p
def updP {α : Type} (p : Ps) : Tr α → α → (Tr α → Ans) → Ans :=
  Ps.rec (fun t v k => Tr.rec (.no "upd" 0) (fun l _ r _ _ => k (.nd l v r)) t)
    (fun _ ih t v k => Tr.rec (.no "upd" 0) (fun l x r _ _ => ih l v fun l => k (.nd l x r)) t)
    (fun _ ih t v k => Tr.rec (.no "upd" 0) (fun l x r _ _ => ih r v fun r => k (.nd l x r)) t) p
def setP {α : Type} (p : Ps) : Tr α → α → (Tr α → Ans) → Ans :=
  Ps.rec (fun t v k => Tr.rec (k (.nd .lf v .lf)) (fun l _ r _ _ => k (.nd l v r)) t)
    (fun _ ih t v k => Tr.rec (.no "set" 0) (fun l x r _ _ => ih l v fun l => k (.nd l x r)) t)
    (fun _ ih t v k => Tr.rec (.no "set" 0) (fun l x r _ _ => ih r v fun r => k (.nd l x r)) t) p
def getK {α : Type} (t : Tr α) (n : Nat) (k : α → Ans) : Ans := getP (path n) t k
/-- Set what is there. -/
def updK {α : Type} (t : Tr α) (n : Nat) (v : α) (k : Tr α → Ans) : Ans := updP (path n) t v k
/-- Set what is there, or the next one. -/
def setK {α : Type} (t : Tr α) (n : Nat) (v : α) (k : Tr α → Ans) : Ans := setP (path n) t v k
/-- n cells: at i stands what z has at (a i + b) mod m. -/
def mkA (z : Nat → AV) (n : Nat) : Nat → Nat → Tr AV :=
  Nat.rec (fun _ _ _ => .lf) (fun _ ih n a b => Nat.rec .lf (fun m _ => .nd (ih (Nat.div (Nat.succ m) 2) (Nat.mul 2 a) (Nat.add a b)) (z b) (ih (Nat.div m 2) (Nat.mul 2 a) (Nat.add (Nat.mul 2 a) b))) n) 30 n
/-- n times the same. -/
def mkF (n : Nat) : Tr AV := mkA (fun _ => undefA) n 1 0

/-- Jumps by number: from here on those to labels. -/
def gotoBase : Nat := 1000000
/-! ### numbers -/
def natK (n : Nat) (k : Nat → Ans) : Ans := Nat.rec (k 0) (fun m _ => k (Nat.succ m)) n
def intK (n : Int) (k : Int → Ans) : Ans := Int.rec (fun n => natK n fun m => k (.ofNat m)) (fun n => natK n fun m => k (.negSucc m)) n
def boolK (b : Bool) (k : Bool → Ans) : Ans := Bool.rec (k false) (k true) b
def ifK (b : Bool) (x y : Ans) : Ans := Bool.rec y x b
def optK {α : Type} (o : Option α) (why : String) (k : α → Ans) : Ans := Option.rec (.no why 0) k o
def wrapK (kd : IntKind) (n : Int) (k : Int → Ans) : Ans :=
  match kd with
  | .i64 => Int.rec (fun m => Bool.rec (intK (IntKind.wrap .i64 (.ofNat m)) k) (natK m fun m => k (.ofNat m)) (Nat.blt m 9223372036854775808))
      (fun m => Bool.rec (intK (IntKind.wrap .i64 (.negSucc m)) k) (natK m fun m => k (.negSucc m)) (Nat.blt m 9223372036854775808)) n
  | kd => intK (kd.wrap n) k

/-! ### values -/
def lastWhy : String := "kind of value"
def asBool (v : AV) (k : Bool → Ans) : Ans := AV.rec (motive_1 := fun _ => (Bool → Ans) → Ans) (motive_2 := fun _ => Unit) (fun b  k => boolK b k) (fun _ _  k => .no "bool" 0) (fun _  k => .no "bool" 0) (fun _ _  k => .no "bool" 0) (fun k => .no "bool" 0) (fun _ _ _ _  k => .no "bool" 0) (fun _ _ _ _  k => .no "bool" 0) (fun _ _ _ _  k => .no "bool" 0) (fun k => .no "bool" 0) (fun _  k => .no "bool" 0) (fun k => .no "bool" 0) (fun _ _ _ _ _ k => .no "bool" 0) (fun _  k => .no "bool" 0) (fun _  k => .no "bool" 0) (fun k => .no "bool" 0) (fun _ _ _ k => .no "bool" 0) (fun k => .no "bool" 0) (fun _ _ k => .no "bool" 0) (fun _  k => .no "bool" 0) (fun _ _ k => .no "bool" 0) () (fun _ _ _ _ => ()) v k
def asInt (v : AV) (k : Int → Ans) : Ans := AV.rec (motive_1 := fun _ => (Int → Ans) → Ans) (motive_2 := fun _ => Unit) (fun _  k => .no "int" 0) (fun _ n  k => k n) (fun _  k => .no "int" 0) (fun _ _  k => .no "int" 0) (fun k => .no "int" 0) (fun _ _ _ _  k => .no "int" 0) (fun _ _ _ _  k => .no "int" 0) (fun _ _ _ _  k => .no "int" 0) (fun k => .no "int" 0) (fun _  k => .no "int" 0) (fun k => .no "int" 0) (fun _ _ _ _ _ k => .no "int" 0) (fun _  k => .no "int" 0) (fun _  k => .no "int" 0) (fun k => .no "int" 0) (fun _ _ _ k => .no "int" 0) (fun k => .no "int" 0) (fun _ _ k => .no "int" 0) (fun _  k => .no "int" 0) (fun _ _ k => .no "int" 0) () (fun _ _ _ _ => ()) v k
def asStr (v : AV) (k : List Nat → Ans) : Ans := AV.rec (motive_1 := fun _ => (List Nat → Ans) → Ans) (motive_2 := fun _ => Unit) (fun _  k => .no "str" 0) (fun _ _  k => .no "str" 0) (fun s  k => k s) (fun _ _  k => .no "str" 0) (fun k => .no "str" 0) (fun _ _ _ _  k => .no "str" 0) (fun _ _ _ _  k => .no "str" 0) (fun _ _ _ _  k => .no "str" 0) (fun k => .no "str" 0) (fun _  k => .no "str" 0) (fun k => .no "str" 0) (fun _ _ _ _ _ k => .no "str" 0) (fun _  k => .no "str" 0) (fun _  k => .no "str" 0) (fun k => .no "str" 0) (fun _ _ _ k => .no "str" 0) (fun k => .no "str" 0) (fun _ _ k => .no "str" 0) (fun _  k => .no "str" 0) (fun _ _ k => .no "str" 0) () (fun _ _ _ _ => ()) v k
def asPtr (v : AV) (k : Nat → Nat → Ans) : Ans := AV.rec (motive_1 := fun _ => (Nat → Nat → Ans) → Ans) (motive_2 := fun _ => Unit) (fun _  k => .no "ptr" 0) (fun _ _  k => .no "ptr" 0) (fun _  k => .no "ptr" 0) (fun b o  k => k b o) (fun k => .no "ptr" 0) (fun _ _ _ _  k => .no "ptr" 0) (fun _ _ _ _  k => .no "ptr" 0) (fun _ _ _ _  k => .no "ptr" 0) (fun k => .no "ptr" 0) (fun _  k => .no "ptr" 0) (fun k => .no "ptr" 0) (fun _ _ _ _ _ k => .no "ptr" 0) (fun _  k => .no "ptr" 0) (fun _  k => .no "ptr" 0) (fun k => .no "ptr" 0) (fun _ _ _ k => .no "ptr" 0) (fun k => .no "ptr" 0) (fun _ _ k => .no "ptr" 0) (fun _  k => .no "ptr" 0) (fun _ _ k => .no "ptr" 0) () (fun _ _ _ _ => ()) v k
def asAgg (v : AV) (k : List AV → Ans) : Ans := AV.rec (motive_1 := fun _ => (List AV → Ans) → Ans) (motive_2 := fun _ => Unit) (fun _  k => .no "agg" 0) (fun _ _  k => .no "agg" 0) (fun _  k => .no "agg" 0) (fun _ _  k => .no "agg" 0) (fun k => .no "agg" 0) (fun _ _ _ _  k => .no "agg" 0) (fun _ _ _ _  k => .no "agg" 0) (fun _ _ _ _  k => .no "agg" 0) (fun k => .no "agg" 0) (fun _  k => .no "agg" 0) (fun k => .no "agg" 0) (fun _ _ _ _ _ k => .no "agg" 0) (fun _  k => .no "agg" 0) (fun _  k => .no "agg" 0) (fun k => .no "agg" 0) (fun _ _ _ k => .no "agg" 0) (fun k => .no "agg" 0) (fun l _ k => k l) (fun _  k => .no "agg" 0) (fun _ _ k => .no "agg" 0) () (fun _ _ _ _ => ()) v k
def asTup (v : AV) (k : List AV → Ans) : Ans := AV.rec (motive_1 := fun _ => (List AV → Ans) → Ans) (motive_2 := fun _ => Unit) (fun _  k => .no "tup" 0) (fun _ _  k => .no "tup" 0) (fun _  k => .no "tup" 0) (fun _ _  k => .no "tup" 0) (fun k => .no "tup" 0) (fun _ _ _ _  k => .no "tup" 0) (fun _ _ _ _  k => .no "tup" 0) (fun _ _ _ _  k => .no "tup" 0) (fun k => .no "tup" 0) (fun _  k => .no "tup" 0) (fun k => .no "tup" 0) (fun _ _ _ _ _ k => .no "tup" 0) (fun _  k => .no "tup" 0) (fun _  k => .no "tup" 0) (fun k => .no "tup" 0) (fun _ _ _ k => .no "tup" 0) (fun k => .no "tup" 0) (fun _ _ k => .no "tup" 0) (fun _  k => .no "tup" 0) (fun l _ k => k l) () (fun _ _ _ _ => ()) v k
/-- The cells of a value. -/
def allCell (l : List AV) : Bool := List.rec true (fun v _ ih => Bool.rec false ih (isCell v)) l
def cellsK (v : AV) (k : List AV → Ans) : Ans := AV.rec (motive_1 := fun _ => (List AV → Ans) → Ans) (motive_2 := fun _ => Unit) (fun x0  k => k [.bool x0]) (fun x0 x1  k => k [.int x0 x1]) (fun x0  k => k [.str x0]) (fun x0 x1  k => k [.ptr x0 x1]) (fun k => k [.nilptr ]) (fun x0 x1 x2 x3  k => k [.sl x0 x1 x2 x3]) (fun x0 x1 x2 x3  k => k [.slo x0 x1 x2 x3]) (fun x0 x1 x2 x3  k => k [.sle x0 x1 x2 x3]) (fun k => k [.nilsl ]) (fun x0  k => k [.map x0]) (fun k => k [.nilmap ]) (fun x0 x1 x2 _ _ k => k [.fn x0 x1 x2]) (fun x0  k => k [.yld x0]) (fun x0  k => k [.stp x0]) (fun k => k [.nilfn ]) (fun x0 x1 _ k => k [.ifc x0 x1]) (fun k => k [.nilifc ]) (fun l _ k => ifK (allCell l) (k l) (.no "cells" 0)) (fun b  k => .no "a great aggregate" b) (fun _ _ k => .no "tuple" 0) () (fun _ _ _ _ => ()) v k
theorem cellsK_eq (v : AV) (k : List AV → Ans) : cellsK v k = (match v with | .agg l => ifK (allCell l) (k l) (.no "cells" 0) | .agt b => .no "a great aggregate" b | .tup _ => .no "tuple" 0 | v => k [v]) := by cases v <;> rfl
def asCells (o : AO) (k : Tr AV → Nat → TypeId → Bool → Bool → List Nat → Bool → Ans) : Ans := AO.rec (motive := fun _ => (Tr AV → Nat → TypeId → Bool → Bool → List Nat → Bool → Ans) → Ans) (fun k => .no "cells" 0) (fun c n t op st el fz k => k c n t op st el fz) (fun _ _ k => .no "cells" 0) (fun _ _ _ _ k => .no "cells" 0) (fun _ _ _ k => .no "cells" 0) (fun k => .no "cells" 0) (fun _ _ k => .no "cells" 0) (fun _ _ _ _ _ _ _ _ k => .no "cells" 0) (fun k => .no "cells" 0) (fun _ _ k => .no "cells" 0) o k
def asMap (o : AO) (k : List (AV × AV) → Nat → Ans) : Ans := AO.rec (motive := fun _ => (List (AV × AV) → Nat → Ans) → Ans) (fun k => .no "map" 0) (fun _ _ _ _ _ _ _ k => .no "map" 0) (fun es v k => k es v) (fun _ _ _ _ k => .no "map" 0) (fun _ _ _ k => .no "map" 0) (fun k => .no "map" 0) (fun _ _ k => .no "map" 0) (fun _ _ _ _ _ _ _ _ k => .no "map" 0) (fun k => .no "map" 0) (fun _ _ k => .no "map" 0) o k

/-- The value of a literal of the code. -/
def abs0 (v : Value) : Option AV :=
  match v with
  | .bool b => some (.bool b)
  | .int k n => some (.int k n)
  | .string s => some (.str (s.data.toList.map UInt8.toNat))
  | .pointer none => some .nilptr
  | .slice none 0 0 => some .nilsl
  | .map none => some .nilmap
  | .nilFunc => some .nilfn
  | .nilIface => some .nilifc
  | _ => none
def absL : List Value → Option (List AV)
  | [] => some []
  | v :: l => (abs0 v).bind fun a => (absL l).map (a :: ·)
def abs (v : Value) : Option AV :=
  match v with
  | .agg cs => (absL cs.toList).map .agg
  | .tuple vs => (absL vs.toList).map .tup
  | .func f first captured => (absL first.toList).bind fun a => (absL captured.toList).bind fun b => match f with | .yield _ => none | f => some (.fn f a b)
  | .iface t v => (abs0 v).map (.ifc t)
  | v => abs0 v
/-- A value without a name. -/
def ground0 (v : AV) : Option Value :=
  match v with
  | .bool b => some (.bool b)
  | .int k n => some (.int k n)
  | .str s => some (.string ⟨(s.map UInt8.ofNat).toArray⟩)
  | .nilptr => some (.pointer none)
  | .nilsl => some (.slice none 0 0)
  | .nilmap => some (.map none)
  | .nilfn => some .nilFunc
  | .nilifc => some .nilIface
  | _ => none
def groundL : List AV → Option (List Value)
  | [] => some []
  | v :: l => (ground0 v).bind fun a => (groundL l).map (a :: ·)
def ground (v : AV) : Option Value :=
  match v with
  | .agg cs => (groundL cs).map fun l => .agg l.toArray
  | .ifc t v => (ground0 v).map (.iface t)
  | v => ground0 v
/-- What asks the program alone. -/
def static {α : Type} (P : Program) : Sem α → Option α
  | .pure a => some a
  | .program k => static P (k P)
  | _ => none
def absK (v : Value) (k : AV → Ans) : Ans := optK (abs v) "literal" k
def staticK (P : Program) (s : Sem Value) (k : AV → Ans) : Ans := optK ((static P s).bind abs) "static" k

/-! ### the program's types -/
section types
variable (P : Program)
def isAggB (t : TypeId) : Bool := match P.underlying t with | some (.struct _) | some (.array ..) => true | _ => false
def sizeB (t : TypeId) : Option Nat := (P.info? t).map (·.size)
def bytesB (t : TypeId) : Option Nat := (P.info? t).map (·.bytes)
def zeroB (t : TypeId) : Option AV := ((P.info? t).bind (·.zero)).bind abs
def fieldB (t : TypeId) (f : Nat) : Option Field := match P.underlying t with | some (.struct fs) => fs[f]? | _ => none
def sliceB (t : TypeId) : Option TypeId := match P.underlying t with | some (.slice e) => some e | _ => none
def mapB (t : TypeId) : Option (TypeId × TypeId) := match P.underlying t with | some (.map k e) => some (k, e) | _ => none
end types

/-! ### equality of plain values -/
def strEq (a : List Nat) : List Nat → Bool :=
  List.rec (fun b => List.rec true (fun _ _ _ => false) b) (fun x _ ih b => List.rec false (fun y l _ => Bool.rec false (ih l) (Nat.beq (Nat.mod x 256) (Nat.mod y 256))) b) a
def kindTag (a : IntKind) : Nat := IntKind.rec 0 1 2 3 4 5 6 7 a
def kindEq (a b : IntKind) : Bool := Nat.beq (kindTag a) (kindTag b)
def intEq (a b : Int) : Bool := Int.rec (fun m b => Int.rec (fun n => Nat.beq m n) (fun _ => false) b) (fun m b => Int.rec (fun _ => false) (fun n => Nat.beq m n) b) a b
/-- Equal, or not; none: not to be told so. -/
def cellEq (a b : AV) : Option Bool :=
  match a, b with
  | .int j m, .int k n => if kindEq j k then some (intEq m n) else none
  | .str s, .str t => some (strEq s t)
  | .bool b, .bool c => some (b == c)
  | _, _ => none
def cellsEq : List AV → List AV → Option Bool
  | [], [] => some true
  | a :: l, b :: m => match cellEq a b with | some true => cellsEq l m | some false => some false | none => none
  | _, _ => none
def keyEq (a b : AV) : Option Bool :=
  match a, b with
  | .agg l, .agg m => cellsEq l m
  | a, b => cellEq a b

/-! ### memory, by digits -/
def dg (n : Nat) : D4 := Nat.rec .a (fun m _ => Nat.rec .b (fun m _ => Nat.rec .c (fun _ _ => .d) m) m) n
def get0 (_ : Nat) (t : H0) (k : AO → Ans) : Ans := Option.rec (.no "get" 0) k t
def set0 (_ : Nat) (o : AO) (_ : H0) (k : H0 → Ans) : Ans := k (some o)
def get1 (n : Nat) (t : H1) (k : AO → Ans) : Ans := D4.rec (motive := fun _ => Nat → H1 → (AO → Ans) → Ans) (fun m t k => get0 m t.a k) (fun m t k => get0 m t.b k) (fun m t k => get0 m t.c k) (fun m t k => get0 m t.d k) (dg (Nat.mod n 4)) (Nat.div n 4) t k
def set1 (n : Nat) (o : AO) (t : H1) (k : H1 → Ans) : Ans := D4.rec (motive := fun _ => Nat → AO → H1 → (H1 → Ans) → Ans) (fun m o t k => Q.rec (fun a b c d => set0 m o a fun a' => k ⟨a', b, c, d⟩) t) (fun m o t k => Q.rec (fun a b c d => set0 m o b fun b' => k ⟨a, b', c, d⟩) t) (fun m o t k => Q.rec (fun a b c d => set0 m o c fun c' => k ⟨a, b, c', d⟩) t) (fun m o t k => Q.rec (fun a b c d => set0 m o d fun d' => k ⟨a, b, c, d'⟩) t) (dg (Nat.mod n 4)) (Nat.div n 4) o t k
def get2 (n : Nat) (t : H2) (k : AO → Ans) : Ans := D4.rec (motive := fun _ => Nat → H2 → (AO → Ans) → Ans) (fun m t k => get1 m t.a k) (fun m t k => get1 m t.b k) (fun m t k => get1 m t.c k) (fun m t k => get1 m t.d k) (dg (Nat.mod n 4)) (Nat.div n 4) t k
def set2 (n : Nat) (o : AO) (t : H2) (k : H2 → Ans) : Ans := D4.rec (motive := fun _ => Nat → AO → H2 → (H2 → Ans) → Ans) (fun m o t k => Q.rec (fun a b c d => set1 m o a fun a' => k ⟨a', b, c, d⟩) t) (fun m o t k => Q.rec (fun a b c d => set1 m o b fun b' => k ⟨a, b', c, d⟩) t) (fun m o t k => Q.rec (fun a b c d => set1 m o c fun c' => k ⟨a, b, c', d⟩) t) (fun m o t k => Q.rec (fun a b c d => set1 m o d fun d' => k ⟨a, b, c, d'⟩) t) (dg (Nat.mod n 4)) (Nat.div n 4) o t k
def get3 (n : Nat) (t : H3) (k : AO → Ans) : Ans := D4.rec (motive := fun _ => Nat → H3 → (AO → Ans) → Ans) (fun m t k => get2 m t.a k) (fun m t k => get2 m t.b k) (fun m t k => get2 m t.c k) (fun m t k => get2 m t.d k) (dg (Nat.mod n 4)) (Nat.div n 4) t k
def set3 (n : Nat) (o : AO) (t : H3) (k : H3 → Ans) : Ans := D4.rec (motive := fun _ => Nat → AO → H3 → (H3 → Ans) → Ans) (fun m o t k => Q.rec (fun a b c d => set2 m o a fun a' => k ⟨a', b, c, d⟩) t) (fun m o t k => Q.rec (fun a b c d => set2 m o b fun b' => k ⟨a, b', c, d⟩) t) (fun m o t k => Q.rec (fun a b c d => set2 m o c fun c' => k ⟨a, b, c', d⟩) t) (fun m o t k => Q.rec (fun a b c d => set2 m o d fun d' => k ⟨a, b, c, d'⟩) t) (dg (Nat.mod n 4)) (Nat.div n 4) o t k
def get4 (n : Nat) (t : H4) (k : AO → Ans) : Ans := D4.rec (motive := fun _ => Nat → H4 → (AO → Ans) → Ans) (fun m t k => get3 m t.a k) (fun m t k => get3 m t.b k) (fun m t k => get3 m t.c k) (fun m t k => get3 m t.d k) (dg (Nat.mod n 4)) (Nat.div n 4) t k
def set4 (n : Nat) (o : AO) (t : H4) (k : H4 → Ans) : Ans := D4.rec (motive := fun _ => Nat → AO → H4 → (H4 → Ans) → Ans) (fun m o t k => Q.rec (fun a b c d => set3 m o a fun a' => k ⟨a', b, c, d⟩) t) (fun m o t k => Q.rec (fun a b c d => set3 m o b fun b' => k ⟨a, b', c, d⟩) t) (fun m o t k => Q.rec (fun a b c d => set3 m o c fun c' => k ⟨a, b, c', d⟩) t) (fun m o t k => Q.rec (fun a b c d => set3 m o d fun d' => k ⟨a, b, c, d'⟩) t) (dg (Nat.mod n 4)) (Nat.div n 4) o t k
def get5 (n : Nat) (t : H5) (k : AO → Ans) : Ans := D4.rec (motive := fun _ => Nat → H5 → (AO → Ans) → Ans) (fun m t k => get4 m t.a k) (fun m t k => get4 m t.b k) (fun m t k => get4 m t.c k) (fun m t k => get4 m t.d k) (dg (Nat.mod n 4)) (Nat.div n 4) t k
def set5 (n : Nat) (o : AO) (t : H5) (k : H5 → Ans) : Ans := D4.rec (motive := fun _ => Nat → AO → H5 → (H5 → Ans) → Ans) (fun m o t k => Q.rec (fun a b c d => set4 m o a fun a' => k ⟨a', b, c, d⟩) t) (fun m o t k => Q.rec (fun a b c d => set4 m o b fun b' => k ⟨a, b', c, d⟩) t) (fun m o t k => Q.rec (fun a b c d => set4 m o c fun c' => k ⟨a, b, c', d⟩) t) (fun m o t k => Q.rec (fun a b c d => set4 m o d fun d' => k ⟨a, b, c, d'⟩) t) (dg (Nat.mod n 4)) (Nat.div n 4) o t k
def get6 (n : Nat) (t : H6) (k : AO → Ans) : Ans := D4.rec (motive := fun _ => Nat → H6 → (AO → Ans) → Ans) (fun m t k => get5 m t.a k) (fun m t k => get5 m t.b k) (fun m t k => get5 m t.c k) (fun m t k => get5 m t.d k) (dg (Nat.mod n 4)) (Nat.div n 4) t k
def set6 (n : Nat) (o : AO) (t : H6) (k : H6 → Ans) : Ans := D4.rec (motive := fun _ => Nat → AO → H6 → (H6 → Ans) → Ans) (fun m o t k => Q.rec (fun a b c d => set5 m o a fun a' => k ⟨a', b, c, d⟩) t) (fun m o t k => Q.rec (fun a b c d => set5 m o b fun b' => k ⟨a, b', c, d⟩) t) (fun m o t k => Q.rec (fun a b c d => set5 m o c fun c' => k ⟨a, b, c', d⟩) t) (fun m o t k => Q.rec (fun a b c d => set5 m o d fun d' => k ⟨a, b, c, d'⟩) t) (dg (Nat.mod n 4)) (Nat.div n 4) o t k
def get7 (n : Nat) (t : H7) (k : AO → Ans) : Ans := D4.rec (motive := fun _ => Nat → H7 → (AO → Ans) → Ans) (fun m t k => get6 m t.a k) (fun m t k => get6 m t.b k) (fun m t k => get6 m t.c k) (fun m t k => get6 m t.d k) (dg (Nat.mod n 4)) (Nat.div n 4) t k
def set7 (n : Nat) (o : AO) (t : H7) (k : H7 → Ans) : Ans := D4.rec (motive := fun _ => Nat → AO → H7 → (H7 → Ans) → Ans) (fun m o t k => Q.rec (fun a b c d => set6 m o a fun a' => k ⟨a', b, c, d⟩) t) (fun m o t k => Q.rec (fun a b c d => set6 m o b fun b' => k ⟨a, b', c, d⟩) t) (fun m o t k => Q.rec (fun a b c d => set6 m o c fun c' => k ⟨a, b, c', d⟩) t) (fun m o t k => Q.rec (fun a b c d => set6 m o d fun d' => k ⟨a, b, c, d'⟩) t) (dg (Nat.mod n 4)) (Nat.div n 4) o t k
def hlim : Nat := 16384
def getH (t : HT) (n : Nat) (k : AO → Ans) : Ans := ifK (Nat.blt n hlim) (get7 n t k) (.no "name" n)
def setH (t : HT) (n : Nat) (o : AO) (k : HT → Ans) : Ans := ifK (Nat.blt n hlim) (set7 n o t k) (.no "name" n)
/-- A memory. -/
def mk7 (t : H7) : HT := t
/-- Nothing; one thing. -/
def nil0 : H0 := none
def pin0 (o : AO) : H0 := some o
def nil1 : H1 := ⟨nil0, nil0, nil0, nil0⟩
def pin1 (o : AO) : H1 := ⟨pin0 o, nil0, nil0, nil0⟩
def nil2 : H2 := ⟨nil1, nil1, nil1, nil1⟩
def pin2 (o : AO) : H2 := ⟨pin1 o, nil1, nil1, nil1⟩
def nil3 : H3 := ⟨nil2, nil2, nil2, nil2⟩
def pin3 (o : AO) : H3 := ⟨pin2 o, nil2, nil2, nil2⟩
def nil4 : H4 := ⟨nil3, nil3, nil3, nil3⟩
def pin4 (o : AO) : H4 := ⟨pin3 o, nil3, nil3, nil3⟩
def nil5 : H5 := ⟨nil4, nil4, nil4, nil4⟩
def pin5 (o : AO) : H5 := ⟨pin4 o, nil4, nil4, nil4⟩
def nil6 : H6 := ⟨nil5, nil5, nil5, nil5⟩
def pin6 (o : AO) : H6 := ⟨pin5 o, nil5, nil5, nil5⟩
def nil7 : H7 := ⟨nil6, nil6, nil6, nil6⟩
def pin7 (o : AO) : H7 := ⟨pin6 o, nil6, nil6, nil6⟩

/-! ### memory -/
/-- A new name. -/
def newK (s : St) (o : AO) (k : Nat → St → Ans) : Ans :=
  St.rec (fun h nx fl => natK nx fun n => setH h n o fun h' => k n ⟨h', Nat.succ n, fl⟩) s
/-- A name's object is another one; it must not be below the floor. -/
def putK (s : St) (b : Nat) (o : AO) (k : St → Ans) : Ans :=
  St.rec (fun h nx fl => ifK (Nat.ble fl b) (getH h b fun _ => setH h b o fun h' => k ⟨h', nx, fl⟩) (.no "below the floor" b)) s
def objK (s : St) (b : Nat) (k : AO → Ans) : Ans := St.rec (fun h _ _ => getH h b k) s
/-- Elders go. -/
def dropAll (l : List Nat) : St → (St → Ans) → Ans :=
  List.rec (fun s k => k s) (fun b _ ih s k => putK s b .dead fun s' => ih s' k) l
/-- n cells from off on. -/
def readN (c : Tr AV) (n : Nat) : Nat → (List AV → Ans) → Ans :=
  Nat.rec (fun _ k => k []) (fun _ ih off k => getK c off fun v => ih (Nat.succ off) fun l => k (v :: l)) n
/-- Cells from off on are written; what is written is there. -/
def writeN (l : List AV) : Tr AV → Nat → (Tr AV → Ans) → Ans :=
  List.rec (fun c _ k => k c) (fun v _ ih c off k => updK c off v fun c' => ih c' (Nat.succ off) k) l
/-- Cells from off on, which is the end. -/
def pushN (l : List AV) : Tr AV → Nat → (Tr AV → Nat → Ans) → Ans :=
  List.rec (fun c n k => k c n) (fun v _ ih c off k => setK c off v fun c' => ih c' (Nat.succ off) k) l
def loadK (s : St) (b off n : Nat) (k : List AV → Ans) : Ans :=
  objK s b fun o => asCells o fun c _ _ _ _ _ _ => natK off fun off => readN c n off k
def storeK (s : St) (b off : Nat) (l : List AV) (k : St → Ans) : Ans :=
  objK s b fun o => asCells o fun c n t op st el fz => ifK st (.no "stale" b)
    (natK off fun off => writeN l c off fun c' => dropAll el s fun s => putK s b (.cells c' n t op false [] fz) k)
/-- A row of cells of its own. -/
def rowK (s : St) (t : TypeId) (op fz : Bool) (l : List AV) (k : Nat → St → Ans) : Ans :=
  pushN l .lf 0 fun c n => newK s (.cells c n t op false [] fz) k

end
end Go.Proofs.YtajdeaabgplacaaGreatDoor.Sev

namespace Go.Proofs.YtajdeaabgplacaaGreatDoor.Sev
open Go
set_option linter.unusedVariables false
noncomputable section

/-- The names below are those of the package-level variables. -/
def glim : Nat := 2
/-- Operands. -/
def opd (x : Operand) (f : Fr) (k : AV → Ans) : Ans :=
  Operand.rec (fun t => getK f.tm t k) (fun v => absK v k) (fun g => ifK (Nat.blt g glim) (k (.ptr g 0)) (.no "global" g)) (fun n => k (.fn (.func n) [] [])) x
def opds (l : List Operand) : Fr → (List AV → Ans) → Ans :=
  List.rec (fun _ k => k []) (fun x _ ih f k => opd x f fun v => ih f fun l => k (v :: l)) l
def opdO (x : Option Operand) (f : Fr) (k : Option AV → Ans) : Ans :=
  Option.rec (k none) (fun x => opd x f fun v => k (some v)) x
/-- Parts, each with its place. -/
def parts (l : List (Nat × Operand)) : Fr → (List (Nat × AV) → Ans) → Ans :=
  List.rec (fun _ k => k []) (fun p _ ih f k => Prod.rec (fun i x => opd x f fun v => ih f fun l => k ((i, v) :: l)) p) l

/-! ### lists -/
def takeK {α : Type} (n : Nat) : List α → (List α → Ans) → Ans :=
  Nat.rec (fun _ k => k []) (fun _ ih l k => List.rec (.no "take" 0) (fun x t _ => ih t fun r => k (x :: r)) l) n
def dropK {α : Type} (n : Nat) : List α → (List α → Ans) → Ans :=
  Nat.rec (fun l k => k l) (fun _ ih l k => List.rec (.no "drop" 0) (fun _ t _ => ih t k) l) n
def nthK {α : Type} (n : Nat) : List α → (α → Ans) → Ans :=
  Nat.rec (fun l k => List.rec (.no "nth" 0) (fun x _ _ => k x) l) (fun _ ih l k => List.rec (.no "nth" 0) (fun _ t _ => ih t k) l) n
def lenK {α : Type} (l : List α) : (Nat → Ans) → Ans :=
  List.rec (fun k => k 0) (fun _ _ ih k => ih fun n => k (Nat.succ n)) l
/-- The cells from off on are replaced by those of v. -/
def overK (v : List AV) : List AV → (List AV → Ans) → Ans :=
  List.rec (fun l k => k l) (fun x _ ih l k => List.rec (.no "over" 0) (fun _ t _ => ih t fun r => k (x :: r)) l) v
def patchK (off : Nat) (v : List AV) : List AV → (List AV → Ans) → Ans :=
  Nat.rec (fun l k => overK v l k) (fun _ ih l k => List.rec (.no "patch" 0) (fun x t _ => ih t fun r => k (x :: r)) l) off
/-- Parts are put into cells: place tells offset and size. -/
def fillK (place : Nat → Option (Nat × Nat)) (ps : List (Nat × AV)) : List AV → (List AV → Ans) → Ans :=
  List.rec (fun l k => k l) (fun p _ ih l k => Prod.rec (fun i v => optK (place i) "place" fun q =>
    cellsK v fun c => lenK c fun n => ifK (Nat.beq n q.2) (patchK q.1 c l fun l' => ih l' k) (.no "fill" 0)) p) ps

/-- The same over a row. -/
def fillT (place : Nat → Option (Nat × Nat)) (ps : List (Nat × AV)) : Tr AV → (Tr AV → Ans) → Ans :=
  List.rec (fun l k => k l) (fun p _ ih l k => Prod.rec (fun i v => optK (place i) "place" fun q =>
    cellsK v fun c => lenK c fun n => ifK (Nat.beq n q.2 && Nat.ble 1 n) (writeN c l q.1 fun l' => ih l' k) (.no "fill" 0)) p) ps

/-! ### operators -/
def ltInt (a b : Int) : Bool := Int.rec (fun m b => Int.rec (fun n => Nat.blt m n) (fun _ => false) b) (fun m b => Int.rec (fun _ => true) (fun n => Nat.blt n m) b) a b
def intBinM (P : Program) (op : BinOp) (t : TypeId) (kd : IntKind) (a b : Int) (k : AV → Ans) : Ans :=
  match op with
  | .add => wrapK kd (a + b) fun n => k (.int kd n)
  | .sub => wrapK kd (a - b) fun n => k (.int kd n)
  | .eql => boolK (intEq a b) fun c => k (.bool c)
  | .neq => boolK (intEq a b) fun c => k (.bool (!c))
  | .lss => boolK (ltInt a b) fun c => k (.bool c)
  | .leq => boolK (ltInt b a) fun c => k (.bool (!c))
  | .gtr => boolK (ltInt b a) fun c => k (.bool c)
  | .geq => boolK (ltInt a b) fun c => k (.bool (!c))
  | op => staticK P (binOp op t (.int kd a) (.int kd b)) k
def intBin (P : Program) (op : BinOp) (t : TypeId) (kd : IntKind) (a b : Int) (k : AV → Ans) : Ans := BinOp.rec (motive := fun _ => Program → TypeId → IntKind → Int → Int → (AV → Ans) → Ans) (fun P t kd a b k => wrapK kd (a + b) fun n => k (.int kd n)) (fun P t kd a b k => wrapK kd (a - b) fun n => k (.int kd n)) (fun P t kd a b k => staticK P (binOp .mul t (.int kd a) (.int kd b)) k) (fun P t kd a b k => staticK P (binOp .quo t (.int kd a) (.int kd b)) k) (fun P t kd a b k => staticK P (binOp .rem t (.int kd a) (.int kd b)) k) (fun P t kd a b k => staticK P (binOp .and t (.int kd a) (.int kd b)) k) (fun P t kd a b k => staticK P (binOp .or t (.int kd a) (.int kd b)) k) (fun P t kd a b k => staticK P (binOp .xor t (.int kd a) (.int kd b)) k) (fun P t kd a b k => staticK P (binOp .shl t (.int kd a) (.int kd b)) k) (fun P t kd a b k => staticK P (binOp .shr t (.int kd a) (.int kd b)) k) (fun P t kd a b k => staticK P (binOp .andNot t (.int kd a) (.int kd b)) k) (fun P t kd a b k => boolK (intEq a b) fun c => k (.bool c)) (fun P t kd a b k => boolK (intEq a b) fun c => k (.bool (!c))) (fun P t kd a b k => boolK (ltInt a b) fun c => k (.bool c)) (fun P t kd a b k => boolK (ltInt b a) fun c => k (.bool (!c))) (fun P t kd a b k => boolK (ltInt b a) fun c => k (.bool c)) (fun P t kd a b k => boolK (ltInt a b) fun c => k (.bool (!c))) op P t kd a b k
theorem intBin_eq (P : Program) (op : BinOp) (t : TypeId) (kd : IntKind) (a b : Int) (k : AV → Ans) : intBin P op t kd a b k = intBinM P op t kd a b k := by cases op <;> rfl
def strLess (a : List Nat) : List Nat → Bool :=
  List.rec (fun b => List.rec false (fun _ _ _ => true) b) (fun x _ ih b => List.rec false (fun y l _ =>
    Bool.rec (Bool.rec false (ih l) (Nat.beq (Nat.mod x 256) (Nat.mod y 256))) true (Nat.blt (Nat.mod x 256) (Nat.mod y 256))) b) a
def strBin (op : BinOp) (a b : List Nat) (k : AV → Ans) : Ans :=
  match op with
  | .eql => boolK (strEq a b) fun c => k (.bool c)
  | .neq => boolK (strEq a b) fun c => k (.bool (!c))
  | .lss => boolK (strLess a b) fun c => k (.bool c)
  | .geq => boolK (strLess a b) fun c => k (.bool (!c))
  | .gtr => boolK (strLess b a) fun c => k (.bool c)
  | .leq => boolK (strLess b a) fun c => k (.bool (!c))
  | .add => lenK a fun m => lenK b fun n => ifK (Nat.blt (m + n) 1000000) (k (.str (a ++ b))) (.no "long" 0)
  | _ => .no "string op" 0
/-- Do two pointers stand for one place? -/
def ptrEqK (s : St) (b o c p : Nat) (k : Bool → Ans) : Ans :=
  ifK (Nat.beq b c) (boolK (Nat.beq o p) k)
    (objK s b fun x => asCells x fun _ n _ _ st el fz => objK s c fun y => asCells y fun _ m _ _ st' el' fz' =>
      ifK (!st && !st' && !fz && !fz') (k false) (.no "pointers" b))
def eqOp (op : BinOp) (c : Bool) (k : AV → Ans) : Ans :=
  match op with
  | .eql => boolK c fun c => k (.bool c)
  | .neq => boolK c fun c => k (.bool (!c))
  | _ => .no "op" 0
def ptrElemB (P : Program) (t : TypeId) : Bool := match P.underlying t with | some (.pointer e) => (match (P.info? e).map (·.size) with | some 0 => false | some _ => true | none => false) | _ => false
def kindB (P : Program) (t : TypeId) : Nat :=
  match P.underlying t with
  | some (.slice _) => 1 | some (.map ..) => 2 | some (.func ..) => 3 | some (.interface _) => 4 | some (.pointer _) => 5 | _ => 0
def binM (P : Program) (op : BinOp) (t : TypeId) (xo yo : Operand) (x y : AV) (s : St) (k : AV → Ans) : Ans :=
  match x, y with
  | .int j a, .int j' b => ifK (kindEq j j') (intBin P op t j a b k) (match op with
      | .shl | .shr => staticK P (binOp op t (.int j a) (.int j' b)) k
      | _ => .no "kinds" 0)
  | .str a, .str b => strBin op a b k
  | .ptr b o, .ptr c p => ifK (ptrElemB P t) (ptrEqK s b o c p fun r => eqOp op r k) (.no "pointer" 0)
  | .ptr b o, .nilptr => ifK (Nat.beq (kindB P t) 5) (eqOp op false k) (.no "pointer" 0)
  | .nilptr, .ptr c p => ifK (Nat.beq (kindB P t) 5) (eqOp op false k) (.no "pointer" 0)
  | .nilptr, .nilptr => ifK (Nat.beq (kindB P t) 5) (eqOp op true k) (.no "pointer" 0)
  | .sl .., .nilsl | .slo .., .nilsl | .nilsl, .sl .. | .nilsl, .slo .. | .sle .., .nilsl | .nilsl, .sle .. => ifK (Nat.beq (kindB P t) 1) (eqOp op false k) (.no "slice" 0)
  | .nilsl, .nilsl => ifK (Nat.beq (kindB P t) 1) (eqOp op true k) (.no "slice" 0)
  | .map _, .nilmap | .nilmap, .map _ => ifK (Nat.beq (kindB P t) 2) (eqOp op false k) (.no "map" 0)
  | .nilmap, .nilmap => ifK (Nat.beq (kindB P t) 2) (eqOp op true k) (.no "map" 0)
  | .fn .., .nilfn | .nilfn, .fn .. => ifK (Nat.beq (kindB P t) 3) (eqOp op false k) (.no "func" 0)
  | .nilfn, .nilfn => ifK (Nat.beq (kindB P t) 3) (eqOp op true k) (.no "func" 0)
  | .ifc .., .nilifc | .nilifc, .ifc .. => ifK (Nat.beq (kindB P t) 4) (eqOp op false k) (.no "iface" 0)
  | x, y => optK (ground x) "ground" fun vx => optK (ground y) "ground" fun vy =>
      staticK P (do eqGuard op t xo yo vx vy; binOp op t vx vy) k
def groundBin (P : Program) (op : BinOp) (t : TypeId) (xo yo : Operand) (x y : AV) (k : AV → Ans) : Ans := optK (ground x) "ground" fun vx => optK (ground y) "ground" fun vy => staticK P (do eqGuard op t xo yo vx vy; binOp op t vx vy) k
def bin_int (x0 : IntKind) (x1 : Int) (y : AV) : Program → BinOp → TypeId → Operand → Operand → St → (AV → Ans) → Ans := AV.rec (motive_1 := fun _ => IntKind → Int → Program → BinOp → TypeId → Operand → Operand → St → (AV → Ans) → Ans) (motive_2 := fun _ => Unit) (fun y0  x0 x1 P op t xo yo s k => groundBin P op t xo yo (.int x0 x1) (.bool y0) k) (fun j' b  x0 x1 P op t xo yo s k => ifK (kindEq x0 j') (intBin P op t x0 x1 b k) (match op with | .shl | .shr => staticK P (binOp op t (.int x0 x1) (.int j' b)) k | _ => .no "kinds" 0)) (fun y0  x0 x1 P op t xo yo s k => groundBin P op t xo yo (.int x0 x1) (.str y0) k) (fun y0 y1  x0 x1 P op t xo yo s k => groundBin P op t xo yo (.int x0 x1) (.ptr y0 y1) k) (fun x0 x1 P op t xo yo s k => groundBin P op t xo yo (.int x0 x1) (.nilptr ) k) (fun y0 y1 y2 y3  x0 x1 P op t xo yo s k => groundBin P op t xo yo (.int x0 x1) (.sl y0 y1 y2 y3) k) (fun y0 y1 y2 y3  x0 x1 P op t xo yo s k => groundBin P op t xo yo (.int x0 x1) (.slo y0 y1 y2 y3) k) (fun y0 y1 y2 y3  x0 x1 P op t xo yo s k => groundBin P op t xo yo (.int x0 x1) (.sle y0 y1 y2 y3) k) (fun x0 x1 P op t xo yo s k => groundBin P op t xo yo (.int x0 x1) (.nilsl ) k) (fun y0  x0 x1 P op t xo yo s k => groundBin P op t xo yo (.int x0 x1) (.map y0) k) (fun x0 x1 P op t xo yo s k => groundBin P op t xo yo (.int x0 x1) (.nilmap ) k) (fun y0 y1 y2 _ _ x0 x1 P op t xo yo s k => groundBin P op t xo yo (.int x0 x1) (.fn y0 y1 y2) k) (fun y0  x0 x1 P op t xo yo s k => groundBin P op t xo yo (.int x0 x1) (.yld y0) k) (fun y0  x0 x1 P op t xo yo s k => groundBin P op t xo yo (.int x0 x1) (.stp y0) k) (fun x0 x1 P op t xo yo s k => groundBin P op t xo yo (.int x0 x1) (.nilfn ) k) (fun y0 y1 _ x0 x1 P op t xo yo s k => groundBin P op t xo yo (.int x0 x1) (.ifc y0 y1) k) (fun x0 x1 P op t xo yo s k => groundBin P op t xo yo (.int x0 x1) (.nilifc ) k) (fun y0 _ x0 x1 P op t xo yo s k => groundBin P op t xo yo (.int x0 x1) (.agg y0) k) (fun y0  x0 x1 P op t xo yo s k => groundBin P op t xo yo (.int x0 x1) (.agt y0) k) (fun y0 _ x0 x1 P op t xo yo s k => groundBin P op t xo yo (.int x0 x1) (.tup y0) k) () (fun _ _ _ _ => ()) y x0 x1
def bin_str (x0 : List Nat) (y : AV) : Program → BinOp → TypeId → Operand → Operand → St → (AV → Ans) → Ans := AV.rec (motive_1 := fun _ => List Nat → Program → BinOp → TypeId → Operand → Operand → St → (AV → Ans) → Ans) (motive_2 := fun _ => Unit) (fun y0  x0 P op t xo yo s k => groundBin P op t xo yo (.str x0) (.bool y0) k) (fun y0 y1  x0 P op t xo yo s k => groundBin P op t xo yo (.str x0) (.int y0 y1) k) (fun b  x0 P op t xo yo s k => strBin op x0 b k) (fun y0 y1  x0 P op t xo yo s k => groundBin P op t xo yo (.str x0) (.ptr y0 y1) k) (fun x0 P op t xo yo s k => groundBin P op t xo yo (.str x0) (.nilptr ) k) (fun y0 y1 y2 y3  x0 P op t xo yo s k => groundBin P op t xo yo (.str x0) (.sl y0 y1 y2 y3) k) (fun y0 y1 y2 y3  x0 P op t xo yo s k => groundBin P op t xo yo (.str x0) (.slo y0 y1 y2 y3) k) (fun y0 y1 y2 y3  x0 P op t xo yo s k => groundBin P op t xo yo (.str x0) (.sle y0 y1 y2 y3) k) (fun x0 P op t xo yo s k => groundBin P op t xo yo (.str x0) (.nilsl ) k) (fun y0  x0 P op t xo yo s k => groundBin P op t xo yo (.str x0) (.map y0) k) (fun x0 P op t xo yo s k => groundBin P op t xo yo (.str x0) (.nilmap ) k) (fun y0 y1 y2 _ _ x0 P op t xo yo s k => groundBin P op t xo yo (.str x0) (.fn y0 y1 y2) k) (fun y0  x0 P op t xo yo s k => groundBin P op t xo yo (.str x0) (.yld y0) k) (fun y0  x0 P op t xo yo s k => groundBin P op t xo yo (.str x0) (.stp y0) k) (fun x0 P op t xo yo s k => groundBin P op t xo yo (.str x0) (.nilfn ) k) (fun y0 y1 _ x0 P op t xo yo s k => groundBin P op t xo yo (.str x0) (.ifc y0 y1) k) (fun x0 P op t xo yo s k => groundBin P op t xo yo (.str x0) (.nilifc ) k) (fun y0 _ x0 P op t xo yo s k => groundBin P op t xo yo (.str x0) (.agg y0) k) (fun y0  x0 P op t xo yo s k => groundBin P op t xo yo (.str x0) (.agt y0) k) (fun y0 _ x0 P op t xo yo s k => groundBin P op t xo yo (.str x0) (.tup y0) k) () (fun _ _ _ _ => ()) y x0
def bin_ptr (x0 : Nat) (x1 : Nat) (y : AV) : Program → BinOp → TypeId → Operand → Operand → St → (AV → Ans) → Ans := AV.rec (motive_1 := fun _ => Nat → Nat → Program → BinOp → TypeId → Operand → Operand → St → (AV → Ans) → Ans) (motive_2 := fun _ => Unit) (fun y0  x0 x1 P op t xo yo s k => groundBin P op t xo yo (.ptr x0 x1) (.bool y0) k) (fun y0 y1  x0 x1 P op t xo yo s k => groundBin P op t xo yo (.ptr x0 x1) (.int y0 y1) k) (fun y0  x0 x1 P op t xo yo s k => groundBin P op t xo yo (.ptr x0 x1) (.str y0) k) (fun c p  x0 x1 P op t xo yo s k => ifK (ptrElemB P t) (ptrEqK s x0 x1 c p fun r => eqOp op r k) (.no "pointer" 0)) (fun x0 x1 P op t xo yo s k => ifK (Nat.beq (kindB P t) 5) (eqOp op false k) (.no "pointer" 0)) (fun y0 y1 y2 y3  x0 x1 P op t xo yo s k => groundBin P op t xo yo (.ptr x0 x1) (.sl y0 y1 y2 y3) k) (fun y0 y1 y2 y3  x0 x1 P op t xo yo s k => groundBin P op t xo yo (.ptr x0 x1) (.slo y0 y1 y2 y3) k) (fun y0 y1 y2 y3  x0 x1 P op t xo yo s k => groundBin P op t xo yo (.ptr x0 x1) (.sle y0 y1 y2 y3) k) (fun x0 x1 P op t xo yo s k => groundBin P op t xo yo (.ptr x0 x1) (.nilsl ) k) (fun y0  x0 x1 P op t xo yo s k => groundBin P op t xo yo (.ptr x0 x1) (.map y0) k) (fun x0 x1 P op t xo yo s k => groundBin P op t xo yo (.ptr x0 x1) (.nilmap ) k) (fun y0 y1 y2 _ _ x0 x1 P op t xo yo s k => groundBin P op t xo yo (.ptr x0 x1) (.fn y0 y1 y2) k) (fun y0  x0 x1 P op t xo yo s k => groundBin P op t xo yo (.ptr x0 x1) (.yld y0) k) (fun y0  x0 x1 P op t xo yo s k => groundBin P op t xo yo (.ptr x0 x1) (.stp y0) k) (fun x0 x1 P op t xo yo s k => groundBin P op t xo yo (.ptr x0 x1) (.nilfn ) k) (fun y0 y1 _ x0 x1 P op t xo yo s k => groundBin P op t xo yo (.ptr x0 x1) (.ifc y0 y1) k) (fun x0 x1 P op t xo yo s k => groundBin P op t xo yo (.ptr x0 x1) (.nilifc ) k) (fun y0 _ x0 x1 P op t xo yo s k => groundBin P op t xo yo (.ptr x0 x1) (.agg y0) k) (fun y0  x0 x1 P op t xo yo s k => groundBin P op t xo yo (.ptr x0 x1) (.agt y0) k) (fun y0 _ x0 x1 P op t xo yo s k => groundBin P op t xo yo (.ptr x0 x1) (.tup y0) k) () (fun _ _ _ _ => ()) y x0 x1
def bin_nilptr  (y : AV) : Program → BinOp → TypeId → Operand → Operand → St → (AV → Ans) → Ans := AV.rec (motive_1 := fun _ => Program → BinOp → TypeId → Operand → Operand → St → (AV → Ans) → Ans) (motive_2 := fun _ => Unit) (fun y0  P op t xo yo s k => groundBin P op t xo yo (.nilptr ) (.bool y0) k) (fun y0 y1  P op t xo yo s k => groundBin P op t xo yo (.nilptr ) (.int y0 y1) k) (fun y0  P op t xo yo s k => groundBin P op t xo yo (.nilptr ) (.str y0) k) (fun _ _  P op t xo yo s k => ifK (Nat.beq (kindB P t) 5) (eqOp op false k) (.no "pointer" 0)) (fun P op t xo yo s k => ifK (Nat.beq (kindB P t) 5) (eqOp op true k) (.no "pointer" 0)) (fun y0 y1 y2 y3  P op t xo yo s k => groundBin P op t xo yo (.nilptr ) (.sl y0 y1 y2 y3) k) (fun y0 y1 y2 y3  P op t xo yo s k => groundBin P op t xo yo (.nilptr ) (.slo y0 y1 y2 y3) k) (fun y0 y1 y2 y3  P op t xo yo s k => groundBin P op t xo yo (.nilptr ) (.sle y0 y1 y2 y3) k) (fun P op t xo yo s k => groundBin P op t xo yo (.nilptr ) (.nilsl ) k) (fun y0  P op t xo yo s k => groundBin P op t xo yo (.nilptr ) (.map y0) k) (fun P op t xo yo s k => groundBin P op t xo yo (.nilptr ) (.nilmap ) k) (fun y0 y1 y2 _ _ P op t xo yo s k => groundBin P op t xo yo (.nilptr ) (.fn y0 y1 y2) k) (fun y0  P op t xo yo s k => groundBin P op t xo yo (.nilptr ) (.yld y0) k) (fun y0  P op t xo yo s k => groundBin P op t xo yo (.nilptr ) (.stp y0) k) (fun P op t xo yo s k => groundBin P op t xo yo (.nilptr ) (.nilfn ) k) (fun y0 y1 _ P op t xo yo s k => groundBin P op t xo yo (.nilptr ) (.ifc y0 y1) k) (fun P op t xo yo s k => groundBin P op t xo yo (.nilptr ) (.nilifc ) k) (fun y0 _ P op t xo yo s k => groundBin P op t xo yo (.nilptr ) (.agg y0) k) (fun y0  P op t xo yo s k => groundBin P op t xo yo (.nilptr ) (.agt y0) k) (fun y0 _ P op t xo yo s k => groundBin P op t xo yo (.nilptr ) (.tup y0) k) () (fun _ _ _ _ => ()) y 
def bin_sl (x0 : Nat) (x1 : Nat) (x2 : Nat) (x3 : Nat) (y : AV) : Program → BinOp → TypeId → Operand → Operand → St → (AV → Ans) → Ans := AV.rec (motive_1 := fun _ => Nat → Nat → Nat → Nat → Program → BinOp → TypeId → Operand → Operand → St → (AV → Ans) → Ans) (motive_2 := fun _ => Unit) (fun y0  x0 x1 x2 x3 P op t xo yo s k => groundBin P op t xo yo (.sl x0 x1 x2 x3) (.bool y0) k) (fun y0 y1  x0 x1 x2 x3 P op t xo yo s k => groundBin P op t xo yo (.sl x0 x1 x2 x3) (.int y0 y1) k) (fun y0  x0 x1 x2 x3 P op t xo yo s k => groundBin P op t xo yo (.sl x0 x1 x2 x3) (.str y0) k) (fun y0 y1  x0 x1 x2 x3 P op t xo yo s k => groundBin P op t xo yo (.sl x0 x1 x2 x3) (.ptr y0 y1) k) (fun x0 x1 x2 x3 P op t xo yo s k => groundBin P op t xo yo (.sl x0 x1 x2 x3) (.nilptr ) k) (fun y0 y1 y2 y3  x0 x1 x2 x3 P op t xo yo s k => groundBin P op t xo yo (.sl x0 x1 x2 x3) (.sl y0 y1 y2 y3) k) (fun y0 y1 y2 y3  x0 x1 x2 x3 P op t xo yo s k => groundBin P op t xo yo (.sl x0 x1 x2 x3) (.slo y0 y1 y2 y3) k) (fun y0 y1 y2 y3  x0 x1 x2 x3 P op t xo yo s k => groundBin P op t xo yo (.sl x0 x1 x2 x3) (.sle y0 y1 y2 y3) k) (fun x0 x1 x2 x3 P op t xo yo s k => ifK (Nat.beq (kindB P t) 1) (eqOp op false k) (.no "slice" 0)) (fun y0  x0 x1 x2 x3 P op t xo yo s k => groundBin P op t xo yo (.sl x0 x1 x2 x3) (.map y0) k) (fun x0 x1 x2 x3 P op t xo yo s k => groundBin P op t xo yo (.sl x0 x1 x2 x3) (.nilmap ) k) (fun y0 y1 y2 _ _ x0 x1 x2 x3 P op t xo yo s k => groundBin P op t xo yo (.sl x0 x1 x2 x3) (.fn y0 y1 y2) k) (fun y0  x0 x1 x2 x3 P op t xo yo s k => groundBin P op t xo yo (.sl x0 x1 x2 x3) (.yld y0) k) (fun y0  x0 x1 x2 x3 P op t xo yo s k => groundBin P op t xo yo (.sl x0 x1 x2 x3) (.stp y0) k) (fun x0 x1 x2 x3 P op t xo yo s k => groundBin P op t xo yo (.sl x0 x1 x2 x3) (.nilfn ) k) (fun y0 y1 _ x0 x1 x2 x3 P op t xo yo s k => groundBin P op t xo yo (.sl x0 x1 x2 x3) (.ifc y0 y1) k) (fun x0 x1 x2 x3 P op t xo yo s k => groundBin P op t xo yo (.sl x0 x1 x2 x3) (.nilifc ) k) (fun y0 _ x0 x1 x2 x3 P op t xo yo s k => groundBin P op t xo yo (.sl x0 x1 x2 x3) (.agg y0) k) (fun y0  x0 x1 x2 x3 P op t xo yo s k => groundBin P op t xo yo (.sl x0 x1 x2 x3) (.agt y0) k) (fun y0 _ x0 x1 x2 x3 P op t xo yo s k => groundBin P op t xo yo (.sl x0 x1 x2 x3) (.tup y0) k) () (fun _ _ _ _ => ()) y x0 x1 x2 x3
def bin_slo (x0 : Nat) (x1 : Nat) (x2 : Nat) (x3 : Nat) (y : AV) : Program → BinOp → TypeId → Operand → Operand → St → (AV → Ans) → Ans := AV.rec (motive_1 := fun _ => Nat → Nat → Nat → Nat → Program → BinOp → TypeId → Operand → Operand → St → (AV → Ans) → Ans) (motive_2 := fun _ => Unit) (fun y0  x0 x1 x2 x3 P op t xo yo s k => groundBin P op t xo yo (.slo x0 x1 x2 x3) (.bool y0) k) (fun y0 y1  x0 x1 x2 x3 P op t xo yo s k => groundBin P op t xo yo (.slo x0 x1 x2 x3) (.int y0 y1) k) (fun y0  x0 x1 x2 x3 P op t xo yo s k => groundBin P op t xo yo (.slo x0 x1 x2 x3) (.str y0) k) (fun y0 y1  x0 x1 x2 x3 P op t xo yo s k => groundBin P op t xo yo (.slo x0 x1 x2 x3) (.ptr y0 y1) k) (fun x0 x1 x2 x3 P op t xo yo s k => groundBin P op t xo yo (.slo x0 x1 x2 x3) (.nilptr ) k) (fun y0 y1 y2 y3  x0 x1 x2 x3 P op t xo yo s k => groundBin P op t xo yo (.slo x0 x1 x2 x3) (.sl y0 y1 y2 y3) k) (fun y0 y1 y2 y3  x0 x1 x2 x3 P op t xo yo s k => groundBin P op t xo yo (.slo x0 x1 x2 x3) (.slo y0 y1 y2 y3) k) (fun y0 y1 y2 y3  x0 x1 x2 x3 P op t xo yo s k => groundBin P op t xo yo (.slo x0 x1 x2 x3) (.sle y0 y1 y2 y3) k) (fun x0 x1 x2 x3 P op t xo yo s k => ifK (Nat.beq (kindB P t) 1) (eqOp op false k) (.no "slice" 0)) (fun y0  x0 x1 x2 x3 P op t xo yo s k => groundBin P op t xo yo (.slo x0 x1 x2 x3) (.map y0) k) (fun x0 x1 x2 x3 P op t xo yo s k => groundBin P op t xo yo (.slo x0 x1 x2 x3) (.nilmap ) k) (fun y0 y1 y2 _ _ x0 x1 x2 x3 P op t xo yo s k => groundBin P op t xo yo (.slo x0 x1 x2 x3) (.fn y0 y1 y2) k) (fun y0  x0 x1 x2 x3 P op t xo yo s k => groundBin P op t xo yo (.slo x0 x1 x2 x3) (.yld y0) k) (fun y0  x0 x1 x2 x3 P op t xo yo s k => groundBin P op t xo yo (.slo x0 x1 x2 x3) (.stp y0) k) (fun x0 x1 x2 x3 P op t xo yo s k => groundBin P op t xo yo (.slo x0 x1 x2 x3) (.nilfn ) k) (fun y0 y1 _ x0 x1 x2 x3 P op t xo yo s k => groundBin P op t xo yo (.slo x0 x1 x2 x3) (.ifc y0 y1) k) (fun x0 x1 x2 x3 P op t xo yo s k => groundBin P op t xo yo (.slo x0 x1 x2 x3) (.nilifc ) k) (fun y0 _ x0 x1 x2 x3 P op t xo yo s k => groundBin P op t xo yo (.slo x0 x1 x2 x3) (.agg y0) k) (fun y0  x0 x1 x2 x3 P op t xo yo s k => groundBin P op t xo yo (.slo x0 x1 x2 x3) (.agt y0) k) (fun y0 _ x0 x1 x2 x3 P op t xo yo s k => groundBin P op t xo yo (.slo x0 x1 x2 x3) (.tup y0) k) () (fun _ _ _ _ => ()) y x0 x1 x2 x3
def bin_sle (x0 : Nat) (x1 : Nat) (x2 : Nat) (x3 : Nat) (y : AV) : Program → BinOp → TypeId → Operand → Operand → St → (AV → Ans) → Ans := AV.rec (motive_1 := fun _ => Nat → Nat → Nat → Nat → Program → BinOp → TypeId → Operand → Operand → St → (AV → Ans) → Ans) (motive_2 := fun _ => Unit) (fun y0  x0 x1 x2 x3 P op t xo yo s k => groundBin P op t xo yo (.sle x0 x1 x2 x3) (.bool y0) k) (fun y0 y1  x0 x1 x2 x3 P op t xo yo s k => groundBin P op t xo yo (.sle x0 x1 x2 x3) (.int y0 y1) k) (fun y0  x0 x1 x2 x3 P op t xo yo s k => groundBin P op t xo yo (.sle x0 x1 x2 x3) (.str y0) k) (fun y0 y1  x0 x1 x2 x3 P op t xo yo s k => groundBin P op t xo yo (.sle x0 x1 x2 x3) (.ptr y0 y1) k) (fun x0 x1 x2 x3 P op t xo yo s k => groundBin P op t xo yo (.sle x0 x1 x2 x3) (.nilptr ) k) (fun y0 y1 y2 y3  x0 x1 x2 x3 P op t xo yo s k => groundBin P op t xo yo (.sle x0 x1 x2 x3) (.sl y0 y1 y2 y3) k) (fun y0 y1 y2 y3  x0 x1 x2 x3 P op t xo yo s k => groundBin P op t xo yo (.sle x0 x1 x2 x3) (.slo y0 y1 y2 y3) k) (fun y0 y1 y2 y3  x0 x1 x2 x3 P op t xo yo s k => groundBin P op t xo yo (.sle x0 x1 x2 x3) (.sle y0 y1 y2 y3) k) (fun x0 x1 x2 x3 P op t xo yo s k => ifK (Nat.beq (kindB P t) 1) (eqOp op false k) (.no "slice" 0)) (fun y0  x0 x1 x2 x3 P op t xo yo s k => groundBin P op t xo yo (.sle x0 x1 x2 x3) (.map y0) k) (fun x0 x1 x2 x3 P op t xo yo s k => groundBin P op t xo yo (.sle x0 x1 x2 x3) (.nilmap ) k) (fun y0 y1 y2 _ _ x0 x1 x2 x3 P op t xo yo s k => groundBin P op t xo yo (.sle x0 x1 x2 x3) (.fn y0 y1 y2) k) (fun y0  x0 x1 x2 x3 P op t xo yo s k => groundBin P op t xo yo (.sle x0 x1 x2 x3) (.yld y0) k) (fun y0  x0 x1 x2 x3 P op t xo yo s k => groundBin P op t xo yo (.sle x0 x1 x2 x3) (.stp y0) k) (fun x0 x1 x2 x3 P op t xo yo s k => groundBin P op t xo yo (.sle x0 x1 x2 x3) (.nilfn ) k) (fun y0 y1 _ x0 x1 x2 x3 P op t xo yo s k => groundBin P op t xo yo (.sle x0 x1 x2 x3) (.ifc y0 y1) k) (fun x0 x1 x2 x3 P op t xo yo s k => groundBin P op t xo yo (.sle x0 x1 x2 x3) (.nilifc ) k) (fun y0 _ x0 x1 x2 x3 P op t xo yo s k => groundBin P op t xo yo (.sle x0 x1 x2 x3) (.agg y0) k) (fun y0  x0 x1 x2 x3 P op t xo yo s k => groundBin P op t xo yo (.sle x0 x1 x2 x3) (.agt y0) k) (fun y0 _ x0 x1 x2 x3 P op t xo yo s k => groundBin P op t xo yo (.sle x0 x1 x2 x3) (.tup y0) k) () (fun _ _ _ _ => ()) y x0 x1 x2 x3
def bin_nilsl  (y : AV) : Program → BinOp → TypeId → Operand → Operand → St → (AV → Ans) → Ans := AV.rec (motive_1 := fun _ => Program → BinOp → TypeId → Operand → Operand → St → (AV → Ans) → Ans) (motive_2 := fun _ => Unit) (fun y0  P op t xo yo s k => groundBin P op t xo yo (.nilsl ) (.bool y0) k) (fun y0 y1  P op t xo yo s k => groundBin P op t xo yo (.nilsl ) (.int y0 y1) k) (fun y0  P op t xo yo s k => groundBin P op t xo yo (.nilsl ) (.str y0) k) (fun y0 y1  P op t xo yo s k => groundBin P op t xo yo (.nilsl ) (.ptr y0 y1) k) (fun P op t xo yo s k => groundBin P op t xo yo (.nilsl ) (.nilptr ) k) (fun _ _ _ _  P op t xo yo s k => ifK (Nat.beq (kindB P t) 1) (eqOp op false k) (.no "slice" 0)) (fun _ _ _ _  P op t xo yo s k => ifK (Nat.beq (kindB P t) 1) (eqOp op false k) (.no "slice" 0)) (fun _ _ _ _  P op t xo yo s k => ifK (Nat.beq (kindB P t) 1) (eqOp op false k) (.no "slice" 0)) (fun P op t xo yo s k => ifK (Nat.beq (kindB P t) 1) (eqOp op true k) (.no "slice" 0)) (fun y0  P op t xo yo s k => groundBin P op t xo yo (.nilsl ) (.map y0) k) (fun P op t xo yo s k => groundBin P op t xo yo (.nilsl ) (.nilmap ) k) (fun y0 y1 y2 _ _ P op t xo yo s k => groundBin P op t xo yo (.nilsl ) (.fn y0 y1 y2) k) (fun y0  P op t xo yo s k => groundBin P op t xo yo (.nilsl ) (.yld y0) k) (fun y0  P op t xo yo s k => groundBin P op t xo yo (.nilsl ) (.stp y0) k) (fun P op t xo yo s k => groundBin P op t xo yo (.nilsl ) (.nilfn ) k) (fun y0 y1 _ P op t xo yo s k => groundBin P op t xo yo (.nilsl ) (.ifc y0 y1) k) (fun P op t xo yo s k => groundBin P op t xo yo (.nilsl ) (.nilifc ) k) (fun y0 _ P op t xo yo s k => groundBin P op t xo yo (.nilsl ) (.agg y0) k) (fun y0  P op t xo yo s k => groundBin P op t xo yo (.nilsl ) (.agt y0) k) (fun y0 _ P op t xo yo s k => groundBin P op t xo yo (.nilsl ) (.tup y0) k) () (fun _ _ _ _ => ()) y 
def bin_map (x0 : Nat) (y : AV) : Program → BinOp → TypeId → Operand → Operand → St → (AV → Ans) → Ans := AV.rec (motive_1 := fun _ => Nat → Program → BinOp → TypeId → Operand → Operand → St → (AV → Ans) → Ans) (motive_2 := fun _ => Unit) (fun y0  x0 P op t xo yo s k => groundBin P op t xo yo (.map x0) (.bool y0) k) (fun y0 y1  x0 P op t xo yo s k => groundBin P op t xo yo (.map x0) (.int y0 y1) k) (fun y0  x0 P op t xo yo s k => groundBin P op t xo yo (.map x0) (.str y0) k) (fun y0 y1  x0 P op t xo yo s k => groundBin P op t xo yo (.map x0) (.ptr y0 y1) k) (fun x0 P op t xo yo s k => groundBin P op t xo yo (.map x0) (.nilptr ) k) (fun y0 y1 y2 y3  x0 P op t xo yo s k => groundBin P op t xo yo (.map x0) (.sl y0 y1 y2 y3) k) (fun y0 y1 y2 y3  x0 P op t xo yo s k => groundBin P op t xo yo (.map x0) (.slo y0 y1 y2 y3) k) (fun y0 y1 y2 y3  x0 P op t xo yo s k => groundBin P op t xo yo (.map x0) (.sle y0 y1 y2 y3) k) (fun x0 P op t xo yo s k => groundBin P op t xo yo (.map x0) (.nilsl ) k) (fun y0  x0 P op t xo yo s k => groundBin P op t xo yo (.map x0) (.map y0) k) (fun x0 P op t xo yo s k => ifK (Nat.beq (kindB P t) 2) (eqOp op false k) (.no "map" 0)) (fun y0 y1 y2 _ _ x0 P op t xo yo s k => groundBin P op t xo yo (.map x0) (.fn y0 y1 y2) k) (fun y0  x0 P op t xo yo s k => groundBin P op t xo yo (.map x0) (.yld y0) k) (fun y0  x0 P op t xo yo s k => groundBin P op t xo yo (.map x0) (.stp y0) k) (fun x0 P op t xo yo s k => groundBin P op t xo yo (.map x0) (.nilfn ) k) (fun y0 y1 _ x0 P op t xo yo s k => groundBin P op t xo yo (.map x0) (.ifc y0 y1) k) (fun x0 P op t xo yo s k => groundBin P op t xo yo (.map x0) (.nilifc ) k) (fun y0 _ x0 P op t xo yo s k => groundBin P op t xo yo (.map x0) (.agg y0) k) (fun y0  x0 P op t xo yo s k => groundBin P op t xo yo (.map x0) (.agt y0) k) (fun y0 _ x0 P op t xo yo s k => groundBin P op t xo yo (.map x0) (.tup y0) k) () (fun _ _ _ _ => ()) y x0
def bin_nilmap  (y : AV) : Program → BinOp → TypeId → Operand → Operand → St → (AV → Ans) → Ans := AV.rec (motive_1 := fun _ => Program → BinOp → TypeId → Operand → Operand → St → (AV → Ans) → Ans) (motive_2 := fun _ => Unit) (fun y0  P op t xo yo s k => groundBin P op t xo yo (.nilmap ) (.bool y0) k) (fun y0 y1  P op t xo yo s k => groundBin P op t xo yo (.nilmap ) (.int y0 y1) k) (fun y0  P op t xo yo s k => groundBin P op t xo yo (.nilmap ) (.str y0) k) (fun y0 y1  P op t xo yo s k => groundBin P op t xo yo (.nilmap ) (.ptr y0 y1) k) (fun P op t xo yo s k => groundBin P op t xo yo (.nilmap ) (.nilptr ) k) (fun y0 y1 y2 y3  P op t xo yo s k => groundBin P op t xo yo (.nilmap ) (.sl y0 y1 y2 y3) k) (fun y0 y1 y2 y3  P op t xo yo s k => groundBin P op t xo yo (.nilmap ) (.slo y0 y1 y2 y3) k) (fun y0 y1 y2 y3  P op t xo yo s k => groundBin P op t xo yo (.nilmap ) (.sle y0 y1 y2 y3) k) (fun P op t xo yo s k => groundBin P op t xo yo (.nilmap ) (.nilsl ) k) (fun _  P op t xo yo s k => ifK (Nat.beq (kindB P t) 2) (eqOp op false k) (.no "map" 0)) (fun P op t xo yo s k => ifK (Nat.beq (kindB P t) 2) (eqOp op true k) (.no "map" 0)) (fun y0 y1 y2 _ _ P op t xo yo s k => groundBin P op t xo yo (.nilmap ) (.fn y0 y1 y2) k) (fun y0  P op t xo yo s k => groundBin P op t xo yo (.nilmap ) (.yld y0) k) (fun y0  P op t xo yo s k => groundBin P op t xo yo (.nilmap ) (.stp y0) k) (fun P op t xo yo s k => groundBin P op t xo yo (.nilmap ) (.nilfn ) k) (fun y0 y1 _ P op t xo yo s k => groundBin P op t xo yo (.nilmap ) (.ifc y0 y1) k) (fun P op t xo yo s k => groundBin P op t xo yo (.nilmap ) (.nilifc ) k) (fun y0 _ P op t xo yo s k => groundBin P op t xo yo (.nilmap ) (.agg y0) k) (fun y0  P op t xo yo s k => groundBin P op t xo yo (.nilmap ) (.agt y0) k) (fun y0 _ P op t xo yo s k => groundBin P op t xo yo (.nilmap ) (.tup y0) k) () (fun _ _ _ _ => ()) y 
def bin_fn (x0 : Fn) (x1 : List AV) (x2 : List AV) (y : AV) : Program → BinOp → TypeId → Operand → Operand → St → (AV → Ans) → Ans := AV.rec (motive_1 := fun _ => Fn → List AV → List AV → Program → BinOp → TypeId → Operand → Operand → St → (AV → Ans) → Ans) (motive_2 := fun _ => Unit) (fun y0  x0 x1 x2 P op t xo yo s k => groundBin P op t xo yo (.fn x0 x1 x2) (.bool y0) k) (fun y0 y1  x0 x1 x2 P op t xo yo s k => groundBin P op t xo yo (.fn x0 x1 x2) (.int y0 y1) k) (fun y0  x0 x1 x2 P op t xo yo s k => groundBin P op t xo yo (.fn x0 x1 x2) (.str y0) k) (fun y0 y1  x0 x1 x2 P op t xo yo s k => groundBin P op t xo yo (.fn x0 x1 x2) (.ptr y0 y1) k) (fun x0 x1 x2 P op t xo yo s k => groundBin P op t xo yo (.fn x0 x1 x2) (.nilptr ) k) (fun y0 y1 y2 y3  x0 x1 x2 P op t xo yo s k => groundBin P op t xo yo (.fn x0 x1 x2) (.sl y0 y1 y2 y3) k) (fun y0 y1 y2 y3  x0 x1 x2 P op t xo yo s k => groundBin P op t xo yo (.fn x0 x1 x2) (.slo y0 y1 y2 y3) k) (fun y0 y1 y2 y3  x0 x1 x2 P op t xo yo s k => groundBin P op t xo yo (.fn x0 x1 x2) (.sle y0 y1 y2 y3) k) (fun x0 x1 x2 P op t xo yo s k => groundBin P op t xo yo (.fn x0 x1 x2) (.nilsl ) k) (fun y0  x0 x1 x2 P op t xo yo s k => groundBin P op t xo yo (.fn x0 x1 x2) (.map y0) k) (fun x0 x1 x2 P op t xo yo s k => groundBin P op t xo yo (.fn x0 x1 x2) (.nilmap ) k) (fun y0 y1 y2 _ _ x0 x1 x2 P op t xo yo s k => groundBin P op t xo yo (.fn x0 x1 x2) (.fn y0 y1 y2) k) (fun y0  x0 x1 x2 P op t xo yo s k => groundBin P op t xo yo (.fn x0 x1 x2) (.yld y0) k) (fun y0  x0 x1 x2 P op t xo yo s k => groundBin P op t xo yo (.fn x0 x1 x2) (.stp y0) k) (fun x0 x1 x2 P op t xo yo s k => ifK (Nat.beq (kindB P t) 3) (eqOp op false k) (.no "func" 0)) (fun y0 y1 _ x0 x1 x2 P op t xo yo s k => groundBin P op t xo yo (.fn x0 x1 x2) (.ifc y0 y1) k) (fun x0 x1 x2 P op t xo yo s k => groundBin P op t xo yo (.fn x0 x1 x2) (.nilifc ) k) (fun y0 _ x0 x1 x2 P op t xo yo s k => groundBin P op t xo yo (.fn x0 x1 x2) (.agg y0) k) (fun y0  x0 x1 x2 P op t xo yo s k => groundBin P op t xo yo (.fn x0 x1 x2) (.agt y0) k) (fun y0 _ x0 x1 x2 P op t xo yo s k => groundBin P op t xo yo (.fn x0 x1 x2) (.tup y0) k) () (fun _ _ _ _ => ()) y x0 x1 x2
def bin_nilfn  (y : AV) : Program → BinOp → TypeId → Operand → Operand → St → (AV → Ans) → Ans := AV.rec (motive_1 := fun _ => Program → BinOp → TypeId → Operand → Operand → St → (AV → Ans) → Ans) (motive_2 := fun _ => Unit) (fun y0  P op t xo yo s k => groundBin P op t xo yo (.nilfn ) (.bool y0) k) (fun y0 y1  P op t xo yo s k => groundBin P op t xo yo (.nilfn ) (.int y0 y1) k) (fun y0  P op t xo yo s k => groundBin P op t xo yo (.nilfn ) (.str y0) k) (fun y0 y1  P op t xo yo s k => groundBin P op t xo yo (.nilfn ) (.ptr y0 y1) k) (fun P op t xo yo s k => groundBin P op t xo yo (.nilfn ) (.nilptr ) k) (fun y0 y1 y2 y3  P op t xo yo s k => groundBin P op t xo yo (.nilfn ) (.sl y0 y1 y2 y3) k) (fun y0 y1 y2 y3  P op t xo yo s k => groundBin P op t xo yo (.nilfn ) (.slo y0 y1 y2 y3) k) (fun y0 y1 y2 y3  P op t xo yo s k => groundBin P op t xo yo (.nilfn ) (.sle y0 y1 y2 y3) k) (fun P op t xo yo s k => groundBin P op t xo yo (.nilfn ) (.nilsl ) k) (fun y0  P op t xo yo s k => groundBin P op t xo yo (.nilfn ) (.map y0) k) (fun P op t xo yo s k => groundBin P op t xo yo (.nilfn ) (.nilmap ) k) (fun _ _ _ _ _ P op t xo yo s k => ifK (Nat.beq (kindB P t) 3) (eqOp op false k) (.no "func" 0)) (fun y0  P op t xo yo s k => groundBin P op t xo yo (.nilfn ) (.yld y0) k) (fun y0  P op t xo yo s k => groundBin P op t xo yo (.nilfn ) (.stp y0) k) (fun P op t xo yo s k => ifK (Nat.beq (kindB P t) 3) (eqOp op true k) (.no "func" 0)) (fun y0 y1 _ P op t xo yo s k => groundBin P op t xo yo (.nilfn ) (.ifc y0 y1) k) (fun P op t xo yo s k => groundBin P op t xo yo (.nilfn ) (.nilifc ) k) (fun y0 _ P op t xo yo s k => groundBin P op t xo yo (.nilfn ) (.agg y0) k) (fun y0  P op t xo yo s k => groundBin P op t xo yo (.nilfn ) (.agt y0) k) (fun y0 _ P op t xo yo s k => groundBin P op t xo yo (.nilfn ) (.tup y0) k) () (fun _ _ _ _ => ()) y 
def bin_ifc (x0 : Nat) (x1 : AV) (y : AV) : Program → BinOp → TypeId → Operand → Operand → St → (AV → Ans) → Ans := AV.rec (motive_1 := fun _ => Nat → AV → Program → BinOp → TypeId → Operand → Operand → St → (AV → Ans) → Ans) (motive_2 := fun _ => Unit) (fun y0  x0 x1 P op t xo yo s k => groundBin P op t xo yo (.ifc x0 x1) (.bool y0) k) (fun y0 y1  x0 x1 P op t xo yo s k => groundBin P op t xo yo (.ifc x0 x1) (.int y0 y1) k) (fun y0  x0 x1 P op t xo yo s k => groundBin P op t xo yo (.ifc x0 x1) (.str y0) k) (fun y0 y1  x0 x1 P op t xo yo s k => groundBin P op t xo yo (.ifc x0 x1) (.ptr y0 y1) k) (fun x0 x1 P op t xo yo s k => groundBin P op t xo yo (.ifc x0 x1) (.nilptr ) k) (fun y0 y1 y2 y3  x0 x1 P op t xo yo s k => groundBin P op t xo yo (.ifc x0 x1) (.sl y0 y1 y2 y3) k) (fun y0 y1 y2 y3  x0 x1 P op t xo yo s k => groundBin P op t xo yo (.ifc x0 x1) (.slo y0 y1 y2 y3) k) (fun y0 y1 y2 y3  x0 x1 P op t xo yo s k => groundBin P op t xo yo (.ifc x0 x1) (.sle y0 y1 y2 y3) k) (fun x0 x1 P op t xo yo s k => groundBin P op t xo yo (.ifc x0 x1) (.nilsl ) k) (fun y0  x0 x1 P op t xo yo s k => groundBin P op t xo yo (.ifc x0 x1) (.map y0) k) (fun x0 x1 P op t xo yo s k => groundBin P op t xo yo (.ifc x0 x1) (.nilmap ) k) (fun y0 y1 y2 _ _ x0 x1 P op t xo yo s k => groundBin P op t xo yo (.ifc x0 x1) (.fn y0 y1 y2) k) (fun y0  x0 x1 P op t xo yo s k => groundBin P op t xo yo (.ifc x0 x1) (.yld y0) k) (fun y0  x0 x1 P op t xo yo s k => groundBin P op t xo yo (.ifc x0 x1) (.stp y0) k) (fun x0 x1 P op t xo yo s k => groundBin P op t xo yo (.ifc x0 x1) (.nilfn ) k) (fun y0 y1 _ x0 x1 P op t xo yo s k => groundBin P op t xo yo (.ifc x0 x1) (.ifc y0 y1) k) (fun x0 x1 P op t xo yo s k => ifK (Nat.beq (kindB P t) 4) (eqOp op false k) (.no "iface" 0)) (fun y0 _ x0 x1 P op t xo yo s k => groundBin P op t xo yo (.ifc x0 x1) (.agg y0) k) (fun y0  x0 x1 P op t xo yo s k => groundBin P op t xo yo (.ifc x0 x1) (.agt y0) k) (fun y0 _ x0 x1 P op t xo yo s k => groundBin P op t xo yo (.ifc x0 x1) (.tup y0) k) () (fun _ _ _ _ => ()) y x0 x1
def bin_nilifc  (y : AV) : Program → BinOp → TypeId → Operand → Operand → St → (AV → Ans) → Ans := AV.rec (motive_1 := fun _ => Program → BinOp → TypeId → Operand → Operand → St → (AV → Ans) → Ans) (motive_2 := fun _ => Unit) (fun y0  P op t xo yo s k => groundBin P op t xo yo (.nilifc ) (.bool y0) k) (fun y0 y1  P op t xo yo s k => groundBin P op t xo yo (.nilifc ) (.int y0 y1) k) (fun y0  P op t xo yo s k => groundBin P op t xo yo (.nilifc ) (.str y0) k) (fun y0 y1  P op t xo yo s k => groundBin P op t xo yo (.nilifc ) (.ptr y0 y1) k) (fun P op t xo yo s k => groundBin P op t xo yo (.nilifc ) (.nilptr ) k) (fun y0 y1 y2 y3  P op t xo yo s k => groundBin P op t xo yo (.nilifc ) (.sl y0 y1 y2 y3) k) (fun y0 y1 y2 y3  P op t xo yo s k => groundBin P op t xo yo (.nilifc ) (.slo y0 y1 y2 y3) k) (fun y0 y1 y2 y3  P op t xo yo s k => groundBin P op t xo yo (.nilifc ) (.sle y0 y1 y2 y3) k) (fun P op t xo yo s k => groundBin P op t xo yo (.nilifc ) (.nilsl ) k) (fun y0  P op t xo yo s k => groundBin P op t xo yo (.nilifc ) (.map y0) k) (fun P op t xo yo s k => groundBin P op t xo yo (.nilifc ) (.nilmap ) k) (fun y0 y1 y2 _ _ P op t xo yo s k => groundBin P op t xo yo (.nilifc ) (.fn y0 y1 y2) k) (fun y0  P op t xo yo s k => groundBin P op t xo yo (.nilifc ) (.yld y0) k) (fun y0  P op t xo yo s k => groundBin P op t xo yo (.nilifc ) (.stp y0) k) (fun P op t xo yo s k => groundBin P op t xo yo (.nilifc ) (.nilfn ) k) (fun _ _ _ P op t xo yo s k => ifK (Nat.beq (kindB P t) 4) (eqOp op false k) (.no "iface" 0)) (fun P op t xo yo s k => groundBin P op t xo yo (.nilifc ) (.nilifc ) k) (fun y0 _ P op t xo yo s k => groundBin P op t xo yo (.nilifc ) (.agg y0) k) (fun y0  P op t xo yo s k => groundBin P op t xo yo (.nilifc ) (.agt y0) k) (fun y0 _ P op t xo yo s k => groundBin P op t xo yo (.nilifc ) (.tup y0) k) () (fun _ _ _ _ => ()) y 
def binK (P : Program) (op : BinOp) (t : TypeId) (xo yo : Operand) (x y : AV) (s : St) (k : AV → Ans) : Ans := AV.rec (motive_1 := fun _ => AV → Program → BinOp → TypeId → Operand → Operand → St → (AV → Ans) → Ans) (motive_2 := fun _ => Unit) (fun x0  y P op t xo yo s k => groundBin P op t xo yo (.bool x0) y k) (fun x0 x1  y P op t xo yo s k => bin_int x0 x1 y P op t xo yo s k) (fun x0  y P op t xo yo s k => bin_str x0 y P op t xo yo s k) (fun x0 x1  y P op t xo yo s k => bin_ptr x0 x1 y P op t xo yo s k) (fun y P op t xo yo s k => bin_nilptr  y P op t xo yo s k) (fun x0 x1 x2 x3  y P op t xo yo s k => bin_sl x0 x1 x2 x3 y P op t xo yo s k) (fun x0 x1 x2 x3  y P op t xo yo s k => bin_slo x0 x1 x2 x3 y P op t xo yo s k) (fun x0 x1 x2 x3  y P op t xo yo s k => bin_sle x0 x1 x2 x3 y P op t xo yo s k) (fun y P op t xo yo s k => bin_nilsl  y P op t xo yo s k) (fun x0  y P op t xo yo s k => bin_map x0 y P op t xo yo s k) (fun y P op t xo yo s k => bin_nilmap  y P op t xo yo s k) (fun x0 x1 x2 _ _ y P op t xo yo s k => bin_fn x0 x1 x2 y P op t xo yo s k) (fun x0  y P op t xo yo s k => groundBin P op t xo yo (.yld x0) y k) (fun x0  y P op t xo yo s k => groundBin P op t xo yo (.stp x0) y k) (fun y P op t xo yo s k => bin_nilfn  y P op t xo yo s k) (fun x0 x1 _ y P op t xo yo s k => bin_ifc x0 x1 y P op t xo yo s k) (fun y P op t xo yo s k => bin_nilifc  y P op t xo yo s k) (fun x0 _ y P op t xo yo s k => groundBin P op t xo yo (.agg x0) y k) (fun x0  y P op t xo yo s k => groundBin P op t xo yo (.agt x0) y k) (fun x0 _ y P op t xo yo s k => groundBin P op t xo yo (.tup x0) y k) () (fun _ _ _ _ => ()) x y P op t xo yo s k
theorem binK_eq (P : Program) (op : BinOp) (t : TypeId) (xo yo : Operand) (x y : AV) (s : St) (k : AV → Ans) : binK P op t xo yo x y s k = binM P op t xo yo x y s k := by cases x <;> cases y <;> rfl
def unK (P : Program) (op : UnOp) (x : AV) (k : AV → Ans) : Ans :=
  match op, x with
  | .not, .bool b => boolK b fun c => k (.bool (!c))
  | op, x => optK (ground x) "ground" fun v => staticK P (Op.unary op v) k

/-! ### memory -/
/-- A type of many cells. -/
def bigB (P : Program) (t : TypeId) : Bool := match (P.info? t).map (·.size) with | some n => Nat.ble 64 n | none => false
def snapOf (o : AO) (k : Tr AV → Nat → Ans) : Ans := match o with | .snap c n => k c n | _ => .no "snap" 0
/-- Is a type one of aggregates? -/
def aggO (P : Program) (t : TypeId) : Option Bool := match P.underlying t with | some (.struct _) | some (.array ..) => some true | some _ => some false | none => none
def loadT (P : Program) (t : TypeId) (s : St) (b off : Nat) (k : AV → Ans) : Ans :=
  optK (aggO P t) "type" fun g => ifK g (optK (sizeB P t) "size" fun n => ifK (Nat.beq n 0) (k (.agg [])) (loadK s b off n fun l => k (.agg l)))
    (objK s b fun o => asCells o fun c _ _ _ _ _ _ => getK c off k)
/-- A variable of many cells is loaded whole: a name keeps them. -/
def loadBig (P : Program) (t : TypeId) (s : St) (b off : Nat) (k : AV → St → Ans) : Ans :=
  ifK (isAggB P t && Nat.beq off 0) (optK (sizeB P t) "size" fun n => objK s b fun o => asCells o fun c m _ _ _ _ _ =>
    ifK (Nat.beq m n) (newK s (.snap c n) fun b' s' => k (.agt b') s') (.no "load of a part" b)) (.no "load of a part" b)
def storeT (P : Program) (t : TypeId) (s : St) (b off : Nat) (v : AV) (k : St → Ans) : Ans :=
  optK (sizeB P t) "size" fun n => match v with
    | .agt b' => objK s b' fun q => snapOf q fun c m => objK s b fun o => asCells o fun _ m' t' op st el fz =>
        ifK (Nat.beq m n && Nat.beq m' n && Nat.beq off 0 && !op && !st) (dropAll el s fun s => putK s b (.cells c n t' false false [] fz) k) (.no "store of a great aggregate" b)
    | v => cellsK v fun l => lenK l fun m => ifK (Nat.beq m n) (ifK (Nat.beq n 0) (k s) (storeK s b off l k)) (.no "store" 0)
/-- A new variable of a type's size. -/
def varK (t : TypeId) (v : AV) (s : St) (k : AV → St → Ans) : Ans :=
  match v with
  | .agt b' => objK s b' fun q => snapOf q fun c n => newK s (.cells c n t false false [] false) fun b s' => k (.ptr b 0) s'
  | v => cellsK v fun l => rowK s t false false l fun b s' => k (.ptr b 0) s'
/-- n times the cells z, which are m. -/
def repT (z : List AV) (m n : Nat) : Tr AV := mkA (fun i => z.getD (Nat.mod i m) undefA) (Nat.mul n m) 1 0
/-- The cells of a zero. -/
def zcells (v : AV) : List AV := match v with | .agg l => l | v => [v]
def zeroCells (P : Program) (t : TypeId) : Option (List AV) := (zeroB P t).bind fun a => if (zcells a).all isCell then some (zcells a) else none
/-- Of a zero of integers the kind's number, and one; else nothing. -/
def zTag (v : AV) : Nat := AV.rec (motive_1 := fun _ => Nat) (motive_2 := fun _ => Unit) (fun _ => 0) (fun k n => Int.rec (fun m => Nat.rec (Nat.succ (kindTag k)) (fun _ _ => 0) m) (fun _ => 0) n) (fun _ => 0) (fun _ _ => 0) 0 (fun _ _ _ _ => 0) (fun _ _ _ _ => 0) (fun _ _ _ _ => 0) 0 (fun _ => 0) 0 (fun _ _ _ _ _ => 0) (fun _ => 0) (fun _ => 0) 0 (fun _ _ _ => 0) 0 (fun _ _ => 0) (fun _ => 0) (fun _ _ => 0) () (fun _ _ _ _ => ()) v
def natP {α : Type} (n : Nat) (k : Nat → α) : α := Nat.rec (k 0) (fun m _ => k (Nat.succ m)) n
/-- The runs of a row: v stood n times so far, z is its number. -/
def runsOf (l : List AV) : AV → Nat → Nat → List (Nat × AV) :=
  List.rec (fun v _ n => [(n, v)]) (fun x _ ih v z n => Bool.rec ((n, v) :: ih x (zTag x) 1) (natP (Nat.succ n) (ih v z)) (Bool.rec false (Nat.beq (zTag x) z) (Nat.blt 0 z))) l
def runAt (l : List (Nat × AV)) : Nat → AV := List.rec (fun _ => undefA) (fun p _ ih i => Prod.rec (fun n v => Bool.rec (ih (Nat.sub i n)) v (Nat.blt i n)) p) l
/-- The i-th of a row, where long runs are passed in one step. -/
def cellOf (l : List AV) : Nat → AV := List.rec (fun _ => undefA) (fun x l _ i => runAt (runsOf l x (zTag x) 1) i) l
/-- A type's zero, as a row. -/
def zeroT (P : Program) (t : TypeId) : Tr AV := match zeroCells P t with | some l => mkA (cellOf l) l.length 1 0 | none => .lf
def zeroN (P : Program) (t : TypeId) : Nat := match zeroCells P t with | some l => l.length | none => 0
/-- The parts of an aggregate. -/
def partK (P : Program) (t : TypeId) (l : List AV) (off : Nat) (k : AV → Ans) : Ans :=
  dropK off l fun r => optK (aggO P t) "type" fun g => ifK g (optK (sizeB P t) "size" fun n => takeK n r fun q => k (.agg q)) (nthK 0 r k)
def placeB (P : Program) (t : TypeId) (i : Nat) : Option (Nat × Nat) :=
  match P.underlying t with
  | some (.struct fs) => (fs[i]?).bind fun f => (sizeB P f.type).map (f.offset, ·)
  | some (.array _ e) => (sizeB P e).map fun n => (i * n, n)
  | some (.slice e) => (sizeB P e).map fun n => (i * n, n)
  | _ => none
def structB (P : Program) (t : TypeId) : Bool := match P.underlying t with | some (.struct fs) => fs.toList.all (fun f => (P.info? f.type).isSome) | some (.array _ e) => (P.info? e).isSome | _ => false
def zerosN (z : List AV) (n : Nat) : List AV := Nat.rec [] (fun _ ih => z ++ ih) n

/-! ### slices -/
/-- A bound: 0 ≤ i ≤ y. -/
def boundK (x : AV) (y : Nat) (k : Nat → Ans) : Ans :=
  match x with
  | .int _ (.ofNat i) => ifK (Nat.ble i y) (natK i k) (.no "bound" i)
  | _ => .no "bound" 0
def boundsK (len cap : Nat) (lo hi mx : Option AV) (k : Nat → Nat → Nat → Ans) : Ans :=
  Option.rec (fun k => natK cap k) (fun v k => boundK v cap k) mx fun m =>
    Option.rec (fun k => Option.rec (natK len k) (fun _ => .no "max without high" 0) mx) (fun v k => boundK v m k) hi fun h =>
      Option.rec (fun k => k 0) (fun v k => boundK v h k) lo fun l => k l h m
def sliceK (P : Program) (t : TypeId) (x : AV) (lo hi mx : Option AV) (k : AV → Ans) : Ans :=
  match x with
  | .str b => ifK (Option.isNone mx) (match P.underlying t with
      | some .string => lenK b fun n => boundsK n n lo hi none fun l h _ => dropK l b fun r => takeK (h - l) r fun q => k (.str q)
      | _ => .no "slice" 0) (.no "slice" 0)
  | .sl b off len cap => optK (sliceB P t) "slice" fun e => optK (sizeB P e) "size" fun n => boundsK len cap lo hi mx fun l h m =>
      natK (if m = l then off else off + l * n) fun o => natK (h - l) fun q => natK (m - l) fun c => k (.sl b o q c)
  | .slo b off len o => optK (sliceB P t) "slice" fun e => optK (sizeB P e) "size" fun n => boundsK len len lo hi mx fun l h m =>
      (match mx with
       | none => ifK (Nat.blt l len) (natK (off + l * n) fun f => natK (h - l) fun q => natK (o + l) fun o' => k (.slo b f q o'))
           (natK (off + l * n) fun f => natK (o + l) fun o' => k (.sle b off f o'))
       | some _ => natK (if m = l then off else off + l * n) fun f => natK (h - l) fun q => natK (m - l) fun c => k (.sl b f q c))
  | .sle b off off1 o => optK (sliceB P t) "slice" fun e => optK (sizeB P e) "size" fun n => boundsK 0 0 lo hi mx fun _ _ _ =>
      (match mx with
       | none => k (.sle b off off1 o)
       | some _ => .no "slice at the end" 0)
  | .nilsl => optK (sliceB P t) "slice" fun e => optK (sizeB P e) "size" fun n => boundsK 0 0 lo hi mx fun _ _ _ => k .nilsl
  | .ptr b off => match P.underlying t with
      | some (.array n e) => optK (sizeB P e) "size" fun sz => boundsK n n lo hi mx fun l h m =>
          natK (if m = l then off else off + l * sz) fun o => natK (h - l) fun q => natK (m - l) fun c => k (.sl b o q c)
      | some (.pointer a) => (match P.underlying a with
        | some (.array n e) => optK (sizeB P e) "size" fun sz => boundsK n n lo hi mx fun l h m =>
          natK (if m = l then off else off + l * sz) fun o => natK (h - l) fun q => natK (m - l) fun c => k (.sl b o q c)
        | _ => .no "slice" 0)
      | _ => .no "slice" 0
  | _ => .no "slice" 0
def arrB (P : Program) (t : TypeId) : Option (Nat × TypeId) := match P.underlying t with | some (.array n e) => some (n, e) | _ => none
def indexAddrK (P : Program) (t : TypeId) (x ix : AV) (k : AV → Ans) : Ans :=
  match x with
  | .sl b off len _ | .slo b off len _ => asInt ix fun i => (match i with
      | .ofNat i => ifK (Nat.blt i len) (optK (sliceB P t) "index" fun e => optK (sizeB P e) "size" fun n => ifK (Nat.ble 1 n) (natK (off + i * n) fun o => k (.ptr b o)) (.no "index of nothing" 0)) (.no "index" i)
      | _ => .no "index" 0)
  | .ptr b off => asInt ix fun i => (match i with
      | .ofNat i => optK (arrB P t) "index" fun a => ifK (Nat.blt i a.1) (optK (sizeB P a.2) "size" fun n => ifK (Nat.ble 1 n) (natK (off + i * n) fun o => k (.ptr b o)) (.no "index of nothing" 0)) (.no "index" i)
      | _ => .no "index" 0)
  | _ => .no "index" 0
def indexK (P : Program) (t : TypeId) (x ix : AV) (k : AV → Ans) : Ans :=
  match x with
  | .str s => asInt ix fun i => (match i with
      | .ofNat i => (match P.underlying t with
        | some .string => nthK i s fun c => natK (Nat.mod c 256) fun c => k (.int .u8 (.ofNat c))
        | _ => .no "index" 0)
      | _ => .no "index" 0)
  | .agg l => asInt ix fun i => (match i with
      | .ofNat i => optK (arrB P t) "index" fun a => ifK (Nat.blt i a.1) (optK (sizeB P a.2) "size" fun n => partK P a.2 l (i * n) k) (.no "index" i)
      | _ => .no "index" 0)
  | _ => .no "index" 0

/-! ### maps -/
def findK (key : AV) (es : List (AV × AV)) : (Option AV → Ans) → Ans :=
  List.rec (fun k => k none) (fun e _ ih k => Prod.rec (fun a v => optK (keyEq key a) "key" fun b => ifK b (k (some v)) (ih k)) e) es
def updE (key v : AV) (es : List (AV × AV)) : (List (AV × AV) → Bool → Ans) → Ans :=
  List.rec (fun k => k [(key, v)] false) (fun e l ih k => optK (keyEq key (Prod.fst e)) "key" fun b => ifK b (k ((key, v) :: l) true) (ih fun l' b => k (e :: l') b)) es
/-- A key's entry is v: with a key more the map is of another version. -/
def setEK (b : Nat) (key v : AV) (es : List (AV × AV)) (ver : Nat) (s : St) (k : Nat → St → Ans) : Ans :=
  updE key v es fun es' old => Bool.rec (putK s b (.map es' s.nx) fun s' => newK s' .dead fun n s'' => k n s'') (putK s b (.map es' ver) fun s' => k ver s') old
def delE (key : AV) (es : List (AV × AV)) : (List (AV × AV) → Ans) → Ans :=
  List.rec (fun k => k []) (fun e l ih k => optK (keyEq key e.1) "key" fun b => ifK b (k l) (ih fun l' => k (e :: l'))) es
/-- A key's kinds, cell by cell: an integer (true), a string; and whether it is an aggregate. -/
def cellKindB (P : Program) (t : TypeId) : Option Bool := match P.underlying t with | some (.int _) => some true | some .string => some false | _ => none
def kindsB (P : Program) : List Field → Nat → Option (List Bool)
  | [], _ => some []
  | f :: fs, i => if f.name != "_" && Nat.beq f.offset i then (cellKindB P f.type).bind fun b => (kindsB P fs (i + 1)).map (b :: ·) else none
def keyKinds (P : Program) (t : TypeId) : Option (Bool × List Bool) :=
  match P.underlying t with
  | some (.int _) => some (false, [true])
  | some .string => some (false, [false])
  | some (.struct fs) => if P.stoodInHeld t then none else (kindsB P fs.toList 0).map (true, ·)
  | some (.array n e) => if (sizeB P e) == some 1 then (cellKindB P e).map fun b => (true, List.replicate n b) else none
  | _ => none
def fitCell (b : Bool) (v : AV) : Bool := match v with | .int .. => b | .str _ => !b | _ => false
def fitCells : List Bool → List AV → Bool
  | [], [] => true
  | b :: l, v :: m => fitCell b v && fitCells l m
  | _, _ => false
def fitKey (q : Bool × List Bool) (key : AV) : Bool := match key with | .agg l => q.1 && fitCells q.2 l | v => !q.1 && fitCells q.2 [v]
/-- The key is of the kind that the evaluator compares. -/
def keyOkK (P : Program) (t : TypeId) (key : AV) (k : Ans) : Ans :=
  optK (keyKinds P t) "key kind" fun q => ifK (fitKey q key) k (.no "key" t)
def lookupK (P : Program) (t : TypeId) (m key : AV) (ok : Bool) (s : St) (k : AV → Ans) : Ans :=
  optK (mapB P t) "map" fun ke => keyOkK P ke.1 key
    (let fin (v : Option AV) : Ans := Option.rec (optK (zeroB P ke.2) "zero" fun z => Bool.rec (k z) (k (.tup [z, .bool false])) ok) (fun v => Bool.rec (k v) (k (.tup [v, .bool true])) ok) v
     match m with
     | .nilmap => fin none
     | .map b => objK s b fun o => asMap o fun es _ => findK key es fin
     | _ => .no "map" 0)
def mapUpdK (P : Program) (t : TypeId) (m key v : AV) (s : St) (k : St → Ans) : Ans :=
  optK (mapB P t) "map" fun ke => keyOkK P ke.1 key
    (match m with
     | .map b => objK s b fun o => asMap o fun es ver => setEK b key v es ver s fun _ s' => k s'
     | _ => .no "map" 0)
/-- The entry of a key, which is made if there is none; and the name for its number. -/
def mapEntK (P : Program) (t : TypeId) (m key : AV) (s : St) (k : AV → St → Ans) : Ans :=
  optK (mapB P t) "map" fun ke => keyOkK P ke.1 key
    (match m with
     | .map b => objK s b fun o => asMap o fun es ver => findK key es fun v => Option.rec (fun k => optK (zeroB P ke.2) "zero" k) (fun v k => k v) v fun v =>
        setEK b key v es ver s fun ver s' => newK s' (.ent b ver key) fun c s'' => k (.tup [v, .stp c]) s''
     | _ => .no "map" 0)
def entStoreK (m stamp v : AV) (s : St) (k : St → Ans) : Ans :=
  match m, stamp with
  | .map b, .stp c => objK s c fun e => (match e with
      | .ent b' ver key => ifK (Nat.beq b b') (objK s b fun o => asMap o fun es ver' => ifK (Nat.beq ver ver') (updE key v es fun es' old => ifK old (putK s b (.map es' ver) fun s' => k s') (.no "entryStore" b)) (.no "entryStore" b)) (.no "entryStore" b)
      | _ => .no "entryStore" 0)
  | _, _ => .no "entryStore" 0
def delK (P : Program) (t : TypeId) (m key : AV) (s : St) (k : St → Ans) : Ans :=
  optK (mapB P t) "map" fun ke => keyOkK P ke.1 key
    (match m with
     | .nilmap => k s
     | .map b => objK s b fun o => asMap o fun es ver => delE key es fun es' => putK s b (.map es' ver) k
     | _ => .no "map" 0)

/-! ### builtins -/
/-- The cells of what is appended or copied: n elements of a slice or a string. -/
def srcK (size n : Nat) (x : AV) (s : St) (k : List AV → Ans) : Ans :=
  match x with
  | .sl b off _ _ | .slo b off _ _ => ifK (Nat.beq n 0) (k []) (loadK s b off (n * size) k)
  | .nilsl => k []
  | .sle .. => ifK (Nat.beq n 0) (k []) (.no "source" 0)
  | .str l => ifK (Nat.beq size 1) (takeK n l fun q => k (q.map fun c => .int .u8 (.ofNat (Nat.mod c 256)))) (.no "source" 0)
  | _ => .no "source" 0
def lenOfK (x : AV) (k : Nat → Ans) : Ans :=
  match x with
  | .sl _ _ n _ | .slo _ _ n _ => k n
  | .nilsl => k 0
  | .sle .. => k 0
  | .str l => lenK l k
  | _ => .no "len" 0
/-- The row grows into a new block. -/
def growK (t : TypeId) (size bytes len n : Nat) (old new : List AV) (s : St) (k : AV → St → Ans) : Ans :=
  ifK (Nat.ble ((2 * (len + n) + 768) * bytes) 281474976710656)
    (pushN old .lf 0 fun c m => pushN new c m fun c m => newK s (.cells c m t true false [] false) fun b s' => natK (len + n) fun q => k (.slo b 0 q 0) s') (.no "room" 0)
/-- New cells behind a slice. -/
def appendCells (t : TypeId) (size bytes : Nat) (x : AV) (n : Nat) (new : List AV) (s : St) (k : AV → St → Ans) : Ans :=
  match x with
  | .nilsl => ifK (Nat.beq n 0) (k .nilsl s) (growK t size bytes 0 n [] new s k)
  | .sl b off len cap => ifK (Nat.ble (len + n) cap)
      (ifK (Nat.beq n 0) (k x s) (storeK s b (off + len * size) new fun s' => natK (len + n) fun q => k (.sl b off q cap) s'))
      (srcK size len x s fun old => growK t size bytes len n old new s k)
  | .slo b off len o => objK s b fun ob => asCells ob fun c kn ty op st el fz =>
      ifK (op && Nat.beq ty t && Nat.beq off (o * size)) (ifK (Nat.ble (off + (len + n) * size) kn)
        (ifK (Nat.beq n 0) (k x s) (storeK s b (off + len * size) new fun s' => natK (len + n) fun q => k (.slo b off q o) s'))
        (ifK (Nat.beq (off + len * size) kn && !st)
          (ifK (Nat.ble ((2 * (len + n) + 768) * bytes) 281474976710656)
            (Nat.rec (pushN new c kn fun c' m => putK s b (.cells c kn ty op true el fz) fun s' => newK s' (.cells c' m ty true false (b :: el) fz) fun b' s'' => natK (len + n) fun q => k (.slo b' 0 q 0) s'')
              (fun _ _ => readN c (len * size) off fun old => pushN old .lf 0 fun c0 m0 => pushN new c0 m0 fun c' m => putK s b (.cells c kn ty op true el fz) fun s' => newK s' (.cells c' m ty true false (b :: el) fz) fun b' s'' => natK (len + n) fun q => k (.slo b' 0 q 0) s'') off)
            (.no "room" 0))
          (.no "append in the midst" b))) (.no "append" b)
  | _ => .no "append" 0
def appendK (P : Program) (tys : List TypeId) (args : List AV) (s : St) (k : AV → St → Ans) : Ans :=
  nthK 0 tys fun t => nthK 0 args fun x => nthK 1 args fun y => optK (sliceB P t) "append" fun e => optK (sizeB P e) "size" fun size => optK (bytesB P e) "bytes" fun bytes =>
    optK (zeroCells P e) "zero" fun z => lenK z fun m => ifK (Nat.ble 1 size && Nat.ble 1 bytes && Nat.beq m size)
      (nthK 1 tys fun u => match P.underlying u with
        | some (.int _) => (match y with
          | .int .i64 (.ofNat n) => ifK (Nat.blt n 1000000 && Nat.ble (n * bytes) 281474976710656) (natK n fun n => appendCells e size bytes x n (zerosN z n) s k) (.no "append of make" 0)
          | _ => .no "append of make" 0)
        | some (.slice _) | some .string => lenOfK y fun n => srcK size n y s fun new => appendCells e size bytes x n new s k
        | _ => .no "append" 0)
      (.no "append of nothing" 0)
def copyK (P : Program) (tys : List TypeId) (args : List AV) (s : St) (k : AV → St → Ans) : Ans :=
  nthK 0 tys fun t => nthK 0 args fun x => nthK 1 args fun y => optK (sliceB P t) "copy" fun e => optK (sizeB P e) "size" fun size =>
    lenOfK y fun m => (match x with
      | .sl b off n _ | .slo b off n _ => natK (Nat.min m n) fun q => srcK size q y s fun l => ifK (Nat.beq (q * size) 0) (k (.int .i64 (.ofNat q)) s) (storeK s b off l fun s' => k (.int .i64 (.ofNat q)) s')
      | .nilsl | .sle .. => k (.int .i64 (.ofNat 0)) s
      | _ => .no "copy" 0)
def lenB (P : Program) (tys : List TypeId) (args : List AV) (s : St) (k : AV → Ans) : Ans :=
  nthK 0 tys fun t => nthK 0 args fun x => match x with
    | .str l => (match P.underlying t with | some .string => lenK l fun n => k (.int .i64 (.ofNat n)) | _ => .no "len" 0)
    | .sl _ _ n _ | .slo _ _ n _ => ifK (Nat.beq (kindB P t) 1) (k (.int .i64 (.ofNat n))) (.no "len" 0)
    | .nilsl | .sle .. => ifK (Nat.beq (kindB P t) 1) (k (.int .i64 (.ofNat 0))) (.no "len" 0)
    | .nilmap => ifK (Nat.beq (kindB P t) 2) (k (.int .i64 (.ofNat 0))) (.no "len" 0)
    | .map b => ifK (Nat.beq (kindB P t) 2) (objK s b fun o => asMap o fun es _ => lenK es fun n => k (.int .i64 (.ofNat n))) (.no "len" 0)
    | _ => .no "len" 0
def capB (P : Program) (tys : List TypeId) (args : List AV) (k : AV → Ans) : Ans :=
  nthK 0 tys fun t => nthK 0 args fun x => ifK (Nat.beq (kindB P t) 1) (match x with
    | .sl _ _ _ c => k (.int .i64 (.ofNat c))
    | .nilsl => k (.int .i64 (.ofNat 0))
    | _ => .no "cap" 0) (.no "cap" 0)
def clearK (P : Program) (tys : List TypeId) (args : List AV) (s : St) (k : St → Ans) : Ans :=
  nthK 0 tys fun t => nthK 0 args fun x => match x with
    | .nilsl | .sle .. => ifK (Nat.beq (kindB P t) 1) (k s) (.no "clear" 0)
    | .nilmap => ifK (Nat.beq (kindB P t) 2) (k s) (.no "clear" 0)
    | .map b => ifK (Nat.beq (kindB P t) 2) (objK s b fun o => asMap o fun _ ver => putK s b (.map [] ver) k) (.no "clear" 0)
    | .sl b off n _ | .slo b off n _ => optK (sliceB P t) "clear" fun e => optK (zeroCells P e) "zero" fun z => ifK (Nat.beq n 0) (k s) (storeK s b off (zerosN z n) k)
    | _ => .no "clear" 0
def minmaxK (isMax : Bool) (l : List AV) : AV → (AV → Ans) → Ans :=
  List.rec (fun a k => k a) (fun b _ ih a k => match a, b with
    | .int j x, .int _ y => boolK (match isMax with | true => ltInt x y | false => ltInt y x) fun c => Bool.rec (ih (.int j x) k) (ih (.int j y) k) c
    | _, _ => .no "min, max" 0) l
/-- The builtins that the evaluator takes. -/
def builtinK (P : Program) (b : Builtin) (tys : List TypeId) (args : List AV) (s : St) (k : AV → St → Ans) : Ans :=
  match b with
  | .append => appendK P tys args s k
  | .copy => copyK P tys args s k
  | .len => lenB P tys args s fun v => k v s
  | .cap => capB P tys args fun v => k v s
  | .clear => clearK P tys args s fun s' => k undefA s'
  | .delete => nthK 0 tys fun t => nthK 0 args fun m => nthK 1 args fun key => delK P t m key s fun s' => k undefA s'
  | .max => (match args with | a :: l => minmaxK true l a fun v => k v s | [] => .no "max" 0)
  | .min => (match args with | a :: l => minmaxK false l a fun v => k v s | [] => .no "min" 0)
  | _ => .no "builtin" 0

/-! ### conversions, assertions -/
def bytesK (l : List AV) : (List Nat → Ans) → Ans :=
  List.rec (fun k => k []) (fun v _ ih k => match v with
    | .int .u8 (.ofNat n) => ih fun r => k (n :: r)
    | _ => .no "byte" 0) l
def isByteSlice (P : Program) (t : TypeId) : Bool := match P.underlying t with | some (.slice e) => (match P.underlying e with | some (.int .u8) => true | _ => false) | _ => false
def isStringT (P : Program) (t : TypeId) : Bool := match P.underlying t with | some .string => true | _ => false
def isIntT (P : Program) (t : TypeId) : Bool := match P.underlying t with | some (.int _) => true | _ => false
def convK (P : Program) (src dst : TypeId) (x : AV) (s : St) (k : AV → St → Ans) : Ans :=
  match x with
  | .int j n => ifK (isIntT P dst && isIntT P src) (staticK P (convert src dst (.int j n)) fun v => k v s) (.no "convert" 0)
  | .str l => ifK (isStringT P dst && isStringT P src) (k (.str l) s) (ifK (isByteSlice P dst && isStringT P src)
      (optK (sliceB P dst) "slice" fun e => optK (sizeB P e) "size" fun sz => ifK (Nat.beq sz 1) (lenK l fun n => pushN (l.map fun c => .int .u8 (.ofNat (Nat.mod c 256))) .lf 0 fun c m => newK s (.cells c m e true false [] true) fun b s' => natK n fun n => k (.slo b 0 n 0) s') (.no "convert" 0)) (.no "convert" 0))
  | .nilsl => ifK (isStringT P dst && isByteSlice P src) (k (.str []) s) (.no "convert" 0)
  | .sl b off n _ | .slo b off n _ => ifK (isStringT P dst && isByteSlice P src) (ifK (Nat.beq n 0) (k (.str []) s) (loadK s b off n fun l => bytesK l fun q => k (.str q) s)) (.no "convert" 0)
  | _ => .no "convert" 0
def assertK (P : Program) (x : AV) (asserted : TypeId) (ok : Bool) (k : AV → Ans) : Ans :=
  optK (P.underlying asserted) "type" fun _ => ifK (Nat.beq (kindB P asserted) 4) (.no "assert" 0) (match x with
    | .ifc t v => ifK (Nat.beq t asserted) (Bool.rec (k v) (k (.tup [v, .bool true])) ok)
        (Bool.rec (.no "assertion" 0) (optK (zeroB P asserted) "zero" fun z => k (.tup [z, .bool false])) ok)
    | .nilifc => Bool.rec (.no "assertion" 0) (optK (zeroB P asserted) "zero" fun z => k (.tup [z, .bool false])) ok
    | _ => .no "assertion" 0)
end
end Go.Proofs.YtajdeaabgplacaaGreatDoor.Sev

namespace Go.Proofs.YtajdeaabgplacaaGreatDoor.Sev
open Go
set_option linter.unusedVariables false
noncomputable section

/-- What runs code: behind it normal, by an exit, by a return. -/
abbrev Rec := Code → Fr → St → (Fr → St → Ans) → (Nat → Fr → St → Ans) → (Fr → St → Ans) → Ans
/-- The program; which functions' ways are merged behind them (1: the result is a row of plain values, and nothing else is changed; 2 and more: told elsewhere to be true, of whatever memory). -/
structure Cf where
  P : Program
  mg : FuncId → Nat

/-! ### alike -/
def natLEq (a : List Nat) : List Nat → Bool :=
  List.rec (fun b => List.rec true (fun _ _ _ => false) b) (fun x _ ih b => List.rec false (fun y l _ => Bool.rec false (ih l) (Nat.beq x y)) b) a
def fnEq (f g : Fn) : Bool := Fn.rec (motive := fun _ => Fn → Bool) (fun f g => Fn.rec (fun g => Nat.beq f g) (fun _ => false) (fun _ _ => false) (fun _ _ _ _ => false) (fun _ => false) g) (fun _ _ => false) (fun _ _ _ => false) (fun _ _ _ _ _ => false) (fun _ _ => false) f g
def eq_bool (y : AV) : Bool → Bool := AV.rec (motive_1 := fun _ => Bool → Bool) (motive_2 := fun _ => Unit) (fun y0 x0 => (Bool.rec (Bool.rec true false y0) (Bool.rec false true y0) x0)) (fun _ _ _ => false) (fun _ _ => false) (fun _ _ _ => false) (fun _ => false) (fun _ _ _ _ _ => false) (fun _ _ _ _ _ => false) (fun _ _ _ _ _ => false) (fun _ => false) (fun _ _ => false) (fun _ => false) (fun _ _ _ _ _ _ => false) (fun _ _ => false) (fun _ _ => false) (fun _ => false) (fun _ _ _ _ => false) (fun _ => false) (fun _ _ _ => false) (fun _ _ => false) (fun _ _ _ => false) () (fun _ _ _ _ => ()) y
def eq_int (y : AV) : IntKind → Int → Bool := AV.rec (motive_1 := fun _ => IntKind → Int → Bool) (motive_2 := fun _ => Unit) (fun _ _ _ => false) (fun y0 y1 x0 x1 => Bool.rec false ((intEq x1 y1)) (kindEq x0 y0)) (fun _ _ _ => false) (fun _ _ _ _ => false) (fun _ _ => false) (fun _ _ _ _ _ _ => false) (fun _ _ _ _ _ _ => false) (fun _ _ _ _ _ _ => false) (fun _ _ => false) (fun _ _ _ => false) (fun _ _ => false) (fun _ _ _ _ _ _ _ => false) (fun _ _ _ => false) (fun _ _ _ => false) (fun _ _ => false) (fun _ _ _ _ _ => false) (fun _ _ => false) (fun _ _ _ _ => false) (fun _ _ _ => false) (fun _ _ _ _ => false) () (fun _ _ _ _ => ()) y
def eq_str (y : AV) : List Nat → Bool := AV.rec (motive_1 := fun _ => List Nat → Bool) (motive_2 := fun _ => Unit) (fun _ _ => false) (fun _ _ _ => false) (fun y0 x0 => (natLEq x0 y0)) (fun _ _ _ => false) (fun _ => false) (fun _ _ _ _ _ => false) (fun _ _ _ _ _ => false) (fun _ _ _ _ _ => false) (fun _ => false) (fun _ _ => false) (fun _ => false) (fun _ _ _ _ _ _ => false) (fun _ _ => false) (fun _ _ => false) (fun _ => false) (fun _ _ _ _ => false) (fun _ => false) (fun _ _ _ => false) (fun _ _ => false) (fun _ _ _ => false) () (fun _ _ _ _ => ()) y
def eq_ptr (y : AV) : Nat → Nat → Bool := AV.rec (motive_1 := fun _ => Nat → Nat → Bool) (motive_2 := fun _ => Unit) (fun _ _ _ => false) (fun _ _ _ _ => false) (fun _ _ _ => false) (fun y0 y1 x0 x1 => Bool.rec false ((Nat.beq x1 y1)) (Nat.beq x0 y0)) (fun _ _ => false) (fun _ _ _ _ _ _ => false) (fun _ _ _ _ _ _ => false) (fun _ _ _ _ _ _ => false) (fun _ _ => false) (fun _ _ _ => false) (fun _ _ => false) (fun _ _ _ _ _ _ _ => false) (fun _ _ _ => false) (fun _ _ _ => false) (fun _ _ => false) (fun _ _ _ _ _ => false) (fun _ _ => false) (fun _ _ _ _ => false) (fun _ _ _ => false) (fun _ _ _ _ => false) () (fun _ _ _ _ => ()) y
def eq_nilptr (y : AV) : Bool := AV.rec (motive_1 := fun _ => Bool) (motive_2 := fun _ => Unit) (fun _ => false) (fun _ _ => false) (fun _ => false) (fun _ _ => false) (true) (fun _ _ _ _ => false) (fun _ _ _ _ => false) (fun _ _ _ _ => false) (false) (fun _ => false) (false) (fun _ _ _ _ _ => false) (fun _ => false) (fun _ => false) (false) (fun _ _ _ => false) (false) (fun _ _ => false) (fun _ => false) (fun _ _ => false) () (fun _ _ _ _ => ()) y
def eq_sl (y : AV) : Nat → Nat → Nat → Nat → Bool := AV.rec (motive_1 := fun _ => Nat → Nat → Nat → Nat → Bool) (motive_2 := fun _ => Unit) (fun _ _ _ _ _ => false) (fun _ _ _ _ _ _ => false) (fun _ _ _ _ _ => false) (fun _ _ _ _ _ _ => false) (fun _ _ _ _ => false) (fun y0 y1 y2 y3 x0 x1 x2 x3 => Bool.rec false (Bool.rec false (Bool.rec false ((Nat.beq x3 y3)) (Nat.beq x2 y2)) (Nat.beq x1 y1)) (Nat.beq x0 y0)) (fun _ _ _ _ _ _ _ _ => false) (fun _ _ _ _ _ _ _ _ => false) (fun _ _ _ _ => false) (fun _ _ _ _ _ => false) (fun _ _ _ _ => false) (fun _ _ _ _ _ _ _ _ _ => false) (fun _ _ _ _ _ => false) (fun _ _ _ _ _ => false) (fun _ _ _ _ => false) (fun _ _ _ _ _ _ _ => false) (fun _ _ _ _ => false) (fun _ _ _ _ _ _ => false) (fun _ _ _ _ _ => false) (fun _ _ _ _ _ _ => false) () (fun _ _ _ _ => ()) y
def eq_slo (y : AV) : Nat → Nat → Nat → Nat → Bool := AV.rec (motive_1 := fun _ => Nat → Nat → Nat → Nat → Bool) (motive_2 := fun _ => Unit) (fun _ _ _ _ _ => false) (fun _ _ _ _ _ _ => false) (fun _ _ _ _ _ => false) (fun _ _ _ _ _ _ => false) (fun _ _ _ _ => false) (fun _ _ _ _ _ _ _ _ => false) (fun y0 y1 y2 y3 x0 x1 x2 x3 => Bool.rec false (Bool.rec false (Bool.rec false ((Nat.beq x3 y3)) (Nat.beq x2 y2)) (Nat.beq x1 y1)) (Nat.beq x0 y0)) (fun _ _ _ _ _ _ _ _ => false) (fun _ _ _ _ => false) (fun _ _ _ _ _ => false) (fun _ _ _ _ => false) (fun _ _ _ _ _ _ _ _ _ => false) (fun _ _ _ _ _ => false) (fun _ _ _ _ _ => false) (fun _ _ _ _ => false) (fun _ _ _ _ _ _ _ => false) (fun _ _ _ _ => false) (fun _ _ _ _ _ _ => false) (fun _ _ _ _ _ => false) (fun _ _ _ _ _ _ => false) () (fun _ _ _ _ => ()) y
def eq_sle (y : AV) : Nat → Nat → Nat → Nat → Bool := AV.rec (motive_1 := fun _ => Nat → Nat → Nat → Nat → Bool) (motive_2 := fun _ => Unit) (fun _ _ _ _ _ => false) (fun _ _ _ _ _ _ => false) (fun _ _ _ _ _ => false) (fun _ _ _ _ _ _ => false) (fun _ _ _ _ => false) (fun _ _ _ _ _ _ _ _ => false) (fun _ _ _ _ _ _ _ _ => false) (fun y0 y1 y2 y3 x0 x1 x2 x3 => Bool.rec false (Bool.rec false (Bool.rec false ((Nat.beq x3 y3)) (Nat.beq x2 y2)) (Nat.beq x1 y1)) (Nat.beq x0 y0)) (fun _ _ _ _ => false) (fun _ _ _ _ _ => false) (fun _ _ _ _ => false) (fun _ _ _ _ _ _ _ _ _ => false) (fun _ _ _ _ _ => false) (fun _ _ _ _ _ => false) (fun _ _ _ _ => false) (fun _ _ _ _ _ _ _ => false) (fun _ _ _ _ => false) (fun _ _ _ _ _ _ => false) (fun _ _ _ _ _ => false) (fun _ _ _ _ _ _ => false) () (fun _ _ _ _ => ()) y
def eq_nilsl (y : AV) : Bool := AV.rec (motive_1 := fun _ => Bool) (motive_2 := fun _ => Unit) (fun _ => false) (fun _ _ => false) (fun _ => false) (fun _ _ => false) (false) (fun _ _ _ _ => false) (fun _ _ _ _ => false) (fun _ _ _ _ => false) (true) (fun _ => false) (false) (fun _ _ _ _ _ => false) (fun _ => false) (fun _ => false) (false) (fun _ _ _ => false) (false) (fun _ _ => false) (fun _ => false) (fun _ _ => false) () (fun _ _ _ _ => ()) y
def eq_map (y : AV) : Nat → Bool := AV.rec (motive_1 := fun _ => Nat → Bool) (motive_2 := fun _ => Unit) (fun _ _ => false) (fun _ _ _ => false) (fun _ _ => false) (fun _ _ _ => false) (fun _ => false) (fun _ _ _ _ _ => false) (fun _ _ _ _ _ => false) (fun _ _ _ _ _ => false) (fun _ => false) (fun y0 x0 => (Nat.beq x0 y0)) (fun _ => false) (fun _ _ _ _ _ _ => false) (fun _ _ => false) (fun _ _ => false) (fun _ => false) (fun _ _ _ _ => false) (fun _ => false) (fun _ _ _ => false) (fun _ _ => false) (fun _ _ _ => false) () (fun _ _ _ _ => ()) y
def eq_nilmap (y : AV) : Bool := AV.rec (motive_1 := fun _ => Bool) (motive_2 := fun _ => Unit) (fun _ => false) (fun _ _ => false) (fun _ => false) (fun _ _ => false) (false) (fun _ _ _ _ => false) (fun _ _ _ _ => false) (fun _ _ _ _ => false) (false) (fun _ => false) (true) (fun _ _ _ _ _ => false) (fun _ => false) (fun _ => false) (false) (fun _ _ _ => false) (false) (fun _ _ => false) (fun _ => false) (fun _ _ => false) () (fun _ _ _ _ => ()) y
def eq_fn (y : AV) : Fn → (List AV → Bool) → (List AV → Bool) → Bool := AV.rec (motive_1 := fun _ => Fn → (List AV → Bool) → (List AV → Bool) → Bool) (motive_2 := fun _ => Unit) (fun _ _ _ _ => false) (fun _ _ _ _ _ => false) (fun _ _ _ _ => false) (fun _ _ _ _ _ => false) (fun _ _ _ => false) (fun _ _ _ _ _ _ _ => false) (fun _ _ _ _ _ _ _ => false) (fun _ _ _ _ _ _ _ => false) (fun _ _ _ => false) (fun _ _ _ _ => false) (fun _ _ _ => false) (fun y0 y1 y2 _ _ x0 x1 x2 => Bool.rec false (Bool.rec false ((x2 y2)) (x1 y1)) (fnEq x0 y0)) (fun _ _ _ _ => false) (fun _ _ _ _ => false) (fun _ _ _ => false) (fun _ _ _ _ _ _ => false) (fun _ _ _ => false) (fun _ _ _ _ _ => false) (fun _ _ _ _ => false) (fun _ _ _ _ _ => false) () (fun _ _ _ _ => ()) y
def eq_yld (y : AV) : Nat → Bool := AV.rec (motive_1 := fun _ => Nat → Bool) (motive_2 := fun _ => Unit) (fun _ _ => false) (fun _ _ _ => false) (fun _ _ => false) (fun _ _ _ => false) (fun _ => false) (fun _ _ _ _ _ => false) (fun _ _ _ _ _ => false) (fun _ _ _ _ _ => false) (fun _ => false) (fun _ _ => false) (fun _ => false) (fun _ _ _ _ _ _ => false) (fun y0 x0 => (Nat.beq x0 y0)) (fun _ _ => false) (fun _ => false) (fun _ _ _ _ => false) (fun _ => false) (fun _ _ _ => false) (fun _ _ => false) (fun _ _ _ => false) () (fun _ _ _ _ => ()) y
def eq_stp (y : AV) : Nat → Bool := AV.rec (motive_1 := fun _ => Nat → Bool) (motive_2 := fun _ => Unit) (fun _ _ => false) (fun _ _ _ => false) (fun _ _ => false) (fun _ _ _ => false) (fun _ => false) (fun _ _ _ _ _ => false) (fun _ _ _ _ _ => false) (fun _ _ _ _ _ => false) (fun _ => false) (fun _ _ => false) (fun _ => false) (fun _ _ _ _ _ _ => false) (fun _ _ => false) (fun y0 x0 => (Nat.beq x0 y0)) (fun _ => false) (fun _ _ _ _ => false) (fun _ => false) (fun _ _ _ => false) (fun _ _ => false) (fun _ _ _ => false) () (fun _ _ _ _ => ()) y
def eq_nilfn (y : AV) : Bool := AV.rec (motive_1 := fun _ => Bool) (motive_2 := fun _ => Unit) (fun _ => false) (fun _ _ => false) (fun _ => false) (fun _ _ => false) (false) (fun _ _ _ _ => false) (fun _ _ _ _ => false) (fun _ _ _ _ => false) (false) (fun _ => false) (false) (fun _ _ _ _ _ => false) (fun _ => false) (fun _ => false) (true) (fun _ _ _ => false) (false) (fun _ _ => false) (fun _ => false) (fun _ _ => false) () (fun _ _ _ _ => ()) y
def eq_ifc (y : AV) : Nat → (AV → Bool) → Bool := AV.rec (motive_1 := fun _ => Nat → (AV → Bool) → Bool) (motive_2 := fun _ => Unit) (fun _ _ _ => false) (fun _ _ _ _ => false) (fun _ _ _ => false) (fun _ _ _ _ => false) (fun _ _ => false) (fun _ _ _ _ _ _ => false) (fun _ _ _ _ _ _ => false) (fun _ _ _ _ _ _ => false) (fun _ _ => false) (fun _ _ _ => false) (fun _ _ => false) (fun _ _ _ _ _ _ _ => false) (fun _ _ _ => false) (fun _ _ _ => false) (fun _ _ => false) (fun y0 y1 _ x0 x1 => Bool.rec false ((x1 y1)) (Nat.beq x0 y0)) (fun _ _ => false) (fun _ _ _ _ => false) (fun _ _ _ => false) (fun _ _ _ _ => false) () (fun _ _ _ _ => ()) y
def eq_nilifc (y : AV) : Bool := AV.rec (motive_1 := fun _ => Bool) (motive_2 := fun _ => Unit) (fun _ => false) (fun _ _ => false) (fun _ => false) (fun _ _ => false) (false) (fun _ _ _ _ => false) (fun _ _ _ _ => false) (fun _ _ _ _ => false) (false) (fun _ => false) (false) (fun _ _ _ _ _ => false) (fun _ => false) (fun _ => false) (false) (fun _ _ _ => false) (true) (fun _ _ => false) (fun _ => false) (fun _ _ => false) () (fun _ _ _ _ => ()) y
def eq_agg (y : AV) : (List AV → Bool) → Bool := AV.rec (motive_1 := fun _ => (List AV → Bool) → Bool) (motive_2 := fun _ => Unit) (fun _ _ => false) (fun _ _ _ => false) (fun _ _ => false) (fun _ _ _ => false) (fun _ => false) (fun _ _ _ _ _ => false) (fun _ _ _ _ _ => false) (fun _ _ _ _ _ => false) (fun _ => false) (fun _ _ => false) (fun _ => false) (fun _ _ _ _ _ _ => false) (fun _ _ => false) (fun _ _ => false) (fun _ => false) (fun _ _ _ _ => false) (fun _ => false) (fun y0 _ x0 => (x0 y0)) (fun _ _ => false) (fun _ _ _ => false) () (fun _ _ _ _ => ()) y
def eq_agt (y : AV) : Nat → Bool := AV.rec (motive_1 := fun _ => Nat → Bool) (motive_2 := fun _ => Unit) (fun _ _ => false) (fun _ _ _ => false) (fun _ _ => false) (fun _ _ _ => false) (fun _ => false) (fun _ _ _ _ _ => false) (fun _ _ _ _ _ => false) (fun _ _ _ _ _ => false) (fun _ => false) (fun _ _ => false) (fun _ => false) (fun _ _ _ _ _ _ => false) (fun _ _ => false) (fun _ _ => false) (fun _ => false) (fun _ _ _ _ => false) (fun _ => false) (fun _ _ _ => false) (fun y0 x0 => (Nat.beq x0 y0)) (fun _ _ _ => false) () (fun _ _ _ _ => ()) y
def eq_tup (y : AV) : (List AV → Bool) → Bool := AV.rec (motive_1 := fun _ => (List AV → Bool) → Bool) (motive_2 := fun _ => Unit) (fun _ _ => false) (fun _ _ _ => false) (fun _ _ => false) (fun _ _ _ => false) (fun _ => false) (fun _ _ _ _ _ => false) (fun _ _ _ _ _ => false) (fun _ _ _ _ _ => false) (fun _ => false) (fun _ _ => false) (fun _ => false) (fun _ _ _ _ _ _ => false) (fun _ _ => false) (fun _ _ => false) (fun _ => false) (fun _ _ _ _ => false) (fun _ => false) (fun _ _ _ => false) (fun _ _ => false) (fun y0 _ x0 => (x0 y0)) () (fun _ _ _ _ => ()) y
def avSame (a : AV) : AV → Bool := AV.rec (motive_1 := fun _ => AV → Bool) (motive_2 := fun _ => List AV → Bool) (fun x0 y => eq_bool y x0) (fun x0 x1 y => eq_int y x0 x1) (fun x0 y => eq_str y x0) (fun x0 x1 y => eq_ptr y x0 x1) (fun y => eq_nilptr y ) (fun x0 x1 x2 x3 y => eq_sl y x0 x1 x2 x3) (fun x0 x1 x2 x3 y => eq_slo y x0 x1 x2 x3) (fun x0 x1 x2 x3 y => eq_sle y x0 x1 x2 x3) (fun y => eq_nilsl y ) (fun x0 y => eq_map y x0) (fun y => eq_nilmap y ) (fun x0 _ _ h1 h2 y => eq_fn y x0 h1 h2) (fun x0 y => eq_yld y x0) (fun x0 y => eq_stp y x0) (fun y => eq_nilfn y ) (fun x0 _ h1 y => eq_ifc y x0 h1) (fun y => eq_nilifc y ) (fun _ h0 y => eq_agg y h0) (fun x0 y => eq_agt y x0) (fun _ h0 y => eq_tup y h0) (fun m => List.rec true (fun _ _ _ => false) m) (fun _ _ hv hl m => List.rec false (fun w m _ => Bool.rec false (hl m) (hv w)) m) a
def cellsSame (l : List AV) : List AV → Bool := AV.rec_1 (motive_1 := fun _ => AV → Bool) (motive_2 := fun _ => List AV → Bool) (fun x0 y => eq_bool y x0) (fun x0 x1 y => eq_int y x0 x1) (fun x0 y => eq_str y x0) (fun x0 x1 y => eq_ptr y x0 x1) (fun y => eq_nilptr y ) (fun x0 x1 x2 x3 y => eq_sl y x0 x1 x2 x3) (fun x0 x1 x2 x3 y => eq_slo y x0 x1 x2 x3) (fun x0 x1 x2 x3 y => eq_sle y x0 x1 x2 x3) (fun y => eq_nilsl y ) (fun x0 y => eq_map y x0) (fun y => eq_nilmap y ) (fun x0 _ _ h1 h2 y => eq_fn y x0 h1 h2) (fun x0 y => eq_yld y x0) (fun x0 y => eq_stp y x0) (fun y => eq_nilfn y ) (fun x0 _ h1 y => eq_ifc y x0 h1) (fun y => eq_nilifc y ) (fun _ h0 y => eq_agg y h0) (fun x0 y => eq_agt y x0) (fun _ h0 y => eq_tup y h0) (fun m => List.rec true (fun _ _ _ => false) m) (fun _ _ hv hl m => List.rec false (fun w m _ => Bool.rec false (hl m) (hv w)) m) l

/-! ### calls -/
def funcB (P : Program) (f : FuncId) : Option Func := P.funcs[f]?
/-- 0: a function of the program; else a row of the model's own. -/
def extB (P : Program) (f : FuncId) : Nat :=
  match P.funcs[f]? with
  | some fn => if fn.name == "runtime.NumGoroutine" then 9 else if fn.body.isSome then 0 else if fn.name == "internal/bytealg.abigen_runtime_cmpstring" then 1 else 9
  | none => 9
/-- A function's own method of a type, whose receiver is the value as it stands. -/
def methB (P : Program) (t : TypeId) (name : String) : Option FuncId :=
  match ((P.info? t).bind fun i => i.methods.find? (·.name == name)), P.underlying t with
  | some m, some (.pointer _) => if m.path.isEmpty then (match m.func with | some (f, true) => some f | _ => none) else none
  | some m, some _ => if m.path.isEmpty then (match m.func with | some (f, false) => some f | _ => none) else none
  | _, _ => none
def cmpStr (a b : List Nat) : Int := Bool.rec (Bool.rec (.ofNat 0) (.ofNat 1) (strLess b a)) (.negSucc 0) (strLess a b)
def resK (P : Program) (l : List ResultVar) : Fr → St → (List AV → Ans) → Ans :=
  List.rec (fun _ _ k => k []) (fun r _ ih f s k => ResultVar.rec (fun t => getK f.tm t fun v => ih f s fun l => k (v :: l))
    (fun a t => getK f.tm a fun x => asPtr x fun b o => loadT P t s b o fun v => ih f s fun l => k (v :: l)) r) l
def oneOf (l : List AV) : AV := match l with | [v] => v | l => .tup l
def argsK (l : List AV) : Tr AV → Nat → (Tr AV → Ans) → Ans :=
  List.rec (fun c _ k => k c) (fun v _ ih c i k => updK c i v fun c' => ih c' (Nat.succ i) k) l
/-- What waits for the end: the marks of ranges over functions go; calls are made (they make nothing wait themselves). -/
def dfrFin (P : Program) (fi : FuncId) (fn : Func) (next : St → (St → Ans) → Ans) (k : St → Ans) (f : Fr) (s : St) : Ans :=
  List.rec (resK P fn.results.toList f s fun _ => next s k) (fun _ _ _ => .no "deferred: waits itself" fi) f.dl
def dfrMark (b : Nat) (next : St → (St → Ans) → Ans) (s : St) (k : St → Ans) : Ans :=
  objK s b fun o => match o with
      | .dfr => putK s b .dead fun s' => next s' k
      | _ => .no "deferred" b
def dfrCall (P : Program) (rec : Rec) (fi : FuncId) (args : List AV) (next : St → (St → Ans) → Ans) (s : St) (k : St → Ans) : Ans :=
  ifK (Nat.beq (extB P fi) 0) (optK (funcB P fi) "func" fun fn => optK fn.body "body" fun c => argsK args (mkF fn.ntmps) 0 fun tm =>
      rec c ⟨fi, tm, [], none⟩ s (dfrFin P fi fn next k) (fun _ _ _ => .no "exit out of a function" fi) (dfrFin P fi fn next k)) (.no "deferred" fi)
def dfrK (P : Program) (rec : Rec) (l : List DI) : St → (St → Ans) → Ans :=
  List.rec (motive := fun _ => Program → Rec → St → (St → Ans) → Ans) (fun _ _ s k => k s)
    (fun d _ ih P rec s k => DI.rec (fun b => dfrMark b (ih P rec) s k) (fun fi args => dfrCall P rec fi args (ih P rec) s k) d) l P rec
def leaveK (P : Program) (rec : Rec) (fn : Func) (f : Fr) (s : St) (k : AV → St → Ans) : Ans :=
  dfrK P rec f.dl s fun s => resK P fn.results.toList f s fun l => k (oneOf l) s
/-- All outcomes: rows of plain values, all alike. -/
def plainCells : List AV → Bool
  | [] => true
  | .int .. :: l => plainCells l
  | .str _ :: l => plainCells l
  | _ => false
def rowOf (n : Nat) (e : AV × St) (k : TypeId → List AV → Ans) : Ans :=
  match e.1 with
  | .slo b 0 m 0 => ifK (Nat.ble n b) (objK e.2 b fun o => match o with
    | .cells _ _ t true false _ false => loadK e.2 b 0 m fun l => ifK (plainCells l) (k t l) (.no "merge: not plain" b)
    | _ => .no "merge: no plain row" b) (.no "merge: an old row" b)
  | _ => .no "merge: no row" 0
def allRows (n : Nat) (t : TypeId) (l0 : List AV) (es : List (AV × St)) : Ans → Ans :=
  List.rec (fun k => k) (fun e _ ih k => rowOf n e fun u l => ifK (Nat.beq t u && cellsSame l0 l) (ih k) (.no "merge: unlike" 0)) es
def isNil (v : AV) : Bool := match v with | .nilsl => true | _ => false
def allNil (es : List (AV × St)) : Ans → Ans :=
  List.rec (fun k => k) (fun e _ ih k => ifK (isNil e.1) (ih k) (.no "merge: unlike" 0)) es

/-- The body of a function over its frame. -/
def bodyK (P : Program) (rec : Rec) (fi : FuncId) (fn : Func) (args : List AV) (s : St) (k : AV → St → Ans) : Ans :=
  optK fn.body "body" fun c => argsK args (mkF fn.ntmps) 0 fun tm =>
    rec c ⟨fi, tm, [], none⟩ s (fun f s => leaveK P rec fn f s k) (fun _ _ _ => .no "exit out of a function" fi) (fun f s => leaveK P rec fn f s k)
def cmpK (args : List AV) (s : St) (k : AV → St → Ans) : Ans := match args with
  | [.str a, .str b] => k (.int .i64 (cmpStr a b)) s
  | _ => .no "cmpstring" 0
def mergeK (C : Cf) (rec : Rec) (fi : FuncId) (fn : Func) (args : List AV) (s : St) (k : AV → St → Ans) : Ans :=
  St.rec (fun h nx fl => natK nx fun n =>
          Ans.rec (fun w m => .no w m) (fun outs => match outs with
            | [] => .no "merge: none" fi
            | e :: es => ifK (isNil e.1) (allNil es (k .nilsl ⟨h, n, fl⟩))
                (rowOf n e fun t l => allRows n t l es (rowK ⟨h, n, fl⟩ t true false l fun b s' => lenK l fun q => k (.slo b 0 q 0) s')))
            (bodyK C.P rec fi fn args ⟨h, n, n⟩ fun v s => .outs [(v, s)])) s
def callB (C : Cf) (rec : Rec) (fi : FuncId) (args : List AV) (s : St) (k : AV → St → Ans) (fn : Func) : Ans :=
  Nat.rec (bodyK C.P rec fi fn args s k)
    (fun m _ => Nat.rec (mergeK C rec fi fn args s k) (fun _ _ => List.rec (k (.bool true) s) (fun _ _ _ => .no "summary: arguments" fi) args) m)
    (C.mg fi)
def callK (C : Cf) (rec : Rec) (fi : FuncId) (args : List AV) (s : St) (k : AV → St → Ans) : Ans :=
  Nat.rec (optK (funcB C.P fi) "func" (callB C rec fi args s k))
    (fun x _ => Nat.rec (cmpK args s k) (fun _ _ => .no "a row of the model's own" fi) x)
    (extB C.P fi)
def loopK (s : St) (b : Nat) (k : LoopState → FuncId → Tr AV → List Tmp → Code → Code → Option Code → Nat → Ans) : Ans :=
  objK s b fun o => match o with
    | .loop st fn tm ps asg body pend d => k st fn tm ps asg body pend d
    | _ => .no "loop" b
/-- A round's variables. -/
def bindPs (ps : List Tmp) : List AV → Tr AV → (Tr AV → Ans) → Ans :=
  List.rec (fun args tm k => List.rec (k tm) (fun _ _ _ => .no "yield: arguments" 0) args)
    (fun p _ ih args tm k => List.rec (.no "yield: arguments" 0) (fun a l _ => updK tm p a fun tm' => ih l tm' k) args) ps
/-- A round's end. -/
def endK (b : Nat) (j : Option Code) (s : St) (k : AV → St → Ans) : Ans :=
  loopK s b fun _ fn tm ps asg body _ d => putK s b (.loop (match j with | none => .ready | some _ => .done) fn tm ps asg body j d) fun s => k (.bool j.isNone) s
/-- A round of a range over a function. -/
def roundK (C : Cf) (rec : Rec) (b : Nat) (args : List AV) (s : St) (k : AV → St → Ans) : Ans :=
  loopK s b fun _ fn tm ps asg body _ _ => bindPs ps args tm fun tm' =>
    rec asg ⟨fn, tm', [], some b⟩ s (fun f s =>
      loopK s b fun st fn tm ps asg' body' pend d => match st with
        | .ready => putK s b (.loop .busy fn tm ps asg' body' pend d) fun s =>
            rec body f s (fun _ s => endK b none s k) (fun id _ s => ifK (Nat.blt id gotoBase) (endK b (some (.exit id)) s k) (.no "goto out of a round" id)) (fun _ s => endK b (some .ret) s k)
        | _ => .no "a round of a loop that is over" b)
      (fun _ _ _ => .no "round" b) (fun _ _ => .no "round" b)
/-- A call of a function value. -/
def valueK (C : Cf) (rec : Rec) (v : AV) (args : List AV) (s : St) (k : AV → St → Ans) : Ans :=
  match v with
  | .fn (.func f) first captured => callK C rec f (first ++ args ++ captured) s k
  | .yld b => roundK C rec b args s k
  | _ => .no "function value" 0
def invokeK (C : Cf) (rec : Rec) (v : AV) (name : String) (args : List AV) (s : St) (k : AV → St → Ans) : Ans :=
  match v with
  | .ifc t v => optK (methB C.P t name) "method" fun f => callK C rec f (v :: args) s k
  | _ => .no "invoke" 0

/-! ### one operation -/
def nilOk (v : AV) (k : Ans) : Ans := match v with | .ptr .. => k | .ifc .. => k | .fn (.func _) .. => k | .yld _ => k | _ => .no "nil" 0
/-- The keys that are still there. -/
def stillK (es : List (AV × AV)) (l : List AV) : (List AV → Ans) → Ans :=
  List.rec (fun k => k []) (fun e _ ih k => findK e es fun v => Option.rec (ih k) (fun _ => ih fun l => k (e :: l)) v) l
def iterK (C : Cf) (it : AV) (str : Bool) (s : St) (k : AV → St → Ans) : Ans :=
  match it with
  | .ptr b 0 => objK s b fun o => (match o with
      | .iter0 => ifK str (.no "next" b) (k (.tup [.bool false]) s)
      | .iter m ver rem _ => ifK str (.no "next" b) (objK s m fun mo => asMap mo fun es ver' => ifK (Nat.beq ver ver') (stillK es rem fun rem =>
          (List.rec (fun _ => k (.tup [.bool false]) s)
            (fun e l ih pre => Ans.rec (fun w n => .no w n) (fun outs => List.rec (.outs outs)
                (fun _ _ _ => Ans.rec (fun w n => .no w n) (fun outs' => .outs (outs ++ outs')) (ih (e :: pre))) l)
              (putK s b (.iter m ver (List.reverseAux pre l) (some e)) fun s => findK e es fun v => optK v "next" fun v => k (.tup [.bool true, e, v]) s)) rem []))
          (.no "a map that was changed" m))
      | .sit l pos => (match str with
        | true => .no "range over a string" b
        | false => .no "next" b)
      | _ => .no "next" b)
  | _ => .no "next" 0
def entryK (it : AV) (s : St) (k : AV → Ans) : Ans :=
  match it with
  | .ptr b 0 => objK s b fun o => (match o with
      | .iter m ver _ (some e) => objK s m fun mo => asMap mo fun es ver' => ifK (Nat.beq ver ver') (findK e es fun v => optK v "entry" fun v => k (.tup [e, v])) (.no "entry: a map that was changed" m)
      | _ => .no "entry" b)
  | _ => .no "entry" 0
def fieldOff (P : Program) (t : TypeId) (i : Nat) : Option (Nat × TypeId) := (fieldB P t i).bind fun f => match sizeB P f.type with | some (_ + 1) => some (f.offset, f.type) | _ => none

section
variable (C : Cf) (rec : Rec)
abbrev OpF := Fr → St → (AV → St → Ans) → Ans
def oMove (x : Operand) : OpF := fun f s k => opd x f fun v => k v s
def oPick (c a b : Operand) : OpF := fun f s k => opd c f fun v => asBool v fun t => Bool.rec (opd b f fun v => k v s) (opd a f fun v => k v s) t
def oAlloc (t : TypeId) : OpF := fun f s k => ifK (Option.isSome (zeroCells C.P t)) (natK (zeroN C.P t) fun n => newK s (.cells (zeroT C.P t) n t false false [] false) fun b s' => k (.ptr b 0) s') (.no "zero" t)
def oBox (t : TypeId) (x : Operand) : OpF := fun f s k => opd x f fun v => varK t v s k
def oBuild (t : TypeId) (ps : Array (Nat × Operand)) : OpF := fun f s k => parts ps.toList f fun ps => ifK (structB C.P t) (ifK (bigB C.P t)
  (ifK (Option.isSome (zeroCells C.P t)) (fillT (placeB C.P t) ps (zeroT C.P t) fun c => natK (zeroN C.P t) fun n => newK s (.snap c n) fun b s' => k (.agt b) s') (.no "zero" t))
  (optK (zeroCells C.P t) "zero" fun z => fillK (placeB C.P t) ps z fun l => k (.agg l) s)) (.no "build" t)
def oBuildSlice (t : TypeId) (n : Nat) (ps : Array (Nat × Operand)) : OpF := fun f s k => parts ps.toList f fun ps => optK (sliceB C.P t) "slice" fun e => optK (sizeB C.P e) "size" fun sz => ifK (Nat.ble (n * sz) 16777216)
  (optK (zeroCells C.P e) "zero" fun z => ifK (Nat.beq z.length sz) (fillK (placeB C.P t) ps (zerosN z n) fun l => rowK s e false false l fun b s' => k (.sl b 0 n n) s') (.no "zero" e)) (.no "build" t)
def oLoad (t : TypeId) (x : Operand) : OpF := fun f s k => opd x f fun v => asPtr v fun b o => ifK (bigB C.P t) (loadBig C.P t s b o k) (loadT C.P t s b o fun v => k v s)
def oStore (t : TypeId) (x y : Operand) : OpF := fun f s k => opd x f fun a => opd y f fun v => asPtr a fun b o => storeT C.P t s b o v fun s' => k undefA s'
def oNil (x : Operand) : OpF := fun f s k => opd x f fun v => nilOk v (k v s)
def oBin (op : BinOp) (t : TypeId) (x y : Operand) : OpF := fun f s k => opd x f fun a => opd y f fun b => binK C.P op t x y a b s fun v => k v s
def oUn (op : UnOp) (x : Operand) : OpF := fun f s k => opd x f fun a => unK C.P op a fun v => k v s
def oConv (a b : TypeId) (x : Operand) : OpF := fun f s k => opd x f fun v => convK C.P a b v s k
def isIfaceT (P : Program) (t : TypeId) : Bool := match P.underlying t with | some (.interface _) => true | some _ => false | none => true
def oIface (t : TypeId) (x : Operand) : OpF := fun f s k => opd x f fun v => ifK (isIfaceT C.P t) (.no "makeInterface" t) (k (.ifc t v) s)
def oFunc (fn : Fn) (a b : Array Operand) : OpF := fun f s k => opds a.toList f fun a => opds b.toList f fun b => match fn with | .func g => k (.fn (.func g) a b) s | _ => .no "makeFunc" 0
def oMap (t : TypeId) (r : Option Operand) : OpF := fun f s k => opdO r f fun r => (match r with
  | none => newK s (.map [] s.nx) fun b s' => k (.map b) s'
  | some (.int _ _) => optK (mapB C.P t) "map" fun _ => newK s (.map [] s.nx) fun b s' => k (.map b) s'
  | _ => .no "makeMap" 0)
def oMkSlice (t : TypeId) (x y : Operand) : OpF := fun f s k => opd x f fun a => opd y f fun b => (match a, b with
  | .int .i64 (.ofNat l), .int .i64 (.ofNat c) => optK (sliceB C.P t) "slice" fun e => optK (sizeB C.P e) "size" fun sz => optK (bytesB C.P e) "bytes" fun by_ => optK (zeroCells C.P e) "zero" fun z =>
      ifK (Nat.ble 1 sz && Nat.ble l c && Nat.ble (c * by_) 16777216 && Nat.ble c 16777216) (lenK z fun m => ifK (Nat.beq m sz) (natK l fun l => natK c fun c => natK (Nat.mul c m) fun n => newK s (.cells (repT z m c) n e false false [] false) fun b s' => k (.sl b 0 l c) s') (.no "makeSlice" 0)) (.no "makeSlice" 0)
  | _, _ => .no "makeSlice" 0)
def oSlice (t : TypeId) (x : Operand) (lo hi mx : Option Operand) : OpF := fun f s k => opd x f fun v => opdO lo f fun lo => opdO hi f fun hi => opdO mx f fun mx => sliceK C.P t v lo hi mx fun v => k v s
def oFieldAddr (t : TypeId) (x : Operand) (i : Nat) : OpF := fun f s k => opd x f fun v => asPtr v fun b o => optK (fieldOff C.P t i) "field" fun q => natK (o + q.1) fun o => k (.ptr b o) s
def oField (t : TypeId) (x : Operand) (i : Nat) : OpF := fun f s k => opd x f fun v => asAgg v fun l => optK (fieldB C.P t i) "field" fun q => partK C.P q.type l q.offset fun v => k v s
def oIndexAddr (t : TypeId) (x y : Operand) : OpF := fun f s k => opd x f fun a => opd y f fun b => indexAddrK C.P t a b fun v => k v s
def oIndex (t : TypeId) (x y : Operand) : OpF := fun f s k => opd x f fun a => opd y f fun b => indexK C.P t a b fun v => k v s
def oLookup (t : TypeId) (x y : Operand) (ok : Bool) : OpF := fun f s k => opd x f fun a => opd y f fun b => lookupK C.P t a b ok s fun v => k v s
def oMapUpd (t : TypeId) (x y z : Operand) : OpF := fun f s k => opd x f fun a => opd y f fun b => opd z f fun c => mapUpdK C.P t a b c s fun s' => k undefA s'
def oRange (t : TypeId) (x : Operand) : OpF := fun f s k => opd x f fun v => (match v with
  | .nilmap => ifK (Nat.beq (kindB C.P t) 2) (newK s .iter0 fun b s' => k (.ptr b 0) s') (.no "range" 0)
  | .map m => ifK (Nat.beq (kindB C.P t) 2) (objK s m fun o => asMap o fun es ver => newK s (.iter m ver (es.map Prod.fst) none) fun b s' => k (.ptr b 0) s') (.no "range" 0)
  | .str l => ifK (isStringT C.P t) (newK s (.sit l 0) fun b s' => k (.ptr b 0) s') (.no "range" 0)
  | _ => .no "range" 0)
def oMapEnt (t : TypeId) (x y : Operand) : OpF := fun f s k => opd x f fun a => opd y f fun b => mapEntK C.P t a b s k
def oEntStore (x y z : Operand) : OpF := fun f s k => opd x f fun a => opd y f fun b => opd z f fun c => entStoreK a b c s fun s' => k undefA s'
def oEntry (x : Operand) : OpF := fun f s k => opd x f fun v => entryK v s fun v => k v s
def oNext (x : Operand) (str : Bool) : OpF := fun f s k => opd x f fun v => iterK C v str s k
def oAssert (x : Operand) (t : TypeId) (ok : Bool) : OpF := fun f s k => opd x f fun v => assertK C.P v t ok fun v => k v s
def oExtract (x : Operand) (i : Nat) : OpF := fun f s k => opd x f fun v => asTup v fun l => nthK i l fun v => k v s
def oCall (c : Call) : OpF := fun f s k => opds c.args.toList f fun args => Callee.rec
  (fun g => opd g f fun v => valueK C rec v args s k)
  (fun r name => opd r f fun v => invokeK C rec v name args s k)
  (fun b => builtinK C.P b c.argTypes.toList args s k) c.callee
def oNo (why : String) : OpF := fun f s k => .no why 0
def execA (o : Op) : OpF :=
  Op.rec (motive := fun _ => Cf → Rec → OpF) (fun x _ _ => oMove x) (fun x _ _ => oMove x) (fun c a b _ _ => oPick c a b) (fun t C _ => oAlloc C t) (fun t x _ _ => oBox t x) (fun t ps C _ => oBuild C t ps) (fun t n ps C _ => oBuildSlice C t n ps) (fun t m k v C _ => oMapUpd C t m k v) (fun t x C _ => oLoad C t x) (fun t x y C _ => oStore C t x y)
    (fun _ _ _ => oNo "ready") (fun _ _ _ => oNo "waits") (fun x _ _ => oNil x)
    (fun op t x y _ C _ => oBin C op t x y) (fun op _ x C _ => oUn C op x) (fun a b x C _ => oConv C a b x) (fun _ _ _ _ => oNo "sliceToArrayPointer") (fun t x C _ => oIface C t x) (fun f a b _ _ => oFunc f a b) (fun t r C _ => oMap C t r) (fun _ _ _ _ => oNo "makeChan") (fun t x y C _ => oMkSlice C t x y) (fun t x l h m C _ => oSlice C t x l h m)
    (fun t x i C _ => oFieldAddr C t x i) (fun t x i C _ => oField C t x i) (fun t x y C _ => oIndexAddr C t x y) (fun t x y C _ => oIndex C t x y) (fun t x y ok C _ => oLookup C t x y ok) (fun t x y z C _ => oMapUpd C t x y z) (fun t x y C _ => oMapEnt C t x y) (fun _ m st v _ _ => oEntStore m st v) (fun t x C _ => oRange C t x) (fun x s C _ => oNext C x s) (fun x _ _ => oEntry x)
    (fun x _ t ok C _ => oAssert C x t ok) (fun x i _ _ => oExtract x i) (fun c C rec => oCall C rec c) (fun _ _ _ => oNo "go") (fun _ _ _ => oNo "defer") (fun _ _ _ => oNo "panic") (fun _ _ _ _ => oNo "send") (fun _ _ _ _ _ => oNo "recv") (fun _ _ _ _ => oNo "select") o C rec

def putF (d : Option Tmp) (v : AV) (f : Fr) (k : Fr → Ans) : Ans :=
  Option.rec (k f) (fun d => Fr.rec (fun fn tm dl rd => updK tm d v fun tm' => k ⟨fn, tm', dl, rd⟩) f) d
/-- The temporary of the operation that guards. -/
def gtmp (all : List Oper) (g : Nat) : Option Tmp := (all[g]?).bind (·.dst)
def runO (o : Oper) (f : Fr) (s : St) (k : Fr → St → Ans) : Ans := execA C rec o.op f s fun v s' => putF o.dst v f fun f' => k f' s'
def guardK (all : List Oper) (o : Oper) (g : Nat × Bool) (f : Fr) (s : St) (k : Fr → St → Ans) : Ans :=
  optK (gtmp all g.1) "guard" fun t => getK f.tm t fun v =>
      match v with
      | .bool b => ifK (b == g.2) (runO C rec o f s k) (putF o.dst undefA f fun f' => k f' s)
      | .tup [] => putF o.dst undefA f fun f' => k f' s
      | _ => .no "guard" t
def oneK (all : List Oper) (o : Oper) (f : Fr) (s : St) (k : Fr → St → Ans) : Ans :=
  Option.rec (runO C rec o f s k) (fun g => guardK C rec all o g f s k) o.guard
def opsK (all : List Oper) (l : List Oper) : Fr → St → (Fr → St → Ans) → Ans :=
  List.rec (fun f s k => k f s) (fun o _ ih f s k => oneK C rec all o f s fun f s => ih f s k) l

/-! ### regions that draw their order -/
/-- 0: asks nothing of memory; 1: reads it; 2: makes memory, and may come early; 3: all else. -/
def cls (P : Program) (o : Op) : Nat :=
  match o with
  | .load t _ => if bigB P t then 3 else 1
  | .build t _ => if bigB P t then 3 else 0
  | .lookup .. | .entry _ => 1
  | .convert a b _ => if isIntT P a && isIntT P b then 0 else if isStringT P a && isStringT P b then 0 else if isByteSlice P a then 1 else 3
  | .binOp _ t _ _ _ => if Nat.beq (kindB P t) 5 then 1 else 0
  | .alloc _ | .buildSlice .. | .makeMap .. | .makeSlice .. => 2
  | .store .. | .mapUpdate .. | .insert .. | .mapEntry .. | .entryStore .. | .next .. => 3
  | .call c => match c.callee with
    | .builtin .len | .builtin .cap => (match (c.argTypes[0]?).map (kindB P) with | some 2 => 1 | _ => 0)
    | .builtin .min | .builtin .max => 0
    | _ => 3
  | .move _ | .pick .. | .nilCheck _ | .unOp .. | .makeInterface .. | .makeFunc .. | .slice .. | .fieldAddr .. | .field .. | .indexAddr .. | .index .. | .typeAssert .. | .extract .. => 0
  | _ => 3
/-- The bits of the operations that must come ahead, near ones, and all. -/
def nearM (o : Oper) : Nat := o.after.toList.foldl (fun s e => if Region.binds .any e then Nat.lor s (Nat.pow 2 e.on) else s) 0
def allM : List Oper → List Nat → List Nat
  | [], acc => acc
  | o :: l, acc => allM l (acc ++ [o.after.toList.foldl (fun s e => if Region.binds .any e then Nat.lor (Nat.lor s (Nat.pow 2 e.on)) (acc.getD e.on 0) else s) 0])
structure It where
  i : Nat
  o : Oper
  c : Nat
  near : Nat
  all : Nat
def items (P : Program) (ops : List Oper) : List It :=
  (ops.zip (allM ops [])).zipIdx.map fun x => ⟨x.2, x.1.1, cls P x.1.1.op, nearM x.1.1, x.1.2⟩
def bit (m i : Nat) : Bool := Nat.beq (Nat.mod (Nat.shiftRight m i) 2) 1
def sub (a b : Nat) : Bool := Nat.beq (Nat.land a b) a
/-- One pass over the operations: those that are ready, and wanted, are taken. -/
def pass (want : It → Bool) : List It → Nat → List It → Nat × List It
  | [], m, acc => (m, acc)
  | x :: l, m, acc => if !bit m x.i && sub x.near m && want x then pass want l (Nat.lor m (Nat.pow 2 x.i)) (x :: acc) else pass want l m acc
def planGo (its : List It) : Nat → Nat → List It → List It
  | 0, _, acc => acc
  | n + 1, m, acc =>
    match pass (fun x => Nat.ble x.c 1) its m acc with
    | (m, acc) => match its.find? fun x => Nat.beq x.c 3 && !bit m x.i && its.all fun y => !(Nat.beq y.c 3 && bit x.all y.i) || bit m y.i with
      | some h => match pass (fun x => Nat.ble x.c 1 || bit h.all x.i) its m acc with
        | (m, acc) => match pass (fun x => Nat.beq x.i h.i) its m acc with
          | (m, acc) => if bit m h.i then planGo its n m acc else acc
      | none => (pass (fun _ => true) its m acc).2
def plan (P : Program) (ops : List Oper) : List It := (planGo (items P ops) (ops.length + 1) 0 []).reverse
/-- A step: an operation, the readers that are asked anew behind it, those that may come ahead of it. -/
def steps : List It → List It → List (It × List It × List It)
  | _, [] => []
  | pre, x :: l => (x, (if Nat.ble 2 x.c then pre.filter fun r => Nat.beq r.c 1 && !bit x.all r.i else []), (if Nat.ble 2 x.c then l.filter fun y => Nat.beq y.c 2 && !bit y.all x.i else [])) :: steps (x :: pre) l
/-- The temporaries that an operation writes; that it looks at. -/
def wrM (o : Oper) : Nat := match o.dst with | some d => Nat.pow 2 d | none => 0
def opM (ops : List Oper) (o : Oper) : Nat :=
  o.op.operands.toList.foldl (fun s x => match x with | .tmp t => Nat.lor s (Nat.pow 2 t) | _ => s)
    (match o.guard with | some g => (match gtmp ops g.1 with | some t => Nat.pow 2 t | none => 0) | none => 0)
/-- What the one writes the other one neither writes nor looks at. -/
def offM (ops : List Oper) (x y : Oper) : Bool := Nat.beq (Nat.land (wrM x) (Nat.lor (wrM y) (opM ops y))) 0
/-- Two operations, the first ahead in the plan: the order between them is bound where it must be. -/
def pairOk (ops : List Oper) (x y : It) : Bool :=
  (bit y.all x.i || ((!Nat.ble 2 x.c || Nat.beq y.c 2) && offM ops x.o y.o && offM ops y.o x.o)) && (Nat.ble 2 x.c || Nat.ble 2 y.c || offM ops y.o x.o)
/-- What may come early looks at nothing that might be late, nor early. -/
def trialOk (ops : List Oper) (x : It) (l : List It) : Bool :=
  !Nat.ble 2 x.c || l.all fun y => !(Nat.beq y.c 2 && !bit y.all x.i) || (y.o.guard.isNone && (x :: l).all fun z => !Nat.beq z.c 2 || (Nat.beq (Nat.land (wrM z.o) (opM ops y.o)) 0 && (Nat.beq z.i y.i || Nat.beq (Nat.land (wrM z.o) (wrM y.o)) 0)))
def pairsOk (ops : List Oper) : List It → Bool
  | [] => true
  | x :: l => l.all (pairOk ops x) && trialOk ops x l && (Nat.ble 2 x.c || Nat.beq (Nat.land (wrM x.o) (opM ops x.o)) 0) && pairsOk ops l
/-- Each once, none ahead of what must be ahead of it, all. -/
def topo : List It → Nat → Nat → Bool
  | [], m, n => Nat.beq m (Nat.sub (Nat.pow 2 n) 1)
  | x :: l, m, n => !bit m x.i && sub x.near m && topo l (Nat.lor m (Nat.pow 2 x.i)) n
def planOk (P : Program) (ops : List Oper) : Bool := topo (plan P ops) 0 ops.length && pairsOk ops (plan P ops)
def againK (all : List Oper) (l : List It) : Fr → St → (Unit → Ans) → Ans :=
  List.rec (fun _ _ k => k ()) (fun r _ ih f s k => optK r.o.dst "again" fun d => getK f.tm d fun v =>
    oneK C rec all r.o f s fun f' _ => getK f'.tm d fun v' => ifK (avSame v v') (ih f s k) (.no "a reader that reads otherwise" r.i)) l
/-- What lies below has blocks. -/
def heldK (s : St) (n : Nat) : Ans → Ans := Nat.rec (fun k => k) (fun n ih k => objK s n fun o => match o with | .cells .. => ih k | _ => .no "below" n) n
/-- What may come early can. -/
def trialK (all : List Oper) (l : List It) (f : Fr) (s : St) : (Unit → Ans) → Ans :=
  List.rec (fun k => k ()) (fun y _ ih k => ifK (Nat.ble s.fl glim) (heldK s s.fl (oneK C rec all y.o f s fun _ _ => ih k)) (.no "early" y.i)) l
def planK (all : List Oper) (l : List (It × List It × List It)) : Fr → St → (Fr → St → Ans) → Ans :=
  List.rec (fun f s k => k f s) (fun x _ ih f s k => trialK C rec all x.2.2 f s fun _ => oneK C rec all x.1.o f s fun f s => againK C rec all x.2.1 f s fun _ => ih f s k) l
def stepsB (P : Program) (ops : List Oper) : List (It × List It × List It) := steps [] (plan P ops)
/-- Does one of them make a call wait? -/
def defers (ops : List Oper) : Bool := ops.any fun o => match o.op with | .defer _ => true | _ => false
def deferK (c : Call) (f : Fr) (k : Fr → Ans) : Ans :=
  opds c.args.toList f fun args => match c.callee with
    | .value g => opd g f fun v => (match v with
      | .fn (.func fi) first captured => Fr.rec (fun fn tm dl rd => Option.rec (k ⟨fn, tm, .fn fi (first ++ args ++ captured) :: dl, rd⟩) (fun _ => .no "defer in a round" 0) rd) f
      | _ => .no "defer" 0)
    | _ => .no "defer" 0
def opsD (all : List Oper) (l : List Oper) : Fr → St → (Fr → St → Ans) → Ans :=
  List.rec (fun f s k => k f s) (fun o _ ih f s k => match o.op with
    | .defer c => Option.rec (deferK c f fun f => putF o.dst undefA f fun f => ih f s k) (fun _ => .no "defer under a guard" 0) o.guard
    | _ => oneK C rec all o f s fun f s => ih f s k) l
def regionK (ops : Array Oper) (draw : Bool) (f : Fr) (s : St) (k : Fr → St → Ans) : Ans :=
  Bool.rec (ifK (defers ops.toList) (opsD C rec ops.toList ops.toList f s k) (opsK C rec ops.toList ops.toList f s k))
    (ifK (planOk C.P ops.toList) (planK C rec ops.toList (stepsB C.P ops.toList) f s k) (.no "plan" 0)) draw

/-! ### code -/
def jumpK (pend : Option Code) (f : Fr) (s : St) (kn : Fr → St → Ans) (kx : Nat → Fr → St → Ans) (kr : Fr → St → Ans) : Ans := match pend with
  | none => kn f s
  | some .ret => kr f s
  | some (.exit id) => ifK (Nat.blt id gotoBase) (kx id f s) (.no "exit" id)
  | _ => .no "range: jump" 0
def rangeGo (fi : FuncId) (first captured : List AV) (ps : Array Tmp) (asg body : Code) (fn : FuncId) (tm : Tr AV) (rd : Option Nat) (kn : Fr → St → Ans) (kx : Nat → Fr → St → Ans) (kr : Fr → St → Ans) (dl : List DI) (d : Nat) (s : St) : Ans :=
  newK s (.loop .ready fn tm ps.toList asg body none d) fun b s =>
    callK C rec fi (first ++ [.yld b] ++ captured) s fun _ s => loopK s b fun st _ _ _ _ _ pend _ => match st with
      | .busy => .no "range: a round that is under way" b
      | _ => putK s b .dead fun s => jumpK pend ⟨fn, tm, dl, rd⟩ s kn kx kr
def rangeK (fo : Operand) (ps : Array Tmp) (asg body : Code) (f : Fr) (s : St) (kn : Fr → St → Ans) (kx : Nat → Fr → St → Ans) (kr : Fr → St → Ans) : Ans :=
  opd fo f fun v => match v with
    | .fn (.func fi) first captured => ifK (Nat.beq (extB C.P fi) 0) (Fr.rec (fun fn tm dl rd =>
        Option.rec (newK s .dfr fun d s => rangeGo C rec fi first captured ps asg body fn tm none kn kx kr (.mark d :: dl) d s)
          (fun b => loopK s b fun _ _ _ _ _ _ _ d => rangeGo C rec fi first captured ps asg body fn tm (some b) kn kx kr dl d s) rd) f) (.no "range" fi)
    | _ => .no "range" 0
/-- Jumps in a scope: one to a label of it goes on behind that. -/
def scopeX (rec : Rec) (body : Code) (kn : Fr → St → Ans) (kx : Nat → Fr → St → Ans) (kr : Fr → St → Ans) (fuel : Nat) : Nat → Fr → St → Ans :=
  Nat.rec (fun j _ _ => .no "scope" j) (fun _ ih j f s => Bool.rec (Option.rec (kx j f s) (fun rest => rec rest f s kn ih kr) (findLabel body (Nat.sub j gotoBase))) (kx j f s) (Nat.blt j gotoBase)) fuel
def stepC (c : Code) : Fr → St → (Fr → St → Ans) → (Nat → Fr → St → Ans) → (Fr → St → Ans) → Ans :=
  Code.rec (motive := fun _ => Cf → Rec → Fr → St → (Fr → St → Ans) → (Nat → Fr → St → Ans) → (Fr → St → Ans) → Ans) (fun _ _ f s kn _ _ => kn f s)
    (fun _ ops draw C rec f s kn _ _ => regionK C rec ops draw f s kn)
    (fun _ _ iha ihb C rec f s kn kx kr => iha C rec f s (fun f s => ihb C rec f s kn kx kr) kx kr)
    (fun x _ _ iha ihb C rec f s kn kx kr => opd x f fun v => asBool v fun b => Bool.rec (ihb C rec f s kn kx kr) (iha C rec f s kn kx kr) b)
    (fun id _ ih C rec f s kn kx kr => ifK (Nat.blt id gotoBase) (ih C rec f s kn (fun j f s => Bool.rec (kx j f s) (kn f s) (Nat.beq j id)) kr) (.no "block" id))
    (fun body ih C rec f s kn kx kr => ih C rec f s (fun f s => rec (.loop body) f s kn kx kr) kx kr)
    (fun fo ps asg body _ _ C rec f s kn kx kr => rangeK C rec fo ps asg body f s kn kx kr)
    (fun id _ _ f s _ kx _ => ifK (Nat.blt id gotoBase) (kx id f s) (.no "exit" id))
    (fun body ih C rec f s kn kx kr => ih C rec f s kn (scopeX rec body kn kx kr 10000) kr)
    (fun _ _ _ f s kn _ _ => kn f s)
    (fun l _ _ f s _ kx _ => kx (Nat.add gotoBase l) f s)
    (fun _ _ f s _ _ kr => kr f s)
    (fun _ _ _ _ _ _ _ _ => .no "refuse" 0) c C rec
end
def ev (C : Cf) (fuel : Nat) : Rec := Nat.rec (fun _ _ _ _ _ _ => .no "fuel" 0) (fun _ ih => stepC C ih) fuel
/-- A call, from outside. -/
def run (C : Cf) (fuel : Nat) (fi : FuncId) (args : List AV) (s : St) : Ans := callK C (ev C fuel) fi args s fun v s => .outs [(v, s)]
/-- All outcomes are true. -/
def isTrueA (v : AV) : Bool := match v with | .bool true => true | _ => false
def allTrue (l : List (AV × St)) : Bool := List.rec true (fun x _ ih => Bool.rec false ih (isTrueA x.1)) l
def chkT (a : Ans) : Bool := Ans.rec (fun _ _ => false) (fun l => allTrue l) a
/-- A row of these. -/
def rowL (l : List AV) : Tr AV := mkA (fun i => l.getD i undefA) l.length 1 0
end
end Go.Proofs.YtajdeaabgplacaaGreatDoor.Sev
