/-
  The plain functions that the Call package computes: words, numbers, texts, a call's text, an answer's text. No program in sight.
-/
import Derived.Lib.ItoaNum
import Derived.Lib.AtoiAll
import Derived.Lib.Join
namespace Go.Proofs.YthhhdddojmkgnaaGreatDoor
open Go

abbrev Bs := List UInt8

/-- One hexadecimal digit. -/
def hexDig (n : Nat) : UInt8 := if n < 10 then UInt8.ofNat (48 + n) else UInt8.ofNat (87 + n)
/-- A text's hexadecimal digits. -/
def hexL : Bs → Bs
  | [] => []
  | c :: r => hexDig (c.toNat / 16) :: hexDig (c.toNat % 16) :: hexL r
/-- A text's word. -/
def hexF (l : Bs) : Bs := if l = [] then [45] else hexL l

/-- What a number's word says; is it bad? -/
def numOf (s : Bs) : Int × Bool :=
  match Lib.atoiAll s with
  | .ok v => (v, decide (Lib.itoa v ≠ s))
  | .range => (Lib.atoiSat s, true)
  | _ => (0, true)

/-- A hexadecimal digit's value, of either case. -/
def hexVal (c : UInt8) : Option Nat :=
  if 48 ≤ c.toNat ∧ c.toNat ≤ 57 then some (c.toNat - 48)
  else if 97 ≤ c.toNat ∧ c.toNat ≤ 102 then some (c.toNat - 87)
  else if 65 ≤ c.toNat ∧ c.toNat ≤ 70 then some (c.toNat - 55)
  else none
/-- Is it no capital? -/
def lowHex (c : UInt8) : Bool := !(decide (65 ≤ c.toNat) && decide (c.toNat ≤ 90))
/-- What two digits say; are they bad? -/
def pairOf (a b : UInt8) : UInt8 × Bool :=
  match hexVal a, hexVal b with
  | some x, some y => (UInt8.ofNat (16 * x + y), !(lowHex a && lowHex b))
  | _, _ => (0, true)
/-- What the pairs of a text's word say; is one bad? -/
def textL : Bs → Bs × Bool
  | a :: b :: r => ((pairOf a b).1 :: (textL r).1, (pairOf a b).2 || (textL r).2)
  | _ => ([], false)
/-- What a text's word says; is it bad? -/
def textOf (s : Bs) : Bs × Bool :=
  if s = [45] then ([], false) else ((textL s).1, (textL s).2 || decide (s.length % 2 = 1) || decide (s.length < 2))

/-- A call. -/
structure CallR where
  kind : Nat
  tx : Int
  key : Bs
  en : Bs
  va : Bs
  lim : Int
  eng : Nat

def wordL : List Bs := [[], [98, 101, 103, 105, 110], [103, 101, 116], [112, 117, 116], [100, 101, 108, 101, 116, 101], [115, 99, 97, 110], [99, 111, 109, 109, 105, 116], [97, 98, 111, 114, 116], [118, 97, 99, 117, 117, 109], [109, 105, 103, 114, 97, 116, 101]]
def wordF (k : Nat) : Bs := wordL.getD k []

def needsF (k : Nat) : Bool := decide (2 ≤ k) && decide (k ≤ 7)
def keyedF (k : Nat) : Bool := decide (2 ≤ k) && decide (k ≤ 5)
def mayF (c : CallR) : Bool := decide (1 ≤ c.kind) && decide (c.kind ≤ 9) && (decide (c.kind ≠ 9) || decide (c.eng = 1) || decide (c.eng = 2))
def cleanF (c : CallR) : CallR :=
  { kind := c.kind, tx := if needsF c.kind then c.tx else 0, key := if keyedF c.kind then c.key else [], en := if c.kind = 5 then c.en else [], va := if c.kind = 3 then c.va else [], lim := if c.kind = 5 then c.lim else 0, eng := if c.kind = 9 then c.eng else 0 }
/-- A call's words. -/
def callWords (c : CallR) : List Bs :=
  if c.kind = 2 ∨ c.kind = 4 then [wordF c.kind, Lib.itoa c.tx, hexF c.key]
  else if c.kind = 3 then [wordF c.kind, Lib.itoa c.tx, hexF c.key, hexF c.va]
  else if c.kind = 5 then [wordF c.kind, Lib.itoa c.tx, hexF c.key, hexF c.en, Lib.itoa c.lim]
  else if c.kind = 9 then [wordF c.kind, Lib.itoa c.eng]
  else if needsF c.kind then [wordF c.kind, Lib.itoa c.tx]
  else [wordF c.kind]
def showF (c : CallR) : Bs := if mayF c then Lib.join (callWords c) [32] else []

/-- The words of a text: the pieces between blanks. -/
def splitF : Bs → List Bs
  | [] => [[]]
  | c :: r => if c = 32 then [] :: splitF r else
    match splitF r with
    | w :: ws => (c :: w) :: ws
    | [] => [[c]]

/-- A reader: what is left, is it bad? -/
structure Rd where
  l : List Bs
  bad : Bool

def Rd.next (r : Rd) : Bs × Rd :=
  match r.l with
  | [] => ([], ⟨[], true⟩)
  | s :: l => (s, ⟨l, r.bad⟩)
def Rd.number (r : Rd) : Int × Rd := ((numOf r.next.1).1, ⟨r.next.2.l, r.next.2.bad || (numOf r.next.1).2⟩)
def Rd.text (r : Rd) : Bs × Rd := ((textOf r.next.1).1, ⟨r.next.2.l, r.next.2.bad || (textOf r.next.1).2⟩)
def Rd.done (r : Rd) : Bool := !r.bad && decide (r.l = [])

/-- Which Kind a word is; 0: none. -/
def kindOf (w : Bs) : Nat := if wordL.idxOf w < 10 then wordL.idxOf w else 0

/-- call.Parse. -/
def parseF (s : Bs) : Option CallR :=
  let r0 : Rd := ⟨splitF s, false⟩
  let k := kindOf r0.next.1
  let r1 := r0.next.2
  let tx := if needsF k then r1.number.1 else 0
  let r2 := if needsF k then r1.number.2 else r1
  let key := if keyedF k then r2.text.1 else []
  let r3 := if keyedF k then r2.text.2 else r2
  if k = 3 then
    let x : CallR := ⟨k, tx, key, [], r3.text.1, 0, 0⟩
    if r3.text.2.done && mayF x then some x else none
  else if k = 5 then
    let x : CallR := ⟨k, tx, key, r3.text.1, [], r3.text.2.number.1, 0⟩
    if r3.text.2.number.2.done && mayF x then some x else none
  else if k = 9 then
    let n := r3.number.1
    let e := (n % 256).toNat
    let x : CallR := ⟨k, tx, key, [], [], 0, e⟩
    let r4 : Rd := ⟨r3.number.2.l, r3.number.2.bad || decide ((e : Int) ≠ n)⟩
    if r4.done && mayF x then some x else none
  else
    let x : CallR := ⟨k, tx, key, [], [], 0, 0⟩
    if r3.done && mayF x then some x else none
end Go.Proofs.YthhhdddojmkgnaaGreatDoor
