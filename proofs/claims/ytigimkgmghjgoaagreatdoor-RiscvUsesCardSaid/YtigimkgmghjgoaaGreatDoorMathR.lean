/- RISC-V instructions and their texts, as plain functions of lists of bytes; no program, no condition. -/
import Derived.Lib.SlTrimSet
import Derived.Lib.ItoaNum
namespace Go.Proofs.YtigimkgmghjgoaaGreatDoor
set_option linter.unusedVariables false

abbrev Tx := List UInt8
def blankC (c : UInt8) : Bool := c == 32 || c == 9 || c == 10 || c == 13
def trimT (l : Tx) : Tx := Lib.trimS l [32, 9, 10, 13]
/-- a decimal numeral of up to four digits -/
def dgt (n : Nat) : UInt8 := UInt8.ofNat (48 + n % 10)
def decN (n : Nat) : Tx := if n < 10 then [dgt n] else if n < 100 then [dgt (n / 10), dgt n] else if n < 1000 then [dgt (n / 100), dgt (n / 10), dgt n] else [dgt (n / 1000), dgt (n / 100), dgt (n / 10), dgt n]
def decI (n : Int) : Tx := if n < 0 then 45 :: decN n.natAbs else decN n.toNat
/-- a register's name -/
def regT (n : Nat) : Tx := 120 :: decN n
def regOf (s : Tx) : Option Nat := (List.range 32).find? fun n => regT n == s
def splitC (c : UInt8) : Tx → List Tx
  | [] => [[]]
  | b :: r => if b == c then [] :: splitC c r else match splitC c r with
    | [] => [[b]]
    | x :: t => (b :: x) :: t
def letterC (c : UInt8) : Bool := (97 ≤ c && c ≤ 122) || (65 ≤ c && c ≤ 90)
def digitC (c : UInt8) : Bool := 48 ≤ c && c ≤ 57
def nameC (c : UInt8) : Bool := letterC c || digitC c || c == 95
/-- a name -/
def nameB : Tx → Bool
  | [] => false
  | c :: r => decide (r.length < 32) && letterC c && r.all nameC

structure Ins where
  op : Int
  d : Int
  a : Int
  b : Int
  imm : Int
  loc : Tx
  label : Tx
  fence : Int
  deriving DecidableEq
def ins0 : Ins := ⟨0, 0, 0, 0, 0, [], [], 0⟩
def wantI (i : Ins) : Ins :=
  if i.op = 6 then ⟨6, i.d, i.a, 0, 0, [], [], 0⟩
  else if i.op = 7 then ⟨7, 0, i.a, i.b, 0, [], [], 0⟩
  else if i.op = 8 then ⟨8, i.d, i.a, 0, i.imm, [], [], 0⟩
  else if i.op = 9 then ⟨9, i.d, i.a, i.b, 0, [], [], 0⟩
  else if i.op = 10 then ⟨10, i.d, i.a, i.b, 0, [], [], 0⟩
  else if i.op = 11 then ⟨11, 0, i.a, i.b, 0, [], i.label, 0⟩
  else if i.op = 12 then ⟨12, 0, 0, 0, 0, [], i.label, 0⟩
  else if i.op = 13 then ⟨13, 0, 0, 0, 0, [], [], i.fence⟩
  else ⟨i.op, 0, 0, 0, 0, [], [], 0⟩
def okI (i : Ins) : Bool :=
  if i.op = 8 then decide (-2048 ≤ i.imm) && decide (i.imm ≤ 2047)
  else if i.op = 11 ∨ i.op = 12 then nameB i.label
  else if i.op = 13 then decide (2 ≤ i.fence) && decide (i.fence ≤ 11)
  else decide (6 ≤ i.op) && decide (i.op ≤ 13)
def regB (n : Int) : Bool := decide (0 ≤ n) && decide (n ≤ 31)
/-- an instruction that may be -/
def checkI (i : Ins) : Bool := okI i && decide (i = wantI i) && regB i.d && regB i.a && regB i.b
def errI (i : Ins) : Int := if checkI i then 0 else 91

def rT (n : Int) : Tx := regT n.toNat
def fpart (n : Int) : Tx := if n = 0 then [114] else if n = 1 then [119] else [114, 119]
/-- an instruction's text -/
def printI (i : Ins) : Tx :=
  if i.op = 6 then [108, 119, 32] ++ rT i.d ++ [44, 48, 40] ++ rT i.a ++ [41]
  else if i.op = 7 then [115, 119, 32] ++ rT i.b ++ [44, 48, 40] ++ rT i.a ++ [41]
  else if i.op = 8 then [111, 114, 105, 32] ++ rT i.d ++ [44] ++ rT i.a ++ [44] ++ decI i.imm
  else if i.op = 9 then [120, 111, 114, 32] ++ rT i.d ++ [44] ++ rT i.a ++ [44] ++ rT i.b
  else if i.op = 10 then [97, 100, 100, 32] ++ rT i.d ++ [44] ++ rT i.a ++ [44] ++ rT i.b
  else if i.op = 11 then [98, 110, 101, 32] ++ rT i.a ++ [44] ++ rT i.b ++ [44] ++ i.label
  else if i.op = 12 then i.label ++ [58]
  else if i.fence = 2 then [102, 101, 110, 99, 101, 46, 116, 115, 111]
  else [102, 101, 110, 99, 101, 32] ++ fpart ((i.fence - 3) / 3) ++ [44] ++ fpart ((i.fence - 3) % 3)

/-- the register of 0(A) -/
def addrT (s : Tx) : Option Nat :=
  let t := trimT s
  if t.contains 40 && t.getLast? == some 41 && trimT (t.takeWhile (· != 40)) == [48] then regOf (trimT ((t.dropWhile (· != 40)).drop 1).dropLast) else none
def numT (s : Tx) : Option Int := ((List.range 4096).find? fun (n : Nat) => decI ((n : Int) - 2048) == s).map fun (n : Nat) => (n : Int) - 2048
def fpartOf (s : Tx) : Option Int := if s = [114] then some 0 else if s = [119] then some 1 else if s = [114, 119] then some 2 else none
/-- an instruction by its operation's name and the parts behind it, without blanks at their ends -/
def readI (op : Tx) (l : List Tx) : Option Ins :=
  if op = [108, 119] then match l with
    | [x, y] => match regOf x, addrT y with
      | some d, some a => some ⟨6, d, a, 0, 0, [], [], 0⟩
      | _, _ => none
    | _ => none
  else if op = [115, 119] then match l with
    | [x, y] => match regOf x, addrT y with
      | some d, some a => some ⟨7, 0, a, d, 0, [], [], 0⟩
      | _, _ => none
    | _ => none
  else if op = [102, 101, 110, 99, 101] then match l with
    | [x, y] => match fpartOf x, fpartOf y with
      | some k, some j => some ⟨13, 0, 0, 0, 0, [], [], 3 + 3 * k + j⟩
      | _, _ => none
    | _ => none
  else match l with
    | [x, y, z] => match regOf x, regOf y with
      | some a, some b =>
        if op = [98, 110, 101] then (if nameB z then some ⟨11, 0, a, b, 0, [], z, 0⟩ else none)
        else if op = [111, 114, 105] then (match numT z with
          | some n => some ⟨8, a, b, 0, n, [], [], 0⟩
          | none => none)
        else match regOf z with
          | some c => if op = [120, 111, 114] then some ⟨9, a, b, c, 0, [], [], 0⟩ else if op = [97, 100, 100] then some ⟨10, a, b, c, 0, [], [], 0⟩ else none
          | none => none
      | _, _ => none
    | _ => none
/-- the instruction of a text -/
def parseI (s : Tx) : Option Ins :=
  if 262144 < s.length then none
  else
    let t := trimT s
    if t = [102, 101, 110, 99, 101, 46, 116, 115, 111] then some ⟨13, 0, 0, 0, 0, [], [], 2⟩
    else if t.getLast? = some 58 then (if nameB (trimT t.dropLast) then some ⟨12, 0, 0, 0, 0, [], trimT t.dropLast, 0⟩ else none)
    else readI (t.takeWhile fun c => !blankC c) ((splitC 44 (t.dropWhile fun c => !blankC c)).map trimT)

theorem parse_awake : parseI [32, 115, 119, 32, 32, 120, 53, 32, 44, 32, 48, 32, 40, 32, 120, 54, 32, 41] = some ⟨7, 0, 6, 5, 0, [], [], 0⟩ := by decide +kernel
end Go.Proofs.YtigimkgmghjgoaaGreatDoor
