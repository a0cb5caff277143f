/- The library's contracts at this program's numbers: layings, written by the shelf's own command. x86 instructions and their texts, as plain functions of lists of bytes; no program, no condition. The library's functions on texts: Itoa, Atoi, Trim, HasSuffix, IndexByte, Split. Conditions: lengths below the form's reach; the library's variables as the program's text lays them, where a contract names them. From what a row lists of the library's variables, and from the world's shape, to what the walks ask; the wrap of a row that lists variables. Lemmas of this claim's own; no condition. From what a row lists of the library's variables to what the walks ask; the wrap of a row that lists variables. Lemmas of this claim's own; no condition. An instruction that comes in to a statement by value, as the walks take it. Lemmas of this claim's own; no condition. The walks of reg, letter, digit, Reg, RegOf (the program's), Reg, RegOf (the document's answer). No condition. The walks of named and fields (the program's), and of Check. Conditions: lengths that an int holds. -/
import Derived.Shelf.Strings.SlTrimAscii
import Derived.Shelf.Small.Strs
import Derived.Shelf.Strconv.Itoa3
import Derived.Shelf.LaysM
import Derived.Shelf.Strings.Prefix
import Derived.Test.YthaibjefnclkjaaGreatDoorProg
import Derived.Test.YthaibjefnclkjaaGreatDoorZ1
import Derived.Lib.ItoaLen
import Derived.WalkSmall
import Derived.Laws.Concat
import Derived.Stop.LaidErr
import Derived.Lib.LaidTab
import Derived.Lib.LaidU8
import Derived.Lay
import Derived.MakeChecks
import Derived.ShapedOpen
import Derived.SizedLaws
import Derived.LaidOnce
import Derived.SevenTiedAt
import Derived.ChangeArms
import Derived.Deep.Slices
import Derived.Deep.Fields
import Derived.ChangeSame
import Derived.Lib.SmallJoins
namespace Go.Proofs.YthaibjefnclkjaaGreatDoor
open Go.Shelf
def Tryz.l160_ren : Go.Shelf.Ren := ⟨fun | 160 => 45 | 232 => 79 | 231 => 78 | 227 => 80 | 234 => 82 | 233 => 81 | 236 => 84 | 235 => 83 | 228 => 119 | 271 => 122 | 151 => 121 | 197 => 120 | 120 => 160 | 152 => 159 | 260 => 158 | 137 => 187 | 119 => 188 | 224 => 189 | 225 => 190 | 217 => 201 | 266 => 215 | n => n, fun | 9 => 9 | 4 => 4 | 3 => 3 | 5 => 5 | 117 => 103 | 116 => 102 | 0 => 0 | 124 => 106 | 21 => 21 | 105 => 131 | 46 => 128 | 119 => 183 | 139 => 186 | 138 => 185 | n => n, fun | 3 => 2 | 4 => 3 | n => n⟩
theorem Tryz.l160 : Go.Proofs.Lays.n160 Tryz.prog Tryz.l160_ren := {
  mixed := by kernel_rfl
  f119 := Tryz.func188.trans (congrArg some (by kernel_rfl))
  f120 := Tryz.func160.trans (congrArg some (by kernel_rfl))
  f137 := Tryz.func187.trans (congrArg some (by kernel_rfl))
  f151 := Tryz.func121.trans (congrArg some (by kernel_rfl))
  f152 := Tryz.func159.trans (congrArg some (by kernel_rfl))
  f160 := Tryz.func45.trans (congrArg some (by kernel_rfl))
  f197 := Tryz.func120.trans (congrArg some (by kernel_rfl))
  f217 := Tryz.func201.trans (congrArg some (by kernel_rfl))
  f224 := Tryz.func189.trans (congrArg some (by kernel_rfl))
  f225 := Tryz.func190.trans (congrArg some (by kernel_rfl))
  f227 := Tryz.func80.trans (congrArg some (by kernel_rfl))
  f228 := Tryz.func119.trans (congrArg some (by kernel_rfl))
  f231 := Tryz.func78.trans (congrArg some (by kernel_rfl))
  f232 := Tryz.func79.trans (congrArg some (by kernel_rfl))
  f233 := Tryz.func81.trans (congrArg some (by kernel_rfl))
  f234 := Tryz.func82.trans (congrArg some (by kernel_rfl))
  f235 := Tryz.func83.trans (congrArg some (by kernel_rfl))
  f236 := Tryz.func84.trans (congrArg some (by kernel_rfl))
  f260 := Tryz.func158.trans (congrArg some (by kernel_rfl))
  f266 := Tryz.func215.trans (congrArg some (by kernel_rfl))
  f271 := Tryz.func122.trans (congrArg some (by kernel_rfl))
  t0 := Tryz.underlying0
  a0 := Tryz.isAgg0
  z0 := Tryz.sizeOf0
  v0 := Tryz.zeroValue0
  t3 := Tryz.underlying3
  a3 := Tryz.isAgg3
  z3 := Tryz.sizeOf3
  v3 := Tryz.zeroValue3
  t4 := Tryz.underlying4
  a4 := Tryz.isAgg4
  z4 := Tryz.sizeOf4
  v4 := Tryz.zeroValue4
  t5 := Tryz.underlying5
  a5 := Tryz.isAgg5
  z5 := Tryz.sizeOf5
  v5 := Tryz.zeroValue5
  t9 := Tryz.underlying9
  a9 := Tryz.isAgg9
  z9 := Tryz.sizeOf9
  v9 := Tryz.zeroValue9
  t21 := Tryz.underlying21
  a21 := Tryz.isAgg21
  z21 := Tryz.sizeOf21
  v21 := Tryz.zeroValue21
  t46 := Tryz.underlying128
  a46 := Tryz.isAgg128
  z46 := Tryz.sizeOf128
  v46 := Tryz.zeroValue128
  t105 := Tryz.underlying131
  a105 := Tryz.isAgg131
  z105 := Tryz.sizeOf131
  v105 := Tryz.zeroValue131
  t116 := Tryz.underlying102
  a116 := Tryz.isAgg102
  z116 := Tryz.sizeOf102
  t117 := Tryz.underlying103
  a117 := Tryz.isAgg103
  z117 := Tryz.sizeOf103
  v117 := Tryz.zeroValue103
  t119 := Tryz.underlying183
  a119 := Tryz.isAgg183
  z119 := Tryz.sizeOf183
  t124 := Tryz.underlying106
  a124 := Tryz.isAgg106
  z124 := Tryz.sizeOf106
  v124 := Tryz.zeroValue106
  t138 := Tryz.underlying185
  a138 := Tryz.isAgg185
  z138 := Tryz.sizeOf185
  v138 := Tryz.zeroValue185
  t139 := Tryz.underlying186
  a139 := Tryz.isAgg186
  z139 := Tryz.sizeOf186
  v139 := Tryz.zeroValue186
  g3 := by kernel_rfl
  g4 := by kernel_rfl }
def Tryz.l171_ren : Go.Shelf.Ren := ⟨fun | 171 => 30 | 243 => 67 | 246 => 105 | 283 => 136 | 284 => 137 | 285 => 138 | 286 => 139 | 129 => 156 | 317 => 171 | 318 => 172 | 319 => 173 | 320 => 174 | 337 => 195 | 338 => 196 | n => n, fun | 3 => 3 | 9 => 9 | 2 => 2 | 4 => 4 | 171 => 143 | 0 => 0 | 53 => 144 | 37 => 54 | 5 => 5 | 173 => 147 | 212 => 171 | 51 => 161 | 20 => 20 | 213 => 172 | 46 => 128 | 232 => 200 | 233 => 201 | n => n, fun | 17 => 1 | 18 => 5 | 19 => 6 | n => n⟩
theorem Tryz.l171 : Go.Proofs.Lays.n171 Tryz.prog Tryz.l171_ren := {
  mixed := by kernel_rfl
  f129 := Tryz.func156.trans (congrArg some (by kernel_rfl))
  f171 := Tryz.func30.trans (congrArg some (by kernel_rfl))
  f243 := Tryz.func67.trans (congrArg some (by kernel_rfl))
  f246 := Tryz.func105.trans (congrArg some (by kernel_rfl))
  f283 := Tryz.func136.trans (congrArg some (by kernel_rfl))
  f284 := Tryz.func137.trans (congrArg some (by kernel_rfl))
  f285 := Tryz.func138.trans (congrArg some (by kernel_rfl))
  f286 := Tryz.func139.trans (congrArg some (by kernel_rfl))
  f317 := Tryz.func171.trans (congrArg some (by kernel_rfl))
  f318 := Tryz.func172.trans (congrArg some (by kernel_rfl))
  f319 := Tryz.func173.trans (congrArg some (by kernel_rfl))
  f320 := Tryz.func174.trans (congrArg some (by kernel_rfl))
  f337 := Tryz.func195.trans (congrArg some (by kernel_rfl))
  f338 := Tryz.func196.trans (congrArg some (by kernel_rfl))
  t0 := Tryz.underlying0
  a0 := Tryz.isAgg0
  z0 := Tryz.sizeOf0
  v0 := Tryz.zeroValue0
  t2 := Tryz.underlying2
  a2 := Tryz.isAgg2
  z2 := Tryz.sizeOf2
  v2 := Tryz.zeroValue2
  t3 := Tryz.underlying3
  a3 := Tryz.isAgg3
  z3 := Tryz.sizeOf3
  v3 := Tryz.zeroValue3
  t4 := Tryz.underlying4
  a4 := Tryz.isAgg4
  z4 := Tryz.sizeOf4
  v4 := Tryz.zeroValue4
  t5 := Tryz.underlying5
  a5 := Tryz.isAgg5
  z5 := Tryz.sizeOf5
  v5 := Tryz.zeroValue5
  t9 := Tryz.underlying9
  a9 := Tryz.isAgg9
  z9 := Tryz.sizeOf9
  v9 := Tryz.zeroValue9
  t20 := Tryz.underlying20
  a20 := Tryz.isAgg20
  z20 := Tryz.sizeOf20
  v20 := Tryz.zeroValue20
  t37 := Tryz.underlying54
  a37 := Tryz.isAgg54
  z37 := Tryz.sizeOf54
  v37 := Tryz.zeroValue54
  t46 := Tryz.underlying128
  a46 := Tryz.isAgg128
  z46 := Tryz.sizeOf128
  v46 := Tryz.zeroValue128
  t51 := Tryz.underlying161
  a51 := Tryz.isAgg161
  z51 := Tryz.sizeOf161
  v51 := Tryz.zeroValue161
  t53 := Tryz.underlying144
  a53 := Tryz.isAgg144
  z53 := Tryz.sizeOf144
  v53 := Tryz.zeroValue144
  t171 := Tryz.underlying143
  a171 := Tryz.isAgg143
  z171 := Tryz.sizeOf143
  v171 := Tryz.zeroValue143
  t173 := Tryz.underlying147
  a173 := Tryz.isAgg147
  z173 := Tryz.sizeOf147
  v173 := Tryz.zeroValue147
  t212 := Tryz.underlying171
  a212 := Tryz.isAgg171
  z212 := Tryz.sizeOf171
  v212 := Tryz.zeroValue171
  t213 := Tryz.underlying172
  a213 := Tryz.isAgg172
  z213 := Tryz.sizeOf172
  t232 := Tryz.underlying200
  a232 := Tryz.isAgg200
  z232 := Tryz.sizeOf200
  v232 := Tryz.zeroValue200
  t233 := Tryz.underlying201
  a233 := Tryz.isAgg201
  z233 := Tryz.sizeOf201
  v233 := Tryz.zeroValue201
  g17 := by kernel_rfl
  g18 := by kernel_rfl
  g19 := by kernel_rfl }
def Tryz.m171_ren : Go.Shelf.Ren := ⟨fun | 171 => 30 | 243 => 67 | 246 => 105 | 283 => 136 | 284 => 137 | 285 => 138 | 286 => 139 | 129 => 156 | 317 => 171 | 318 => 172 | 319 => 173 | 320 => 174 | 337 => 195 | 338 => 196 | n => n, fun | 3 => 3 | 9 => 9 | 2 => 2 | 4 => 4 | 171 => 143 | 0 => 0 | 53 => 144 | 37 => 54 | 5 => 5 | 173 => 147 | 212 => 171 | 51 => 161 | 20 => 20 | 213 => 172 | 46 => 128 | 232 => 200 | 233 => 201 | n => n, fun | 17 => 1 | 18 => 5 | 19 => 6 | n => n⟩
theorem Tryz.m171 : Go.Proofs.LaysM.n171 Tryz.prog Tryz.m171_ren := {
  mixed := by kernel_rfl
  f129 := Tryz.func156.trans (congrArg some (by kernel_rfl))
  f171 := Tryz.func30.trans (congrArg some (by kernel_rfl))
  f243 := Tryz.func67.trans (congrArg some (by kernel_rfl))
  f246 := Tryz.func105.trans (congrArg some (by kernel_rfl))
  f283 := Tryz.func136.trans (congrArg some (by kernel_rfl))
  f284 := Tryz.func137.trans (congrArg some (by kernel_rfl))
  f285 := Tryz.func138.trans (congrArg some (by kernel_rfl))
  f286 := Tryz.func139.trans (congrArg some (by kernel_rfl))
  f317 := Tryz.func171.trans (congrArg some (by kernel_rfl))
  f318 := Tryz.func172.trans (congrArg some (by kernel_rfl))
  f319 := Tryz.func173.trans (congrArg some (by kernel_rfl))
  f320 := Tryz.func174.trans (congrArg some (by kernel_rfl))
  f337 := Tryz.func195.trans (congrArg some (by kernel_rfl))
  f338 := Tryz.func196.trans (congrArg some (by kernel_rfl))
  t0 := Tryz.underlying0
  a0 := Tryz.isAgg0
  z0 := Tryz.sizeOf0
  v0 := Tryz.zeroValue0
  t2 := Tryz.underlying2
  a2 := Tryz.isAgg2
  z2 := Tryz.sizeOf2
  v2 := Tryz.zeroValue2
  t3 := Tryz.underlying3
  a3 := Tryz.isAgg3
  z3 := Tryz.sizeOf3
  v3 := Tryz.zeroValue3
  t4 := Tryz.underlying4
  a4 := Tryz.isAgg4
  z4 := Tryz.sizeOf4
  v4 := Tryz.zeroValue4
  t5 := Tryz.underlying5
  a5 := Tryz.isAgg5
  z5 := Tryz.sizeOf5
  v5 := Tryz.zeroValue5
  t9 := Tryz.underlying9
  a9 := Tryz.isAgg9
  z9 := Tryz.sizeOf9
  v9 := Tryz.zeroValue9
  t20 := Tryz.underlying20
  a20 := Tryz.isAgg20
  z20 := Tryz.sizeOf20
  v20 := Tryz.zeroValue20
  t37 := Tryz.underlying54
  a37 := Tryz.isAgg54
  z37 := Tryz.sizeOf54
  v37 := Tryz.zeroValue54
  t46 := Tryz.underlying128
  a46 := Tryz.isAgg128
  z46 := Tryz.sizeOf128
  v46 := Tryz.zeroValue128
  t51 := Tryz.underlying161
  a51 := Tryz.isAgg161
  z51 := Tryz.sizeOf161
  v51 := Tryz.zeroValue161
  t53 := Tryz.underlying144
  a53 := Tryz.isAgg144
  z53 := Tryz.sizeOf144
  v53 := Tryz.zeroValue144
  t171 := Tryz.underlying143
  a171 := Tryz.isAgg143
  z171 := Tryz.sizeOf143
  v171 := Tryz.zeroValue143
  t173 := Tryz.underlying147
  a173 := Tryz.isAgg147
  z173 := Tryz.sizeOf147
  v173 := Tryz.zeroValue147
  t212 := Tryz.underlying171
  a212 := Tryz.isAgg171
  z212 := Tryz.sizeOf171
  v212 := Tryz.zeroValue171
  t213 := Tryz.underlying172
  a213 := Tryz.isAgg172
  z213 := Tryz.sizeOf172
  t232 := Tryz.underlying200
  a232 := Tryz.isAgg200
  z232 := Tryz.sizeOf200
  v232 := Tryz.zeroValue200
  t233 := Tryz.underlying201
  a233 := Tryz.isAgg201
  z233 := Tryz.sizeOf201
  v233 := Tryz.zeroValue201
  g17 := by kernel_rfl
  g18 := by kernel_rfl
  g19 := by kernel_rfl
  i0 := by kernel_rfl
  i2 := by kernel_rfl
  i3 := by kernel_rfl
  i4 := by kernel_rfl
  i5 := by kernel_rfl
  i9 := by kernel_rfl
  i20 := by kernel_rfl
  i37 := by kernel_rfl
  i46 := by kernel_rfl
  i51 := by kernel_rfl
  i53 := by kernel_rfl
  i171 := by kernel_rfl
  i173 := by kernel_rfl
  i212 := by kernel_rfl
  i232 := by kernel_rfl
  i233 := by kernel_rfl
  m17 := by kernel_rfl
  m18 := by kernel_rfl
  m19 := by kernel_rfl }
def Tryz.l106_ren : Go.Shelf.Ren := ⟨fun | 106 => 194 | 213 => 212 | 265 => 219 | n => n, fun | 9 => 9 | 3 => 3 | n => n, fun | n => n⟩
theorem Tryz.l106 : Go.Proofs.Lays.n106 Tryz.prog Tryz.l106_ren := {
  mixed := by kernel_rfl
  f106 := Tryz.func194.trans (congrArg some (by kernel_rfl))
  f213 := Tryz.func212.trans (congrArg some (by kernel_rfl))
  f265 := Tryz.func219.trans (congrArg some (by kernel_rfl))
  t3 := Tryz.underlying3
  a3 := Tryz.isAgg3
  z3 := Tryz.sizeOf3
  v3 := Tryz.zeroValue3
  t9 := Tryz.underlying9
  a9 := Tryz.isAgg9
  z9 := Tryz.sizeOf9
  v9 := Tryz.zeroValue9 }

end Go.Proofs.YthaibjefnclkjaaGreatDoor
namespace Go.Proofs.YthaibjefnclkjaaGreatDoor
set_option linter.unusedVariables false

/-- the registers' names -/
def namesX : List Tx := [[69, 65, 88], [69, 66, 88], [69, 67, 88], [69, 68, 88], [69, 83, 73], [69, 68, 73], [69, 66, 80], [82, 56, 68], [82, 57, 68], [82, 49, 48, 68], [82, 49, 49, 68], [82, 49, 50, 68], [82, 49, 51, 68], [82, 49, 52, 68], [82, 49, 53, 68]]
def regX (n : Nat) : Tx := namesX.getD n []
def rX (n : Int) : Tx := regX n.toNat
def regXB (n : Int) : Bool := decide (0 ≤ n) && decide (n < 15)
def n32B (n : Int) : Bool := decide (-2147483648 ≤ n) && decide (n ≤ 2147483647)
def wantX (i : Ins) : Ins :=
  if i.op = 1 then ⟨1, 0, 0, 0, i.imm, i.loc, [], 0⟩
  else if i.op = 2 then ⟨2, 0, i.a, 0, 0, i.loc, [], 0⟩
  else if i.op = 3 then ⟨3, i.d, 0, 0, 0, i.loc, [], 0⟩
  else if i.op = 4 then ⟨4, i.d, 0, 0, i.imm, [], [], 0⟩
  else ⟨i.op, 0, 0, 0, 0, [], [], 0⟩
def okX (i : Ins) : Bool :=
  if i.op = 1 then nameB i.loc && n32B i.imm
  else if i.op = 2 then nameB i.loc && regXB i.a
  else if i.op = 3 then nameB i.loc && regXB i.d
  else if i.op = 4 then regXB i.d && n32B i.imm
  else decide (i.op = 5)
/-- an instruction that may be -/
def checkX (i : Ins) : Bool := okX i && decide (i = wantX i)
def errX (i : Ins) : Int := if checkX i then 0 else 91
/-- an instruction's text -/
def printX (i : Ins) : Tx :=
  if i.op = 1 then [77, 79, 86, 32, 91] ++ i.loc ++ [93, 44, 36] ++ Lib.itoa i.imm
  else if i.op = 2 then [77, 79, 86, 32, 91] ++ i.loc ++ [93, 44] ++ rX i.a
  else if i.op = 3 then [77, 79, 86, 32] ++ rX i.d ++ [44, 91] ++ i.loc ++ [93]
  else if i.op = 4 then [77, 79, 86, 32] ++ rX i.d ++ [44, 36] ++ Lib.itoa i.imm
  else [77, 70, 69, 78, 67, 69]

theorem regXB_nat {n : Int} (h : regXB n = true) : ∃ k : Nat, k < 15 ∧ n = k := by
  unfold regXB at h; simp at h; exact ⟨n.toNat, by omega, by omega⟩
theorem regX_len_fin : ∀ n : Fin 15, (regX n.val).length ≤ 4 ∧ regX n.val ≠ [] := by decide +kernel
theorem regX_len {n : Nat} (h : n < 15) : (regX n).length ≤ 4 := (regX_len_fin ⟨n, h⟩).1
theorem errX_no {i : Ins} (h : checkX i = false) : errX i = 91 := by unfold errX; rw [h]; rfl
theorem errX_yes {i : Ins} (h : checkX i = true) : errX i = 0 := by unfold errX; rw [h]; rfl
end Go.Proofs.YthaibjefnclkjaaGreatDoor
namespace Go.Proofs.YthaibjefnclkjaaGreatDoor
open Go.RowKit Go.Sort
set_option linter.unusedVariables false

theorem below_grow (w : World) (k : Nat) (os : Array Obj) : Below w.heap.size w (grow (w.drewN k) os) :=
  ⟨rfl, rfl, rfl, by simp [grow], fun j hj => by simp [grow, Array.getElem?_append, hj]⟩

/-- the name of the table of powers of ten -/
noncomputable def powN : String := (Tryz.prog.globals.getD 1 default).name
/-- the library's variables that are read, as the program's text lays them -/
structure Gl (w : World) : Prop where
  pow : Lib.TabIs Tryz.prog w powN .u64 Lib.pow10Tab
  regs : ∀ k, k < 15 → w.cell? ⟨0, k, none⟩ = some (.string (tx (regX k)))
theorem var?_lt {P : Program} {w : World} {n : String} {g : Nat} {cs : Array Value} (hg : P.globalNamed n = some g) (h : w.var? P n = some cs) : g < w.heap.size := by
  simp only [World.var?, hg, Option.bind_some] at h
  rcases Nat.lt_or_ge g w.heap.size with h' | h'
  · exact h'
  · rw [Array.getElem?_eq_none h'] at h; cases h
theorem Gl.below {w w' : World} (h : Gl w) (hb : Below w.heap.size w w') : Gl w' where
  pow := var?_below hb (by kernel_rfl : Tryz.prog.globalNamed powN = some 1) (var?_lt (by kernel_rfl : Tryz.prog.globalNamed powN = some 1) h.pow) h.pow
  regs := fun k hk => by rw [hb.cell (cell?_lt (h.regs k hk))]; exact h.regs k hk

theorem itoa_small (n : Nat) (h : n < 100) (w : World) : Calls Tryz.prog 30 #[.int .i64 n] w fun e w' => e = .returned (.string (tx (decN n))) ∧ w = w' := by
  refine (Any.strconv_Itoa_small Tryz.l171 n h w).mono fun e w' hh => ⟨?_, hh.2.symm⟩
  rw [hh.1, decDigits_decN (by omega)]; rfl
theorem itoa_any (n : Int) (h0 : -9223372036854775808 ≤ n) (h1 : n ≤ 9223372036854775807) (w : World) (g : Gl w) : Calls Tryz.prog 30 #[.int .i64 n] w (Ret w (.string (tx (Lib.itoa n)))) := by
  refine (Any.strconv_Itoa Tryz.m171 n h0 h1 w (Eq.mp (congrArg (fun s => Lib.TabIs Tryz.prog w s .u64 Lib.pow10Tab) (by kernel_rfl)) g.pow)).mono fun e w' hh => ?_
  obtain ⟨he, k, os, rfl⟩ := hh
  exact ⟨he, below_grow w k os⟩
/-- texts that are read -/
structure Txs (w : World) (a : Option Addr) (l : List Tx) : Prop where
  row : Row w a (l.map fun x => Value.string (tx x))
  len : l.length ≤ 1000000000000000000
theorem Txs.below {w w' : World} {a : Option Addr} {l : List Tx} (h : Txs w a l) (hb : Below w.heap.size w w') : Txs w' a l := ⟨h.row.below hb, h.len⟩
theorem Txs.cell {w : World} {a : Option Addr} {l : List Tx} (h : Txs w a l) (k : Nat) (hk : k < l.length) : w.cell? ⟨bk a, fo a + k, none⟩ = some (.string (tx l[k])) := by
  have := h.row.cell k (by simpa using hk)
  simpa [hk] using this
theorem txl : ElT Tryz.prog 44 9 (.string ByteArray.empty) 1 16 := ⟨Tryz.underlying44, by kernel_rfl, rfl, by decide⟩
theorem Txs.idx {w : World} {a : Option Addr} {l : List Tx} (h : Txs w a l) (k : Nat) (hk : k < l.length) :
    ∀ c w', (Instr.indexAt 44 (.slice a l.length c) (.int .i64 k)).run Tryz.prog w' = .ok (.pointer (some ⟨bk a, fo a + k, none⟩)) w' := by
  intro c
  have := run_idx (c := c) (n := l.length) (m := 1) h.row txl.und txl.cells txl.isSome (by simp) (by omega) k hk .i64
  simpa using this
theorem run_cat (a b : Tx) (h : a.length + b.length ≤ 9223372036854775807) : ∀ w, (Op.stringOp .add (tx a) (tx b)).run Tryz.prog w = .ok (.string (tx (a ++ b))) w := fun w => by
  rw [run_string_add_sum w _ _ (by rw [tx_size, tx_size]; exact h), tx_app]
end Go.Proofs.YthaibjefnclkjaaGreatDoor
namespace Go.Proofs.YthaibjefnclkjaaGreatDoor
open Go.RowKit Go.ChangeShapes
set_option linter.unusedVariables false

/-- the wrap of a row that lists variables, the world's shape handed on -/
theorem wrapS {H : Type} {enc : TypeId × Value → H} {a : Assume} {C : Checked} {os : Os} {f : FuncId} {fn : Func} {s : ChangeSpec} {conds : List PathCond} {apart fresh handsOn again : Bool} {X : World → Array Value → Prop}
    (hX : ∀ (w w' : World) (args : Array Value), w.heap = w'.heap → X w args → X w' args)
    (own : ownKnob C.prog.godebug = none) (started : os.Started) (noInit : C.prog.inits.idxOf? f = none) (hfn : C.prog.funcs[f]? = some fn)
    (witness : ∃ (w : World) (tape : Tape) (i : Input), w.os = os ∧ (w.forCall tape i).Shaped C.prog ∧ i.vars = [] ∧ Input.okWide C.prog (w.forCall tape i) .any w.heap.size f i ∧
      ((s.pre enc C.prog fn conds apart (w.forCall tape i).memory i.args ∧ X (w.forCall tape i).memory i.args) ∧ sizedMet enc C.prog fn (OpenSpec.ofChange s) apart (w.forCall tape i).memory i.args) ∧ a.holds C.prog (lone (Frame.enter C.prog f i.args .normal) [] (w.forCall tape i)))
    (contract : ∀ (W : World) (base : Nat) (args : Array Value) (ds gs : List (DataW H)) (before : List MemPlace),
      (∀ (j : Nat) t v, fn.params[j]? = some t → args[j]? = some v → Value.okWide C.prog W .any base t v) →
      DataW.Whole enc C.prog fn.params.toList s.vars apart W args.toList ds gs before →
      (DataW.weightsEach C.prog (fn.params.toList ++ s.plain.varTypes C.prog) (ds ++ gs)).all (· ≤ reachBytes) = true → X W args → W.ShapedOpen C.prog →
      Calls C.prog f args W fun e W' => ∃ v, e = .returned v ∧ s.post enc C.prog fn apart fresh handsOn again W args v W') :
    ReturnsInHanded a C os f .any (fun w args => (s.pre enc C.prog fn conds apart w args ∧ X w args) ∧ sizedMet enc C.prog fn (OpenSpec.ofChange s) apart w args) (s.post enc C.prog fn apart fresh handsOn again) := by
  refine returnsInHanded_of_calls own started noInit witness ?_
  intro w tape i _ hsh _ hok hpre _
  obtain ⟨_, _, _, fn', hfn', _, _, _, _, hval⟩ := hok
  obtain rfl : fn' = fn := Option.some.inj (hfn'.symm.trans hfn)
  obtain ⟨⟨⟨ds, gs, before, hw, hc⟩, hx⟩, hz⟩ := hpre
  have hw' := DataW.Whole.of_heap (w' := w.forCall tape i) (by rfl) hw
  refine (contract (w.forCall tape i) w.heap.size i.args ds gs before hval hw' (hz.weights hw) (hX _ _ _ (by rfl) hx) hsh).mono fun e W' ⟨v, he, hp⟩ => ?_
  subst he
  exact ChangeSpec.post_blind hp
end Go.Proofs.YthaibjefnclkjaaGreatDoor
namespace Go.Proofs.YthaibjefnclkjaaGreatDoor
open Go.RowKit Go.ChangeShapes
set_option linter.unusedVariables false

def regsD : DataW Unit := .agg (namesX.map fun s => .lit (.string s))
theorem gl_of_laid13 {W : World} {x0 x1 x3 : String × DataW Unit} {r : List (String × DataW Unit)} {npow nregs : String}
    (h1 : Tryz.prog.globalNamed npow = some 1) (hn1 : npow = powN) (h2 : Tryz.prog.globalNamed nregs = some 0)
    (hL : laidMet Tryz.prog (x0 :: x1 :: (npow, Lib.tabData .u64 Lib.pow10Tab) :: x3 :: (nregs, regsD) :: r) W) : Gl W := by
  subst hn1
  refine ⟨Lib.tabIs_of_head h1 (t := 171) (e := 144) (n := 20) (by kernel_rfl) Tryz.underlying171 Tryz.underlying144 (by kernel_rfl) (by kernel_rfl) hL.tail.tail, fun k hk => ?_⟩
  obtain ⟨g, t, cs, fuel, p, hg, hty, hvar, hd⟩ := Lib.laidMet.reads hL.tail.tail.tail.tail (List.Mem.head _)
  obtain rfl := Option.some.inj (h2.symm.trans hg)
  obtain rfl : 85 = t := Option.some.inj ((show (Tryz.prog.globals[0]?).map (·.type) = some 85 by kernel_rfl).symm.trans hty)
  unfold regsD at hd
  obtain ⟨f', d, q, hdi, he⟩ := Lib.array_elem (n := 15) Tryz.underlying85 hd k hk
  have h1 : Tryz.prog.cellsOf 9 = 1 := by kernel_rfl
  rw [h1, Nat.mul_one] at he
  have hlen : k < cs.toList.length := by
    rcases Nat.lt_or_ge k cs.toList.length with h | h
    · exact h
    · rw [List.drop_eq_nil_of_le h] at he
      cases f' with
      | zero => simp [DataW.trod] at he
      | succ f' => simp [DataW.trod, Tryz.underlying9] at he
  rw [List.drop_eq_getElem_cons hlen, List.take_succ_cons, List.take_zero] at he
  obtain ⟨s, hs, h3, -⟩ := DataW.trod_string Tryz.underlying9 he
  have := World.var?_cell hg hvar k
  rw [this, ← Array.getElem?_toList, List.getElem?_eq_getElem hlen]
  simp only [List.cons.injEq, and_true] at hs
  simp only [Prod.mk.injEq] at h3
  rw [hs]
  rw [h3.1, List.getElem?_map] at hdi
  have hn : namesX[k]? = some s.data.toList := by
    cases h : namesX[k]? with
    | none => rw [h] at hdi; cases hdi
    | some y => rw [h] at hdi; simp at hdi; rw [hdi]
  have : regX k = s.data.toList := by unfold regX; rw [List.getD_eq_getElem?_getD, hn]; rfl
  rw [this]
  simp [tx]
end Go.Proofs.YthaibjefnclkjaaGreatDoor
namespace Go.Proofs.YthaibjefnclkjaaGreatDoor
open Go.ChangeShapes Go.WideShapes Go.Deep Go.RowKit Go.Joins
set_option linter.unusedVariables false

section
variable {H : Type} {enc : TypeId × Value → H} {P : Program} {w : World} {base : Nat} {spare : Nat → Bool} {held : Bool}
/-- a struct's one-cell fields, each read by itself -/
theorem open_fields {r : Reach} {b0 : Nat} {t : TypeId} {fs : Array Field} {v : Value} {d : DataW H} {p : List MemPlace} (hs : P.underlying t = some (.struct fs)) (hone : oneCellFields P fs = true) (hC : P.cellsOf t = fs.size)
    (hv : Value.okWide P w r b0 t v) (h : DataW.Trod enc P w base spare held t v d p) :
    ∃ (cs : Array Value), v = .agg cs ∧ cs.size = fs.size ∧ ∀ (j : Nat) (f : Field), fs[j]? = some f → ∃ (u : Value) (y : DataW H × List MemPlace) (n : Nat), cs[j]? = some u ∧ DataW.trod enc P w base spare held n f.type [u] = some y := by
  obtain ⟨cs, rfl, hsz⟩ := okWide_struct hs hv
  refine ⟨cs, rfl, hsz.trans hC, fun j f hj => ?_⟩
  obtain ⟨fuel, hf⟩ := h
  obtain ⟨xs, n, _, hx, _, hlen, hg⟩ := DataW.trod_struct hs hf
  obtain ⟨o0, k0⟩ := hone_of hone j f hj
  have hjl : j < fs.size := (Array.getElem?_eq_some_iff.1 hj).1
  have hjc : j < cs.size := by rw [hsz, hC]; exact hjl
  have h1 := hg j f hj
  rw [o0, k0] at h1
  have hys : xs[j]? = some (xs[j]'(by omega)) := List.getElem?_eq_getElem (by omega)
  refine ⟨cs[j], xs[j]'(by omega), n, Array.getElem?_eq_getElem hjc, ?_⟩
  · have e : (Value.agg cs).cells.toList = cs.toList := rfl
    rw [e] at h1
    have : (cs.toList.drop j).take 1 = [cs[j]] := by
      rw [List.drop_eq_getElem_cons (by simpa using hjc)]
      simp
    rw [this] at h1
    exact h1.trans hys
end
set_option maxRecDepth 100000 in
theorem open_I {H : Type} {enc : TypeId × Value → H} {W : World} {r : Reach} {b0 : Nat} {v : Value} {d : DataW H} {p : List MemPlace} (hv : Value.okWide Tryz.prog W r b0 23 v)
    (h : DataW.Trod enc Tryz.prog W 0 (fun _ => true) true 23 v d p) : ∃ i : Ins, v = vI i ∧ i.label.length ≤ 9223372036854775807 ∧ i.loc.length ≤ 9223372036854775807 := by
  obtain ⟨cs, rfl, hsz, hf⟩ := open_fields Tryz.underlying23 (by kernel_rfl) (by kernel_rfl) hv h
  obtain ⟨u0, y0, n0, g0, r0⟩ := hf 0 _ rfl
  obtain ⟨u1, y1, n1, g1, r1⟩ := hf 1 _ rfl
  obtain ⟨u2, y2, n2, g2, r2⟩ := hf 2 _ rfl
  obtain ⟨u3, y3, n3, g3, r3⟩ := hf 3 _ rfl
  obtain ⟨u4, y4, n4, g4, r4⟩ := hf 4 _ rfl
  obtain ⟨u5, y5, n5, g5, r5⟩ := hf 5 _ rfl
  obtain ⟨u6, y6, n6, g6, r6⟩ := hf 6 _ rfl
  obtain ⟨u7, y7, n7, g7, r7⟩ := hf 7 _ rfl
  obtain ⟨k0, h0, -⟩ := DataW.trod_int Tryz.underlying3 r0
  obtain ⟨k1, h1, -⟩ := DataW.trod_int Tryz.underlying3 r1
  obtain ⟨k2, h2, -⟩ := DataW.trod_int Tryz.underlying3 r2
  obtain ⟨k3, h3, -⟩ := DataW.trod_int Tryz.underlying3 r3
  obtain ⟨k4, h4, -⟩ := DataW.trod_int Tryz.underlying3 r4
  obtain ⟨s5, h5, -, l5⟩ := DataW.trod_string Tryz.underlying9 r5
  obtain ⟨s6, h6, -, l6⟩ := DataW.trod_string Tryz.underlying9 r6
  obtain ⟨k7, h7, -⟩ := DataW.trod_int Tryz.underlying3 r7
  cases h0; cases h1; cases h2; cases h3; cases h4; cases h5; cases h6; cases h7
  obtain ⟨x5, rfl⟩ := tx_of s5
  obtain ⟨x6, rfl⟩ := tx_of s6
  have hz : cs.size = 8 := by rw [hsz]; rfl
  refine ⟨⟨k0, k1, k2, k3, k4, x5, x6, k7⟩, ?_, by rw [tx_size] at l6; unfold maxLen at l6; exact l6, by rw [tx_size] at l5; unfold maxLen at l5; exact l5⟩
  show Value.agg cs = .agg #[.int .i64 k0, .int .i64 k1, .int .i64 k2, .int .i64 k3, .int .i64 k4, .string (tx x5), .string (tx x6), .int .i64 k7]
  congr 1
  apply Array.ext_getElem?
  intro j
  match j with
  | 0 => exact g0
  | 1 => exact g1
  | 2 => exact g2
  | 3 => exact g3
  | 4 => exact g4
  | 5 => exact g5
  | 6 => exact g6
  | 7 => exact g7
  | j + 8 => rw [Array.getElem?_eq_none (by omega), Array.getElem?_eq_none (by simp)]
end Go.Proofs.YthaibjefnclkjaaGreatDoor
namespace Go.Proofs.YthaibjefnclkjaaGreatDoor
open Go.RowKit
set_option linter.unusedVariables false

theorem progReg0 (n : Int) (w : World) : Calls Tryz.prog 97 #[.int .i64 n] w fun e w' => e = .returned (.bool (regB n)) ∧ w = w' := by
  have hp : n < 0 ∨ (0 ≤ n ∧ n ≤ 31) ∨ 32 ≤ n := by omega
  rcases hp with h | ⟨h, h'⟩ | h
  all_goals
    go_enter Tryz.func97, Tryz.ntmps97
    go_wp2
    go_ret
    exact ⟨ret_bool (by unfold regB; rw [Bool.eq_iff_iff]; simp <;> omega), rfl⟩
theorem progLetter (c : UInt8) (w : World) : Calls Tryz.prog 169 #[.int .u8 c.toNat] w fun e w' => e = .returned (.bool (letterC c)) ∧ w = w' := by
  have hlt : c.toNat < 256 := c.toNat_lt
  have hl : letterC c = ((decide (97 ≤ c.toNat) && decide (c.toNat ≤ 122)) || (decide (65 ≤ c.toNat) && decide (c.toNat ≤ 90))) := by
    unfold letterC; simp only [UInt8.le_iff_toNat_le]; rfl
  rw [hl]; clear hl
  generalize c.toNat = n at *
  have hp : n < 65 ∨ (65 ≤ n ∧ n ≤ 90) ∨ (91 ≤ n ∧ n ≤ 96) ∨ (97 ≤ n ∧ n ≤ 122) ∨ 123 ≤ n := by omega
  rcases hp with h | ⟨h, h'⟩ | ⟨h, h'⟩ | ⟨h, h'⟩ | h
  all_goals
    go_enter Tryz.func169, Tryz.ntmps169
    go_wp2
    go_ret
    exact ⟨ret_bool (by first | (rw [Bool.eq_iff_iff]; simp <;> omega) | (simp <;> omega)), rfl⟩
theorem progDigit (c : UInt8) (w : World) : Calls Tryz.prog 170 #[.int .u8 c.toNat] w fun e w' => e = .returned (.bool (digitC c)) ∧ w = w' := by
  have hlt : c.toNat < 256 := c.toNat_lt
  have hl : digitC c = (decide (48 ≤ c.toNat) && decide (c.toNat ≤ 57)) := by
    unfold digitC; simp only [UInt8.le_iff_toNat_le]; rfl
  rw [hl]; clear hl
  generalize c.toNat = n at *
  have hp : n < 48 ∨ (48 ≤ n ∧ n ≤ 57) ∨ 58 ≤ n := by omega
  rcases hp with h | ⟨h, h'⟩ | h
  all_goals
    go_enter Tryz.func170, Tryz.ntmps170
    go_wp2
    go_ret
    exact ⟨ret_bool (by first | (rw [Bool.eq_iff_iff]; simp <;> omega) | (simp <;> omega)), rfl⟩

theorem decN_len (n : Nat) : (decN n).length ≤ 4 := by unfold decN; split <;> (try split) <;> (try split) <;> simp
theorem cat_x (n : Nat) : ∀ w, (Op.stringOp .add ⟨#[120]⟩ (tx (decN n))).run Tryz.prog w = .ok (.string (tx (regT n))) w := run_cat [120] (decN n) (by have := decN_len n; simp; omega)
theorem progReg (n : Nat) (h : n < 32) (w : World) : Calls Tryz.prog 59 #[.int .i64 n] w fun e w' => e = .returned (.tuple #[.string (tx (regT n)), .int .i64 0]) ∧ w = w' := by
  have hr := regB_of h
  have cx := cat_x n
  go_enter Tryz.func59, Tryz.ntmps59
  go_wp2_with (go_at_call 97; refine (progReg0 _ _).mono ?_; rintro e w' ⟨rfl, rfl⟩; rw [hr])
  refine (itoa_small n (by omega) _).mono ?_
  rintro e w' ⟨rfl, rfl⟩
  go_wp2_with fail
  go_ret2
  exact ⟨rfl, rfl⟩
theorem refReg (n : Nat) (h : n < 32) (w : World) : Calls Tryz.prog 64 #[.int .i64 n] w fun e w' => e = .returned (.tuple #[.string (tx (regT n)), .int .i64 0]) ∧ w = w' := by
  have cx := cat_x n
  go_enter Tryz.func64, Tryz.ntmps64
  go_wp2_with fail
  refine (itoa_small n (by omega) _).mono ?_
  rintro e w' ⟨rfl, rfl⟩
  go_wp2_with fail
  go_ret2
  exact ⟨rfl, rfl⟩
end Go.Proofs.YthaibjefnclkjaaGreatDoor
namespace Go.Proofs.YthaibjefnclkjaaGreatDoor
open Go.RowKit
set_option linter.unusedVariables false

theorem run_ix (l : Tx) (k : Nat) (c : UInt8) (hk : l[k]? = some c) : ∀ w, (Instr.index 9 (.string (tx l)) (.int .i64 k)).run Tryz.prog w = .ok (.int .u8 c.toNat) w := by
  intro w
  obtain ⟨hlt, rfl⟩ := List.getElem?_eq_some_iff.1 hk
  have h1 := Tryz.underlying9
  have hs := tx_size l
  simp [Instr.index, asIntOf, run_underlying h1, hs, hlt]
  rfl
theorem run_ixz (l : Tx) (c : UInt8) (hk : l[0]? = some c) : ∀ w, (Instr.index 9 (.string (tx l)) (.int .i64 0)).run Tryz.prog w = .ok (.int .u8 c.toNat) w := run_ix l 0 c hk
theorem u8_ne (c d : UInt8) (h : c ≠ d) : ((c.toNat : Int) != (d.toNat : Int)) = true := by
  simp only [bne_iff_ne, ne_eq]
  intro e
  exact h (UInt8.toNat_inj.1 (by omega))

theorem nameB_cons (c : UInt8) (r : Tx) : nameB (c :: r) = (decide (r.length < 32) && letterC c && r.all nameC) := rfl
theorem nameB_step {l : Tx} {k : Nat} {c : UInt8} (h : l[k]? = some c) (hn : nameC c = false) : nameB l = false := by
  have hm : c ∈ l := List.mem_of_getElem? h
  cases l with
  | nil => rfl
  | cons d r =>
    rw [nameB_cons]
    rcases List.mem_cons.1 hm with rfl | hm
    · have : letterC c = false := by unfold nameC at hn; simp at hn; exact hn.1.1
      rw [this]; simp
    · have : r.all nameC = false := by simp only [List.all_eq_false]; exact ⟨c, hm, by rw [hn]; simp⟩
      rw [this]; simp
theorem nameB_done {c : UInt8} {r : Tx} (hl : r.length < 32) (hc : letterC c = true) (h : ∀ (i : Nat) (x : UInt8), (c :: r)[i]? = some x → nameC x = true) : nameB (c :: r) = true := by
  rw [nameB_cons, hc, decide_eq_true hl]
  simp only [Bool.and_self, Bool.true_and, List.all_eq_true]
  intro x hx
  obtain ⟨i, hi, rfl⟩ := List.mem_iff_getElem.1 hx
  exact h (i + 1) _ (by simp [hi])
set_option maxHeartbeats 800000 in
theorem progNamed (l : Tx) (hl : l.length ≤ 9223372036854775807) (w : World) : Calls Tryz.prog 131 #[.string (tx l)] w fun e w' => e = .returned (.bool (nameB l)) ∧ w = w' := by
  have hs := tx_size l
  cases l with
  | nil =>
    have hs : (tx []).size = 0 := rfl
    go_enter Tryz.func131, Tryz.ntmps131
    go_wp2_with fail
    go_ret
    exact ⟨rfl, rfl⟩
  | cons c r =>
    obtain ⟨n, hn⟩ : ∃ n, (tx (c :: r)).size = n := ⟨_, rfl⟩
    have hn1 : 1 ≤ n := by rw [← hn, hs]; simp
    have hnr : n = r.length + 1 := by rw [← hn, hs]; simp
    have hz : ((n : Int) == 0) = false := by simp; omega
    clear hs hl
    by_cases h32 : n ≤ 32
    · have i0 := run_ixz (c :: r) c rfl
      by_cases hc : letterC c = true
      · have HC := hid hc
        have HR := hid hnr
        clear hc hnr
        go_enter Tryz.func131, Tryz.ntmps131
        go_wp2_with (go_at_call 169; refine (progLetter c _).mono ?_; rintro e w' ⟨rfl, rfl⟩; rw [HC.out])
        go_loop [21] (fun i => ∃ k : Nat, k ≤ n ∧ i = .int .i64 k ∧ Hid (∀ (i : Nat) (x : UInt8), i < k → (c :: r)[i]? = some x → nameC x = true)) (fun i => n - (intOf i).toNat)
        case atStart => exact ⟨0, by omega, rfl, fun i x hi => absurd hi (Nat.not_lt_zero i)⟩
        case round =>
          obtain ⟨k, hk, rfl, HM⟩ := hrel
          by_cases hlt : k < n
          · obtain ⟨x, hx⟩ : ∃ x, (c :: r)[k]? = some x := ⟨_, List.getElem?_eq_getElem (by have := HR.out; simp; omega)⟩
            have ix := run_ix (c :: r) k x hx
            have HX := hid hx
            clear hx
            have HM2 : nameC x = true → Hid (∀ (i : Nat) (y : UInt8), i < k + 1 → (c :: r)[i]? = some y → nameC y = true) := fun hx' i y hi hy => by
              rcases Nat.lt_succ_iff_lt_or_eq.1 hi with h | h
              · exact HM.out i y h hy
              · subst h; rw [HX.out] at hy; cases hy; exact hx'
            have HM2 := hid HM2
            by_cases h1 : letterC x = true
            · have H1 := hid h1
              have HN := hid (HM2.out (by unfold nameC; rw [h1]; rfl))
              clear h1
              go_wp2_with (go_at_call 169; refine (progLetter x _).mono ?_; rintro e w' ⟨rfl, rfl⟩; rw [H1.out])
              go_round
              case rel => exact ⟨k + 1, by omega, by go_num, HN.out⟩
              case measure => simp [intOf]; omega
            · have H1 := hid (Bool.eq_false_iff.2 h1)
              clear h1
              by_cases h2 : digitC x = true
              · have H2 := hid h2
                have HN := hid (HM2.out (by unfold nameC; rw [h2]; simp))
                clear h2
                go_wp2_with (first | (go_at_call 169; refine (progLetter x _).mono ?_; rintro e w' ⟨rfl, rfl⟩; rw [H1.out]) | (go_at_call 170; refine (progDigit x _).mono ?_; rintro e w' ⟨rfl, rfl⟩; rw [H2.out]))
                go_round
                case rel => exact ⟨k + 1, by omega, by go_num, HN.out⟩
                case measure => simp [intOf]; omega
              · have H2 := hid (Bool.eq_false_iff.2 h2)
                clear h2
                by_cases h3 : x = 95
                · subst h3
                  have HN := hid (HM2.out (by decide))
                  have z3 : (((95 : UInt8).toNat : Int) != 95) = false := by decide
                  go_wp2_with (first | (go_at_call 169; refine (progLetter 95 _).mono ?_; rintro e w' ⟨rfl, rfl⟩; rw [H1.out]) | (go_at_call 170; refine (progDigit 95 _).mono ?_; rintro e w' ⟨rfl, rfl⟩; rw [H2.out]))
                  go_round
                  case rel => exact ⟨k + 1, by omega, by go_num, HN.out⟩
                  case measure => simp [intOf]; omega
                · have z3 : ((x.toNat : Int) != 95) = true := u8_ne x 95 h3
                  have HF := hid (nameB_step HX.out (by unfold nameC; rw [H1.out, H2.out]; simpa using h3))
                  clear h3
                  go_wp2_with (first | (go_at_call 169; refine (progLetter x _).mono ?_; rintro e w' ⟨rfl, rfl⟩; rw [H1.out]) | (go_at_call 170; refine (progDigit x _).mono ?_; rintro e w' ⟨rfl, rfl⟩; rw [H2.out]))
                  go_ret
                  exact ⟨ret_bool HF.out.symm, rfl⟩
          · have HF := hid (nameB_done (c := c) (r := r) (by have := HR.out; omega) HC.out (fun i x hi => HM.out i x (by
              have h1 := (List.getElem?_eq_some_iff.1 hi).1
              have := HR.out
              simp at h1; omega) hi))
            go_wp2_with fail
            go_ret
            exact ⟨ret_bool HF.out.symm, rfl⟩
      · have HC := hid (Bool.eq_false_iff.2 hc)
        have HF := hid (show nameB (c :: r) = false by rw [nameB_cons, HC.out]; simp)
        clear hc hnr
        go_enter Tryz.func131, Tryz.ntmps131
        go_wp2_with (go_at_call 169; refine (progLetter c _).mono ?_; rintro e w' ⟨rfl, rfl⟩; rw [HC.out])
        go_ret
        exact ⟨ret_bool HF.out.symm, rfl⟩
    · have HF := hid (show nameB (c :: r) = false by rw [nameB_cons, decide_eq_false (by omega)]; simp)
      clear hnr
      go_enter Tryz.func131, Tryz.ntmps131
      go_wp2_with fail
      go_ret
      exact ⟨ret_bool HF.out.symm, rfl⟩
end Go.Proofs.YthaibjefnclkjaaGreatDoor
