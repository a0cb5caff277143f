/- The library's contracts at this program's numbers: layings, written by the shelf's own command. · The library's functions on texts: Itoa, Atoi, Trim, HasSuffix, IndexByte, Split. Conditions: lengths below the form's reach; the library's variables as the program's text lays them, where a contract names them. · From what a row lists of the library's variables, and from the world's shape, to what the walks ask; the wrap of a row that lists variables. Lemmas of this claim's own; no condition. · An instruction that comes in to a statement by value, as the walks take it. Lemmas of this claim's own; no condition. · The walks of reg, letter, digit, Reg, RegOf (the program's), Reg, RegOf (the document's answer). No condition. · The walks of named and fields (the program's), and of Check. Conditions: lengths that an int holds. -/
import Derived.Shelf.Strings.SlTrimAscii
import Derived.Shelf.Strings.Prefix
import Derived.Shelf.Strings.SplitShaped
import Derived.Shelf.Strconv.Itoa3
import Derived.Shelf.Strconv.AtoiAll
import Derived.Shelf.Strconv.ErrVarAll
import Derived.Shelf.Small.Strs
import Derived.Shelf.LaysC
import Derived.Shelf.LaysM
import Derived.Test.YtigimkgmghjgoaaGreatDoorProg
import Derived.Test.YtigimkgmghjgoaaGreatDoorQa
import Derived.WalkSmall
import Derived.Laws.Concat
import Derived.Stop.LaidErr
import Derived.Lib.LaidTab
import Derived.Lib.LaidU8
import Derived.Lay
import Derived.MakeChecks
import Derived.ShapedOpen
import Derived.SizedLaws
import Derived.LaidOnce
import Derived.SevenTiedAt
import Derived.Deep.Slices
import Derived.Deep.Fields
import Derived.ChangeSame
import Derived.ChangeArms
import Derived.Lib.SmallJoins
namespace Go.Proofs.YtigimkgmghjgoaaGreatDoor
open Go.Shelf
def Tryz.l160_ren : Go.Shelf.Ren := ⟨fun | 160 => 64 | 232 => 96 | 231 => 95 | 227 => 97 | 234 => 99 | 233 => 98 | 236 => 101 | 235 => 100 | 228 => 131 | 271 => 134 | 151 => 133 | 197 => 132 | 120 => 157 | 152 => 156 | 260 => 155 | 137 => 135 | 119 => 168 | 224 => 163 | 225 => 162 | 217 => 158 | 266 => 169 | n => n, fun | 9 => 9 | 4 => 4 | 3 => 3 | 5 => 5 | 117 => 114 | 116 => 113 | 0 => 0 | 124 => 117 | 21 => 21 | 105 => 140 | 46 => 58 | 119 => 170 | 139 => 173 | 138 => 172 | n => n, fun | 3 => 4 | 4 => 5 | n => n⟩
theorem Tryz.l160 : Go.Proofs.Lays.n160 Tryz.prog Tryz.l160_ren := {
  mixed := by kernel_rfl
  f119 := Tryz.func168.trans (congrArg some (by kernel_rfl))
  f120 := Tryz.func157.trans (congrArg some (by kernel_rfl))
  f137 := Tryz.func135.trans (congrArg some (by kernel_rfl))
  f151 := Tryz.func133.trans (congrArg some (by kernel_rfl))
  f152 := Tryz.func156.trans (congrArg some (by kernel_rfl))
  f160 := Tryz.func64.trans (congrArg some (by kernel_rfl))
  f197 := Tryz.func132.trans (congrArg some (by kernel_rfl))
  f217 := Tryz.func158.trans (congrArg some (by kernel_rfl))
  f224 := Tryz.func163.trans (congrArg some (by kernel_rfl))
  f225 := Tryz.func162.trans (congrArg some (by kernel_rfl))
  f227 := Tryz.func97.trans (congrArg some (by kernel_rfl))
  f228 := Tryz.func131.trans (congrArg some (by kernel_rfl))
  f231 := Tryz.func95.trans (congrArg some (by kernel_rfl))
  f232 := Tryz.func96.trans (congrArg some (by kernel_rfl))
  f233 := Tryz.func98.trans (congrArg some (by kernel_rfl))
  f234 := Tryz.func99.trans (congrArg some (by kernel_rfl))
  f235 := Tryz.func100.trans (congrArg some (by kernel_rfl))
  f236 := Tryz.func101.trans (congrArg some (by kernel_rfl))
  f260 := Tryz.func155.trans (congrArg some (by kernel_rfl))
  f266 := Tryz.func169.trans (congrArg some (by kernel_rfl))
  f271 := Tryz.func134.trans (congrArg some (by kernel_rfl))
  t0 := Tryz.underlying0
  a0 := Tryz.isAgg0
  z0 := Tryz.sizeOf0
  v0 := Tryz.zeroValue0
  t3 := Tryz.underlying3
  a3 := Tryz.isAgg3
  z3 := Tryz.sizeOf3
  v3 := Tryz.zeroValue3
  t4 := Tryz.underlying4
  a4 := Tryz.isAgg4
  z4 := Tryz.sizeOf4
  v4 := Tryz.zeroValue4
  t5 := Tryz.underlying5
  a5 := Tryz.isAgg5
  z5 := Tryz.sizeOf5
  v5 := Tryz.zeroValue5
  t9 := Tryz.underlying9
  a9 := Tryz.isAgg9
  z9 := Tryz.sizeOf9
  v9 := Tryz.zeroValue9
  t21 := Tryz.underlying21
  a21 := Tryz.isAgg21
  z21 := Tryz.sizeOf21
  v21 := Tryz.zeroValue21
  t46 := Tryz.underlying58
  a46 := Tryz.isAgg58
  z46 := Tryz.sizeOf58
  v46 := Tryz.zeroValue58
  t105 := Tryz.underlying140
  a105 := Tryz.isAgg140
  z105 := Tryz.sizeOf140
  v105 := Tryz.zeroValue140
  t116 := Tryz.underlying113
  a116 := Tryz.isAgg113
  z116 := Tryz.sizeOf113
  t117 := Tryz.underlying114
  a117 := Tryz.isAgg114
  z117 := Tryz.sizeOf114
  v117 := Tryz.zeroValue114
  t119 := Tryz.underlying170
  a119 := Tryz.isAgg170
  z119 := Tryz.sizeOf170
  t124 := Tryz.underlying117
  a124 := Tryz.isAgg117
  z124 := Tryz.sizeOf117
  v124 := Tryz.zeroValue117
  t138 := Tryz.underlying172
  a138 := Tryz.isAgg172
  z138 := Tryz.sizeOf172
  v138 := Tryz.zeroValue172
  t139 := Tryz.underlying173
  a139 := Tryz.isAgg173
  z139 := Tryz.sizeOf173
  v139 := Tryz.zeroValue173
  g3 := by kernel_rfl
  g4 := by kernel_rfl }
def Tryz.l137_ren : Go.Shelf.Ren := ⟨fun | 137 => 135 | 217 => 158 | 266 => 169 | n => n, fun | 9 => 9 | 5 => 5 | 3 => 3 | n => n, fun | n => n⟩
theorem Tryz.l137 : Go.Proofs.Lays.n137 Tryz.prog Tryz.l137_ren := {
  mixed := by kernel_rfl
  f137 := Tryz.func135.trans (congrArg some (by kernel_rfl))
  f217 := Tryz.func158.trans (congrArg some (by kernel_rfl))
  f266 := Tryz.func169.trans (congrArg some (by kernel_rfl))
  t3 := Tryz.underlying3
  a3 := Tryz.isAgg3
  z3 := Tryz.sizeOf3
  v3 := Tryz.zeroValue3
  t5 := Tryz.underlying5
  a5 := Tryz.isAgg5
  z5 := Tryz.sizeOf5
  v5 := Tryz.zeroValue5
  t9 := Tryz.underlying9
  a9 := Tryz.isAgg9
  z9 := Tryz.sizeOf9
  v9 := Tryz.zeroValue9 }
def Tryz.l171_ren : Go.Shelf.Ren := ⟨fun | 171 => 33 | 243 => 62 | 246 => 94 | 283 => 127 | 284 => 128 | 285 => 129 | 286 => 130 | 129 => 126 | 317 => 151 | 318 => 152 | 319 => 153 | 320 => 154 | 337 => 166 | 338 => 167 | n => n, fun | 3 => 3 | 9 => 9 | 2 => 2 | 4 => 4 | 171 => 135 | 0 => 0 | 53 => 124 | 37 => 137 | 5 => 5 | 173 => 138 | 212 => 159 | 51 => 123 | 20 => 20 | 213 => 160 | 46 => 58 | 232 => 182 | 233 => 183 | n => n, fun | 17 => 0 | 18 => 6 | 19 => 7 | n => n⟩
theorem Tryz.l171 : Go.Proofs.Lays.n171 Tryz.prog Tryz.l171_ren := {
  mixed := by kernel_rfl
  f129 := Tryz.func126.trans (congrArg some (by kernel_rfl))
  f171 := Tryz.func33.trans (congrArg some (by kernel_rfl))
  f243 := Tryz.func62.trans (congrArg some (by kernel_rfl))
  f246 := Tryz.func94.trans (congrArg some (by kernel_rfl))
  f283 := Tryz.func127.trans (congrArg some (by kernel_rfl))
  f284 := Tryz.func128.trans (congrArg some (by kernel_rfl))
  f285 := Tryz.func129.trans (congrArg some (by kernel_rfl))
  f286 := Tryz.func130.trans (congrArg some (by kernel_rfl))
  f317 := Tryz.func151.trans (congrArg some (by kernel_rfl))
  f318 := Tryz.func152.trans (congrArg some (by kernel_rfl))
  f319 := Tryz.func153.trans (congrArg some (by kernel_rfl))
  f320 := Tryz.func154.trans (congrArg some (by kernel_rfl))
  f337 := Tryz.func166.trans (congrArg some (by kernel_rfl))
  f338 := Tryz.func167.trans (congrArg some (by kernel_rfl))
  t0 := Tryz.underlying0
  a0 := Tryz.isAgg0
  z0 := Tryz.sizeOf0
  v0 := Tryz.zeroValue0
  t2 := Tryz.underlying2
  a2 := Tryz.isAgg2
  z2 := Tryz.sizeOf2
  v2 := Tryz.zeroValue2
  t3 := Tryz.underlying3
  a3 := Tryz.isAgg3
  z3 := Tryz.sizeOf3
  v3 := Tryz.zeroValue3
  t4 := Tryz.underlying4
  a4 := Tryz.isAgg4
  z4 := Tryz.sizeOf4
  v4 := Tryz.zeroValue4
  t5 := Tryz.underlying5
  a5 := Tryz.isAgg5
  z5 := Tryz.sizeOf5
  v5 := Tryz.zeroValue5
  t9 := Tryz.underlying9
  a9 := Tryz.isAgg9
  z9 := Tryz.sizeOf9
  v9 := Tryz.zeroValue9
  t20 := Tryz.underlying20
  a20 := Tryz.isAgg20
  z20 := Tryz.sizeOf20
  v20 := Tryz.zeroValue20
  t37 := Tryz.underlying137
  a37 := Tryz.isAgg137
  z37 := Tryz.sizeOf137
  v37 := Tryz.zeroValue137
  t46 := Tryz.underlying58
  a46 := Tryz.isAgg58
  z46 := Tryz.sizeOf58
  v46 := Tryz.zeroValue58
  t51 := Tryz.underlying123
  a51 := Tryz.isAgg123
  z51 := Tryz.sizeOf123
  v51 := Tryz.zeroValue123
  t53 := Tryz.underlying124
  a53 := Tryz.isAgg124
  z53 := Tryz.sizeOf124
  v53 := Tryz.zeroValue124
  t171 := Tryz.underlying135
  a171 := Tryz.isAgg135
  z171 := Tryz.sizeOf135
  v171 := Tryz.zeroValue135
  t173 := Tryz.underlying138
  a173 := Tryz.isAgg138
  z173 := Tryz.sizeOf138
  v173 := Tryz.zeroValue138
  t212 := Tryz.underlying159
  a212 := Tryz.isAgg159
  z212 := Tryz.sizeOf159
  v212 := Tryz.zeroValue159
  t213 := Tryz.underlying160
  a213 := Tryz.isAgg160
  z213 := Tryz.sizeOf160
  t232 := Tryz.underlying182
  a232 := Tryz.isAgg182
  z232 := Tryz.sizeOf182
  v232 := Tryz.zeroValue182
  t233 := Tryz.underlying183
  a233 := Tryz.isAgg183
  z233 := Tryz.sizeOf183
  v233 := Tryz.zeroValue183
  g17 := by kernel_rfl
  g18 := by kernel_rfl
  g19 := by kernel_rfl }
def Tryz.m171_ren : Go.Shelf.Ren := ⟨fun | 171 => 33 | 243 => 62 | 246 => 94 | 283 => 127 | 284 => 128 | 285 => 129 | 286 => 130 | 129 => 126 | 317 => 151 | 318 => 152 | 319 => 153 | 320 => 154 | 337 => 166 | 338 => 167 | n => n, fun | 3 => 3 | 9 => 9 | 2 => 2 | 4 => 4 | 171 => 135 | 0 => 0 | 53 => 124 | 37 => 137 | 5 => 5 | 173 => 138 | 212 => 159 | 51 => 123 | 20 => 20 | 213 => 160 | 46 => 58 | 232 => 182 | 233 => 183 | n => n, fun | 17 => 0 | 18 => 6 | 19 => 7 | n => n⟩
theorem Tryz.m171 : Go.Proofs.LaysM.n171 Tryz.prog Tryz.m171_ren := {
  mixed := by kernel_rfl
  f129 := Tryz.func126.trans (congrArg some (by kernel_rfl))
  f171 := Tryz.func33.trans (congrArg some (by kernel_rfl))
  f243 := Tryz.func62.trans (congrArg some (by kernel_rfl))
  f246 := Tryz.func94.trans (congrArg some (by kernel_rfl))
  f283 := Tryz.func127.trans (congrArg some (by kernel_rfl))
  f284 := Tryz.func128.trans (congrArg some (by kernel_rfl))
  f285 := Tryz.func129.trans (congrArg some (by kernel_rfl))
  f286 := Tryz.func130.trans (congrArg some (by kernel_rfl))
  f317 := Tryz.func151.trans (congrArg some (by kernel_rfl))
  f318 := Tryz.func152.trans (congrArg some (by kernel_rfl))
  f319 := Tryz.func153.trans (congrArg some (by kernel_rfl))
  f320 := Tryz.func154.trans (congrArg some (by kernel_rfl))
  f337 := Tryz.func166.trans (congrArg some (by kernel_rfl))
  f338 := Tryz.func167.trans (congrArg some (by kernel_rfl))
  t0 := Tryz.underlying0
  a0 := Tryz.isAgg0
  z0 := Tryz.sizeOf0
  v0 := Tryz.zeroValue0
  t2 := Tryz.underlying2
  a2 := Tryz.isAgg2
  z2 := Tryz.sizeOf2
  v2 := Tryz.zeroValue2
  t3 := Tryz.underlying3
  a3 := Tryz.isAgg3
  z3 := Tryz.sizeOf3
  v3 := Tryz.zeroValue3
  t4 := Tryz.underlying4
  a4 := Tryz.isAgg4
  z4 := Tryz.sizeOf4
  v4 := Tryz.zeroValue4
  t5 := Tryz.underlying5
  a5 := Tryz.isAgg5
  z5 := Tryz.sizeOf5
  v5 := Tryz.zeroValue5
  t9 := Tryz.underlying9
  a9 := Tryz.isAgg9
  z9 := Tryz.sizeOf9
  v9 := Tryz.zeroValue9
  t20 := Tryz.underlying20
  a20 := Tryz.isAgg20
  z20 := Tryz.sizeOf20
  v20 := Tryz.zeroValue20
  t37 := Tryz.underlying137
  a37 := Tryz.isAgg137
  z37 := Tryz.sizeOf137
  v37 := Tryz.zeroValue137
  t46 := Tryz.underlying58
  a46 := Tryz.isAgg58
  z46 := Tryz.sizeOf58
  v46 := Tryz.zeroValue58
  t51 := Tryz.underlying123
  a51 := Tryz.isAgg123
  z51 := Tryz.sizeOf123
  v51 := Tryz.zeroValue123
  t53 := Tryz.underlying124
  a53 := Tryz.isAgg124
  z53 := Tryz.sizeOf124
  v53 := Tryz.zeroValue124
  t171 := Tryz.underlying135
  a171 := Tryz.isAgg135
  z171 := Tryz.sizeOf135
  v171 := Tryz.zeroValue135
  t173 := Tryz.underlying138
  a173 := Tryz.isAgg138
  z173 := Tryz.sizeOf138
  v173 := Tryz.zeroValue138
  t212 := Tryz.underlying159
  a212 := Tryz.isAgg159
  z212 := Tryz.sizeOf159
  v212 := Tryz.zeroValue159
  t213 := Tryz.underlying160
  a213 := Tryz.isAgg160
  z213 := Tryz.sizeOf160
  t232 := Tryz.underlying182
  a232 := Tryz.isAgg182
  z232 := Tryz.sizeOf182
  v232 := Tryz.zeroValue182
  t233 := Tryz.underlying183
  a233 := Tryz.isAgg183
  z233 := Tryz.sizeOf183
  v233 := Tryz.zeroValue183
  g17 := by kernel_rfl
  g18 := by kernel_rfl
  g19 := by kernel_rfl
  i0 := by kernel_rfl
  i2 := by kernel_rfl
  i3 := by kernel_rfl
  i4 := by kernel_rfl
  i5 := by kernel_rfl
  i9 := by kernel_rfl
  i20 := by kernel_rfl
  i37 := by kernel_rfl
  i46 := by kernel_rfl
  i51 := by kernel_rfl
  i53 := by kernel_rfl
  i171 := by kernel_rfl
  i173 := by kernel_rfl
  i212 := by kernel_rfl
  i232 := by kernel_rfl
  i233 := by kernel_rfl
  m17 := by kernel_rfl
  m18 := by kernel_rfl
  m19 := by kernel_rfl }
def Tryz.c172_ren : Go.Shelf.Ren := ⟨fun | 172 => 69 | 244 => 103 | 245 => 104 | 247 => 136 | 279 => 137 | 280 => 138 | 281 => 139 | 282 => 140 | 287 => 159 | 316 => 160 | 171 => 33 | 205 => 161 | 321 => 170 | 322 => 171 | 243 => 62 | 246 => 94 | 283 => 127 | 284 => 128 | 285 => 129 | 286 => 130 | 129 => 126 | 317 => 151 | 318 => 152 | 319 => 153 | 320 => 154 | 337 => 166 | 338 => 167 | n => n, fun | 9 => 9 | 3 => 3 | 75 => 97 | 76 => 98 | 4 => 4 | 5 => 5 | 167 => 144 | 37 => 137 | 0 => 0 | 85 => 145 | 2 => 2 | 168 => 147 | 53 => 124 | 175 => 162 | 46 => 58 | 210 => 165 | 127 => 176 | 145 => 179 | 143 => 177 | 21 => 21 | 171 => 135 | 173 => 138 | 212 => 159 | 51 => 123 | 20 => 20 | 213 => 160 | 232 => 182 | 233 => 183 | 80 => 184 | n => n, fun | 15 => 1 | 16 => 2 | 17 => 0 | 18 => 6 | 19 => 7 | n => n⟩
theorem Tryz.c172 : Go.Proofs.LaysC.n172 Tryz.prog Tryz.c172_ren := {
  mixed := by kernel_rfl
  f129 := Tryz.func126.trans (congrArg some (by kernel_rfl))
  f171 := Tryz.func33.trans (congrArg some (by kernel_rfl))
  f172 := Tryz.func69.trans (congrArg some (by kernel_rfl))
  f205 := Tryz.func161.trans (congrArg some (by kernel_rfl))
  f243 := Tryz.func62.trans (congrArg some (by kernel_rfl))
  f244 := Tryz.func103.trans (congrArg some (by kernel_rfl))
  f245 := Tryz.func104.trans (congrArg some (by kernel_rfl))
  f246 := Tryz.func94.trans (congrArg some (by kernel_rfl))
  f247 := Tryz.func136.trans (congrArg some (by kernel_rfl))
  f279 := Tryz.func137.trans (congrArg some (by kernel_rfl))
  f280 := Tryz.func138.trans (congrArg some (by kernel_rfl))
  f281 := Tryz.func139.trans (congrArg some (by kernel_rfl))
  f282 := Tryz.func140.trans (congrArg some (by kernel_rfl))
  f283 := Tryz.func127.trans (congrArg some (by kernel_rfl))
  f284 := Tryz.func128.trans (congrArg some (by kernel_rfl))
  f285 := Tryz.func129.trans (congrArg some (by kernel_rfl))
  f286 := Tryz.func130.trans (congrArg some (by kernel_rfl))
  f287 := Tryz.func159.trans (congrArg some (by kernel_rfl))
  f316 := Tryz.func160.trans (congrArg some (by kernel_rfl))
  f317 := Tryz.func151.trans (congrArg some (by kernel_rfl))
  f318 := Tryz.func152.trans (congrArg some (by kernel_rfl))
  f319 := Tryz.func153.trans (congrArg some (by kernel_rfl))
  f320 := Tryz.func154.trans (congrArg some (by kernel_rfl))
  f321 := Tryz.func170.trans (congrArg some (by kernel_rfl))
  f322 := Tryz.func171.trans (congrArg some (by kernel_rfl))
  f337 := Tryz.func166.trans (congrArg some (by kernel_rfl))
  f338 := Tryz.func167.trans (congrArg some (by kernel_rfl))
  t0 := Tryz.underlying0
  a0 := Tryz.isAgg0
  z0 := Tryz.sizeOf0
  v0 := Tryz.zeroValue0
  t2 := Tryz.underlying2
  a2 := Tryz.isAgg2
  z2 := Tryz.sizeOf2
  v2 := Tryz.zeroValue2
  t3 := Tryz.underlying3
  a3 := Tryz.isAgg3
  z3 := Tryz.sizeOf3
  v3 := Tryz.zeroValue3
  t4 := Tryz.underlying4
  a4 := Tryz.isAgg4
  z4 := Tryz.sizeOf4
  v4 := Tryz.zeroValue4
  t5 := Tryz.underlying5
  a5 := Tryz.isAgg5
  z5 := Tryz.sizeOf5
  v5 := Tryz.zeroValue5
  t9 := Tryz.underlying9
  a9 := Tryz.isAgg9
  z9 := Tryz.sizeOf9
  v9 := Tryz.zeroValue9
  t20 := Tryz.underlying20
  a20 := Tryz.isAgg20
  z20 := Tryz.sizeOf20
  v20 := Tryz.zeroValue20
  t21 := Tryz.underlying21
  a21 := Tryz.isAgg21
  z21 := Tryz.sizeOf21
  v21 := Tryz.zeroValue21
  t37 := Tryz.underlying137
  a37 := Tryz.isAgg137
  z37 := Tryz.sizeOf137
  v37 := Tryz.zeroValue137
  t46 := Tryz.underlying58
  a46 := Tryz.isAgg58
  z46 := Tryz.sizeOf58
  v46 := Tryz.zeroValue58
  t51 := Tryz.underlying123
  a51 := Tryz.isAgg123
  z51 := Tryz.sizeOf123
  v51 := Tryz.zeroValue123
  t53 := Tryz.underlying124
  a53 := Tryz.isAgg124
  z53 := Tryz.sizeOf124
  v53 := Tryz.zeroValue124
  t75 := Tryz.underlying97
  a75 := Tryz.isAgg97
  z75 := Tryz.sizeOf97
  v75 := Tryz.zeroValue97
  t76 := Tryz.underlying98
  a76 := Tryz.isAgg98
  z76 := Tryz.sizeOf98
  v76 := Tryz.zeroValue98
  t85 := Tryz.underlying145
  a85 := Tryz.isAgg145
  z85 := Tryz.sizeOf145
  v85 := Tryz.zeroValue145
  t127 := Tryz.underlying176
  a127 := Tryz.isAgg176
  z127 := Tryz.sizeOf176
  v127 := Tryz.zeroValue176
  t143 := Tryz.underlying177
  a143 := Tryz.isAgg177
  z143 := Tryz.sizeOf177
  v143 := Tryz.zeroValue177
  t145 := Tryz.underlying179
  a145 := Tryz.isAgg179
  z145 := Tryz.sizeOf179
  v145 := Tryz.zeroValue179
  t167 := Tryz.underlying144
  a167 := Tryz.isAgg144
  z167 := Tryz.sizeOf144
  v167 := Tryz.zeroValue144
  t168 := Tryz.underlying147
  a168 := Tryz.isAgg147
  z168 := Tryz.sizeOf147
  v168 := Tryz.zeroValue147
  t171 := Tryz.underlying135
  a171 := Tryz.isAgg135
  z171 := Tryz.sizeOf135
  v171 := Tryz.zeroValue135
  t173 := Tryz.underlying138
  a173 := Tryz.isAgg138
  z173 := Tryz.sizeOf138
  v173 := Tryz.zeroValue138
  t175 := Tryz.underlying162
  a175 := Tryz.isAgg162
  z175 := Tryz.sizeOf162
  v175 := Tryz.zeroValue162
  t210 := Tryz.underlying165
  a210 := Tryz.isAgg165
  z210 := Tryz.sizeOf165
  v210 := Tryz.zeroValue165
  t212 := Tryz.underlying159
  a212 := Tryz.isAgg159
  z212 := Tryz.sizeOf159
  v212 := Tryz.zeroValue159
  t213 := Tryz.underlying160
  a213 := Tryz.isAgg160
  z213 := Tryz.sizeOf160
  t232 := Tryz.underlying182
  a232 := Tryz.isAgg182
  z232 := Tryz.sizeOf182
  v232 := Tryz.zeroValue182
  t233 := Tryz.underlying183
  a233 := Tryz.isAgg183
  z233 := Tryz.sizeOf183
  v233 := Tryz.zeroValue183
  g15 := by kernel_rfl
  g16 := by kernel_rfl
  g17 := by kernel_rfl
  g18 := by kernel_rfl
  g19 := by kernel_rfl
  t80 := Tryz.underlying184
  a80 := Tryz.isAgg184
  z80 := Tryz.sizeOf184
  v80 := Tryz.zeroValue184
  i0 := by kernel_rfl
  i2 := by kernel_rfl
  i3 := by kernel_rfl
  i4 := by kernel_rfl
  i5 := by kernel_rfl
  i9 := by kernel_rfl
  i20 := by kernel_rfl
  i21 := by kernel_rfl
  i37 := by kernel_rfl
  i46 := by kernel_rfl
  i51 := by kernel_rfl
  i53 := by kernel_rfl
  i75 := by kernel_rfl
  i76 := by kernel_rfl
  i80 := by kernel_rfl
  i85 := by kernel_rfl
  i127 := by kernel_rfl
  i143 := by kernel_rfl
  i145 := by kernel_rfl
  i167 := by kernel_rfl
  i168 := by kernel_rfl
  i171 := by kernel_rfl
  i173 := by kernel_rfl
  i175 := by kernel_rfl
  i210 := by kernel_rfl
  i212 := by kernel_rfl
  i232 := by kernel_rfl
  i233 := by kernel_rfl
  m15 := by kernel_rfl
  m16 := by kernel_rfl
  m17 := by kernel_rfl
  m18 := by kernel_rfl
  m19 := by kernel_rfl
  c0 := by kernel_rfl
  c2 := by kernel_rfl
  c3 := by kernel_rfl
  c4 := by kernel_rfl
  c5 := by kernel_rfl
  c9 := by kernel_rfl
  c20 := by kernel_rfl
  c21 := by kernel_rfl
  c37 := by kernel_rfl
  c46 := by kernel_rfl
  c51 := by kernel_rfl
  c53 := by kernel_rfl
  c75 := by kernel_rfl
  c76 := by kernel_rfl
  c80 := by kernel_rfl
  c85 := by kernel_rfl
  c127 := by kernel_rfl
  c143 := by kernel_rfl
  c145 := by kernel_rfl
  c167 := by kernel_rfl
  c168 := by kernel_rfl
  c171 := by kernel_rfl
  c173 := by kernel_rfl
  c175 := by kernel_rfl
  c210 := by kernel_rfl
  c212 := by kernel_rfl
  c213 := by kernel_rfl
  c232 := by kernel_rfl
  c233 := by kernel_rfl }
def Tryz.l100_ren : Go.Shelf.Ren := ⟨fun | 100 => 38 | 207 => 65 | n => n, fun | 9 => 9 | 4 => 4 | 3 => 3 | n => n, fun | n => n⟩
theorem Tryz.l100 : Go.Proofs.Lays.n100 Tryz.prog Tryz.l100_ren := {
  mixed := by kernel_rfl
  f100 := Tryz.func38.trans (congrArg some (by kernel_rfl))
  f207 := Tryz.func65.trans (congrArg some (by kernel_rfl))
  t3 := Tryz.underlying3
  a3 := Tryz.isAgg3
  z3 := Tryz.sizeOf3
  v3 := Tryz.zeroValue3
  t4 := Tryz.underlying4
  a4 := Tryz.isAgg4
  z4 := Tryz.sizeOf4
  v4 := Tryz.zeroValue4
  t9 := Tryz.underlying9
  a9 := Tryz.isAgg9
  z9 := Tryz.sizeOf9
  v9 := Tryz.zeroValue9 }
def Tryz.m146_ren : Go.Shelf.Ren := ⟨fun | 146 => 41 | 221 => 71 | 268 => 105 | 138 => 106 | 143 => 107 | 195 => 141 | 197 => 132 | 218 => 142 | 219 => 143 | 260 => 155 | 217 => 158 | 225 => 162 | 224 => 163 | 267 => 164 | 266 => 169 | 314 => 172 | n => n, fun | 9 => 9 | 31 => 67 | 3 => 3 | 4 => 4 | 0 => 0 | 105 => 140 | 21 => 21 | 5 => 5 | 46 => 58 | 119 => 170 | 139 => 173 | 138 => 172 | 146 => 180 | 51 => 123 | n => n, fun | 1 => 3 | 3 => 4 | 4 => 5 | n => n⟩
theorem Tryz.m146 : Go.Proofs.LaysM.n146 Tryz.prog Tryz.m146_ren := {
  mixed := by kernel_rfl
  f138 := Tryz.func106.trans (congrArg some (by kernel_rfl))
  f143 := Tryz.func107.trans (congrArg some (by kernel_rfl))
  f146 := Tryz.func41.trans (congrArg some (by kernel_rfl))
  f195 := Tryz.func141.trans (congrArg some (by kernel_rfl))
  f197 := Tryz.func132.trans (congrArg some (by kernel_rfl))
  f217 := Tryz.func158.trans (congrArg some (by kernel_rfl))
  f218 := Tryz.func142.trans (congrArg some (by kernel_rfl))
  f219 := Tryz.func143.trans (congrArg some (by kernel_rfl))
  f221 := Tryz.func71.trans (congrArg some (by kernel_rfl))
  f224 := Tryz.func163.trans (congrArg some (by kernel_rfl))
  f225 := Tryz.func162.trans (congrArg some (by kernel_rfl))
  f260 := Tryz.func155.trans (congrArg some (by kernel_rfl))
  f266 := Tryz.func169.trans (congrArg some (by kernel_rfl))
  f267 := Tryz.func164.trans (congrArg some (by kernel_rfl))
  f268 := Tryz.func105.trans (congrArg some (by kernel_rfl))
  f314 := Tryz.func172.trans (congrArg some (by kernel_rfl))
  t0 := Tryz.underlying0
  a0 := Tryz.isAgg0
  z0 := Tryz.sizeOf0
  v0 := Tryz.zeroValue0
  t3 := Tryz.underlying3
  a3 := Tryz.isAgg3
  z3 := Tryz.sizeOf3
  v3 := Tryz.zeroValue3
  t4 := Tryz.underlying4
  a4 := Tryz.isAgg4
  z4 := Tryz.sizeOf4
  v4 := Tryz.zeroValue4
  t5 := Tryz.underlying5
  a5 := Tryz.isAgg5
  z5 := Tryz.sizeOf5
  v5 := Tryz.zeroValue5
  t9 := Tryz.underlying9
  a9 := Tryz.isAgg9
  z9 := Tryz.sizeOf9
  v9 := Tryz.zeroValue9
  t21 := Tryz.underlying21
  a21 := Tryz.isAgg21
  z21 := Tryz.sizeOf21
  v21 := Tryz.zeroValue21
  t31 := Tryz.underlying67
  a31 := Tryz.isAgg67
  z31 := Tryz.sizeOf67
  v31 := Tryz.zeroValue67
  t46 := Tryz.underlying58
  a46 := Tryz.isAgg58
  z46 := Tryz.sizeOf58
  v46 := Tryz.zeroValue58
  t51 := Tryz.underlying123
  a51 := Tryz.isAgg123
  z51 := Tryz.sizeOf123
  v51 := Tryz.zeroValue123
  t105 := Tryz.underlying140
  a105 := Tryz.isAgg140
  z105 := Tryz.sizeOf140
  v105 := Tryz.zeroValue140
  t119 := Tryz.underlying170
  a119 := Tryz.isAgg170
  z119 := Tryz.sizeOf170
  t138 := Tryz.underlying172
  a138 := Tryz.isAgg172
  z138 := Tryz.sizeOf172
  v138 := Tryz.zeroValue172
  t139 := Tryz.underlying173
  a139 := Tryz.isAgg173
  z139 := Tryz.sizeOf173
  v139 := Tryz.zeroValue173
  t146 := Tryz.underlying180
  a146 := Tryz.isAgg180
  z146 := Tryz.sizeOf180
  v146 := Tryz.zeroValue180
  g1 := by kernel_rfl
  g3 := by kernel_rfl
  g4 := by kernel_rfl
  i0 := by kernel_rfl
  i3 := by kernel_rfl
  i4 := by kernel_rfl
  i5 := by kernel_rfl
  i9 := by kernel_rfl
  i21 := by kernel_rfl
  i31 := by kernel_rfl
  i46 := by kernel_rfl
  i51 := by kernel_rfl
  i105 := by kernel_rfl
  i138 := by kernel_rfl
  i139 := by kernel_rfl
  i146 := by kernel_rfl
  m1 := by kernel_rfl
  s1_3 := fun w h => Go.Proofs.cell_of_shapedOpen_int (zero := #[.int .i64 0]) (t := 3) h (of_decide_eq_true (by kernel_rfl)) (by kernel_rfl) rfl (by kernel_rfl) (by kernel_rfl) Tryz.underlying3
  m3 := by kernel_rfl
  m4 := by kernel_rfl }

end Go.Proofs.YtigimkgmghjgoaaGreatDoor
namespace Go.Proofs.YtigimkgmghjgoaaGreatDoor
open Go.RowKit Go.Sort
set_option linter.unusedVariables false

theorem below_grow (w : World) (k : Nat) (os : Array Obj) : Below w.heap.size w (grow (w.drewN k) os) :=
  ⟨rfl, rfl, rfl, by simp [grow], fun j hj => by simp [grow, Array.getElem?_append, hj]⟩

/-- the name of the table of powers of ten -/
noncomputable def powN : String := (Tryz.prog.globals.getD 0 default).name
/-- the library's variables that are read, as the program's text lays them -/
structure Gl (w : World) : Prop where
  pow : Lib.TabIs Tryz.prog w powN .u64 Lib.pow10Tab
  maxLen : ∃ m, w.cell? ⟨Tryz.m146_ren.g 1, 0, none⟩ = some (.int .i64 m)
  syn : ∃ tp p, w.var? Tryz.prog "strconv.ErrSyntax" = some #[.iface tp p]
  rng : ∃ tp p, w.var? Tryz.prog "strconv.ErrRange" = some #[.iface tp p]
theorem var?_lt {P : Program} {w : World} {n : String} {g : Nat} {cs : Array Value} (hg : P.globalNamed n = some g) (h : w.var? P n = some cs) : g < w.heap.size := by
  simp only [World.var?, hg, Option.bind_some] at h
  rcases Nat.lt_or_ge g w.heap.size with h' | h'
  · exact h'
  · rw [Array.getElem?_eq_none h'] at h; cases h
theorem Gl.below {w w' : World} (h : Gl w) (hb : Below w.heap.size w w') : Gl w' := by
  obtain ⟨h1, ⟨m, h2⟩, ⟨tp, p, h3⟩, ⟨tq, q, h4⟩⟩ := h
  have g1 : Tryz.prog.globalNamed powN = some 0 := by kernel_rfl
  have g3 : Tryz.prog.globalNamed "strconv.ErrSyntax" = some 1 := by kernel_rfl
  have g4 : Tryz.prog.globalNamed "strconv.ErrRange" = some 2 := by kernel_rfl
  exact ⟨var?_below hb g1 (var?_lt g1 h1) h1, ⟨m, by rw [hb.cell (cell?_lt h2)]; exact h2⟩, ⟨tp, p, var?_below hb g3 (var?_lt g3 h3) h3⟩, ⟨tq, q, var?_below hb g4 (var?_lt g4 h4) h4⟩⟩

theorem itoa_small (n : Nat) (h : n < 100) (w : World) : Calls Tryz.prog 33 #[.int .i64 n] w fun e w' => e = .returned (.string (tx (decN n))) ∧ w = w' := by
  refine (Any.strconv_Itoa_small Tryz.l171 n h w).mono fun e w' hh => ⟨?_, hh.2.symm⟩
  rw [hh.1, decDigits_decN (by omega)]; rfl
theorem itoa_any (n : Int) (h0 : -9223372036854775808 ≤ n) (h1 : n ≤ 9223372036854775807) (w : World) (g : Gl w) : Calls Tryz.prog 33 #[.int .i64 n] w (Ret w (.string (tx (Lib.itoa n)))) := by
  refine (Any.strconv_Itoa Tryz.m171 n h0 h1 w (Eq.mp (congrArg (fun s => Lib.TabIs Tryz.prog w s .u64 Lib.pow10Tab) (by kernel_rfl)) g.pow)).mono fun e w' hh => ?_
  obtain ⟨he, k, os, rfl⟩ := hh
  exact ⟨he, below_grow w k os⟩
theorem trim_any (l : Tx) (hl : l.length ≤ 9223372036854775807) (w : World) : Calls Tryz.prog 64 #[.string (tx l), .string ⟨#[32, 9, 10, 13]⟩] w (Ret w (.string (tx (trimT l)))) := by
  refine (Any.strings_Trim_laid Tryz.l160 (by kernel_rfl) (tx l) ⟨#[32, 9, 10, 13]⟩ w (by rw [tx_size]; exact hl) (by decide) (ascii_of_all (by decide))).mono fun e w' hh => ⟨?_, hh.2⟩
  rw [hh.1, tx_data]; rfl
theorem suffix_any (l : Tx) (c : UInt8) (hl : l.length ≤ 9223372036854775807) (w : World) : Calls Tryz.prog 38 #[.string (tx l), .string ⟨#[c]⟩] w fun e w' => e = .returned (.bool (l.getLast? == some c)) ∧ w = w' := by
  refine (Any.strings_HasSuffix Tryz.l100 (tx l) ⟨#[c]⟩ w (by rw [tx_size]; exact hl)).mono fun e w' hh => ⟨?_, hh.2.symm⟩
  rw [hh.1, tx_data, show (⟨#[c]⟩ : ByteArray).data.toList = [c] from rfl, hasSuffix_one]
theorem indexByte_any (l : Tx) (w : World) : Calls Tryz.prog 135 #[.string (tx l), .int .u8 40] w fun e w' => e = .returned (.int .i64 (Lib.indexByte l 40)) ∧ w = w' := by
  refine (Any.strings_IndexByte Tryz.l137 (tx l) 40 w).mono fun e w' hh => ⟨?_, hh.2.symm⟩
  rw [hh.1, tx_data]; rfl

/-- texts that are read -/
structure Txs (w : World) (a : Option Addr) (l : List Tx) : Prop where
  row : Row w a (l.map fun x => Value.string (tx x))
  len : l.length ≤ 1000000000000000000
theorem Txs.below {w w' : World} {a : Option Addr} {l : List Tx} (h : Txs w a l) (hb : Below w.heap.size w w') : Txs w' a l := ⟨h.row.below hb, h.len⟩
theorem Txs.cell {w : World} {a : Option Addr} {l : List Tx} (h : Txs w a l) (k : Nat) (hk : k < l.length) : w.cell? ⟨bk a, fo a + k, none⟩ = some (.string (tx l[k])) := by
  have := h.row.cell k (by simpa using hk)
  simpa [hk] using this
theorem txl : ElT Tryz.prog 67 9 (.string ByteArray.empty) 1 16 := ⟨Tryz.underlying67, by kernel_rfl, rfl, by decide⟩
theorem Txs.idx {w : World} {a : Option Addr} {l : List Tx} (h : Txs w a l) (k : Nat) (hk : k < l.length) :
    ∀ c w', (Instr.indexAt 67 (.slice a l.length c) (.int .i64 k)).run Tryz.prog w' = .ok (.pointer (some ⟨bk a, fo a + k, none⟩)) w' := by
  intro c
  have := run_idx (c := c) (n := l.length) (m := 1) h.row txl.und txl.cells txl.isSome (by simp) (by omega) k hk .i64
  simpa using this
theorem split_any (l : Tx) (hl : l.length ≤ 1000000) (w : World) (g : Gl w) : Calls Tryz.prog 41 #[.string (tx l), .string ⟨#[44]⟩] w fun e w' => ∃ a, e = .returned (.slice a (splitC 44 l).length (splitC 44 l).length) ∧ Txs w' a (splitC 44 l) ∧ Below w.heap.size w w' := by
  obtain ⟨m, hm⟩ := g.maxLen
  refine (Any.strings_Split { Tryz.m146 with } Tryz.m146.i9 (tx l) ⟨#[44]⟩ m w (by rw [tx_size]; omega) hm (by decide)).mono fun e w' hh => ?_
  obtain ⟨he, rfl⟩ := hh
  have hc : Lib.countB (tx l) ⟨#[44]⟩ = Lib.count l [44] := by unfold Lib.countB; rw [tx_data]
  have hd := Lib.splitB_data ⟨#[44]⟩ 0 (Lib.count l [44]) (tx l)
  rw [tx_data, show (⟨#[44]⟩ : ByteArray).data.toList = [44] from rfl, splitK_one] at hd
  have hlen : Lib.count l [44] + 1 = (splitC 44 l).length := by
    rw [← hd, List.length_map, Lib.splitB_all ⟨#[44]⟩ (by decide) 0 _ _ hc]
  have hmap : (Lib.splitB ⟨#[44]⟩ 0 (Lib.count l [44]) (tx l)).map Value.string = (splitC 44 l).map fun x => Value.string (tx x) := by
    rw [← hd, List.map_map]
    refine List.map_congr_left fun x _ => ?_
    simp [tx]
  rw [hc, hlen] at he
  rw [hc, hmap]
  refine ⟨some ⟨w.heap.size, 0, none⟩, he, ⟨⟨fun _ => rfl, fun i hi => ?_⟩, by have := splitC_length_le 44 l; omega⟩, (Below.refl _ _).alloc (Nat.le_refl _) _⟩
  have hh := heap_alloc_new w (.cells ((splitC 44 l).map fun x => Value.string (tx x)).toArray (Tryz.m146_ren.t 9))
  simp only [World.cell?, bk_some, fo_some]
  rw [hh]
  simp
theorem atoi_ok (l : Tx) (hl : l.length ≤ 1000000) (v : Int) (h : Lib.atoiAll l = .ok v) (w : World) : Calls Tryz.prog 69 #[.string (tx l)] w (Ret w (.tuple #[.int .i64 v, .nilIface])) := by
  refine (Any.strconv_Atoi_ok Tryz.c172 (tx l) (by rw [tx_size]; omega) v (by rw [tx_data]; exact h) w).mono fun e w' hh => ⟨hh.1, ?_⟩
  rcases hh.2 with rfl | ⟨t, rfl⟩
  · exact Below.refl _ _
  · exact Lib.bytesWorld_below _ _ _
theorem atoi_bad (l : Tx) (hl : l.length ≤ 1000000) (h : ∀ v, Lib.atoiAll l ≠ .ok v) (w : World) (g : Gl w) : Calls Tryz.prog 69 #[.string (tx l)] w fun e w' => ∃ n tp p, e = .returned (.tuple #[.int .i64 n, .iface tp p]) ∧ Below w.heap.size w w' := by
  obtain ⟨tp, p, hs⟩ := g.syn
  obtain ⟨tq, q, hr⟩ := g.rng
  rcases ha : Lib.atoiAll l with v | _ | _
  · exact absurd ha (h v)
  · refine (Any.strconv_Atoi_syntax_var Tryz.c172 (tx l) (by rw [tx_size]; omega) (by rw [tx_data]; exact ha) tp p w hs).mono fun e w' hh => ?_
    obtain ⟨N, he, -, -, hb⟩ := hh
    exact ⟨_, _, _, he, hb⟩
  · refine (Any.strconv_Atoi_range_var Tryz.c172 (tx l) (by rw [tx_size]; omega) (by rw [tx_data]; exact ha) tq q w hr).mono fun e w' hh => ?_
    obtain ⟨N, he, -, -, hb⟩ := hh
    exact ⟨_, _, _, he, hb⟩
theorem run_cat (a b : Tx) (h : a.length + b.length ≤ 9223372036854775807) : ∀ w, (Op.stringOp .add (tx a) (tx b)).run Tryz.prog w = .ok (.string (tx (a ++ b))) w := fun w => by
  rw [run_string_add_sum w _ _ (by rw [tx_size, tx_size]; exact h), tx_app]
end Go.Proofs.YtigimkgmghjgoaaGreatDoor
namespace Go.Proofs.YtigimkgmghjgoaaGreatDoor
open Go.RowKit Go.ChangeShapes
set_option linter.unusedVariables false

theorem gl_of_laid {W : World} {x0 x1 x6 : String × DataW Unit} {r : List (String × DataW Unit)} {npow nrange nsyn nm : String} {t1 t2 : List UInt8}
    (h1 : Tryz.prog.globalNamed npow = some 0) (hn1 : npow = powN) (h2 : nrange = "strconv.ErrRange") (h3 : nsyn = "strconv.ErrSyntax") (hnm : nm = "*" ++ "errors.errorString")
    (hL : laidMet Tryz.prog (x0 :: x1 :: (npow, Lib.tabData .u64 Lib.pow10Tab) :: x6 :: (nrange, .iface nm (.ptr (.agg [.lit (.string t1)]))) :: (nsyn, .iface nm (.ptr (.agg [.lit (.string t2)]))) :: r) W)
    (hS : W.ShapedOpen Tryz.prog) : Gl W := by
  subst h2 h3 hn1
  have hrow : ∀ u, Tryz.prog.typeName? 3 u = some nm → u = 177 := fun u hu => typeName_ptr_named (nm := "errors.errorString") (by kernel_rfl) (by kernel_rfl) (by decide) u (by rw [hu, hnm])
  obtain ⟨a0, s0, hv0, -⟩ := laid_sentinel hL.tail.tail.tail.tail (g := 2) (ti := 97) (by kernel_rfl) (by kernel_rfl) Tryz.underlying97 hrow Tryz.underlying177 Tryz.underlying179 rfl rfl Tryz.underlying9 (by kernel_rfl) (by kernel_rfl)
  obtain ⟨a1, s1, hv1, -⟩ := laid_sentinel hL.tail.tail.tail.tail.tail (g := 1) (ti := 97) (by kernel_rfl) (by kernel_rfl) Tryz.underlying97 hrow Tryz.underlying177 Tryz.underlying179 rfl rfl Tryz.underlying9 (by kernel_rfl) (by kernel_rfl)
  refine ⟨?_, Tryz.m146.s1_3 W hS, ⟨_, _, hv1⟩, ⟨_, _, hv0⟩⟩
  exact Lib.tabIs_of_head h1 (t := 159) (e := 124) (n := 20) (by kernel_rfl) Tryz.underlying159 Tryz.underlying124 (by kernel_rfl) (by kernel_rfl) hL.tail.tail
/-- the wrap of a row that lists variables, the world's shape handed on -/
theorem wrapS {H : Type} {enc : TypeId × Value → H} {a : Assume} {C : Checked} {os : Os} {f : FuncId} {fn : Func} {s : ChangeSpec} {conds : List PathCond} {apart fresh handsOn again : Bool} {X : World → Array Value → Prop}
    (hX : ∀ (w w' : World) (args : Array Value), w.heap = w'.heap → X w args → X w' args)
    (own : ownKnob C.prog.godebug = none) (started : os.Started) (noInit : C.prog.inits.idxOf? f = none) (hfn : C.prog.funcs[f]? = some fn)
    (witness : ∃ (w : World) (tape : Tape) (i : Input), w.os = os ∧ (w.forCall tape i).Shaped C.prog ∧ i.vars = [] ∧ Input.okWide C.prog (w.forCall tape i) .any w.heap.size f i ∧
      ((s.pre enc C.prog fn conds apart (w.forCall tape i).memory i.args ∧ X (w.forCall tape i).memory i.args) ∧ sizedMet enc C.prog fn (OpenSpec.ofChange s) apart (w.forCall tape i).memory i.args) ∧ a.holds C.prog (lone (Frame.enter C.prog f i.args .normal) [] (w.forCall tape i)))
    (contract : ∀ (W : World) (base : Nat) (args : Array Value) (ds gs : List (DataW H)) (before : List MemPlace),
      (∀ (j : Nat) t v, fn.params[j]? = some t → args[j]? = some v → Value.okWide C.prog W .any base t v) →
      DataW.Whole enc C.prog fn.params.toList s.vars apart W args.toList ds gs before →
      (DataW.weightsEach C.prog (fn.params.toList ++ s.plain.varTypes C.prog) (ds ++ gs)).all (· ≤ reachBytes) = true → X W args → W.ShapedOpen C.prog →
      Calls C.prog f args W fun e W' => ∃ v, e = .returned v ∧ s.post enc C.prog fn apart fresh handsOn again W args v W') :
    ReturnsInHanded a C os f .any (fun w args => (s.pre enc C.prog fn conds apart w args ∧ X w args) ∧ sizedMet enc C.prog fn (OpenSpec.ofChange s) apart w args) (s.post enc C.prog fn apart fresh handsOn again) := by
  refine returnsInHanded_of_calls own started noInit witness ?_
  intro w tape i _ hsh _ hok hpre _
  obtain ⟨_, _, _, fn', hfn', _, _, _, _, hval⟩ := hok
  obtain rfl : fn' = fn := Option.some.inj (hfn'.symm.trans hfn)
  obtain ⟨⟨⟨ds, gs, before, hw, hc⟩, hx⟩, hz⟩ := hpre
  have hw' := DataW.Whole.of_heap (w' := w.forCall tape i) (by rfl) hw
  refine (contract (w.forCall tape i) w.heap.size i.args ds gs before hval hw' (hz.weights hw) (hX _ _ _ (by rfl) hx) hsh).mono fun e W' ⟨v, he, hp⟩ => ?_
  subst he
  exact ChangeSpec.post_blind hp
end Go.Proofs.YtigimkgmghjgoaaGreatDoor
namespace Go.Proofs.YtigimkgmghjgoaaGreatDoor
open Go.ChangeShapes Go.WideShapes Go.Deep Go.RowKit Go.Joins
set_option linter.unusedVariables false

section
variable {H : Type} {enc : TypeId × Value → H} {P : Program} {w : World} {base : Nat} {spare : Nat → Bool} {held : Bool}
/-- a struct's one-cell fields, each read by itself -/
theorem open_fields {r : Reach} {b0 : Nat} {t : TypeId} {fs : Array Field} {v : Value} {d : DataW H} {p : List MemPlace} (hs : P.underlying t = some (.struct fs)) (hone : oneCellFields P fs = true) (hC : P.cellsOf t = fs.size)
    (hv : Value.okWide P w r b0 t v) (h : DataW.Trod enc P w base spare held t v d p) :
    ∃ (cs : Array Value), v = .agg cs ∧ cs.size = fs.size ∧ ∀ (j : Nat) (f : Field), fs[j]? = some f → ∃ (u : Value) (y : DataW H × List MemPlace) (n : Nat), cs[j]? = some u ∧ DataW.trod enc P w base spare held n f.type [u] = some y := by
  obtain ⟨cs, rfl, hsz⟩ := okWide_struct hs hv
  refine ⟨cs, rfl, hsz.trans hC, fun j f hj => ?_⟩
  obtain ⟨fuel, hf⟩ := h
  obtain ⟨xs, n, _, hx, _, hlen, hg⟩ := DataW.trod_struct hs hf
  obtain ⟨o0, k0⟩ := hone_of hone j f hj
  have hjl : j < fs.size := (Array.getElem?_eq_some_iff.1 hj).1
  have hjc : j < cs.size := by rw [hsz, hC]; exact hjl
  have h1 := hg j f hj
  rw [o0, k0] at h1
  have hys : xs[j]? = some (xs[j]'(by omega)) := List.getElem?_eq_getElem (by omega)
  refine ⟨cs[j], xs[j]'(by omega), n, Array.getElem?_eq_getElem hjc, ?_⟩
  · have e : (Value.agg cs).cells.toList = cs.toList := rfl
    rw [e] at h1
    have : (cs.toList.drop j).take 1 = [cs[j]] := by
      rw [List.drop_eq_getElem_cons (by simpa using hjc)]
      simp
    rw [this] at h1
    exact h1.trans hys
end
set_option maxRecDepth 100000 in
theorem open_I {H : Type} {enc : TypeId × Value → H} {W : World} {r : Reach} {b0 : Nat} {v : Value} {d : DataW H} {p : List MemPlace} (hv : Value.okWide Tryz.prog W r b0 23 v)
    (h : DataW.Trod enc Tryz.prog W 0 (fun _ => true) true 23 v d p) : ∃ i : Ins, v = vI i ∧ i.label.length ≤ 9223372036854775807 ∧ i.loc.length ≤ 9223372036854775807 := by
  obtain ⟨cs, rfl, hsz, hf⟩ := open_fields Tryz.underlying23 (by kernel_rfl) (by kernel_rfl) hv h
  obtain ⟨u0, y0, n0, g0, r0⟩ := hf 0 _ rfl
  obtain ⟨u1, y1, n1, g1, r1⟩ := hf 1 _ rfl
  obtain ⟨u2, y2, n2, g2, r2⟩ := hf 2 _ rfl
  obtain ⟨u3, y3, n3, g3, r3⟩ := hf 3 _ rfl
  obtain ⟨u4, y4, n4, g4, r4⟩ := hf 4 _ rfl
  obtain ⟨u5, y5, n5, g5, r5⟩ := hf 5 _ rfl
  obtain ⟨u6, y6, n6, g6, r6⟩ := hf 6 _ rfl
  obtain ⟨u7, y7, n7, g7, r7⟩ := hf 7 _ rfl
  obtain ⟨k0, h0, -⟩ := DataW.trod_int Tryz.underlying3 r0
  obtain ⟨k1, h1, -⟩ := DataW.trod_int Tryz.underlying3 r1
  obtain ⟨k2, h2, -⟩ := DataW.trod_int Tryz.underlying3 r2
  obtain ⟨k3, h3, -⟩ := DataW.trod_int Tryz.underlying3 r3
  obtain ⟨k4, h4, -⟩ := DataW.trod_int Tryz.underlying3 r4
  obtain ⟨s5, h5, -, l5⟩ := DataW.trod_string Tryz.underlying9 r5
  obtain ⟨s6, h6, -, l6⟩ := DataW.trod_string Tryz.underlying9 r6
  obtain ⟨k7, h7, -⟩ := DataW.trod_int Tryz.underlying3 r7
  cases h0; cases h1; cases h2; cases h3; cases h4; cases h5; cases h6; cases h7
  obtain ⟨x5, rfl⟩ := tx_of s5
  obtain ⟨x6, rfl⟩ := tx_of s6
  have hz : cs.size = 8 := by rw [hsz]; rfl
  refine ⟨⟨k0, k1, k2, k3, k4, x5, x6, k7⟩, ?_, by rw [tx_size] at l6; unfold maxLen at l6; exact l6, by rw [tx_size] at l5; unfold maxLen at l5; exact l5⟩
  show Value.agg cs = .agg #[.int .i64 k0, .int .i64 k1, .int .i64 k2, .int .i64 k3, .int .i64 k4, .string (tx x5), .string (tx x6), .int .i64 k7]
  congr 1
  apply Array.ext_getElem?
  intro j
  match j with
  | 0 => exact g0
  | 1 => exact g1
  | 2 => exact g2
  | 3 => exact g3
  | 4 => exact g4
  | 5 => exact g5
  | 6 => exact g6
  | 7 => exact g7
  | j + 8 => rw [Array.getElem?_eq_none (by omega), Array.getElem?_eq_none (by simp)]
end Go.Proofs.YtigimkgmghjgoaaGreatDoor
namespace Go.Proofs.YtigimkgmghjgoaaGreatDoor
open Go.RowKit
set_option linter.unusedVariables false

theorem progReg0 (n : Int) (w : World) : Calls Tryz.prog 47 #[.int .i64 n] w fun e w' => e = .returned (.bool (regB n)) ∧ w = w' := by
  have hp : n < 0 ∨ (0 ≤ n ∧ n ≤ 31) ∨ 32 ≤ n := by omega
  rcases hp with h | ⟨h, h'⟩ | h
  all_goals
    go_enter Tryz.func47, Tryz.ntmps47
    go_wp2
    go_ret
    exact ⟨ret_bool (by unfold regB; rw [Bool.eq_iff_iff]; simp <;> omega), rfl⟩
theorem progLetter (c : UInt8) (w : World) : Calls Tryz.prog 108 #[.int .u8 c.toNat] w fun e w' => e = .returned (.bool (letterC c)) ∧ w = w' := by
  have hlt : c.toNat < 256 := c.toNat_lt
  have hl : letterC c = ((decide (97 ≤ c.toNat) && decide (c.toNat ≤ 122)) || (decide (65 ≤ c.toNat) && decide (c.toNat ≤ 90))) := by
    unfold letterC; simp only [UInt8.le_iff_toNat_le]; rfl
  rw [hl]; clear hl
  generalize c.toNat = n at *
  have hp : n < 65 ∨ (65 ≤ n ∧ n ≤ 90) ∨ (91 ≤ n ∧ n ≤ 96) ∨ (97 ≤ n ∧ n ≤ 122) ∨ 123 ≤ n := by omega
  rcases hp with h | ⟨h, h'⟩ | ⟨h, h'⟩ | ⟨h, h'⟩ | h
  all_goals
    go_enter Tryz.func108, Tryz.ntmps108
    go_wp2
    go_ret
    exact ⟨ret_bool (by first | (rw [Bool.eq_iff_iff]; simp <;> omega) | (simp <;> omega)), rfl⟩
theorem progDigit (c : UInt8) (w : World) : Calls Tryz.prog 109 #[.int .u8 c.toNat] w fun e w' => e = .returned (.bool (digitC c)) ∧ w = w' := by
  have hlt : c.toNat < 256 := c.toNat_lt
  have hl : digitC c = (decide (48 ≤ c.toNat) && decide (c.toNat ≤ 57)) := by
    unfold digitC; simp only [UInt8.le_iff_toNat_le]; rfl
  rw [hl]; clear hl
  generalize c.toNat = n at *
  have hp : n < 48 ∨ (48 ≤ n ∧ n ≤ 57) ∨ 58 ≤ n := by omega
  rcases hp with h | ⟨h, h'⟩ | h
  all_goals
    go_enter Tryz.func109, Tryz.ntmps109
    go_wp2
    go_ret
    exact ⟨ret_bool (by first | (rw [Bool.eq_iff_iff]; simp <;> omega) | (simp <;> omega)), rfl⟩

theorem decN_len (n : Nat) : (decN n).length ≤ 4 := by unfold decN; split <;> (try split) <;> (try split) <;> simp
theorem cat_x (n : Nat) : ∀ w, (Op.stringOp .add ⟨#[120]⟩ (tx (decN n))).run Tryz.prog w = .ok (.string (tx (regT n))) w := run_cat [120] (decN n) (by have := decN_len n; simp; omega)
theorem progReg (n : Nat) (h : n < 32) (w : World) : Calls Tryz.prog 32 #[.int .i64 n] w fun e w' => e = .returned (.tuple #[.string (tx (regT n)), .int .i64 0]) ∧ w = w' := by
  have hr := regB_of h
  have cx := cat_x n
  go_enter Tryz.func32, Tryz.ntmps32
  go_wp2_with (go_at_call 47; refine (progReg0 _ _).mono ?_; rintro e w' ⟨rfl, rfl⟩; rw [hr])
  refine (itoa_small n (by omega) _).mono ?_
  rintro e w' ⟨rfl, rfl⟩
  go_wp2_with fail
  go_ret2
  exact ⟨rfl, rfl⟩
theorem progReg_no (n : Int) (h : regB n = false) (w : World) : Calls Tryz.prog 32 #[.int .i64 n] w fun e w' => e = .returned (.tuple #[.string (tx []), .int .i64 90]) ∧ w = w' := by
  have H := hid h; clear h
  go_enter Tryz.func32, Tryz.ntmps32
  go_wp2_with (go_at_call 47; refine (progReg0 _ _).mono ?_; rintro e w' ⟨rfl, rfl⟩; rw [H.out])
  go_ret2
  exact ⟨rfl, rfl⟩
theorem refReg (n : Nat) (h : n < 32) (w : World) : Calls Tryz.prog 35 #[.int .i64 n] w fun e w' => e = .returned (.tuple #[.string (tx (regT n)), .int .i64 0]) ∧ w = w' := by
  have cx := cat_x n
  go_enter Tryz.func35, Tryz.ntmps35
  go_wp2_with fail
  refine (itoa_small n (by omega) _).mono ?_
  rintro e w' ⟨rfl, rfl⟩
  go_wp2_with fail
  go_ret2
  exact ⟨rfl, rfl⟩
theorem refReg_no (n : Int) (h : regB n = false) (w : World) : Calls Tryz.prog 35 #[.int .i64 n] w fun e w' => e = .returned (.tuple #[.string (tx []), .int .i64 90]) ∧ w = w' := by
  have hn : n < 0 ∨ 31 < n := by unfold regB at h; simp at h; omega
  clear h
  rcases hn with h | h
  · go_enter Tryz.func35, Tryz.ntmps35
    go_wp2_with fail
    go_ret2
    exact ⟨rfl, rfl⟩
  · have h0 : ¬ n < 0 := by omega
    go_enter Tryz.func35, Tryz.ntmps35
    go_wp2_with fail
    go_ret2
    exact ⟨rfl, rfl⟩

/-- the register of a name, and the error -/
def regN (s : Tx) : Int := match regOf s with
  | some n => n
  | none => 0
def regE (s : Tx) : Int := match regOf s with
  | some _ => 0
  | none => 90
theorem regT_inj {n m : Nat} (h : n < 32) (h' : m < 32) (e : regT n = regT m) : n = m := by
  have h1 := regOf_regT h
  rw [e, regOf_regT h'] at h1
  simpa using h1.symm
theorem regOf_hit {s : Tx} {n : Nat} (h : n < 32) (e : regT n = s) : regN s = n ∧ regE s = 0 := by
  subst e
  unfold regN regE
  rw [regOf_regT h]; exact ⟨rfl, rfl⟩
theorem regOf_miss {s : Tx} (h : ∀ m, m < 32 → regT m ≠ s) : regN s = 0 ∧ regE s = 90 := by
  unfold regN regE
  cases hr : regOf s with
  | none => exact ⟨rfl, rfl⟩
  | some n => obtain ⟨h1, h2⟩ := regOf_some hr; exact absurd h2.symm (h n h1)
set_option maxHeartbeats 800000 in
theorem progRegOf (s : Tx) (w : World) : Calls Tryz.prog 50 #[.string (tx s)] w fun e w' => e = .returned (.tuple #[.int .i64 (regN s), .int .i64 (regE s)]) ∧ w = w' := by
  go_enter Tryz.func50, Tryz.ntmps50
  go_wp2_with fail
  go_loop [7] (fun i => ∃ k : Nat, k ≤ 32 ∧ i = .int .i64 k ∧ Hid (∀ m, m < k → regT m ≠ s)) (fun i => 32 - (intOf i).toNat)
  case atStart => exact ⟨0, by omega, rfl, fun m hm => absurd hm (Nat.not_lt_zero m)⟩
  case round =>
    obtain ⟨k, hk, rfl, HM⟩ := hrel
    by_cases hlt : k < 32
    · by_cases he : regT k = s
      · have hz : ((tx (regT k)).toList == (tx s).toList) = true := by rw [tx_beq]; simpa using he
        have HR := hid (regOf_hit hlt he)
        clear he
        go_wp2_with (go_at_call 32; refine (progReg k hlt _).mono ?_; rintro e w' ⟨rfl, rfl⟩)
        go_ret2
        exact ⟨ret_pair HR.out.1.symm HR.out.2.symm, rfl⟩
      · have hz : ((tx (regT k)).toList == (tx s).toList) = false := tx_eq_false he
        have HM2 := hid (show ∀ m, m < k + 1 → regT m ≠ s from fun m hm => by
          rcases Nat.lt_succ_iff_lt_or_eq.1 hm with h | h
          · exact HM.out m h
          · subst h; exact he)
        clear he
        go_wp2_with (go_at_call 32; refine (progReg k hlt _).mono ?_; rintro e w' ⟨rfl, rfl⟩)
        go_round
        case rel => exact ⟨k + 1, by omega, by go_num, HM2⟩
        case measure => simp [intOf]; omega
    · obtain rfl : k = 32 := by omega
      have HR := hid (regOf_miss HM.out)
      go_wp2_with fail
      go_ret2
      exact ⟨ret_pair HR.out.1.symm HR.out.2.symm, rfl⟩
set_option maxHeartbeats 800000 in
theorem refRegOf (s : Tx) (w : World) : Calls Tryz.prog 72 #[.string (tx s)] w fun e w' => e = .returned (.tuple #[.int .i64 (regN s), .int .i64 (regE s)]) ∧ w = w' := by
  go_enter Tryz.func72, Tryz.ntmps72
  go_wp2_with fail
  go_loop [4] (fun i => ∃ k : Nat, k ≤ 32 ∧ i = .int .i64 k ∧ Hid (∀ m, m < k → regT m ≠ s)) (fun i => 32 - (intOf i).toNat)
  case atStart => exact ⟨0, by omega, rfl, fun m hm => absurd hm (Nat.not_lt_zero m)⟩
  case round =>
    obtain ⟨k, hk, rfl, HM⟩ := hrel
    by_cases hlt : k < 32
    · by_cases he : regT k = s
      · have cx := cat_x k
        have hz : ((tx s).toList == (tx (regT k)).toList) = true := by rw [tx_beq]; simpa using he.symm
        have HR := hid (regOf_hit hlt he)
        clear he
        go_wp2_with fail
        refine (itoa_small k (by omega) _).mono ?_
        rintro e w' ⟨rfl, rfl⟩
        go_wp2_with fail
        go_ret2
        exact ⟨ret_pair HR.out.1.symm HR.out.2.symm, rfl⟩
      · have cx := cat_x k
        have hz : ((tx s).toList == (tx (regT k)).toList) = false := tx_eq_false (fun e => he e.symm)
        have HM2 := hid (show ∀ m, m < k + 1 → regT m ≠ s from fun m hm => by
          rcases Nat.lt_succ_iff_lt_or_eq.1 hm with h | h
          · exact HM.out m h
          · subst h; exact he)
        clear he
        go_wp2_with fail
        refine (itoa_small k (by omega) _).mono ?_
        rintro e w' ⟨rfl, rfl⟩
        go_wp2_with fail
        go_round
        case rel => exact ⟨k + 1, by omega, by go_num, HM2⟩
        case measure => simp [intOf]; omega
    · obtain rfl : k = 32 := by omega
      have HR := hid (regOf_miss HM.out)
      go_wp2_with fail
      go_ret2
      exact ⟨ret_pair HR.out.1.symm HR.out.2.symm, rfl⟩
end Go.Proofs.YtigimkgmghjgoaaGreatDoor
namespace Go.Proofs.YtigimkgmghjgoaaGreatDoor
open Go.RowKit
set_option linter.unusedVariables false

theorem run_ix (l : Tx) (k : Nat) (c : UInt8) (hk : l[k]? = some c) : ∀ w, (Instr.index 9 (.string (tx l)) (.int .i64 k)).run Tryz.prog w = .ok (.int .u8 c.toNat) w := by
  intro w
  obtain ⟨hlt, rfl⟩ := List.getElem?_eq_some_iff.1 hk
  have h1 := Tryz.underlying9
  have hs := tx_size l
  simp [Instr.index, asIntOf, run_underlying h1, hs, hlt]
  rfl
theorem run_ixz (l : Tx) (c : UInt8) (hk : l[0]? = some c) : ∀ w, (Instr.index 9 (.string (tx l)) (.int .i64 0)).run Tryz.prog w = .ok (.int .u8 c.toNat) w := run_ix l 0 c hk
theorem u8_ne (c d : UInt8) (h : c ≠ d) : ((c.toNat : Int) != (d.toNat : Int)) = true := by
  simp only [bne_iff_ne, ne_eq]
  intro e
  exact h (UInt8.toNat_inj.1 (by omega))

theorem nameB_cons (c : UInt8) (r : Tx) : nameB (c :: r) = (decide (r.length < 32) && letterC c && r.all nameC) := rfl
theorem nameB_step {l : Tx} {k : Nat} {c : UInt8} (h : l[k]? = some c) (hn : nameC c = false) : nameB l = false := by
  have hm : c ∈ l := List.mem_of_getElem? h
  cases l with
  | nil => rfl
  | cons d r =>
    rw [nameB_cons]
    rcases List.mem_cons.1 hm with rfl | hm
    · have : letterC c = false := by unfold nameC at hn; simp at hn; exact hn.1.1
      rw [this]; simp
    · have : r.all nameC = false := by simp only [List.all_eq_false]; exact ⟨c, hm, by rw [hn]; simp⟩
      rw [this]; simp
theorem nameB_done {c : UInt8} {r : Tx} (hl : r.length < 32) (hc : letterC c = true) (h : ∀ (i : Nat) (x : UInt8), (c :: r)[i]? = some x → nameC x = true) : nameB (c :: r) = true := by
  rw [nameB_cons, hc, decide_eq_true hl]
  simp only [Bool.and_self, Bool.true_and, List.all_eq_true]
  intro x hx
  obtain ⟨i, hi, rfl⟩ := List.mem_iff_getElem.1 hx
  exact h (i + 1) _ (by simp [hi])
set_option maxHeartbeats 800000 in
theorem progNamed (l : Tx) (hl : l.length ≤ 9223372036854775807) (w : World) : Calls Tryz.prog 76 #[.string (tx l)] w fun e w' => e = .returned (.bool (nameB l)) ∧ w = w' := by
  have hs := tx_size l
  cases l with
  | nil =>
    have hs : (tx []).size = 0 := rfl
    go_enter Tryz.func76, Tryz.ntmps76
    go_wp2_with fail
    go_ret
    exact ⟨rfl, rfl⟩
  | cons c r =>
    obtain ⟨n, hn⟩ : ∃ n, (tx (c :: r)).size = n := ⟨_, rfl⟩
    have hn1 : 1 ≤ n := by rw [← hn, hs]; simp
    have hnr : n = r.length + 1 := by rw [← hn, hs]; simp
    have hz : ((n : Int) == 0) = false := by simp; omega
    clear hs hl
    by_cases h32 : n ≤ 32
    · have i0 := run_ixz (c :: r) c rfl
      by_cases hc : letterC c = true
      · have HC := hid hc
        have HR := hid hnr
        clear hc hnr
        go_enter Tryz.func76, Tryz.ntmps76
        go_wp2_with (go_at_call 108; refine (progLetter c _).mono ?_; rintro e w' ⟨rfl, rfl⟩; rw [HC.out])
        go_loop [21] (fun i => ∃ k : Nat, k ≤ n ∧ i = .int .i64 k ∧ Hid (∀ (i : Nat) (x : UInt8), i < k → (c :: r)[i]? = some x → nameC x = true)) (fun i => n - (intOf i).toNat)
        case atStart => exact ⟨0, by omega, rfl, fun i x hi => absurd hi (Nat.not_lt_zero i)⟩
        case round =>
          obtain ⟨k, hk, rfl, HM⟩ := hrel
          by_cases hlt : k < n
          · obtain ⟨x, hx⟩ : ∃ x, (c :: r)[k]? = some x := ⟨_, List.getElem?_eq_getElem (by have := HR.out; simp; omega)⟩
            have ix := run_ix (c :: r) k x hx
            have HX := hid hx
            clear hx
            have HM2 : nameC x = true → Hid (∀ (i : Nat) (y : UInt8), i < k + 1 → (c :: r)[i]? = some y → nameC y = true) := fun hx' i y hi hy => by
              rcases Nat.lt_succ_iff_lt_or_eq.1 hi with h | h
              · exact HM.out i y h hy
              · subst h; rw [HX.out] at hy; cases hy; exact hx'
            have HM2 := hid HM2
            by_cases h1 : letterC x = true
            · have H1 := hid h1
              have HN := hid (HM2.out (by unfold nameC; rw [h1]; rfl))
              clear h1
              go_wp2_with (go_at_call 108; refine (progLetter x _).mono ?_; rintro e w' ⟨rfl, rfl⟩; rw [H1.out])
              go_round
              case rel => exact ⟨k + 1, by omega, by go_num, HN.out⟩
              case measure => simp [intOf]; omega
            · have H1 := hid (Bool.eq_false_iff.2 h1)
              clear h1
              by_cases h2 : digitC x = true
              · have H2 := hid h2
                have HN := hid (HM2.out (by unfold nameC; rw [h2]; simp))
                clear h2
                go_wp2_with (first | (go_at_call 108; refine (progLetter x _).mono ?_; rintro e w' ⟨rfl, rfl⟩; rw [H1.out]) | (go_at_call 109; refine (progDigit x _).mono ?_; rintro e w' ⟨rfl, rfl⟩; rw [H2.out]))
                go_round
                case rel => exact ⟨k + 1, by omega, by go_num, HN.out⟩
                case measure => simp [intOf]; omega
              · have H2 := hid (Bool.eq_false_iff.2 h2)
                clear h2
                by_cases h3 : x = 95
                · subst h3
                  have HN := hid (HM2.out (by decide))
                  have z3 : (((95 : UInt8).toNat : Int) != 95) = false := by decide
                  go_wp2_with (first | (go_at_call 108; refine (progLetter 95 _).mono ?_; rintro e w' ⟨rfl, rfl⟩; rw [H1.out]) | (go_at_call 109; refine (progDigit 95 _).mono ?_; rintro e w' ⟨rfl, rfl⟩; rw [H2.out]))
                  go_round
                  case rel => exact ⟨k + 1, by omega, by go_num, HN.out⟩
                  case measure => simp [intOf]; omega
                · have z3 : ((x.toNat : Int) != 95) = true := u8_ne x 95 h3
                  have HF := hid (nameB_step HX.out (by unfold nameC; rw [H1.out, H2.out]; simpa using h3))
                  clear h3
                  go_wp2_with (first | (go_at_call 108; refine (progLetter x _).mono ?_; rintro e w' ⟨rfl, rfl⟩; rw [H1.out]) | (go_at_call 109; refine (progDigit x _).mono ?_; rintro e w' ⟨rfl, rfl⟩; rw [H2.out]))
                  go_ret
                  exact ⟨ret_bool HF.out.symm, rfl⟩
          · have HF := hid (nameB_done (c := c) (r := r) (by have := HR.out; omega) HC.out (fun i x hi => HM.out i x (by
              have h1 := (List.getElem?_eq_some_iff.1 hi).1
              have := HR.out
              simp at h1; omega) hi))
            go_wp2_with fail
            go_ret
            exact ⟨ret_bool HF.out.symm, rfl⟩
      · have HC := hid (Bool.eq_false_iff.2 hc)
        have HF := hid (show nameB (c :: r) = false by rw [nameB_cons, HC.out]; simp)
        clear hc hnr
        go_enter Tryz.func76, Tryz.ntmps76
        go_wp2_with (go_at_call 108; refine (progLetter c _).mono ?_; rintro e w' ⟨rfl, rfl⟩; rw [HC.out])
        go_ret
        exact ⟨ret_bool HF.out.symm, rfl⟩
    · have HF := hid (show nameB (c :: r) = false by rw [nameB_cons, decide_eq_false (by omega)]; simp)
      clear hnr
      go_enter Tryz.func76, Tryz.ntmps76
      go_wp2_with fail
      go_ret
      exact ⟨ret_bool HF.out.symm, rfl⟩
end Go.Proofs.YtigimkgmghjgoaaGreatDoor
