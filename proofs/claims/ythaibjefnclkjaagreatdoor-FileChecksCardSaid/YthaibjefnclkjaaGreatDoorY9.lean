/- Tests that come in to a statement by value, as the walks take them. Lemmas of this claim's own; no condition. The walk of the law FileTables. Conditions: the test lies in memory as read; the library's variables as laid. A table's lines: what bytes stand in cells; bars stand below one another. Plain lists; no program, no condition. -/
import Derived.Test.YthaibjefnclkjaaGreatDoorZ2
import Derived.Test.YthaibjefnclkjaaGreatDoorY1
import Derived.Test.YthaibjefnclkjaaGreatDoorZ1
import Derived.Test.YthaibjefnclkjaaGreatDoorRows
import Derived.Lib.SlTrimSet
import Derived.Lib.ItoaNum
import Derived.WalkKit
import Derived.WalkSpells
import Derived.WalkLawsBesides
import Derived.Deep.QuietTactic
import Derived.BigQuiet
import Derived.ProofKit
import Derived.OpenShut
import Derived.ShutString
import Derived.ChangeOld
import Derived.Carry
import Derived.SizedLaws
import Derived.Laws.StructEq
import Derived.Shelf.SlicesQ.Load
import Derived.Deep.Slices
import Derived.Deep.Fields
import Derived.ChangeSame
import Derived.ChangeArms
import Derived.Lib.SmallJoins
import Derived.Test.YthaibjefnclkjaaGreatDoorZ3
import Derived.Lib.SplitLaws
import Derived.Lib.Strings
import Derived.Lib.ItoaMem
import Derived.Shelf.Strings.SlTrimAscii
import Derived.Shelf.Small.Strs
import Derived.Shelf.Strconv.Itoa3
import Derived.Shelf.LaysM
import Derived.Shelf.Strings.Prefix
import Derived.Test.YthaibjefnclkjaaGreatDoorProg
import Derived.Lib.ItoaLen
import Derived.WalkSmall
import Derived.Laws.Concat
import Derived.BigRegion
import Derived.StillTailTactics
import Derived.Deep.RegionWith
import Derived.Lib.AtoiAll
import Derived.Deep.DeepCutAuto
import Derived.Stop.LaidErr
import Derived.Lib.LaidTab
import Derived.Lib.LaidU8
import Derived.Lay
import Derived.MakeChecks
import Derived.ShapedOpen
import Derived.LaidOnce
import Derived.SevenTiedAt
import Derived.Test.YthaibjefnclkjaaGreatDoorY8
import Derived.Test.YthaibjefnclkjaaGreatDoorZ27
import Derived.Test.YthaibjefnclkjaaGreatDoorZ25
import Derived.Test.YthaibjefnclkjaaGreatDoorZ24
import Derived.Test.YthaibjefnclkjaaGreatDoorY7
import Derived.Test.YthaibjefnclkjaaGreatDoorZ23
import Derived.Test.YthaibjefnclkjaaGreatDoorY6
import Derived.Test.YthaibjefnclkjaaGreatDoorZ22
import Derived.Test.YthaibjefnclkjaaGreatDoorZ20
import Derived.Test.YthaibjefnclkjaaGreatDoorY3
import Derived.Test.YthaibjefnclkjaaGreatDoorZ14
import Derived.Test.YthaibjefnclkjaaGreatDoorZ5
import Derived.Test.YthaibjefnclkjaaGreatDoorZ4
import Derived.Maps.OwnSet
import Derived.Maps.Views
import Derived.Lib.Bytealg
import Derived.Test.YthaibjefnclkjaaGreatDoorY2
import Derived.Test.YthaibjefnclkjaaGreatDoorZ12
import Derived.Test.YthaibjefnclkjaaGreatDoorZ7
import Derived.Test.YthaibjefnclkjaaGreatDoorZ6
import Derived.Laws.IdiomCopy
import Derived.Shelf.Sort.Plain
import Derived.Shelf.Slices.In.SortNone
import Derived.Shelf.Slices.CompactS
import Derived.Shelf.Slices.Clone
import Derived.Shelf.SlSortCmp.NoneTotal
import Derived.Shelf.SlicesE.Clone
import Derived.Shelf.Strings.Repeat
import Derived.Test.YthaibjefnclkjaaGreatDoorZ8
import Derived.Test.YthaibjefnclkjaaGreatDoorZ11
import Derived.Test.YthaibjefnclkjaaGreatDoorZ9
import Derived.Test.YthaibjefnclkjaaGreatDoorZ10
import Derived.Lib.QuietBelow
import Derived.Lib.Builder
import Derived.Lib.AppendStr
import Derived.Lib.UnsafeStr
import Derived.Lib.OthersKept
import Derived.Laws.Externs
import Derived.RegionTactic
import Derived.Test.YthaibjefnclkjaaGreatDoorZ13
import Derived.Deep.RegionHeld3
import Derived.Test.YthaibjefnclkjaaGreatDoorY4
import Derived.Test.YthaibjefnclkjaaGreatDoorZ19
import Derived.Test.YthaibjefnclkjaaGreatDoorZ18
import Derived.Test.YthaibjefnclkjaaGreatDoorZ17
import Derived.Test.YthaibjefnclkjaaGreatDoorZ15
import Derived.Test.YthaibjefnclkjaaGreatDoorZ16
import Derived.Test.YthaibjefnclkjaaGreatDoorY5
import Derived.Maps.OwnOps
import Derived.StringKeys
import Derived.Test.YthaibjefnclkjaaGreatDoorZ21
import Derived.Lib.SlicesCompact
import Derived.Sort.OwnSorted
import Derived.DeepKeys5
import Derived.Test.YthaibjefnclkjaaGreatDoorZ26
namespace Go.Proofs.YthaibjefnclkjaaGreatDoor
open Go.ChangeShapes Go.WideShapes Go.Deep Go.RowKit Go.Joins
set_option linter.unusedVariables false

section
variable {H : Type} {enc : TypeId × Value → H} {P : Program} {w : World} {base : Nat} {spare : Nat → Bool} {held : Bool}
theorem fld {n : Nat} {fs : Array Field} {cs : List Value} {xs : List (DataW H × List MemPlace)} (hxl : xs.length = fs.size)
    (hg : ∀ (i : Nat) (f : Field), fs[i]? = some f → DataW.trod enc P w base spare held n f.type ((cs.drop f.offset).take (P.cellsOf f.type)) = xs[i]?)
    (i : Nat) (f : Field) (hf : fs[i]? = some f) (ft : TypeId) (o k : Nat) (h1 : f.type = ft) (h2 : f.offset = o) (h3 : P.cellsOf ft = k) :
    ∃ y, xs[i]? = some y ∧ DataW.trod enc P w base spare held n ft ((cs.drop o).take k) = some y := by
  have hlt := (Array.getElem?_eq_some_iff.1 hf).1
  have hy : xs[i]? = some (xs[i]'(by omega)) := List.getElem?_eq_getElem (by omega)
  have := hg i f hf
  rw [h1, h2, h3, hy] at this
  exact ⟨_, hy, this⟩
/-- rows of whatever encoding, each read by itself -/
theorem rows_of {α : Type} {encA : α → List Value} {m : Nat} {Q : Nat → α → Prop} (hm : ∀ x, (encA x).length = m) (hpos : 0 < m) {a : Addr} {len : Nat} (z : α) (hlen : len ≤ 1000000000000000000)
    (key : ∀ i, i < len → ∃ e : α, Q i e ∧ ∀ j, j < m → w.cell? (a.add (i * m + j)) = (encA e)[j]?) : ∃ l : List α, l.length = len ∧ Els encA w (some a) l ∧ ∀ i e, l[i]? = some e → Q i e := by
  obtain ⟨f, hf⟩ : ∃ f : Nat → α, ∀ i, i < len → Q i (f i) ∧ ∀ j, j < m → w.cell? (a.add (i * m + j)) = (encA (f i))[j]? :=
    ⟨fun i => if h : i < len then Classical.choose (key i h) else z, fun i hil => by simp only [hil, dite_true]; exact Classical.choose_spec (key i hil)⟩
  refine ⟨(List.range len).map f, by simp, ⟨⟨fun hne => ?_, fun i hil => ?_⟩, by simpa using hlen⟩, fun i e he => ?_⟩
  · have h0 : 0 < len := by
      rcases Nat.eq_zero_or_pos len with h0 | h0
      · subst h0; exact absurd rfl hne
      · exact h0
    have h1 := (hf 0 h0).2 0 hpos
    obtain ⟨b, off, spot⟩ := a
    have hc : (encA (f 0))[0]? = some ((encA (f 0))[0]'(by rw [hm]; exact hpos)) := List.getElem?_eq_getElem (by rw [hm]; exact hpos)
    rw [hc] at h1
    have hspot : spot = none := by simpa [Addr.add] using World.cell?_spot h1
    subst hspot; rfl
  · rw [flat_length hm] at hil
    simp only [List.length_map, List.length_range] at hil
    have hi1 : i / m < len := Nat.div_lt_of_lt_mul (by rw [Nat.mul_comm]; exact hil)
    have h0 : 0 < len := Nat.lt_of_le_of_lt (Nat.zero_le _) hi1
    have hx0 := (hf 0 h0).2 0 hpos
    obtain ⟨b, off, spot⟩ := a
    have hc : (encA (f 0))[0]? = some ((encA (f 0))[0]'(by rw [hm]; exact hpos)) := List.getElem?_eq_getElem (by rw [hm]; exact hpos)
    rw [hc] at hx0
    have hspot : spot = none := by simpa [Addr.add] using World.cell?_spot hx0
    subst hspot
    have h1 := (hf (i / m) hi1).2 (i % m) (Nat.mod_lt _ hpos)
    have e1 : i / m * m + i % m = i := Nat.div_add_mod' i m
    have h2 := flat_get hm ((List.range len).map f) (i / m) (i % m) (f (i / m)) (by simp [hi1]) (Nat.mod_lt _ hpos)
    rw [e1] at h1 h2
    rw [Addr.add_lit] at h1
    simp only [bk_some, fo_some]
    rw [h1, h2]
  · rw [List.getElem?_map] at he
    by_cases hi : i < len
    · rw [List.getElem?_range hi] at he
      simp only [Option.map_some, Option.some.injEq] at he
      subst he
      exact (hf i hi).1
    · rw [List.getElem?_eq_none (by simpa using hi)] at he; cases he
/-- a slice, its elements each read by itself -/
theorem slice_raw {t e : TypeId} {fuel m : Nat} {cs : List Value} {x : DataW H × List MemPlace} (ht : P.underlying t = some (.slice e)) (hC : P.cellsOf e = m) (h : DataW.trod enc P w base spare held fuel t cs = some x) :
    (cs = [.slice none 0 0] ∧ x.1 = .nil) ∨ ∃ (a : Addr) (len cap : Nat) (E S : List (DataW H)) (n : Nat), fuel = n + 1 ∧ cs = [.slice (some a) len cap] ∧ len ≤ cap ∧ cap ≤ maxLen ∧ x.1 = .slice E S ∧ E.length = len ∧
      ∀ i, i < len → ∃ (cs' : List Value) (y : DataW H × List MemPlace), cs'.length = m ∧ (∀ j, j < m → w.cell? (a.add (i * m + j)) = cs'[j]?) ∧ DataW.trod enc P w base spare held n e cs' = some y ∧ E[i]? = some y.1 := by
  rcases DataW.trod_slice ht h with ⟨h0, h1⟩ | ⟨a, len, cap, elems, rest, n, hf, hcs, hx, hb, hl, hm, hlen, hel, -, -⟩
  · exact .inl ⟨h0, by rw [h1]⟩
  · refine .inr ⟨a, len, cap, elems.map (·.1), rest.map (·.1), n, hf, hcs, hl, hm, by rw [hx], by rw [List.length_map, hlen], fun i hi => ?_⟩
    have h1 := hel i hi
    rw [List.getElem?_eq_getElem (by omega), hC] at h1
    obtain ⟨cs', hc, ht'⟩ := Option.bind_eq_some_iff.1 h1
    obtain ⟨_, hcl, hat⟩ := World.cells?_some hc
    refine ⟨cs', _, hcl, fun j hj => ?_, ht', by rw [List.getElem?_map, List.getElem?_eq_getElem (by omega)]; rfl⟩
    rw [← Go.Deep.add_add]
    exact hat j hj
end
theorem w_all {H : Type} {P : Program} {e : TypeId} : ∀ {E : List (DataW H)} {d : DataW H}, d ∈ E → ∀ n ∈ d.weights P e, n ∈ DataW.weightsAll P e E
  | x :: r, d, h, n, hn => by
    unfold DataW.weightsAll
    rcases List.mem_cons.1 h with rfl | h
    · exact List.mem_append_left _ hn
    · exact List.mem_append_right _ (w_all h n hn)
theorem w_slice {H : Type} {P : Program} {t e : TypeId} {E S : List (DataW H)} {B b : Nat} (ht : P.underlying t = some (.slice e)) (hb : P.bytesOf e = b) (hw : ∀ k ∈ (DataW.slice E S).weights P t, k ≤ B) :
    E.length * b ≤ B ∧ ∀ d ∈ E, ∀ k ∈ d.weights P e, k ≤ B := by
  simp only [DataW.weights, ht, List.mem_cons, List.mem_append] at hw
  refine ⟨?_, fun d hd k hk => hw k (.inr (.inl (w_all hd k hk)))⟩
  have := hw _ (.inl rfl)
  rw [hb] at this
  have h2 : E.length * b ≤ (E.length + S.length) * b := Nat.mul_le_mul_right _ (by omega)
  omega
theorem w_struct {H : Type} {P : Program} {t : TypeId} {fs : Array Field} {parts : List (DataW H)} {B : Nat} (ht : P.underlying t = some (.struct fs)) (hw : ∀ k ∈ (DataW.agg parts).weights P t, k ≤ B)
    {j : Nat} {f : Field} {d : DataW H} (hf : fs[j]? = some f) (hd : parts[j]? = some d) {ft : TypeId} (hft : f.type = ft) : ∀ k ∈ d.weights P ft, k ≤ B := by
  subst hft
  simp only [DataW.weights, ht] at hw
  exact fun k hk => hw k (DataW.weights_mem_each (j := j) (by rw [List.getElem?_map, Array.getElem?_toList, hf]; rfl) hd k hk)
theorem part_at {H : Type} {xs : List (DataW H × List MemPlace)} {j : Nat} {y : DataW H × List MemPlace} (h : xs[j]? = some y) : (xs.map (·.1))[j]? = some y.1 := by rw [List.getElem?_map, h]; rfl
theorem i64_of {k : Int} (h : (Lit.int .i64 k).wf = true) : I64 k := int_bounds h
section
variable {H : Type} {enc : TypeId × Value → H} {W : World}
abbrev Trd (enc : TypeId × Value → H) (W : World) (n : Nat) (t : TypeId) (cs : List Value) (y : DataW H × List MemPlace) : Prop := DataW.trod enc Tryz.prog W 0 (fun _ => true) true n t cs = some y
theorem rd_str {n : Nat} {cs : List Value} {y : DataW H × List MemPlace} (h : Trd enc W n 9 cs y) : ∃ s : Tx, cs = [.string (tx s)] ∧ s.length ≤ 9223372036854775807 := by
  obtain ⟨s, hs, -, hl⟩ := DataW.trod_string Tryz.underlying9 h
  obtain ⟨t, rfl⟩ := tx_of s
  exact ⟨t, hs, by rw [tx_size] at hl; unfold maxLen at hl; exact hl⟩
theorem rd_int {n : Nat} {cs : List Value} {y : DataW H × List MemPlace} (h : Trd enc W n 3 cs y) : ∃ k : Int, cs = [.int .i64 k] ∧ I64 k := by
  obtain ⟨k, hk, -, hw⟩ := DataW.trod_int Tryz.underlying3 h
  exact ⟨k, hk, i64_of hw⟩
theorem cut1 {v : Value} {cs : List Value} {o : Nat} (h : (cs.drop o).take 1 = [v]) : cs[o]? = some v := by
  have := congrArg (·[0]?) h
  simpa using this
theorem cutk {cs l : List Value} {o k j : Nat} (h : (cs.drop o).take k = l) (hj : j < k) : cs[o + j]? = l[j]? := by
  rw [← h, List.getElem?_take_of_lt hj, List.getElem?_drop]
theorem rd_th {n : Nat} {cs : List Value} {y : DataW H × List MemPlace} (h : Trd enc W n 32 cs y) : ∃ t : Th, cs = cTh t ∧ t.loc.length ≤ 9223372036854775807 ∧ I64 t.thread ∧ I64 t.reg := by
  obtain ⟨xs, m, -, -, hcl, hxl, hg⟩ := DataW.trod_struct Tryz.underlying32 h
  obtain ⟨y0, -, r0⟩ := fld hxl hg 0 _ rfl 3 0 1 rfl rfl (by kernel_rfl)
  obtain ⟨y1, -, r1⟩ := fld hxl hg 1 _ rfl 3 1 1 rfl rfl (by kernel_rfl)
  obtain ⟨y2, -, r2⟩ := fld hxl hg 2 _ rfl 9 2 1 rfl rfl (by kernel_rfl)
  obtain ⟨k0, h0, b0⟩ := rd_int r0
  obtain ⟨k1, h1, b1⟩ := rd_int r1
  obtain ⟨s2, h2, l2⟩ := rd_str r2
  have hc : cs.length = 3 := hcl.trans (by kernel_rfl)
  refine ⟨⟨k0, k1, s2⟩, ?_, l2, b0, b1⟩
  apply List.ext_getElem?
  intro j
  match j with
  | 0 => exact cut1 h0
  | 1 => exact cut1 h1
  | 2 => exact cut1 h2
  | j + 3 => rw [List.getElem?_eq_none (by omega), List.getElem?_eq_none (by simp)]
theorem rd_ini {n : Nat} {cs : List Value} {y : DataW H × List MemPlace} (h : Trd enc W n 64 cs y) : ∃ x : Ini, cs = cIni x ∧ (x.loc.length ≤ 9223372036854775807 ∧ x.vloc.length ≤ 9223372036854775807) ∧ I64 x.thread ∧ I64 x.reg := by
  obtain ⟨xs, m, -, -, hcl, hxl, hg⟩ := DataW.trod_struct Tryz.underlying64 h
  obtain ⟨y0, -, r0⟩ := fld hxl hg 0 _ rfl 3 0 1 rfl rfl (by kernel_rfl)
  obtain ⟨y1, -, r1⟩ := fld hxl hg 1 _ rfl 3 1 1 rfl rfl (by kernel_rfl)
  obtain ⟨y2, -, r2⟩ := fld hxl hg 2 _ rfl 9 2 1 rfl rfl (by kernel_rfl)
  obtain ⟨y3, -, r3⟩ := fld hxl hg 3 _ rfl 62 3 2 rfl rfl (by kernel_rfl)
  obtain ⟨k0, h0, b0⟩ := rd_int r0
  obtain ⟨k1, h1, b1⟩ := rd_int r1
  obtain ⟨s2, h2, l2⟩ := rd_str r2
  obtain ⟨xs', m', -, -, hcl', hxl', hg'⟩ := DataW.trod_struct Tryz.underlying62 r3
  obtain ⟨z0, -, q0⟩ := fld hxl' hg' 0 _ rfl 9 0 1 rfl rfl (by kernel_rfl)
  obtain ⟨z1, -, q1⟩ := fld hxl' hg' 1 _ rfl 3 1 1 rfl rfl (by kernel_rfl)
  obtain ⟨s3, h3, l3⟩ := rd_str q0
  obtain ⟨k4, h4, -⟩ := rd_int q1
  have hc : cs.length = 5 := hcl.trans (by kernel_rfl)
  refine ⟨⟨k0, k1, s2, s3, k4⟩, ?_, ⟨l2, l3⟩, b0, b1⟩
  apply List.ext_getElem?
  intro j
  match j with
  | 0 => exact cut1 h0
  | 1 => exact cut1 h1
  | 2 => exact cut1 h2
  | 3 => have := cut1 h3; rwa [List.getElem?_take_of_lt (by omega), List.getElem?_drop] at this
  | 4 => have := cut1 h4; rwa [List.getElem?_take_of_lt (by omega), List.getElem?_drop] at this
  | j + 5 => rw [List.getElem?_eq_none (by omega), List.getElem?_eq_none (by simp)]
theorem rd_ins {n : Nat} {cs : List Value} {y : DataW H × List MemPlace} (h : Trd enc W n 23 cs y) : ∃ x : Ins, cs = iC x ∧ x.loc.length ≤ 9223372036854775807 ∧ x.label.length ≤ 9223372036854775807 := by
  obtain ⟨xs, m, -, -, hcl, hxl, hg⟩ := DataW.trod_struct Tryz.underlying23 h
  obtain ⟨y0, -, r0⟩ := fld hxl hg 0 _ rfl 3 0 1 rfl rfl (by kernel_rfl)
  obtain ⟨y1, -, r1⟩ := fld hxl hg 1 _ rfl 3 1 1 rfl rfl (by kernel_rfl)
  obtain ⟨y2, -, r2⟩ := fld hxl hg 2 _ rfl 3 2 1 rfl rfl (by kernel_rfl)
  obtain ⟨y3, -, r3⟩ := fld hxl hg 3 _ rfl 3 3 1 rfl rfl (by kernel_rfl)
  obtain ⟨y4, -, r4⟩ := fld hxl hg 4 _ rfl 3 4 1 rfl rfl (by kernel_rfl)
  obtain ⟨y5, -, r5⟩ := fld hxl hg 5 _ rfl 9 5 1 rfl rfl (by kernel_rfl)
  obtain ⟨y6, -, r6⟩ := fld hxl hg 6 _ rfl 9 6 1 rfl rfl (by kernel_rfl)
  obtain ⟨y7, -, r7⟩ := fld hxl hg 7 _ rfl 3 7 1 rfl rfl (by kernel_rfl)
  obtain ⟨k0, h0, -⟩ := rd_int r0
  obtain ⟨k1, h1, -⟩ := rd_int r1
  obtain ⟨k2, h2, -⟩ := rd_int r2
  obtain ⟨k3, h3, -⟩ := rd_int r3
  obtain ⟨k4, h4, -⟩ := rd_int r4
  obtain ⟨s5, h5, l5⟩ := rd_str r5
  obtain ⟨s6, h6, l6⟩ := rd_str r6
  obtain ⟨k7, h7, -⟩ := rd_int r7
  have hc : cs.length = 8 := hcl.trans (by kernel_rfl)
  refine ⟨⟨k0, k1, k2, k3, k4, s5, s6, k7⟩, ?_, l5, l6⟩
  apply List.ext_getElem?
  intro j
  match j with
  | 0 => exact cut1 h0
  | 1 => exact cut1 h1
  | 2 => exact cut1 h2
  | 3 => exact cut1 h3
  | 4 => exact cut1 h4
  | 5 => exact cut1 h5
  | 6 => exact cut1 h6
  | 7 => exact cut1 h7
  | j + 8 => rw [List.getElem?_eq_none (by omega), List.getElem?_eq_none (by simp [iC])]
theorem rd_nd : ∀ (n : Nat) {cs : List Value} {y : DataW H × List MemPlace}, Trd enc W n 35 cs y → (∀ k ∈ y.1.weights Tryz.prog 35, k ≤ reachBytes) → ∃ x : Nd, cs = cN x ∧ NdIn W x := by
  intro n
  induction n using Nat.strongRecOn with
  | _ n ih =>
    intro cs y h hw
    obtain ⟨xs, m, hnm, hy, hcl, hxl, hg⟩ := DataW.trod_struct Tryz.underlying35 h
    obtain ⟨y0, -, r0⟩ := fld hxl hg 0 _ rfl 3 0 1 rfl rfl (by kernel_rfl)
    obtain ⟨y1, -, r1⟩ := fld hxl hg 1 _ rfl 32 1 3 rfl rfl (by kernel_rfl)
    obtain ⟨y2, -, r2⟩ := fld hxl hg 2 _ rfl 3 4 1 rfl rfl (by kernel_rfl)
    obtain ⟨y3, e3, r3⟩ := fld hxl hg 3 _ rfl 33 5 1 rfl rfl (by kernel_rfl)
    obtain ⟨k0, h0, -⟩ := rd_int r0
    obtain ⟨t1, h1, l1, -, -⟩ := rd_th r1
    obtain ⟨k2, h2, -⟩ := rd_int r2
    rw [hy] at hw
    have hw3 := w_struct (j := 3) Tryz.underlying35 hw rfl (part_at e3) (ft := 33) rfl
    have hc : cs.length = 6 := hcl.trans (by kernel_rfl)
    have fin : ∀ (a : Option Addr) (l : List Nd) (c : Nat), (cs.drop 5).take 1 = [.slice a l.length c] → cs = cN (.mk k0 t1 k2 a c l) := fun a l c h3 => by
      apply List.ext_getElem?
      intro j
      match j with
      | 0 => exact cut1 h0
      | 1 => have e := cutk (o := 1) (k := 3) (j := 0) h1 (by omega); exact e
      | 2 => have e := cutk (o := 1) (k := 3) (j := 1) h1 (by omega); exact e
      | 3 => have e := cutk (o := 1) (k := 3) (j := 2) h1 (by omega); exact e
      | 4 => exact cut1 h2
      | 5 => exact cut1 h3
      | j + 6 => rw [List.getElem?_eq_none (by omega), List.getElem?_eq_none (by simp)]
    rcases slice_raw Tryz.underlying33 (show Tryz.prog.cellsOf 35 = 6 by kernel_rfl) r3 with ⟨h3, -⟩ | ⟨a, len, cap, E, S, n', hf, h3, hl, hm, hx3, hEl, hel⟩
    · exact ⟨.mk k0 t1 k2 none 0 [], fin none [] 0 h3, ⟨_, l1, Els.nil _ _, Nat.le_refl _, fun k hk => absurd hk (by simp [Nd.kids])⟩⟩
    · rw [hx3] at hw3
      obtain ⟨hb, hwk⟩ := w_slice Tryz.underlying33 (show Tryz.prog.bytesOf 35 = 72 by kernel_rfl) hw3
      simp only [reachBytes] at hb
      obtain ⟨l, hll, hE, hQ⟩ := rows_of (w := W) (encA := cN) (m := 6) (Q := fun _ x => NdIn W x) cN_len (by omega) (a := a) (len := len) (.mk 0 zTh 0 none 0 []) (by omega) (fun i hi => by
        obtain ⟨cs', y', hcl', hat, ht, he⟩ := hel i hi
        obtain ⟨x, hx, hin⟩ := ih n' (by omega) ht (hwk _ (List.mem_of_getElem? he))
        exact ⟨x, hin, fun j hj => by rw [hat j hj, hx]⟩)
      refine ⟨.mk k0 t1 k2 (some a) cap l, fin _ l _ (by rw [hll]; exact h3), ⟨_, l1, hE, by show l.length ≤ cap; omega, fun x hx => ?_⟩⟩
      obtain ⟨i, hi⟩ := List.mem_iff_getElem?.1 (show x ∈ l from hx)
      exact hQ i x hi
theorem iC_len (x : Ins) : (iC x).length = 8 := rfl
theorem rd_cd {n : Nat} {cs : List Value} {y : DataW H × List MemPlace} (h : Trd enc W n 49 cs y) (hw : ∀ k ∈ y.1.weights Tryz.prog 49, k ≤ reachBytes) : ∃ x : Cd, cs = cCd x ∧ CdIn W x ∧ x.l.length * 80 ≤ 140737488351232 := by
  rcases slice_raw Tryz.underlying49 (show Tryz.prog.cellsOf 23 = 8 by kernel_rfl) h with ⟨h3, -⟩ | ⟨a, len, cap, E, S, n', hf, h3, hl, hm, hx3, hEl, hel⟩
  · exact ⟨⟨none, 0, []⟩, h3, ⟨Is.nil _ _, Nat.le_refl _, fun i hi => absurd hi (by simp)⟩, by simp⟩
  · rw [hx3] at hw
    obtain ⟨hb, -⟩ := w_slice Tryz.underlying49 (show Tryz.prog.bytesOf 23 = 80 by kernel_rfl) hw
    simp only [reachBytes] at hb
    obtain ⟨l, hll, hE, hQ⟩ := rows_of (w := W) (encA := iC) (m := 8) (Q := fun _ (x : Ins) => x.loc.length ≤ 9223372036854775807 ∧ x.label.length ≤ 9223372036854775807) iC_len (by omega) (a := a) (len := len) ins0 (by omega) (fun i hi => by
      obtain ⟨cs', y', hcl', hat, ht, he⟩ := hel i hi
      obtain ⟨x, hx, h1, h2⟩ := rd_ins ht
      exact ⟨x, ⟨h1, h2⟩, fun j hj => by rw [hat j hj, hx]⟩)
    refine ⟨⟨some a, cap, l⟩, by rw [h3, ← hll], ⟨⟨hE.row, hE.len⟩, by show l.length ≤ cap; omega, fun i hi => ?_⟩, by show l.length * 80 ≤ _; rw [hll, ← hEl]; omega⟩
    obtain ⟨q, hq⟩ := List.mem_iff_getElem?.1 hi
    exact hQ q i hq
/-- a test -/
theorem rd_ts {n : Nat} {cs : List Value} {y : DataW H × List MemPlace} (h : Trd enc W n 39 cs y) (hw : ∀ k ∈ y.1.weights Tryz.prog 39, k ≤ reachBytes) : ∃ t : Tst, cs = cT t ∧ TsIn W t ∧ TsSz t := by
  obtain ⟨xs, m, hnm, hy, hcl, hxl, hg⟩ := DataW.trod_struct Tryz.underlying39 h
  obtain ⟨y0, -, r0⟩ := fld hxl hg 0 _ rfl 3 0 1 rfl rfl (by kernel_rfl)
  obtain ⟨y1, -, r1⟩ := fld hxl hg 1 _ rfl 9 1 1 rfl rfl (by kernel_rfl)
  obtain ⟨y2, -, r2⟩ := fld hxl hg 2 _ rfl 9 2 1 rfl rfl (by kernel_rfl)
  obtain ⟨y3, e3, r3⟩ := fld hxl hg 3 _ rfl 29 3 1 rfl rfl (by kernel_rfl)
  obtain ⟨y4, e4, r4⟩ := fld hxl hg 4 _ rfl 30 4 1 rfl rfl (by kernel_rfl)
  obtain ⟨y5, e5, r5⟩ := fld hxl hg 5 _ rfl 37 5 7 rfl rfl (by kernel_rfl)
  rw [hy] at hw
  have hw3 := w_struct (j := 3) Tryz.underlying39 hw rfl (part_at e3) (ft := 29) rfl
  have hw4 := w_struct (j := 4) Tryz.underlying39 hw rfl (part_at e4) (ft := 30) rfl
  have hw5 := w_struct (j := 5) Tryz.underlying39 hw rfl (part_at e5) (ft := 37) rfl
  obtain ⟨k0, h0, -⟩ := rd_int r0
  obtain ⟨s1, h1, l1⟩ := rd_str r1
  obtain ⟨s2, h2, l2⟩ := rd_str r2
  obtain ⟨xs', m', -, hy5, hcl', hxl', hg'⟩ := DataW.trod_struct Tryz.underlying37 r5
  rw [hy5] at hw5
  obtain ⟨z0, -, q0⟩ := fld hxl' hg' 0 _ rfl 3 0 1 rfl rfl (by kernel_rfl)
  obtain ⟨z1, f1, q1⟩ := fld hxl' hg' 1 _ rfl 35 1 6 rfl rfl (by kernel_rfl)
  have hwn := w_struct (j := 1) Tryz.underlying37 hw5 rfl (part_at f1) (ft := 35) rfl
  obtain ⟨kq, hq, -⟩ := rd_int q0
  obtain ⟨nd, hn, hnd⟩ := rd_nd _ q1 hwn
  have hc : cs.length = 12 := hcl.trans (by kernel_rfl)
  obtain ⟨ia, ic, li, h3, hI, hci, hLi, hzi⟩ : ∃ (ia : Option Addr) (ic : Nat) (li : List Ini), (cs.drop 3).take 1 = [.slice ia li.length ic] ∧ Els cIni W ia li ∧ li.length ≤ ic ∧ (∀ x ∈ li, (x.loc.length ≤ 9223372036854775807 ∧ x.vloc.length ≤ 9223372036854775807) ∧ I64 x.thread ∧ I64 x.reg) ∧ li.length * 56 ≤ 140737488351232 := by
    rcases slice_raw Tryz.underlying29 (show Tryz.prog.cellsOf 64 = 5 by kernel_rfl) r3 with ⟨h3, -⟩ | ⟨a, len, cap, E, S, n', hf, h3, hl, hm, hx3, hEl, hel⟩
    · exact ⟨none, 0, [], h3, Els.nil _ _, Nat.le_refl _, fun x hx => absurd hx (by simp), by simp⟩
    · rw [hx3] at hw3
      obtain ⟨hb, -⟩ := w_slice Tryz.underlying29 (show Tryz.prog.bytesOf 64 = 56 by kernel_rfl) hw3
      simp only [reachBytes] at hb
      obtain ⟨l, hll, hE, hQ⟩ := rows_of (w := W) (encA := cIni) (m := 5) (Q := fun _ (x : Ini) => (x.loc.length ≤ 9223372036854775807 ∧ x.vloc.length ≤ 9223372036854775807) ∧ I64 x.thread ∧ I64 x.reg) cIni_len (by omega) (a := a) (len := len) ⟨0, 0, [], [], 0⟩ (by omega) (fun i hi => by
        obtain ⟨cs', y', hcl', hat, ht, he⟩ := hel i hi
        obtain ⟨x, hx, hq⟩ := rd_ini ht
        exact ⟨x, hq, fun j hj => by rw [hat j hj, hx]⟩)
      refine ⟨some a, cap, l, by rw [h3, ← hll], hE, by omega, fun x hx => ?_, by rw [hll, ← hEl]; omega⟩
      obtain ⟨q, hq⟩ := List.mem_iff_getElem?.1 hx
      exact hQ q x hq
  obtain ⟨ca, cc, lc, h4, hC, hcc, hLc, hzc⟩ : ∃ (ca : Option Addr) (cc : Nat) (lc : List Cd), (cs.drop 4).take 1 = [.slice ca lc.length cc] ∧ Els cCd W ca lc ∧ lc.length ≤ cc ∧ (∀ x ∈ lc, CdIn W x ∧ x.l.length * 80 ≤ 140737488351232) ∧ lc.length * 24 ≤ 140737488351232 := by
    rcases slice_raw Tryz.underlying30 (show Tryz.prog.cellsOf 49 = 1 by kernel_rfl) r4 with ⟨h3, -⟩ | ⟨a, len, cap, E, S, n', hf, h3, hl, hm, hx3, hEl, hel⟩
    · exact ⟨none, 0, [], h3, Els.nil _ _, Nat.le_refl _, fun x hx => absurd hx (by simp), by simp⟩
    · rw [hx3] at hw4
      obtain ⟨hb, hwk⟩ := w_slice Tryz.underlying30 (show Tryz.prog.bytesOf 49 = 24 by kernel_rfl) hw4
      simp only [reachBytes] at hb
      obtain ⟨l, hll, hE, hQ⟩ := rows_of (w := W) (encA := cCd) (m := 1) (Q := fun _ (x : Cd) => CdIn W x ∧ x.l.length * 80 ≤ 140737488351232) cCd_len (by omega) (a := a) (len := len) ⟨none, 0, []⟩ (by omega) (fun i hi => by
        obtain ⟨cs', y', hcl', hat, ht, he⟩ := hel i hi
        obtain ⟨x, hx, hq⟩ := rd_cd ht (hwk _ (List.mem_of_getElem? he))
        exact ⟨x, hq, fun j hj => by rw [hat j hj, hx]⟩)
      refine ⟨some a, cap, l, by rw [h3, ← hll], hE, by omega, fun x hx => ?_, by rw [hll, ← hEl]; omega⟩
      obtain ⟨q, hq⟩ := List.mem_iff_getElem?.1 hx
      exact hQ q x hq
  refine ⟨⟨k0, s1, s2, ia, ic, li, ca, cc, lc, kq, nd⟩, ?_, ⟨l1, l2, hI, hci, fun x hx => (hLi x hx).1, fun x hx => (hLi x hx).2, hC, hcc, fun x hx => (hLc x hx).1, hnd⟩, ⟨hzi, hzc, fun x hx => (hLc x hx).2⟩⟩
  have hh : ∀ j, j < 6 → cs[6 + j]? = (cN nd)[j]? := fun j hj => by
    have := cutk (o := 1) (k := 6) (j := j) hn hj
    rw [List.getElem?_take_of_lt (by omega), List.getElem?_drop] at this
    rw [← this]
    congr 1
    omega
  apply List.ext_getElem?
  intro j
  match j with
  | 0 => exact cut1 h0
  | 1 => exact cut1 h1
  | 2 => exact cut1 h2
  | 3 => exact cut1 h3
  | 4 => exact cut1 h4
  | 5 => have := cut1 hq; rwa [List.getElem?_take_of_lt (by omega), List.getElem?_drop] at this
  | 6 => exact hh 0 (by omega)
  | 7 => exact hh 1 (by omega)
  | 8 => exact hh 2 (by omega)
  | 9 => exact hh 3 (by omega)
  | 10 => exact hh 4 (by omega)
  | 11 => exact hh 5 (by omega)
  | j + 12 => rw [List.getElem?_eq_none (by omega), List.getElem?_eq_none (by simp)]
set_option maxRecDepth 100000 in
theorem open_Ts {r : Reach} {b0 : Nat} {v : Value} {d : DataW H} {p : List MemPlace} (hv : Value.okWide Tryz.prog W r b0 39 v)
    (h : DataW.Trod enc Tryz.prog W 0 (fun _ => true) true 39 v d p)
    {ts : List TypeId} {ds : List (DataW H)} (hsz : (DataW.weightsEach Tryz.prog ts ds).all (· ≤ reachBytes) = true) (j : Nat) (htj : ts[j]? = some 39) (hdj : ds[j]? = some d) :
    ∃ t : Tst, v = vT t ∧ TsIn W t ∧ TsSz t := by
  obtain ⟨cs, rfl, -⟩ := okWide_struct Tryz.underlying39 hv
  obtain ⟨fuel, hf⟩ := h
  obtain ⟨t, ht, h1, h2⟩ := rd_ts hf (fun k hk => of_decide_eq_true (List.all_eq_true.1 hsz k (DataW.weights_mem_each htj hdj k hk)))
  refine ⟨t, ?_, h1, h2⟩
  have : cs.toList = cT t := ht
  show Value.agg cs = .agg #[.int .i64 t.arch, .string (tx t.name), .string (tx t.cycle), .slice t.ia t.init.length t.ic, .slice t.ca t.code.length t.cc, .int .i64 t.q, .int .i64 t.node.kind, .int .i64 t.node.th.thread, .int .i64 t.node.th.reg, .string (tx t.node.th.loc), .int .i64 t.node.val, .slice t.node.a t.node.kids.length t.node.c]
  congr 1
  exact Array.toList_inj.1 this
end
end Go.Proofs.YthaibjefnclkjaaGreatDoor
namespace Go.Proofs.YthaibjefnclkjaaGreatDoor
open Go.RowKit Go.Sort
set_option linter.unusedVariables false

theorem of_bare {α : Type} {f : Tst → α} (hf : ∀ t, f (bare t) = f t) {t t' : Tst} (h : bare t' = bare t) : f t' = f t := by rw [← hf t', h, hf]
theorem tabV_bare (t : Tst) : tabV (bare t) = tabV t := by unfold tabV; rw [tstE_bare, tableT_bare]
theorem tabV_len (t : Tst) : (tabV t).length ≤ 1000 := by
  unfold tabV
  split
  · rename_i h
    obtain ⟨-, -, k3, -, -, -⟩ := tst_ok h
    obtain ⟨-, -, k6⟩ := coded_ok k3
    rw [tableT_length, highT_eq]
    have := highL_le k6
    omega
  · simp
theorem r13SameTexts_self (l : List Tx) (a b : Option Addr) (c d : Nat) (w : World) (h1 : Txs w a l) (h2 : Txs w b l) (hl : l.length ≤ 1000000) :
    Calls Tryz.prog 20 #[.slice a l.length c, .slice b l.length d] w (Ret w (.bool true)) := by
  have := r13SameTexts l l a b c d w h1 h2 hl hl
  rwa [decide_eq_true (rfl : l = l)] at this
set_option maxRecDepth 100000 in
set_option maxHeartbeats 3200000 in
theorem lawFileTables (t : Tst) (w : World) (h : TsIn w t) (hz : TsSz t) (g : Gl w) : Calls Tryz.prog 7 #[vT t] w (Ret w (.bool true)) := by
  have A := al w (mkT t)
  have b0 := BxT.new w t
  have HI := hid (h.keep A)
  have HA := hid A
  have HG := hid (g.below A)
  have CP := hid (copy13 t _ (h.keep A) hz)
  have AW := hid awake13
  have hl := tabV_len t
  have R2 := hid (fun (w' : World) (h : TsIn w' t) (g : Gl w') => r13Table t w' h g)
  obtain ⟨L, hL⟩ : ∃ L, tabV t = L := ⟨_, rfl⟩
  obtain ⟨r, hr⟩ : ∃ r, tstE t = r := ⟨_, rfl⟩
  have P1 := hid (fun (t' : Tst) (hb : bare t' = bare t) (w' : World) (h : TsIn w' t') (g : Gl w') => (show Calls Tryz.prog 21 #[vT t'] w' (RetTL w' L r) from by
    have h1 := fileTable t' w' h g
    rw [of_bare tabV_bare hb, of_bare tstE_bare hb, hL, hr] at h1
    exact h1))
  rw [hL, hr] at R2
  rw [hL] at hl
  clear h hz A g hL hr
  go_enter Tryz.func7, Tryz.ntmps7
  go_upto_region 1 with (fail)
  generalize w.alloc (mkT t) = W1 at *
  obtain ⟨c0, c1, c2, c3, c4, c5, c6, c7, c8, c9, c10, c11⟩ := b0.cells
  go_wp2_with fail
  refine CP.out.mono ?_
  rintro e w2 ⟨t', rfl, hb, h', E⟩
  have P1 := hid (P1.out t' hb w2 h' (HG.out.below E))
  obtain ⟨v, hv⟩ : ∃ v, vT t' = v := ⟨_, rfl⟩
  rw [hv] at P1 ⊢
  clear c0 c1 c2 c3 c4 c5 c6 c7 c8 c9 c10 c11 hv CP
  go_wp2_with fail
  refine P1.out.mono ?_
  rintro e w3 ⟨a, c, rfl, o, E3⟩
  have E := E.trans (E3.mono E.size)
  have TX := hid (OwnS.txs o (by omega))
  clear o E3 P1
  obtain ⟨c0, c1, c2, c3, c4, c5, c6, c7, c8, c9, c10, c11⟩ := (b0.below E).cells
  have R2 := hid (R2.out w3 (HI.out.keep E) (HG.out.below E))
  go_wp2_with fail
  refine R2.out.mono ?_
  rintro e w4 ⟨a', c', rfl, o, E4⟩
  have E := E.trans (E4.mono E.size)
  have ST := hid (r13SameTexts_self L a a' c c' w4 (TX.out.below E4) (OwnS.txs o (by omega)) (by omega))
  clear o E4 R2 c0 c1 c2 c3 c4 c5 c6 c7 c8 c9 c10 c11
  go_wp2_with fail
  refine ST.out.mono ?_
  rintro e w5 ⟨rfl, E5⟩
  have E := E.trans (E5.mono E.size)
  have AW := hid (AW.out _ (HG.out.below E))
  go_wp2_with fail
  refine AW.out.mono ?_
  rintro e w6 ⟨rfl, E6⟩
  have E := E.trans (E6.mono E.size)
  go_wp2_with fail
  (try go_simp)
  go_ret
  exact ⟨rfl, HA.out.trans (E.mono HA.out.size)⟩
end Go.Proofs.YthaibjefnclkjaaGreatDoor
namespace Go.Proofs.YthaibjefnclkjaaGreatDoor
set_option linter.unusedVariables false

/-- a byte that a cell may have -/
def cellC (b : UInt8) : Bool := decide (32 ≤ b.toNat) && (decide (b.toNat ≤ 122) && (decide (b.toNat ≠ 59) && decide (b.toNat ≠ 34)))
def CellB (s : Tx) : Prop := ∀ b ∈ s, cellC b = true
theorem CellB.nil : CellB [] := fun b hb => by simp at hb
theorem CellB.app {a b : Tx} (h1 : CellB a) (h2 : CellB b) : CellB (a ++ b) := fun c hc => (List.mem_append.1 hc).elim (h1 c) (h2 c)
theorem CellB.cons {c : UInt8} {b : Tx} (h1 : cellC c = true) (h2 : CellB b) : CellB (c :: b) := fun d hd => by
  rcases List.mem_cons.1 hd with rfl | h
  · exact h1
  · exact h2 d h
theorem CellB.lit {l : Tx} (h : l.all cellC = true) : CellB l := fun b hb => List.all_eq_true.1 h b hb
theorem u8_all {p : UInt8 → Bool} (h : ∀ n : Fin 256, p (UInt8.ofNat n.val) = true) (c : UInt8) : p c = true := by
  have := h ⟨c.toNat, c.toNat_lt⟩
  simpa using this
theorem nameC_cell (c : UInt8) (h : nameC c = true) : cellC c = true := by
  have := u8_all (p := fun c => !nameC c || cellC c) (by decide +kernel) c
  rw [h] at this
  simpa using this
theorem dgt_cell (n : Nat) : cellC (dgt n) = true := by
  have key : ∀ k : Fin 10, cellC (UInt8.ofNat (48 + k.val)) = true := by decide
  exact key ⟨n % 10, Nat.mod_lt _ (by omega)⟩
theorem decN_cell (n : Nat) : CellB (decN n) := by
  unfold decN
  split
  · exact (CellB.nil).cons (dgt_cell _)
  · split
    · exact ((CellB.nil).cons (dgt_cell _)).cons (dgt_cell _)
    · split
      · exact (((CellB.nil).cons (dgt_cell _)).cons (dgt_cell _)).cons (dgt_cell _)
      · exact ((((CellB.nil).cons (dgt_cell _)).cons (dgt_cell _)).cons (dgt_cell _)).cons (dgt_cell _)
theorem decI_cell (n : Int) : CellB (decI n) := by
  unfold decI
  split
  · exact (decN_cell _).cons (by decide)
  · exact decN_cell _
theorem regT_cell (n : Nat) : CellB (regT n) := (decN_cell n).cons (by decide)
theorem rT_cell (n : Int) : CellB (rT n) := regT_cell _
theorem regX_cell_fin : ∀ n : Fin 16, (regX n.val).all cellC = true := by decide +kernel
theorem regX_cell (n : Nat) : CellB (regX n) := by
  by_cases h : n < 16
  · exact CellB.lit (regX_cell_fin ⟨n, h⟩)
  · unfold regX
    rw [List.getD_eq_getElem?_getD, List.getElem?_eq_none (by simp [namesX]; omega)]
    exact CellB.nil
theorem nameB_cell {s : Tx} (h : nameB s = true) : CellB s := by
  cases s with
  | nil => exact CellB.nil
  | cons c r =>
    unfold nameB at h
    simp only [Bool.and_eq_true, decide_eq_true_eq] at h
    refine CellB.cons (nameC_cell c ?_) fun b hb => nameC_cell b (List.all_eq_true.1 h.2 b hb)
    unfold nameC; rw [h.1.2]; rfl
theorem dec_cell (u : Nat) : CellB (Lib.decDigits u) := by
  have key : ∀ k : Fin 10, cellC (UInt8.ofNat (48 + k.val)) = true := by decide
  induction u using Nat.strongRecOn with
  | _ u ih =>
    rw [Lib.decDigits]
    by_cases h : u < 10
    · rw [dif_pos h]
      exact (CellB.nil).cons (key ⟨u, h⟩)
    · rw [dif_neg h]
      exact (ih _ (by omega)).app ((CellB.nil).cons (key ⟨u % 10, Nat.mod_lt _ (by omega)⟩))
theorem itoa_cell (n : Int) : CellB (Lib.itoa n) := by
  unfold Lib.itoa
  split
  · exact (dec_cell _).cons (by decide)
  · exact dec_cell _
theorem fpart_cell (n : Int) : CellB (fpart n) := by
  unfold fpart
  split
  · exact CellB.lit (by decide)
  · split
    · exact CellB.lit (by decide)
    · exact CellB.lit (by decide)
theorem printX_cell {i : Ins} (h : checkX i = true) : CellB (printX i) := by
  unfold checkX okX at h
  unfold printX
  by_cases h1 : i.op = 1
  · rw [if_pos h1] at h ⊢
    simp only [Bool.and_eq_true] at h
    exact (((CellB.lit (by decide)).app (nameB_cell h.1.1)).app (CellB.lit (by decide))).app (itoa_cell _)
  · rw [if_neg h1] at h ⊢
    by_cases h2 : i.op = 2
    · rw [if_pos h2] at h ⊢
      simp only [Bool.and_eq_true] at h
      exact (((CellB.lit (by decide)).app (nameB_cell h.1.1)).app (CellB.lit (by decide))).app (regX_cell _)
    · rw [if_neg h2] at h ⊢
      by_cases h3 : i.op = 3
      · rw [if_pos h3] at h ⊢
        simp only [Bool.and_eq_true] at h
        exact ((((CellB.lit (by decide)).app (regX_cell _)).app (CellB.lit (by decide))).app (nameB_cell h.1.1)).app (CellB.lit (by decide))
      · rw [if_neg h3] at h ⊢
        by_cases h4 : i.op = 4
        · rw [if_pos h4] at h ⊢
          simp only [Bool.and_eq_true] at h
          exact (((CellB.lit (by decide)).app (regX_cell _)).app (CellB.lit (by decide))).app (itoa_cell _)
        · rw [if_neg h4]; exact CellB.lit (by decide)
theorem printI_cell {i : Ins} (h : checkI i = true) : CellB (printI i) := by
  unfold checkI at h
  simp only [Bool.and_eq_true] at h
  obtain ⟨⟨⟨⟨ho, -⟩, hd⟩, ha⟩, hb⟩ := h
  have hl : i.op = 11 ∨ i.op = 12 → CellB i.label := fun e => by
    unfold okI at ho
    rw [if_neg (by omega), if_pos e] at ho
    exact nameB_cell ho
  have L : ∀ {l : Tx}, l.all cellC = true → CellB l := fun h => CellB.lit h
  unfold printI
  by_cases e1 : i.op = 6
  · rw [if_pos e1]; exact (((((L (by decide)).app (rT_cell _)).app (L (by decide))).app (rT_cell _)).app (L (by decide)))
  rw [if_neg e1]
  by_cases e2 : i.op = 7
  · rw [if_pos e2]; exact (((((L (by decide)).app (rT_cell _)).app (L (by decide))).app (rT_cell _)).app (L (by decide)))
  rw [if_neg e2]
  by_cases e3 : i.op = 8
  · rw [if_pos e3]; exact (((((L (by decide)).app (rT_cell _)).app (L (by decide))).app (rT_cell _)).app (L (by decide))).app (decI_cell _)
  rw [if_neg e3]
  by_cases e4 : i.op = 9
  · rw [if_pos e4]; exact (((((L (by decide)).app (rT_cell _)).app (L (by decide))).app (rT_cell _)).app (L (by decide))).app (rT_cell _)
  rw [if_neg e4]
  by_cases e5 : i.op = 10
  · rw [if_pos e5]; exact (((((L (by decide)).app (rT_cell _)).app (L (by decide))).app (rT_cell _)).app (L (by decide))).app (rT_cell _)
  rw [if_neg e5]
  by_cases e6 : i.op = 11
  · rw [if_pos e6]; exact (((((L (by decide)).app (rT_cell _)).app (L (by decide))).app (rT_cell _)).app (L (by decide))).app (hl (.inl e6))
  rw [if_neg e6]
  by_cases e7 : i.op = 12
  · rw [if_pos e7]; exact (hl (.inr e7)).app (L (by decide))
  rw [if_neg e7]
  split
  · exact L (by decide)
  · exact (((L (by decide)).app (fpart_cell _)).app (L (by decide))).app (fpart_cell _)
theorem cellI_cell (arch : Int) (i : Ins) : CellB (cellI arch i).1 := by
  unfold cellI
  split
  · split
    · rename_i h; exact printX_cell h
    · exact CellB.nil
  · split
    · split
      · rename_i h; exact printI_cell h
      · exact CellB.nil
    · exact CellB.nil
theorem colT_cell (arch : Int) (k : Nat) (l : List Ins) : ∀ s ∈ colT arch k l, CellB s := by
  intro s hs
  unfold colT at hs
  rcases List.mem_cons.1 hs with rfl | hs
  · exact (decN_cell k).cons (by decide)
  · obtain ⟨i, -, rfl⟩ := List.mem_map.1 hs
    exact cellI_cell arch i
theorem colT_cellD (arch : Int) (k : Nat) (l : List Ins) (j : Nat) : CellB ((colT arch k l).getD j []) := by
  rw [List.getD_eq_getElem?_getD]
  cases h : (colT arch k l)[j]? with
  | none => exact CellB.nil
  | some s => exact colT_cell arch k l s (List.mem_of_getElem? h)
theorem padT_cell {n : Nat} {s : Tx} (h : CellB s) : CellB (padT n s) := h.app fun b hb => by
  have := (List.mem_replicate.1 hb).2
  subst this; decide
/-! ### bars -/
def maskT (s : Tx) : List Bool := s.map fun b => b == 124
theorem maskT_app (a b : Tx) : maskT (a ++ b) = maskT a ++ maskT b := List.map_append
theorem maskT_cell {s : Tx} (h : CellB s) : maskT s = List.replicate s.length false := by
  unfold maskT
  refine List.eq_replicate_iff.2 ⟨by simp, fun b hb => ?_⟩
  obtain ⟨c, hc, rfl⟩ := List.mem_map.1 hb
  have := h c hc
  cases hq : c == 124 with
  | false => rfl
  | true =>
    have : c = 124 := by simpa using hq
    subst this
    exact absurd (h 124 hc) (by decide)
/-- bars between runs of these lengths -/
def barW : List Nat → List Bool
  | [] => []
  | [n] => List.replicate n false
  | n :: m :: r => List.replicate n false ++ ([false, true, false] ++ barW (m :: r))
theorem barT_mask : ∀ l : List Tx, (∀ s ∈ l, CellB s) → maskT (barT l) = barW (l.map (·.length))
  | [], _ => rfl
  | [x], h => by rw [barT_one, maskT_cell (h x (by simp))]; rfl
  | x :: y :: r, h => by
    rw [barT_two, maskT_app, maskT_app, maskT_cell (h x (by simp)), barT_mask (y :: r) fun s hs => h s (by simp at hs ⊢; exact .inr hs)]
    rfl
theorem barW_count : ∀ l : List Nat, l ≠ [] → (barW l).count true = l.length - 1
  | [], h => absurd rfl h
  | [n], _ => by simp [barW, List.count_replicate]
  | n :: m :: r, _ => by
    have ih := barW_count (m :: r) (by simp)
    unfold barW
    rw [List.count_append, List.count_append, ih, List.count_replicate]
    simp; omega
theorem rowT_lens (i : Nat) (t : Tst) : (rowT i t).map (·.length) = wideT t := by
  refine List.ext_getElem? fun k => ?_
  by_cases hk : k < t.code.length
  · rw [List.getElem?_map, rowT_at i (List.getElem?_eq_getElem hk), wideT_at (List.getElem?_eq_getElem hk)]
    simp only [Option.map_some]
    rw [padT_len]
    congr 1
    have : ((colT t.arch k t.code[k].l).getD i []).length ≤ wideL (colT t.arch k t.code[k].l) := by
      rw [List.getD_eq_getElem?_getD]
      cases h : (colT t.arch k t.code[k].l)[i]? with
      | none => simp
      | some s => exact wideL_mem (List.mem_of_getElem? h)
    omega
  · rw [List.getElem?_eq_none (by rw [List.length_map, rowT_length]; omega), List.getElem?_eq_none (by rw [wideT_length]; omega)]
theorem rowT_cell (i : Nat) (t : Tst) : ∀ s ∈ rowT i t, CellB s := by
  intro s hs
  obtain ⟨k, hk⟩ := List.mem_iff_getElem?.1 hs
  have hlt : k < t.code.length := by rw [← rowT_length i t]; exact (List.getElem?_eq_some_iff.1 hk).1
  rw [rowT_at i (List.getElem?_eq_getElem hlt)] at hk
  simp only [Option.some.injEq] at hk
  subst hk
  exact padT_cell (colT_cellD _ _ _ _)
/-- where bars stand in any line of a table -/
def maskL (t : Tst) : List Bool := [false] ++ barW (wideT t) ++ [false, false]
theorem lineT_mask (i : Nat) (t : Tst) : maskT (lineT i t) = maskL t := by
  rw [lineT_eq, maskT_app, maskT_app, barT_mask _ (rowT_cell i t), rowT_lens]; rfl
theorem maskL_count {t : Tst} (h : 1 ≤ t.code.length) : (maskL t).count true = t.code.length - 1 := by
  unfold maskL
  rw [List.count_append, List.count_append, barW_count _ (by intro e; have := wideT_length t; rw [e] at this; simp at this; omega), wideT_length]
  simp
theorem lineT_length (i : Nat) (t : Tst) : (lineT i t).length = (maskL t).length := by
  have := congrArg List.length (lineT_mask i t)
  unfold maskT at this
  rwa [List.length_map] at this
end Go.Proofs.YthaibjefnclkjaaGreatDoor
