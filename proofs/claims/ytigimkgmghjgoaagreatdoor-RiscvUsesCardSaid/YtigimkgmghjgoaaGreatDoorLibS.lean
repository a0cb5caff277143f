/- The library's functions on texts: Itoa, Atoi, Trim, HasSuffix, IndexByte, Split. Conditions: lengths below the form's reach; the library's variables as the program's text lays them, where a contract names them. -/
import Derived.Test.YtigimkgmghjgoaaGreatDoorLibR
import Derived.Test.YtigimkgmghjgoaaGreatDoorMathR3
import Derived.Test.YtigimkgmghjgoaaGreatDoorSh
import Derived.WalkSmall
import Derived.Laws.Concat
namespace Go.Proofs.YtigimkgmghjgoaaGreatDoor
open Go.RowKit Go.Sort
set_option linter.unusedVariables false

theorem below_grow (w : World) (k : Nat) (os : Array Obj) : Below w.heap.size w (grow (w.drewN k) os) :=
  ⟨rfl, rfl, rfl, by simp [grow], fun j hj => by simp [grow, Array.getElem?_append, hj]⟩

/-- the name of the table of powers of ten -/
noncomputable def powN : String := (Tryz.prog.globals.getD 0 default).name
/-- the library's variables that are read, as the program's text lays them -/
structure Gl (w : World) : Prop where
  pow : Lib.TabIs Tryz.prog w powN .u64 Lib.pow10Tab
  maxLen : ∃ m, w.cell? ⟨Tryz.m146_ren.g 1, 0, none⟩ = some (.int .i64 m)
  syn : ∃ tp p, w.var? Tryz.prog "strconv.ErrSyntax" = some #[.iface tp p]
  rng : ∃ tp p, w.var? Tryz.prog "strconv.ErrRange" = some #[.iface tp p]
theorem var?_lt {P : Program} {w : World} {n : String} {g : Nat} {cs : Array Value} (hg : P.globalNamed n = some g) (h : w.var? P n = some cs) : g < w.heap.size := by
  simp only [World.var?, hg, Option.bind_some] at h
  rcases Nat.lt_or_ge g w.heap.size with h' | h'
  · exact h'
  · rw [Array.getElem?_eq_none h'] at h; cases h
theorem Gl.below {w w' : World} (h : Gl w) (hb : Below w.heap.size w w') : Gl w' := by
  obtain ⟨h1, ⟨m, h2⟩, ⟨tp, p, h3⟩, ⟨tq, q, h4⟩⟩ := h
  have g1 : Tryz.prog.globalNamed powN = some 0 := by kernel_rfl
  have g3 : Tryz.prog.globalNamed "strconv.ErrSyntax" = some 1 := by kernel_rfl
  have g4 : Tryz.prog.globalNamed "strconv.ErrRange" = some 2 := by kernel_rfl
  exact ⟨var?_below hb g1 (var?_lt g1 h1) h1, ⟨m, by rw [hb.cell (cell?_lt h2)]; exact h2⟩, ⟨tp, p, var?_below hb g3 (var?_lt g3 h3) h3⟩, ⟨tq, q, var?_below hb g4 (var?_lt g4 h4) h4⟩⟩

theorem itoa_small (n : Nat) (h : n < 100) (w : World) : Calls Tryz.prog 33 #[.int .i64 n] w fun e w' => e = .returned (.string (tx (decN n))) ∧ w = w' := by
  refine (Any.strconv_Itoa_small Tryz.l171 n h w).mono fun e w' hh => ⟨?_, hh.2.symm⟩
  rw [hh.1, decDigits_decN (by omega)]; rfl
theorem itoa_any (n : Int) (h0 : -9223372036854775808 ≤ n) (h1 : n ≤ 9223372036854775807) (w : World) (g : Gl w) : Calls Tryz.prog 33 #[.int .i64 n] w (Ret w (.string (tx (Lib.itoa n)))) := by
  refine (Any.strconv_Itoa Tryz.m171 n h0 h1 w (Eq.mp (congrArg (fun s => Lib.TabIs Tryz.prog w s .u64 Lib.pow10Tab) (by kernel_rfl)) g.pow)).mono fun e w' hh => ?_
  obtain ⟨he, k, os, rfl⟩ := hh
  exact ⟨he, below_grow w k os⟩
theorem trim_any (l : Tx) (hl : l.length ≤ 9223372036854775807) (w : World) : Calls Tryz.prog 64 #[.string (tx l), .string ⟨#[32, 9, 10, 13]⟩] w (Ret w (.string (tx (trimT l)))) := by
  refine (Any.strings_Trim_laid Tryz.l160 (by kernel_rfl) (tx l) ⟨#[32, 9, 10, 13]⟩ w (by rw [tx_size]; exact hl) (by decide) (ascii_of_all (by decide))).mono fun e w' hh => ⟨?_, hh.2⟩
  rw [hh.1, tx_data]; rfl
theorem suffix_any (l : Tx) (c : UInt8) (hl : l.length ≤ 9223372036854775807) (w : World) : Calls Tryz.prog 38 #[.string (tx l), .string ⟨#[c]⟩] w fun e w' => e = .returned (.bool (l.getLast? == some c)) ∧ w = w' := by
  refine (Any.strings_HasSuffix Tryz.l100 (tx l) ⟨#[c]⟩ w (by rw [tx_size]; exact hl)).mono fun e w' hh => ⟨?_, hh.2.symm⟩
  rw [hh.1, tx_data, show (⟨#[c]⟩ : ByteArray).data.toList = [c] from rfl, hasSuffix_one]
theorem indexByte_any (l : Tx) (w : World) : Calls Tryz.prog 135 #[.string (tx l), .int .u8 40] w fun e w' => e = .returned (.int .i64 (Lib.indexByte l 40)) ∧ w = w' := by
  refine (Any.strings_IndexByte Tryz.l137 (tx l) 40 w).mono fun e w' hh => ⟨?_, hh.2.symm⟩
  rw [hh.1, tx_data]; rfl

/-- texts that are read -/
structure Txs (w : World) (a : Option Addr) (l : List Tx) : Prop where
  row : Row w a (l.map fun x => Value.string (tx x))
  len : l.length ≤ 1000000000000000000
theorem Txs.below {w w' : World} {a : Option Addr} {l : List Tx} (h : Txs w a l) (hb : Below w.heap.size w w') : Txs w' a l := ⟨h.row.below hb, h.len⟩
theorem Txs.cell {w : World} {a : Option Addr} {l : List Tx} (h : Txs w a l) (k : Nat) (hk : k < l.length) : w.cell? ⟨bk a, fo a + k, none⟩ = some (.string (tx l[k])) := by
  have := h.row.cell k (by simpa using hk)
  simpa [hk] using this
theorem txl : ElT Tryz.prog 67 9 (.string ByteArray.empty) 1 16 := ⟨Tryz.underlying67, by kernel_rfl, rfl, by decide⟩
theorem Txs.idx {w : World} {a : Option Addr} {l : List Tx} (h : Txs w a l) (k : Nat) (hk : k < l.length) :
    ∀ c w', (Instr.indexAt 67 (.slice a l.length c) (.int .i64 k)).run Tryz.prog w' = .ok (.pointer (some ⟨bk a, fo a + k, none⟩)) w' := by
  intro c
  have := run_idx (c := c) (n := l.length) (m := 1) h.row txl.und txl.cells txl.isSome (by simp) (by omega) k hk .i64
  simpa using this
theorem split_any (l : Tx) (hl : l.length ≤ 1000000) (w : World) (g : Gl w) : Calls Tryz.prog 41 #[.string (tx l), .string ⟨#[44]⟩] w fun e w' => ∃ a, e = .returned (.slice a (splitC 44 l).length (splitC 44 l).length) ∧ Txs w' a (splitC 44 l) ∧ Below w.heap.size w w' := by
  obtain ⟨m, hm⟩ := g.maxLen
  refine (Any.strings_Split { Tryz.m146 with } Tryz.m146.i9 (tx l) ⟨#[44]⟩ m w (by rw [tx_size]; omega) hm (by decide)).mono fun e w' hh => ?_
  obtain ⟨he, rfl⟩ := hh
  have hc : Lib.countB (tx l) ⟨#[44]⟩ = Lib.count l [44] := by unfold Lib.countB; rw [tx_data]
  have hd := Lib.splitB_data ⟨#[44]⟩ 0 (Lib.count l [44]) (tx l)
  rw [tx_data, show (⟨#[44]⟩ : ByteArray).data.toList = [44] from rfl, splitK_one] at hd
  have hlen : Lib.count l [44] + 1 = (splitC 44 l).length := by
    rw [← hd, List.length_map, Lib.splitB_all ⟨#[44]⟩ (by decide) 0 _ _ hc]
  have hmap : (Lib.splitB ⟨#[44]⟩ 0 (Lib.count l [44]) (tx l)).map Value.string = (splitC 44 l).map fun x => Value.string (tx x) := by
    rw [← hd, List.map_map]
    refine List.map_congr_left fun x _ => ?_
    simp [tx]
  rw [hc, hlen] at he
  rw [hc, hmap]
  refine ⟨some ⟨w.heap.size, 0, none⟩, he, ⟨⟨fun _ => rfl, fun i hi => ?_⟩, by have := splitC_length_le 44 l; omega⟩, (Below.refl _ _).alloc (Nat.le_refl _) _⟩
  have hh := heap_alloc_new w (.cells ((splitC 44 l).map fun x => Value.string (tx x)).toArray (Tryz.m146_ren.t 9))
  simp only [World.cell?, bk_some, fo_some]
  rw [hh]
  simp
theorem atoi_ok (l : Tx) (hl : l.length ≤ 1000000) (v : Int) (h : Lib.atoiAll l = .ok v) (w : World) : Calls Tryz.prog 69 #[.string (tx l)] w (Ret w (.tuple #[.int .i64 v, .nilIface])) := by
  refine (Any.strconv_Atoi_ok Tryz.c172 (tx l) (by rw [tx_size]; omega) v (by rw [tx_data]; exact h) w).mono fun e w' hh => ⟨hh.1, ?_⟩
  rcases hh.2 with rfl | ⟨t, rfl⟩
  · exact Below.refl _ _
  · exact Lib.bytesWorld_below _ _ _
theorem atoi_bad (l : Tx) (hl : l.length ≤ 1000000) (h : ∀ v, Lib.atoiAll l ≠ .ok v) (w : World) (g : Gl w) : Calls Tryz.prog 69 #[.string (tx l)] w fun e w' => ∃ n tp p, e = .returned (.tuple #[.int .i64 n, .iface tp p]) ∧ Below w.heap.size w w' := by
  obtain ⟨tp, p, hs⟩ := g.syn
  obtain ⟨tq, q, hr⟩ := g.rng
  rcases ha : Lib.atoiAll l with v | _ | _
  · exact absurd ha (h v)
  · refine (Any.strconv_Atoi_syntax_var Tryz.c172 (tx l) (by rw [tx_size]; omega) (by rw [tx_data]; exact ha) tp p w hs).mono fun e w' hh => ?_
    obtain ⟨N, he, -, -, hb⟩ := hh
    exact ⟨_, _, _, he, hb⟩
  · refine (Any.strconv_Atoi_range_var Tryz.c172 (tx l) (by rw [tx_size]; omega) (by rw [tx_data]; exact ha) tq q w hr).mono fun e w' hh => ?_
    obtain ⟨N, he, -, -, hb⟩ := hh
    exact ⟨_, _, _, he, hb⟩
theorem run_cat (a b : Tx) (h : a.length + b.length ≤ 9223372036854775807) : ∀ w, (Op.stringOp .add (tx a) (tx b)).run Tryz.prog w = .ok (.string (tx (a ++ b))) w := fun w => by
  rw [run_string_add_sum w _ _ (by rw [tx_size, tx_size]; exact h), tx_app]
end Go.Proofs.YtigimkgmghjgoaaGreatDoor
