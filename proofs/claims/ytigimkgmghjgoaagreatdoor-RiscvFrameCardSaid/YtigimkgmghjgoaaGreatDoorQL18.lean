/- The walk of the statement RiscvSums. Condition: the library's variables as the program's text lays them. -/
import Derived.Test.YtigimkgmghjgoaaGreatDoorQr
import Derived.Test.YtigimkgmghjgoaaGreatDoorQs
import Derived.Test.YtigimkgmghjgoaaGreatDoorQMathT
import Derived.Lib.QuietBelow
import Derived.BigQuiet
namespace Go.Proofs.YtigimkgmghjgoaaGreatDoor
open Go.RowKit Go.Sort
set_option linter.unusedVariables false

attribute [local go_sem high] eqI neqI eqV neqV eqAc neqAc
set_option maxRecDepth 100000 in
set_option maxHeartbeats 3200000 in
theorem lawRiscvSums_out (a b imm : Int) (h : ¬ (n32 a ∧ n32 b ∧ -2048 ≤ imm ∧ imm ≤ 2047)) (w : World) (g : Gl w) :
    Calls Tryz.prog 6 #[.int .i64 a, .int .i64 b, .int .i64 imm] w (Ret w (.bool true)) := by
  have AW := hid awake10
  have HG := hid g
  by_cases h0 : a < -2147483648
  · have z0 : decide (a < -2147483648) = true := decide_eq_true h0
    clear h0 h g
    go_enter Tryz.func6, Tryz.ntmps6
    go_wp2_with fail
    refine (AW.out _ HG.out).mono ?_
    rintro e w1 ⟨rfl, E1⟩
    go_wp2_with fail
    go_ret
    exact ⟨rfl, E1⟩
  have z0 : decide (a < -2147483648) = false := decide_eq_false h0
  by_cases h1 : 2147483647 < a
  · have z1 : decide (2147483647 < a) = true := decide_eq_true h1
    clear h1 h g
    go_enter Tryz.func6, Tryz.ntmps6
    go_wp2_with fail
    refine (AW.out _ HG.out).mono ?_
    rintro e w1 ⟨rfl, E1⟩
    go_wp2_with fail
    go_ret
    exact ⟨rfl, E1⟩
  have z1 : decide (2147483647 < a) = false := decide_eq_false h1
  by_cases h2 : b < -2147483648
  · have z2 : decide (b < -2147483648) = true := decide_eq_true h2
    clear h2 h g
    go_enter Tryz.func6, Tryz.ntmps6
    go_wp2_with fail
    refine (AW.out _ HG.out).mono ?_
    rintro e w1 ⟨rfl, E1⟩
    go_wp2_with fail
    go_ret
    exact ⟨rfl, E1⟩
  have z2 : decide (b < -2147483648) = false := decide_eq_false h2
  by_cases h3 : 2147483647 < b
  · have z3 : decide (2147483647 < b) = true := decide_eq_true h3
    clear h3 h g
    go_enter Tryz.func6, Tryz.ntmps6
    go_wp2_with fail
    refine (AW.out _ HG.out).mono ?_
    rintro e w1 ⟨rfl, E1⟩
    go_wp2_with fail
    go_ret
    exact ⟨rfl, E1⟩
  have z3 : decide (2147483647 < b) = false := decide_eq_false h3
  by_cases h4 : imm < -2048
  · have z4 : decide (imm < -2048) = true := decide_eq_true h4
    clear h4 h g
    go_enter Tryz.func6, Tryz.ntmps6
    go_wp2_with fail
    refine (AW.out _ HG.out).mono ?_
    rintro e w1 ⟨rfl, E1⟩
    go_wp2_with fail
    go_ret
    exact ⟨rfl, E1⟩
  have z4 : decide (imm < -2048) = false := decide_eq_false h4
  by_cases h5 : 2047 < imm
  · have z5 : decide (2047 < imm) = true := decide_eq_true h5
    clear h5 h g
    go_enter Tryz.func6, Tryz.ntmps6
    go_wp2_with fail
    refine (AW.out _ HG.out).mono ?_
    rintro e w1 ⟨rfl, E1⟩
    go_wp2_with fail
    go_ret
    exact ⟨rfl, E1⟩
  have z5 : decide (2047 < imm) = false := decide_eq_false h5
  exact absurd ⟨⟨by omega, by omega⟩, ⟨by omega, by omega⟩, by omega, by omega⟩ h
theorem retc {P : Program} {f : FuncId} {args : Array Value} {w : World} {v : Value} (h : Calls P f args w (Ret w v)) : Calls P f args w fun e w' => e = .returned v ∧ Below w.heap.size w w' := h
abbrev sumsO (imm : Int) : Obj := .cells #[.int .i64 10, .int .i64 3, .int .i64 1, .int .i64 2, .int .i64 0, .string ⟨#[]⟩, .string ⟨#[]⟩, .int .i64 0, .int .i64 10, .int .i64 4, .int .i64 2, .int .i64 1, .int .i64 0, .string ⟨#[]⟩, .string ⟨#[]⟩, .int .i64 0, .int .i64 9, .int .i64 5, .int .i64 1, .int .i64 2, .int .i64 0, .string ⟨#[]⟩, .string ⟨#[]⟩, .int .i64 0, .int .i64 9, .int .i64 6, .int .i64 5, .int .i64 2, .int .i64 0, .string ⟨#[]⟩, .string ⟨#[]⟩, .int .i64 0, .int .i64 8, .int .i64 7, .int .i64 1, .int .i64 0, .int .i64 imm, .string ⟨#[]⟩, .string ⟨#[]⟩, .int .i64 0, .int .i64 8, .int .i64 8, .int .i64 7, .int .i64 0, .int .i64 imm, .string ⟨#[]⟩, .string ⟨#[]⟩, .int .i64 0, .int .i64 9, .int .i64 9, .int .i64 2, .int .i64 2, .int .i64 0, .string ⟨#[]⟩, .string ⟨#[]⟩, .int .i64 0, .int .i64 8, .int .i64 0, .int .i64 1, .int .i64 0, .int .i64 1, .string ⟨#[]⟩, .string ⟨#[]⟩, .int .i64 0] 23
theorem Is.sums (imm : Int) (w : World) : Is (w.alloc (sumsO imm)) (some ⟨w.heap.size, 0, none⟩) (sumsC imm) := by
  refine ⟨⟨fun _ => rfl, fun i hi => ?_⟩, by simp [sumsC]⟩
  have hh := heap_alloc_new w (sumsO imm)
  simp only [World.cell?, bk_some, fo_some, hh]
  simp only [Nat.zero_add]
  rw [if_neg (by simp)]
  exact List.getElem?_toArray
theorem SmV.of_ok {l : List Vl} (h : RegsOk l) : SmV l := by
  intro v hv
  have hm := (List.all_eq_true.1 h.2.1) v hv
  unfold mayB at hm
  split at hm
  · rename_i he; rw [he]; simp
  · simp at hm
    have h2 := hm.2
    unfold nameB at h2
    split at h2
    · simp at h2
    · rename_i c r he
      simp at h2
      rw [he]; simp; omega
theorem madeV32 : (madeCells (Value.agg #[.string ByteArray.empty, .int .i64 0]).cells (32 * 2)).toList = valsC (List.replicate 32 vl0) := by kernel_rfl
/-- what a step hands back -/
def RetS (R : List Vl) (q : Int) (w : World) (e : Ending) (w' : World) : Prop := ∃ a c, e = .returned (.tuple #[.agg #[.slice a 32 c, .int .i64 q], .agg #[.int .i64 1, .string ⟨#[]⟩, .int .i64 0, .int .i64 0, .int .i64 0], .int .i64 0]) ∧ OwnV w' w.heap.size a 32 c R ∧ Below w.heap.size w w'
theorem Is.step {w w' : World} {a sa a' : Option Addr} {l : List Ins} (h : Is w a l) (st : Step w w' sa a') (hne : sa = none ∨ bk a ≠ bk sa) : Is w' a l := ⟨h.row.step st (.inr hne), h.len⟩
theorem BxT.newd (w : World) (a : Option Addr) (n c : Nat) (p : Int) (d : Nat) (hd : w.heap.size = d) : BxT (w.alloc (boxT a n c p)) d a n c p := by subst hd; exact BxT.new w a n c p
theorem frozT (w : World) (a : Option Addr) (n c : Nat) (p : Int) (d : Nat) (hd : w.heap.size = d) (j : Nat) : (w.alloc (boxT a n c p)).frozen? ⟨d, j, none⟩ = false := by
  subst hd
  have hh := heap_alloc_new w (boxT a n c p)
  simp only [World.frozen?, hh]; simp
theorem sums0_set (a b : Int) : (((valsC (List.replicate 32 vl0)).set 3 (.int .i64 a)).set 5 (.int .i64 b)).set 19 (.int .i64 77) = valsC (sums0 a b) := rfl
set_option maxRecDepth 100000 in
set_option maxHeartbeats 6400000 in
theorem lawRiscvSums_in (a b imm : Int) (ha : n32 a) (hb : n32 b) (hi : -2048 ≤ imm ∧ imm ≤ 2047) (w : World) (g : Gl w) :
    Calls Tryz.prog 6 #[.int .i64 a, .int .i64 b, .int .i64 imm] w (Ret w (.bool true)) := by
  have AW := hid awake10
  have HG := hid g
  have z0 : decide (a < -2147483648) = false := decide_eq_false (by have := ha.1; have := ha.2; have := hb.1; have := hb.2; omega)
  have z1 : decide (2147483647 < a) = false := decide_eq_false (by have := ha.1; have := ha.2; have := hb.1; have := hb.2; omega)
  have z2 : decide (b < -2147483648) = false := decide_eq_false (by have := ha.1; have := ha.2; have := hb.1; have := hb.2; omega)
  have z3 : decide (2147483647 < b) = false := decide_eq_false (by have := ha.1; have := ha.2; have := hb.1; have := hb.2; omega)
  have z4 : decide (imm < -2048) = false := decide_eq_false (by have := ha.1; have := ha.2; have := hb.1; have := hb.2; omega)
  have z5 : decide (2047 < imm) = false := decide_eq_false (by have := ha.1; have := ha.2; have := hb.1; have := hb.2; omega)
  have PD := hid (fun (k : Nat) (hk : k < 8) (ar : Option Addr) (cr : Nat) (w' : World) (hI : Is w' (some ⟨w.heap.size, 0, none⟩) (sumsC imm)) (hV : Vs w' ar (sumsR a b imm k)) => (show Calls Tryz.prog 25 #[.slice (some ⟨w.heap.size, 0, none⟩) 8 8, .agg #[.slice ar 32 cr, .int .i64 k]] w' (RetS (sumsR a b imm (k + 1)) ((k : Int) + 1) w') from by
    have h := progDo (sumsC imm) (some ⟨w.heap.size, 0, none⟩) 8 (sumsR a b imm k) ar cr k (by simp [sumsC]) (by intro i hi'; simp [sumsC] at hi'; rcases hi' with rfl | rfl | rfl | rfl | rfl | rfl | rfl | rfl <;> simp) (SmV.of_ok (sumsR_ok imm ha hb k)) w' hI hV
    rw [sums_step ha hb hi k hk, (sumsR_ok imm ha hb k).1] at h
    unfold RetDo at h
    simp only [(sumsR_ok imm ha hb (k + 1)).1] at h
    exact h))
  have HOK := hid (fun k => sumsR_ok imm ha hb k)
  have HA := hid ha; have HB := hid hb
  have i0 := Is.sums imm w
  have E0 := al w (sumsO imm)
  clear g hi ha hb
  go_enter Tryz.func6, Tryz.ntmps6
  go_wp2_with (at_make; go_loud (refine wpList_mk vsl _ _ rfl rfl 32 rfl rfl (by omega) (by omega) (by omega) (by unfold maxLen; omega) (Below.refl _ (w.alloc (sumsO imm))) (Nat.le_refl _) ?_))
  intro ar w1 o1 st1 B1
  have hlo := (Own.lt o1 (Own.some o1 (by omega))).1
  have o1 : Own w1 w.heap.size 50 2 ar 32 32 (valsC (List.replicate 32 vl0)) := Own.mono (by have h := o1; have e := madeV32; simp only [Value.cells] at e; rw [← e]; exact h) (by simp)
  have hn := Own.some o1 (by omega)
  have hlt := Own.lt o1 hn
  have B1 : Below (w.alloc (sumsO imm)).heap.size (w.alloc (sumsO imm)) w1 := by simpa using B1
  have i1 := i0.below B1
  have hs1 : w.heap.size + 1 ≤ w1.heap.size := by have := B1.size; simpa using this
  have E1 := ext_trans E0 B1
  have c3 : w1.cell? ⟨bk ar, fo ar + 2 + 1, none⟩ = some (.int .i64 0) := o1.row.cell 3 (by rw [valsC_length]; simp)
  have c5 : w1.cell? ⟨bk ar, fo ar + 4 + 1, none⟩ = some (.int .i64 0) := o1.row.cell 5 (by rw [valsC_length]; simp)
  have c19 : w1.cell? ⟨bk ar, fo ar + 18 + 1, none⟩ = some (.int .i64 0) := o1.row.cell 19 (by rw [valsC_length]; simp)
  have f3 : w1.frozen? ⟨bk ar, fo ar + 2 + 1, none⟩ = false := Own.frozen o1 hn 3
  have f5 : w1.frozen? ⟨bk ar, fo ar + 4 + 1, none⟩ = false := Own.frozen o1 hn 5
  have f19 : w1.frozen? ⟨bk ar, fo ar + 18 + 1, none⟩ = false := Own.frozen o1 hn 19
  have x1 : ∀ c w', (Instr.indexAt 40 (.slice ar 32 c) (.int .i64 1)).run Tryz.prog w' = .ok (.pointer (some ⟨bk ar, fo ar + 2, none⟩)) w' := (OwnV.vs o1 (by simp)).idx 1 (by simp)
  have x2 : ∀ c w', (Instr.indexAt 40 (.slice ar 32 c) (.int .i64 2)).run Tryz.prog w' = .ok (.pointer (some ⟨bk ar, fo ar + 4, none⟩)) w' := (OwnV.vs o1 (by simp)).idx 2 (by simp)
  have x9 : ∀ c w', (Instr.indexAt 40 (.slice ar 32 c) (.int .i64 9)).run Tryz.prog w' = .ok (.pointer (some ⟨bk ar, fo ar + 18, none⟩)) w' := (OwnV.vs o1 (by simp)).idx 9 (by simp)
  obtain ⟨q1, t1⟩ := Own.set o1 hn 3 (.int .i64 a)
  obtain ⟨q2, t2⟩ := Own.set q1 hn 5 (.int .i64 b)
  obtain ⟨q3, t3⟩ := Own.set q2 hn 19 (.int .i64 77)
  rw [sums0_set] at q3
  have st := (t1.trans t2).trans t3
  have hs4 := st.grown.size
  have E4 := st.below o1 E1 E1.size
  have i4 : Is (((w1.setCell ⟨bk ar, fo ar + 3, none⟩ (.int .i64 a)).setCell ⟨bk ar, fo ar + 5, none⟩ (.int .i64 b)).setCell ⟨bk ar, fo ar + 19, none⟩ (.int .i64 77)) (some ⟨w.heap.size, 0, none⟩) (sumsC imm) := Is.step i1 st (.inr (by simp at hlo ⊢; omega))
  have hltb : bk ar < w1.heap.size := hlt.2
  clear q1 q2 t1 t2 t3 st1 i0 E0
  go_wp2_with fail
  go_loopw [9] (fun i wr => ∃ (k : Nat) (ar : Option Addr) (cr : Nat), k ≤ 8 ∧ i = .int .i64 k ∧ BxT wr w1.heap.size ar 32 cr k ∧ (∀ j, wr.frozen? ⟨w1.heap.size, j, none⟩ = false) ∧ OwnV wr w.heap.size ar 32 cr (sumsR a b imm k) ∧ Is wr (some ⟨w.heap.size, 0, none⟩) (sumsC imm) ∧ Below w.heap.size w wr) (fun i _ => 8 - (intOf i).toNat)
  case atStart => exact ⟨0, ar, 32, Nat.zero_le _, rfl, BxT.newd _ ar 32 32 0 _ (by simp), frozT _ ar 32 32 0 _ (by simp), Own.below q3 (al _ _), i4.below (al _ _), E4.trans ((al _ _).mono E4.size)⟩
  case round =>
    clear o1 q3 hn hlt B1 i1 E1 c3 c5 c19 f3 f5 f19 x1 x2 x9 st hs4 E4 i4 hlo hltb
    obtain ⟨k, ar, cr, hk, rfl, D, fz, oR, I, E⟩ := hrel
    by_cases hlt : k < 8
    · have V := OwnV.vs oR (by rw [(HOK.out k).1]; omega)
      have hd := D.1
      obtain ⟨d, d0, d1⟩ := D
      have hwk : IntKind.i64.wrap ((k : Int) + 1) = (k : Int) + 1 := IntWalk.i64_in _ (by omega)
      have zk : (((k : Int) + 1) != ((k : Int) + 1)) = false := by simp
      go_wp2_with fail
      refine (PD.out k hlt ar cr _ I V).mono ?_
      rintro e w2 ⟨aR, cR, rfl, oR2, E2⟩
      have D := (show BxT wr w1.heap.size ar 32 cr k from ⟨d, d0, d1⟩).below E2
      have fz2 : ∀ j, w2.frozen? ⟨w1.heap.size, j, none⟩ = false := fun j => by rw [E2.frozen (p := ⟨w1.heap.size, j, none⟩) hd]; exact fz j
      have hlo2 := (Own.lt oR2 (Own.some oR2 (by omega))).1
      have I2 := I.below E2
      have EE := E.trans (E2.mono E.size)
      have DD := hid D
      obtain ⟨d', d0', d1'⟩ := D
      have hcode : w.heap.size < w1.heap.size := by omega
      have FZ : ∀ (o p : Obj) (j : Nat), ((((w2.setCell ⟨w1.heap.size, 0, none⟩ (.slice aR 32 cR)).setCell ⟨w1.heap.size, 1, none⟩ (.int .i64 ((k : Int) + 1))).alloc o).alloc p).frozen? ⟨w1.heap.size, j, none⟩ = false := fun o p j => by
        rw [(al _ p).frozen (p := ⟨w1.heap.size, j, none⟩) (by simp; omega), (al _ o).frozen (p := ⟨w1.heap.size, j, none⟩) (by simp; omega), World.frozen?_setCell, World.frozen?_setCell]; exact fz2 j
      have II : ∀ (o p : Obj), Is ((((w2.setCell ⟨w1.heap.size, 0, none⟩ (.slice aR 32 cR)).setCell ⟨w1.heap.size, 1, none⟩ (.int .i64 ((k : Int) + 1))).alloc o).alloc p) (some ⟨w.heap.size, 0, none⟩) (sumsC imm) := fun o p => by
        have hb : Below w1.heap.size w2 ((w2.setCell ⟨w1.heap.size, 0, none⟩ (.slice aR 32 cR)).setCell ⟨w1.heap.size, 1, none⟩ (.int .i64 ((k : Int) + 1))) := ((Below.refl w1.heap.size w2).setCell (Nat.le_refl _) _).setCell (Nat.le_refl _) _
        exact ((show Is _ _ _ from ⟨I2.row.belowB (fun _ => by simpa using hcode) hb, I2.len⟩).below (al _ o)).below (al _ p)
      have hO : aR = none ∨ bk aR ≠ w1.heap.size := .inr (by omega)
      have OO : ∀ (o p : Obj), OwnV ((((w2.setCell ⟨w1.heap.size, 0, none⟩ (.slice aR 32 cR)).setCell ⟨w1.heap.size, 1, none⟩ (.int .i64 ((k : Int) + 1))).alloc o).alloc p) w.heap.size aR 32 cR (sumsR a b imm (k + 1)) := fun o p =>
        Own.below (Own.below (own_other (own_other (Own.mono oR2 E.size) hO) hO) (al _ o)) (al _ p)
      have DP : ∀ (o p : Obj), BxT ((((w2.setCell ⟨w1.heap.size, 0, none⟩ (.slice aR 32 cR)).setCell ⟨w1.heap.size, 1, none⟩ (.int .i64 ((k : Int) + 1))).alloc o).alloc p) w1.heap.size aR 32 cR ((k : Int) + 1) := fun o p => ((DD.out.put aR 32 cR ((k : Int) + 1)).allocO o).allocO p
      have FZ := hid FZ; have II := hid II; have OO := hid OO; have DP := hid DP
      clear d d0 d1 fz oR I E V I2 DD oR2
      go_wp2_with fail
      go_roundw
      case rel => exact ⟨k + 1, aR, cR, by omega, by go_num, DP.out _ _, FZ.out _ _, OO.out _ _, II.out _ _, (by repeat (first | with_reducible assumption | with_reducible exact Below.refl _ _ | with_reducible refine bel_alloc ?_ _ | with_reducible refine bel_drew ?_ | with_reducible refine bel_set ?_ (by dsimp only; omega) _))⟩
      case measure => simp [intOf]; omega
    · obtain rfl : k = 8 := by omega
      obtain ⟨d, d0, d1⟩ := D
      have hab : -4294967296 ≤ a + b ∧ a + b ≤ 4294967294 := by have h1 := HA.out; have h2 := HB.out; unfold n32 at h1 h2; omega
      have hwab : IntKind.i64.wrap (a + b) = a + b := IntWalk.i64_in _ (by omega)
      have HOR := hid oR
      have HEE := hid E
      clear I oR fz
      go_wp2_with fail
      generalize wr = wv at *
      go_loopw [13] (fun s wr => ∃ (x : Int), s = .int .i64 x ∧ x % 4294967296 = (a + b) % 4294967296 ∧ -4294967296 ≤ x ∧ x ≤ 4294967294 ∧ wr = wv) (fun s _ => (intOf s + 4294967296).toNat)
      case atStart => exact ⟨a + b, rfl, rfl, hab.1, hab.2, rfl⟩
      case round =>
        obtain ⟨x, rfl, hm, hx1, hx2, rfl⟩ := hrel
        by_cases hgt : 2147483647 < x
        · have hwx : IntKind.i64.wrap (x - 4294967296) = x - 4294967296 := IntWalk.i64_in _ (by omega)
          go_wp2_with fail
          go_roundw
          case rel => exact ⟨x - 4294967296, by first | rfl | trivial | go_num, by omega, by omega, by omega, by first | rfl | trivial⟩
          case measure => simp [intOf]; omega
        · have hgt : x ≤ 2147483647 := by omega
          go_wp2_with fail
          generalize wr = wv at *
          go_loopw [13] (fun s wr => ∃ (x : Int), s = .int .i64 x ∧ x % 4294967296 = (a + b) % 4294967296 ∧ -4294967296 ≤ x ∧ x ≤ 2147483647 ∧ wr = wv) (fun s _ => (2147483648 - intOf s).toNat)
          case atStart => exact ⟨x, rfl, hm, hx1, hgt, rfl⟩
          case round =>
            clear hm hx1 hx2 hgt
            obtain ⟨y, rfl, hm, hx1, hx2, rfl⟩ := hrel
            by_cases hlt : y < -2147483648
            · have hwx : IntKind.i64.wrap (y + 4294967296) = y + 4294967296 := IntWalk.i64_in _ (by omega)
              go_wp2_with fail
              go_roundw
              case rel => exact ⟨y + 4294967296, by first | rfl | trivial | go_num, by omega, by omega, by omega, by first | rfl | trivial⟩
              case measure => simp [intOf]; omega
            · have hlt : -2147483648 ≤ y := by omega
              have hy : add32 a b = y := add32_eq hlt hx2 hm
              obtain ⟨s0, s3, s4, s5, s6, s7, s8, s9⟩ := sums_at a b imm
              rw [xor_back b HA.out] at s6
              rw [or_twice] at s8
              rw [add32_comm b a, hy] at s4
              rw [hy] at s3
              generalize or32 a imm = m at *
              generalize xor32 a b = v at *
              have oR := HOR.out
              have V := OwnV.vs oR (by rw [(HOK.out 8).1]; omega)
              have hl32 := (HOK.out 8).1
              have ix0 : ∀ c w', (Instr.indexAt 40 (.slice ar 32 c) (.int .i64 0)).run Tryz.prog w' = .ok (.pointer (some ⟨bk ar, fo ar, none⟩)) w' := by have h := V.idx 0 (by omega); rw [hl32] at h; exact h
              obtain ⟨p0, r0⟩ := V.cells s0
              have p0 : wr.cell? ⟨bk ar, fo ar, none⟩ = some (.string ⟨#[]⟩) := p0
              have r0 : wr.cell? ⟨bk ar, fo ar + 1, none⟩ = some (.int .i64 0) := r0
              have ix3 : ∀ c w', (Instr.indexAt 40 (.slice ar 32 c) (.int .i64 3)).run Tryz.prog w' = .ok (.pointer (some ⟨bk ar, fo ar + 6, none⟩)) w' := by have h := V.idx 3 (by omega); rw [hl32] at h; exact h
              obtain ⟨p3, r3⟩ := V.cells s3
              have p3 : wr.cell? ⟨bk ar, fo ar + 6, none⟩ = some (.string ⟨#[]⟩) := p3
              have r3 : wr.cell? ⟨bk ar, fo ar + 6 + 1, none⟩ = some (.int .i64 y) := r3
              have ix4 : ∀ c w', (Instr.indexAt 40 (.slice ar 32 c) (.int .i64 4)).run Tryz.prog w' = .ok (.pointer (some ⟨bk ar, fo ar + 8, none⟩)) w' := by have h := V.idx 4 (by omega); rw [hl32] at h; exact h
              obtain ⟨p4, r4⟩ := V.cells s4
              have p4 : wr.cell? ⟨bk ar, fo ar + 8, none⟩ = some (.string ⟨#[]⟩) := p4
              have r4 : wr.cell? ⟨bk ar, fo ar + 8 + 1, none⟩ = some (.int .i64 y) := r4
              have ix5 : ∀ c w', (Instr.indexAt 40 (.slice ar 32 c) (.int .i64 5)).run Tryz.prog w' = .ok (.pointer (some ⟨bk ar, fo ar + 10, none⟩)) w' := by have h := V.idx 5 (by omega); rw [hl32] at h; exact h
              obtain ⟨p5, r5⟩ := V.cells s5
              have p5 : wr.cell? ⟨bk ar, fo ar + 10, none⟩ = some (.string ⟨#[]⟩) := p5
              have r5 : wr.cell? ⟨bk ar, fo ar + 10 + 1, none⟩ = some (.int .i64 v) := r5
              have ix6 : ∀ c w', (Instr.indexAt 40 (.slice ar 32 c) (.int .i64 6)).run Tryz.prog w' = .ok (.pointer (some ⟨bk ar, fo ar + 12, none⟩)) w' := by have h := V.idx 6 (by omega); rw [hl32] at h; exact h
              obtain ⟨p6, r6⟩ := V.cells s6
              have p6 : wr.cell? ⟨bk ar, fo ar + 12, none⟩ = some (.string ⟨#[]⟩) := p6
              have r6 : wr.cell? ⟨bk ar, fo ar + 12 + 1, none⟩ = some (.int .i64 a) := r6
              have ix7 : ∀ c w', (Instr.indexAt 40 (.slice ar 32 c) (.int .i64 7)).run Tryz.prog w' = .ok (.pointer (some ⟨bk ar, fo ar + 14, none⟩)) w' := by have h := V.idx 7 (by omega); rw [hl32] at h; exact h
              obtain ⟨p7, r7⟩ := V.cells s7
              have p7 : wr.cell? ⟨bk ar, fo ar + 14, none⟩ = some (.string ⟨#[]⟩) := p7
              have r7 : wr.cell? ⟨bk ar, fo ar + 14 + 1, none⟩ = some (.int .i64 m) := r7
              have ix8 : ∀ c w', (Instr.indexAt 40 (.slice ar 32 c) (.int .i64 8)).run Tryz.prog w' = .ok (.pointer (some ⟨bk ar, fo ar + 16, none⟩)) w' := by have h := V.idx 8 (by omega); rw [hl32] at h; exact h
              obtain ⟨p8, r8⟩ := V.cells s8
              have p8 : wr.cell? ⟨bk ar, fo ar + 16, none⟩ = some (.string ⟨#[]⟩) := p8
              have r8 : wr.cell? ⟨bk ar, fo ar + 16 + 1, none⟩ = some (.int .i64 m) := r8
              have ix9 : ∀ c w', (Instr.indexAt 40 (.slice ar 32 c) (.int .i64 9)).run Tryz.prog w' = .ok (.pointer (some ⟨bk ar, fo ar + 18, none⟩)) w' := by have h := V.idx 9 (by omega); rw [hl32] at h; exact h
              obtain ⟨p9, r9⟩ := V.cells s9
              have p9 : wr.cell? ⟨bk ar, fo ar + 18, none⟩ = some (.string ⟨#[]⟩) := p9
              have r9 : wr.cell? ⟨bk ar, fo ar + 18 + 1, none⟩ = some (.int .i64 0) := r9
              have EQ : ∀ (z : Int) w, (binOp .eql 50 (.agg #[.string ⟨#[]⟩, .int .i64 z]) (.agg #[.string ⟨#[]⟩, .int .i64 z])).run Tryz.prog w = .ok (.bool true) w := fun z w => by
                have h := eqV (vn z) (vn z) w
                rw [decide_eq_true rfl] at h; exact h
              have hbl : bk ar < wr.heap.size := V.lt (k := 0) (by omega)
              have zy : (y == y) = true := by simp
              have za : (a == a) = true := by simp
              have cA := fun (d : Nat) (os : Array Obj) => Calls.regrown_of (retc (AW.out (grow (redrawn wr d) os) (HG.out.below (HEE.out.trans ((below_regrown wr d os).mono HEE.out.size)))))
              clear s0 s3 s4 s5 s6 s7 s8 s9 V oR hl32 hm hx1 hx2 hlt hy
              go_wp2_with fail
              have p0 := cell_regrown p0; have r0 := cell_regrown r0
              have p3 := cell_regrown p3; have r3 := cell_regrown r3
              have p4 := cell_regrown p4; have r4 := cell_regrown r4
              have p5 := cell_regrown p5; have r5 := cell_regrown r5
              have p6 := cell_regrown p6; have r6 := cell_regrown r6
              have p7 := cell_regrown p7; have r7 := cell_regrown r7
              have p8 := cell_regrown p8; have r8 := cell_regrown r8
              have p9 := cell_regrown p9; have r9 := cell_regrown r9
              refine wp_region_quiet_below (by kernel_rfl) (by kernel_rfl) ?_
              repeat (go_big_quiet_step (exact cA _ _))
              refine wpQuiet_nil ?_
              intro _ hw'
              obtain ⟨⟨dq, osq⟩, hw''⟩ := hw'
              subst hw''
              have EQ' := below_regrown wr dq osq
              have EZ := HEE.out.trans (EQ'.mono HEE.out.size)
              generalize grow (redrawn wr dq) osq = wq at *
              clear p0 p3 p4 p5 p6 p7 p8 p9 r0 r3 r4 r5 r6 r7 r8 r9 ix0 ix3 ix4 ix5 ix6 ix7 ix8 ix9 cA
              go_wp2_with fail
              go_ret
              exact ⟨rfl, EZ⟩
theorem lawRiscvSums (a b imm : Int) (w : World) (g : Gl w) : Calls Tryz.prog 6 #[.int .i64 a, .int .i64 b, .int .i64 imm] w (Ret w (.bool true)) := by
  by_cases h : n32 a ∧ n32 b ∧ -2048 ≤ imm ∧ imm ≤ 2047
  · exact lawRiscvSums_in a b imm h.1 h.2.1 h.2.2 w g
  · exact lawRiscvSums_out a b imm h w g
end Go.Proofs.YtigimkgmghjgoaaGreatDoor
