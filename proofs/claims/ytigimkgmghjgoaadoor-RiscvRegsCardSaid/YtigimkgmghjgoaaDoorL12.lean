/- The walk of the statement RiscvRegs. Condition: the library's variables as the program's text lays them. -/
import Derived.Test.YtigimkgmghjgoaaDoorR17
namespace Go.Proofs.YtigimkgmghjgoaaDoor
open Go.RowKit
set_option linter.unusedVariables false

set_option maxRecDepth 100000 in
set_option maxHeartbeats 1600000 in
theorem lawRegs (n : Int) (s t : Tx) (x p q : Int) (w : World) (g : Gl w)
    (R1 : ∀ w, Calls Tryd.prog 5 #[.int .i64 n] w fun e w' => e = .returned (.tuple #[.string (tx t), .int .i64 x]) ∧ w = w')
    (R2 : ∀ w, Calls Tryd.prog 6 #[.int .i64 n] w fun e w' => e = .returned (.tuple #[.string (tx t), .int .i64 x]) ∧ w = w')
    (R3 : ∀ w, Calls Tryd.prog 7 #[.string (tx s)] w fun e w' => e = .returned (.tuple #[.int .i64 p, .int .i64 q]) ∧ w = w')
    (R4 : ∀ w, Calls Tryd.prog 8 #[.string (tx s)] w fun e w' => e = .returned (.tuple #[.int .i64 p, .int .i64 q]) ∧ w = w') :
    Calls Tryd.prog 3 #[.int .i64 n, .string (tx s)] w (Ret w (.bool true)) := by
  have H1 := hid R1; have H2 := hid R2; have H3 := hid R3; have H4 := hid R4
  have AW := hid (awake10 w g)
  have z1 : ((tx t).toList == (tx t).toList) = true := by simp
  have z2 : (x == x) = true := by simp
  have z3 : (p == p) = true := by simp
  have z4 : (q == q) = true := by simp
  clear R1 R2 R3 R4 g
  go_enter Tryd.func3, Tryd.ntmps3
  go_wp2_with fail
  refine (H1.out _).mono ?_
  rintro e w1 ⟨rfl, rfl⟩
  go_wp2_with fail
  refine (H2.out _).mono ?_
  rintro e w1 ⟨rfl, rfl⟩
  go_wp2_with fail
  refine (H3.out _).mono ?_
  rintro e w1 ⟨rfl, rfl⟩
  go_wp2_with fail
  refine (H4.out _).mono ?_
  rintro e w1 ⟨rfl, rfl⟩
  go_wp2_with fail
  refine AW.out.mono ?_
  rintro e w1 ⟨rfl, E⟩
  go_wp2_with fail
  go_ret
  exact ⟨rfl, E⟩
theorem lawRiscvRegs (n : Int) (s : Tx) (w : World) (g : Gl w) : Calls Tryd.prog 3 #[.int .i64 n, .string (tx s)] w (Ret w (.bool true)) := by
  cases h : regB n
  · exact lawRegs n s [] 90 _ _ w g (progReg_no n h) (refReg_no n h) (progRegOf s) (refRegOf s)
  · obtain ⟨k, hk, rfl⟩ := regB_nat h
    exact lawRegs k s (regT k) 0 _ _ w g (progReg k hk) (refReg k hk) (progRegOf s) (refRegOf s)
end Go.Proofs.YtigimkgmghjgoaaDoor
