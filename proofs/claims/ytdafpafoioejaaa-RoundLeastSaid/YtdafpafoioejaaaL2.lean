/- The walk of the statement RoundLeast. Conditions: what came in lies in memory as read; each slice takes fewer than 2^47 bytes. -/
import Derived.Test.YtdafpafoioejaaaL1
namespace Go.Proofs.Ytdafpafoioejaaa
open Go.RowKit
set_option linter.unusedVariables false

set_option maxHeartbeats 1600000 in
theorem lawRoundLeast (l : List Int) (a : Option Addr) (ca : Nat) (w : World)
    (ia : Ints w a l) (hca : l.length ≤ ca) (hba : l.length * 8 ≤ 140737488351232) (hwa : ∀ x ∈ l, -9223372036854775808 ≤ x ∧ x ≤ 9223372036854775807) :
    Calls Try.prog 3 #[.slice a l.length ca] w (Tru w) := by
  clear hwa
  go_enter Try.func3, Try.ntmps3
  go_wp2_with fail
  refine (refLent l a ca _ ia hca hba).mono ?_
  rintro e w1 ⟨ac, cc, rfl, oc, E1⟩
  have ia := ia.below E1
  have rc := oc.ints.1; have hcc := oc.cap.1
  have B := E1
  go_wp2_with fail
  refine (progLeast l _ _ _ rc.app_left (by omega)).mono ?_
  rintro e w3 ⟨rfl, q3⟩
  have ia := ia.below q3.below; have rc := rc.below q3.below
  have B := ext_trans B q3.below
  go_wp2_with fail
  refine (progPeriod l _ _ _ rc.app_left (by omega)).mono ?_
  rintro e w4 ⟨rfl, E4⟩
  have ia := ia.below E4; have rc := rc.below E4
  have B := ext_trans B E4
  go_wp2_with fail
  refine (progWords l _ _ _ rc.app_left (by omega)).mono ?_
  rintro e w5 ⟨ay, ny, cy, rfl, oy, E5⟩
  obtain ⟨ry, rfl⟩ := oy.ints
  have ia := ia.below E5; have rc := rc.below E5
  have B := ext_trans B E5
  go_wp2_with fail
  refine (refLeast l _ _ _ ia (by omega)).mono ?_
  rintro e w6 ⟨rfl, q6⟩
  have ia := ia.below q6.below; have rc := rc.below q6.below; have ry := ry.below q6.below
  have B := ext_trans B q6.below
  go_wp2_with fail
  refine (refPeriod l _ _ _ ia (by omega)).mono ?_
  rintro e w7 ⟨rfl, q7⟩
  have ia := ia.below q7.below; have rc := rc.below q7.below; have ry := ry.below q7.below
  have B := ext_trans B q7.below
  go_wp2_with fail
  refine (refWords l _ _ _ ia (by omega)).mono ?_
  rintro e w8 ⟨az, nz, cz, rfl, oz, E8⟩
  obtain ⟨rz, rfl⟩ := oz.ints
  have ia := ia.below E8; have rc := rc.below E8; have ry := ry.below E8
  have B := ext_trans B E8
  go_wp2_with fail
  refine (refAlike (words l) (words l) _ _ _ _ _ ry rz).mono ?_
  rintro e w9 ⟨rfl, q9⟩
  rw [decide_eq_true rfl]
  have ia := ia.below q9.below; have rc := rc.below q9.below
  have B := ext_trans B q9.below
  go_wp2_with fail
  refine (refKept l l _ _ _ _ _ rc ia rfl (by omega) (by omega)).mono ?_
  rintro e w10 ⟨rfl, q10⟩
  rw [decide_eq_true rfl]
  have B := ext_trans B q10.below
  go_wp2_with fail
  refine (awake_any _).mono ?_
  rintro e w12 ⟨rfl, E12⟩
  have B := ext_trans B E12
  go_wp2_with fail
  go_ret
  exact ⟨rfl, B⟩
end Go.Proofs.Ytdafpafoioejaaa
