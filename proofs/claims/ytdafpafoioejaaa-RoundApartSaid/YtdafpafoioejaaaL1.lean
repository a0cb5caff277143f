/- The walks of the statements RoundTurns, RoundLeast, RoundComes, RoundBest. Conditions: what came in lies in memory as read; each slice takes fewer than 2^47 bytes. -/
import Derived.Test.YtdafpafoioejaaaW10
namespace Go.Proofs.Ytdafpafoioejaaa
open Go.RowKit
set_option linter.unusedVariables false

/-- true, and nothing that was there has turned -/
def Tru (w : World) (e : Ending) (w' : World) : Prop := e = .returned (.bool true) ∧ Below w.heap.size w w'

set_option maxHeartbeats 1600000 in
theorem lawRoundTurns (la : List Int) (a : Option Addr) (ca : Nat) (lb : List Int) (b : Option Addr) (cb : Nat) (x : Int) (w : World)
    (ia : Ints w a la) (hca : la.length ≤ ca) (hba : la.length * 8 ≤ 140737488351232) (hwa : ∀ x ∈ la, -9223372036854775808 ≤ x ∧ x ≤ 9223372036854775807)
    (ib : Ints w b lb) (hcb : lb.length ≤ cb) (hbb : lb.length * 8 ≤ 140737488351232) (hwb : ∀ x ∈ lb, -9223372036854775808 ≤ x ∧ x ≤ 9223372036854775807)
    (hx : -9223372036854775808 ≤ x ∧ x ≤ 9223372036854775807) :
    Calls Try.prog 7 #[.slice a la.length ca, .slice b lb.length cb, .int .i64 x] w (Tru w) := by
  clear hwa hwb hx
  go_enter Try.func7, Try.ntmps7
  go_wp2_with fail
  refine (refLent la a ca _ ia hca hba).mono ?_
  rintro e w1 ⟨ac, cc, rfl, oc, E1⟩
  have ia := ia.below E1; have ib := ib.below E1
  have rc := oc.ints.1; have hcc := oc.cap.1
  have B := E1
  go_wp2_with fail
  refine (refLent lb b cb _ ib hcb hbb).mono ?_
  rintro e w2 ⟨ad, cd, rfl, od, E2⟩
  have ia := ia.below E2; have ib := ib.below E2; have rc := rc.below E2
  have rd := od.ints.1; have hcd := od.cap.1
  have B := ext_trans B E2
  go_wp2_with fail
  refine (progCompare la lb _ _ _ _ _ rc.app_left rd.app_left).mono ?_
  rintro e w3 ⟨rfl, q3⟩
  have ia := ia.below q3.below; have ib := ib.below q3.below; have rc := rc.below q3.below; have rd := rd.below q3.below
  have B := ext_trans B q3.below
  go_wp2_with fail
  refine (progTurn la x _ _ _ rc.app_left (by omega) (by omega)).mono ?_
  rintro e w4 ⟨ay, ny, cy, rfl, oy, E4⟩
  obtain ⟨ry, rfl⟩ := oy.ints
  have ia := ia.below E4; have ib := ib.below E4; have rc := rc.below E4; have rd := rd.below E4
  have B := ext_trans B E4
  go_wp2_with fail
  refine (progSame la lb _ _ _ _ _ rc.app_left rd.app_left (by omega) (by omega) (by omega)).mono ?_
  rintro e w5 ⟨rfl, E5⟩
  have ia := ia.below E5; have ib := ib.below E5; have rc := rc.below E5; have rd := rd.below E5; have ry := ry.below E5
  have B := ext_trans B E5
  go_wp2_with fail
  refine (refCompare la lb _ _ _ _ _ ia ib).mono ?_
  rintro e w6 ⟨rfl, q6⟩
  have ia := ia.below q6.below; have ib := ib.below q6.below; have rc := rc.below q6.below; have rd := rd.below q6.below; have ry := ry.below q6.below
  have B := ext_trans B q6.below
  go_wp2_with fail
  refine (refTurn la x _ _ _ ia (by omega)).mono ?_
  rintro e w7 ⟨az, nz, cz, rfl, oz, E7⟩
  obtain ⟨rz, rfl⟩ := oz.ints
  have ia := ia.below E7; have ib := ib.below E7; have rc := rc.below E7; have rd := rd.below E7; have ry := ry.below E7
  have B := ext_trans B E7
  go_wp2_with fail
  refine (refAlike (turn la x) (turn la x) _ _ _ _ _ ry rz).mono ?_
  rintro e w8 ⟨rfl, q8⟩
  rw [decide_eq_true rfl]
  have ia := ia.below q8.below; have ib := ib.below q8.below; have rc := rc.below q8.below; have rd := rd.below q8.below
  have B := ext_trans B q8.below
  go_wp2_with fail
  refine (refSame la lb _ _ _ _ _ ia ib (by omega)).mono ?_
  rintro e w9 ⟨rfl, q9⟩
  have ia := ia.below q9.below; have ib := ib.below q9.below; have rc := rc.below q9.below; have rd := rd.below q9.below
  have B := ext_trans B q9.below
  go_wp2_with fail
  refine (refKept la la _ _ _ _ _ rc ia rfl (by omega) (by omega)).mono ?_
  rintro e w10 ⟨rfl, q10⟩
  rw [decide_eq_true rfl]
  have ib := ib.below q10.below; have rd := rd.below q10.below
  have B := ext_trans B q10.below
  go_wp2_with fail
  refine (refKept lb lb _ _ _ _ _ rd ib rfl (by omega) (by omega)).mono ?_
  rintro e w11 ⟨rfl, q11⟩
  rw [decide_eq_true rfl]
  have B := ext_trans B q11.below
  go_wp2_with fail
  refine (awake_any _).mono ?_
  rintro e w12 ⟨rfl, E12⟩
  have B := ext_trans B E12
  go_wp2_with fail
  go_ret
  exact ⟨rfl, B⟩
end Go.Proofs.Ytdafpafoioejaaa
