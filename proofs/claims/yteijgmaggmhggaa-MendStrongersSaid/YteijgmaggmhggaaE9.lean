/- The walks of within, reads, may, costs (the program's). Conditions: none but those that each theorem names. -/
import Derived.Test.YteijgmaggmhggaaE8
namespace Go.Proofs.Yteijgmaggmhggaa
open Go.RowKit
set_option linter.unusedVariables false

attribute [local go_sem high] eqE neqE

def okP (e f a b : Int) : Prop := ordersF e a b = true → ordersF f a b = true
theorem withinF_iff (e f : Int) : withinF e f = true ↔ (okP e f 1 1 ∧ okP e f 1 2) ∧ (okP e f 2 1 ∧ okP e f 2 2) := by
  unfold withinF okP
  cases ordersF e 1 1 <;> cases ordersF f 1 1 <;> cases ordersF e 1 2 <;> cases ordersF f 1 2 <;> cases ordersF e 2 1 <;> cases ordersF f 2 1 <;> cases ordersF e 2 2 <;> cases ordersF f 2 2 <;> simp
set_option maxHeartbeats 1600000 in
theorem progWithin (e f : Int) (w : World) : Calls Try.prog 45 #[.int .i64 e, .int .i64 f] w fun x w' => x = .returned (.bool (withinF e f)) ∧ w = w' := by
  go_enter Try.func45, Try.ntmps45
  go_wp2_with fail
  go_loop [5] (fun i => ∃ a : Int, 1 ≤ a ∧ a ≤ 3 ∧ i = .int .i64 a ∧ Hid (∀ x, 1 ≤ x → x < a → okP e f x 1 ∧ okP e f x 2)) (fun i => (3 - intOf i).toNat)
  case atStart => exact ⟨1, by omega, by omega, rfl, hid (fun x h1 h2 => by omega)⟩
  case round =>
    obtain ⟨a, ha1, ha3, rfl, HA⟩ := hrel
    by_cases hlt : a ≤ 2
    · go_wp2_with fail
      go_loop [6] (fun j => ∃ b : Int, 1 ≤ b ∧ b ≤ 3 ∧ j = .int .i64 b ∧ Hid (∀ x, 1 ≤ x → x < b → okP e f a x)) (fun j => (3 - intOf j).toNat)
      case atStart => exact ⟨1, by omega, by omega, rfl, hid (fun x h1 h2 => by omega)⟩
      case round =>
        obtain ⟨b, hb1, hb3, rfl, HB⟩ := hrel
        by_cases hlb : b ≤ 2
        · cases h1 : ordersF e a b
          · have H1 := hid h1
            clear h1
            go_wp2_with (go_at_call 61; refine (progOrders _ _ _ (by omega) (by omega) _).mono ?_; rintro e' w7 ⟨rfl, rfl⟩; rw [H1.out])
            go_round
            case rel => exact ⟨b + 1, by omega, by omega, rfl, hid (fun x h1 h2 => by
              by_cases h : x = b
              · subst h; intro h3; rw [H1.out] at h3; cases h3
              · exact HB.out x h1 (by omega))⟩
            case measure => simp [intOf]; omega
          · have H1 := hid h1
            clear h1
            cases h2 : ordersF f a b
            · have H2 := hid h2
              clear h2
              go_wp2_with (go_at_call 61; refine (progOrders _ _ _ (by omega) (by omega) _).mono ?_; rintro e' w7 ⟨rfl, rfl⟩; first | rw [H1.out] | rw [H2.out])
              go_ret
              refine ⟨ret_bool ?_, rfl⟩
              cases hw : withinF e f
              · rfl
              · obtain ⟨⟨q1, q2⟩, ⟨q3, q4⟩⟩ := (withinF_iff e f).1 hw
                have ea : a = 1 ∨ a = 2 := by omega
                have eb : b = 1 ∨ b = 2 := by omega
                have : okP e f a b := by rcases ea with rfl | rfl <;> rcases eb with rfl | rfl <;> assumption
                have := this H1.out
                rw [H2.out] at this; cases this
            · have H2 := hid h2
              clear h2
              go_wp2_with (go_at_call 61; refine (progOrders _ _ _ (by omega) (by omega) _).mono ?_; rintro e' w7 ⟨rfl, rfl⟩; first | rw [H1.out] | rw [H2.out])
              go_round
              case rel => exact ⟨b + 1, by omega, by omega, rfl, hid (fun x h1 h2 => by
                by_cases h : x = b
                · subst h; exact fun _ => H2.out
                · exact HB.out x h1 (by omega))⟩
              case measure => simp [intOf]; omega
        · go_wp2_with fail
          go_round
          case rel => exact ⟨a + 1, by omega, by omega, rfl, hid (fun x h1 h2 => by
            by_cases h : x = a
            · subst h; exact ⟨HB.out 1 (by omega) (by omega), HB.out 2 (by omega) (by omega)⟩
            · exact HA.out x h1 (by omega))⟩
          case measure => simp [intOf]; omega
    · go_wp2_with fail
      go_ret
      exact ⟨ret_bool ((withinF_iff e f).2 ⟨HA.out 1 (by omega) (by omega), HA.out 2 (by omega) (by omega)⟩).symm, rfl⟩
set_option maxHeartbeats 1600000 in
theorem progReads (f : Edge) (both : Bool) (w : World) : Calls Try.prog 46 #[vE f, .bool both] w (Ret w (.bool (readsE f both))) := by
  have B0 := al w (.cells #[.int .i64 f.kind, .bool f.ext, .bool f.same, .int .i64 f.src, .int .i64 f.dst, .int .i64 f.fence] 23)
  by_cases h5 : f.kind = 5
  · have g5 : (f.kind == 5) = true := by simp [h5]
    cases h1 : ordersF f.fence 1 2
    · have e : readsE f both = false := by unfold readsE; rw [h1]; simp
      rw [e]
      have H1 := hid h1
      clear e h1 h5
      go_enter Try.func46, Try.ntmps46
      go_wp2_with (go_at_call 61; refine (progOrders _ _ _ (by omega) (by omega) _).mono ?_; rintro e' w7 ⟨rfl, rfl⟩; rw [H1.out])
      go_ret
      exact ⟨rfl, B0⟩
    · cases both
      · have e : readsE f false = true := by unfold readsE; rw [h1, g5]; simp
        rw [e]
        have H1 := hid h1
        clear e h1 h5
        go_enter Try.func46, Try.ntmps46
        go_wp2_with (go_at_call 61; refine (progOrders _ _ _ (by omega) (by omega) _).mono ?_; rintro e' w7 ⟨rfl, rfl⟩; rw [H1.out])
        go_ret
        exact ⟨rfl, B0⟩
      · have e : readsE f true = ordersF f.fence 1 1 := by unfold readsE; rw [h1, g5]; simp
        rw [e]
        have H1 := hid h1
        clear e h1 h5
        obtain ⟨r, hr⟩ : ∃ r, ordersF f.fence 1 1 = r := ⟨_, rfl⟩
        have HR := hid hr
        rw [hr]
        clear hr
        go_enter Try.func46, Try.ntmps46
        go_wp2_with (go_at_call 61; refine (progOrders _ _ _ (by omega) (by omega) _).mono ?_; rintro e' w7 ⟨rfl, rfl⟩; first | rw [H1.out] | rw [HR.out])
        go_ret
        exact ⟨rfl, B0⟩
  · have g5 : (f.kind == 5) = false := by simp [h5]
    have e : readsE f both = false := by unfold readsE; rw [g5]; simp
    rw [e]
    clear e h5
    go_enter Try.func46, Try.ntmps46
    go_wp2_with fail
    go_ret
    exact ⟨rfl, B0⟩
end Go.Proofs.Yteijgmaggmhggaa
