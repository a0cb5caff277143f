/- The walk of the statement MendOrder. Conditions: what came in lies in memory as read; each slice takes fewer than 2^47 bytes. -/
import Derived.Test.YteijgmaggmhggaaL9
import Derived.Test.YteijgmaggmhggaaMathO
namespace Go.Proofs.Yteijgmaggmhggaa
open Go.RowKit
set_option linter.unusedVariables false

attribute [local go_sem high] eqE neqE

theorem same26 (a b : List Edge) (a1 a2 : Option Addr) (c1 c2 : Nat) (w : World) (h1 : Es w a1 a) (h2 : Es w a2 b) : Calls Try.prog 19 #[.slice a1 a.length c1, .slice a2 b.length c2] w (RetQ w (.bool (decide (a = b)))) := by
  go_enter Try.func19, Try.ntmps19
  go_wp2_with fail
  refine (refAlikeE a b a1 a2 c1 c2 _ h1 h2).mono ?_
  rintro x w1 ⟨rfl, q⟩
  go_wp2_with fail
  go_ret
  exact ⟨rfl, q⟩
/-- what the answers of Weaker have of each other -/
structure Ord (arch : Int) (a b c : List Edge) : Prop where
  self : weakB arch a a = (weakN arch a a == 0)
  trans : weakN arch a b = 0 → weakN arch b c = 0 → weakN arch a c = 0 → weakB arch a b = true → weakB arch b c = true → weakB arch a c = true
  anti : weakN arch a b = 0 → weakN arch b a = 0 → weakB arch a b = true → weakB arch b a = true → a = b
theorem weak_zero {arch : Int} {a b : List Edge} (h : weakN arch a b = 0) : givenN arch a = 0 ∧ givenN arch b = 0 ∧ weakB arch a b = allMay a b := by
  unfold weakN at h
  by_cases g1 : givenN arch a = 0
  · rw [if_neg (by omega)] at h
    exact ⟨g1, h, by unfold weakB; rw [if_neg (by omega), if_neg (by omega)]⟩
  · rw [if_pos g1] at h; exact absurd h g1
theorem given_zero {arch : Int} {a : List Edge} (h : givenN arch a = 0) : isArch arch ∧ ∀ e ∈ a, errA arch e = 0 := by
  unfold givenN at h
  by_cases ha : isArch arch
  · rw [if_pos ha] at h; exact ⟨ha, firstErr_zero h⟩
  · rw [if_neg ha] at h; omega
theorem ord (arch : Int) (a b c : List Edge) : Ord arch a b c := by
  refine ⟨?_, fun h1 h2 h3 t1 t2 => ?_, fun h1 h2 t1 t2 => ?_⟩
  · unfold weakB weakN
    by_cases g : givenN arch a = 0
    · rw [if_neg (by omega), if_neg (by omega), if_neg (by omega), allMay_refl, g]; rfl
    · rw [if_pos g, if_pos g]; simpa using g
  · rw [(weak_zero h3).2.2]; rw [(weak_zero h1).2.2] at t1; rw [(weak_zero h2).2.2] at t2
    exact allMay_trans t1 t2
  · obtain ⟨g1, g2, e1⟩ := weak_zero h1
    obtain ⟨-, -, e2⟩ := weak_zero h2
    rw [e1] at t1; rw [e2] at t2
    exact allMay_anti (given_zero g1).1 (given_zero g1).2 (given_zero g2).2 t1 t2
set_option maxRecDepth 100000 in
set_option maxHeartbeats 6400000 in
theorem lawMendOrder (arch : Int) (a : List Edge) (a1 : Option Addr) (c1 : Nat) (b : List Edge) (a2 : Option Addr) (c2 : Nat) (c : List Edge) (a3 : Option Addr) (c3 : Nat) (w : World)
    (h1 : Es w a1 a) (hc1 : a.length ≤ c1) (hb1 : a.length * 40 ≤ 140737488351232) (h2 : Es w a2 b) (hc2 : b.length ≤ c2) (hb2 : b.length * 40 ≤ 140737488351232) (h3 : Es w a3 c) (hc3 : c.length ≤ c3) (hb3 : c.length * 40 ≤ 140737488351232) :
    Calls Try.prog 5 #[.int .i64 arch, .slice a1 a.length c1, .slice a2 b.length c2, .slice a3 c.length c3] w (Tru w) := by
  clear hc1 hb1 hc2 hb2 hc3 hb3
  have O := hid (ord arch a b c)
  have O1 := hid (ord arch a b c).self
  go_enter Try.func5, Try.ntmps5
  go_wp2_with fail
  refine (progWeaker arch a a a1 a1 c1 c1 _ h1 h1).mono ?_
  rintro x w1 ⟨rfl, E1⟩
  have h1 := h1.below E1; have h2 := h2.below E1; have h3 := h3.below E1; have B := E1
  go_wp2_with fail
  refine (progWeaker arch a b a1 a2 c1 c2 _ h1 h2).mono ?_
  rintro x w2 ⟨rfl, E2⟩
  have h1 := h1.below E2; have h2 := h2.below E2; have h3 := h3.below E2; have B := ext_trans B E2
  go_wp2_with fail
  refine (progWeaker arch b c a2 a3 c2 c3 _ h2 h3).mono ?_
  rintro x w3 ⟨rfl, E3⟩
  have h1 := h1.below E3; have h2 := h2.below E3; have h3 := h3.below E3; have B := ext_trans B E3
  go_wp2_with fail
  refine (progWeaker arch a c a1 a3 c1 c3 _ h1 h3).mono ?_
  rintro x w4 ⟨rfl, E4⟩
  have h1 := h1.below E4; have h2 := h2.below E4; have h3 := h3.below E4; have B := ext_trans B E4
  go_wp2_with fail
  refine (progWeaker arch b a a2 a1 c2 c1 _ h2 h1).mono ?_
  rintro x w5 ⟨rfl, E5⟩
  have h1 := h1.below E5; have h2 := h2.below E5; have h3 := h3.below E5; have B := ext_trans B E5
  go_wp2_with fail
  refine (refWeaker arch a a a1 a1 c1 c1 _ h1 h1).mono ?_
  rintro x w6 ⟨rfl, E6⟩
  have h1 := h1.below E6; have h2 := h2.below E6; have h3 := h3.below E6; have B := ext_trans B E6
  have HT := hid O.out.trans
  have HAN := hid O.out.anti
  clear O
  rw [O1.out]
  clear O1
  generalize weakN arch a a = n0 at *
  generalize hf : weakN arch a b = f at *
  generalize hg : weakN arch b c = g at *
  generalize hh : weakN arch a c = h at *
  generalize hk : weakN arch b a = k at *
  generalize weakB arch a b = y at *
  generalize weakB arch b c = z at *
  generalize weakB arch a c = v at *
  generalize weakB arch b a = bk' at *
  clear hf hg hh hk
  have q0 : ((n0 == 0) != (n0 == 0)) = false := by simp
  have q1 : (n0 != n0) = false := by simp
  by_cases hall : f = 0 ∧ g = 0 ∧ h = 0 ∧ k = 0
  · obtain ⟨rfl, rfl, rfl, rfl⟩ := hall
    have HT2 := hid (HT.out rfl rfl rfl)
    have HA2 := hid (HAN.out rfl rfl)
    clear HT HAN
    have t1 : ((!y || !z) || v) = true := by
      have := HT2.out
      cases y <;> cases z <;> cases v <;> simp at this ⊢
    have HT1 := hid t1
    clear t1
    cases y <;> cases z <;> cases v <;> cases bk'
    all_goals
      first
        | (exfalso; have := HT1.out; simp at this; done)
        | skip
    all_goals
      go_wp2_with fail
      first
        | (refine (awake26 _).mono ?_
           rintro x w8 ⟨rfl, E8⟩
           have B := ext_trans B E8)
        | (refine (same26 a b a1 a2 c1 c2 _ h1 h2).mono ?_
           rintro x w7 ⟨rfl, q7⟩
           rw [decide_eq_true (HA2.out (by simp) (by simp))]
           have B := ext_trans B q7.below
           go_wp2_with fail
           refine (awake26 _).mono ?_
           rintro x w8 ⟨rfl, E8⟩
           have B := ext_trans B E8)
      go_wp2_with fail
      go_ret
      exact ⟨rfl, by assumption⟩
  · by_cases p1 : f = 0
    · by_cases p2 : g = 0
      · by_cases p3 : h = 0
        · have z4 : (k != 0) = true := by simp; intro h4; exact hall ⟨p1, p2, p3, h4⟩
          subst p1; subst p2; subst p3
          clear hall
          go_wp2_with (go_at_call 14; refine (awake26 _).mono ?_; rintro x w8 ⟨rfl, E8⟩; have B := ext_trans B E8)
          go_ret
          exact ⟨rfl, B⟩
        · have z3 : (h != 0) = true := by simpa using p3
          subst p1; subst p2
          clear hall p3
          go_wp2_with (go_at_call 14; refine (awake26 _).mono ?_; rintro x w8 ⟨rfl, E8⟩; have B := ext_trans B E8)
          go_ret
          exact ⟨rfl, B⟩
      · have z2 : (g != 0) = true := by simpa using p2
        subst p1
        clear hall p2
        go_wp2_with (go_at_call 14; refine (awake26 _).mono ?_; rintro x w8 ⟨rfl, E8⟩; have B := ext_trans B E8)
        go_ret
        exact ⟨rfl, B⟩
    · have z1 : (f != 0) = true := by simpa using p1
      clear hall p1
      go_wp2_with (go_at_call 14; refine (awake26 _).mono ?_; rintro x w8 ⟨rfl, E8⟩; have B := ext_trans B E8)
      go_ret
      exact ⟨rfl, B⟩
end Go.Proofs.Yteijgmaggmhggaa
