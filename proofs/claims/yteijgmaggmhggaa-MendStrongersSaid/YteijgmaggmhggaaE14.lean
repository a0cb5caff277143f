/- The walks of given, Weaker (the program's), refused, Weaker (the document's answer). Conditions: the edges lie in memory as read. -/
import Derived.Test.YteijgmaggmhggaaE13
import Derived.Test.YteijgmaggmhggaaE7
namespace Go.Proofs.Yteijgmaggmhggaa
open Go.RowKit
set_option linter.unusedVariables false

attribute [local go_sem high] eqE neqE

/-- why an edge is not of an architecture; of some edges the first such -/
def errA (arch : Int) (e : Edge) : Int := if codeOf e = 112 then 30 else if legalC arch (codeOf e) then 0 else 5
def firstErr (arch : Int) : List Edge → Int
  | [] => 0
  | e :: r => if errA arch e ≠ 0 then errA arch e else firstErr arch r
def givenN (arch : Int) (l : List Edge) : Int := if isArch arch then firstErr arch l else 1
theorem firstErr_at {arch : Int} : ∀ {l : List Edge} {k : Nat} (hk : k < l.length), (∀ j (hj : j < l.length), j < k → errA arch l[j] = 0) → errA arch l[k] ≠ 0 → firstErr arch l = errA arch l[k]
  | e :: r, 0, hk, _, h => by unfold firstErr; rw [if_pos (by simpa using h)]; rfl
  | e :: r, k + 1, hk, hz, h => by
    unfold firstErr
    rw [if_neg (by have := hz 0 (by simp) (by omega); simpa using this)]
    exact firstErr_at (l := r) (k := k) (by simpa using hk) (fun j hj hjk => by have := hz (j + 1) (by simpa using hj) (by omega); simpa using this) (by simpa using h)
theorem firstErr_none {arch : Int} : ∀ {l : List Edge}, (∀ j (hj : j < l.length), errA arch l[j] = 0) → firstErr arch l = 0
  | [], _ => rfl
  | e :: r, hz => by
    unfold firstErr
    rw [if_neg (by have := hz 0 (by simp); simpa using this)]
    exact firstErr_none (fun j hj => by have := hz (j + 1) (by simpa using hj); simpa using this)
theorem errA_zero {arch : Int} {e : Edge} (h : errA arch e = 0) : codeOf e < 112 ∧ legalC arch (codeOf e) = true := by
  unfold errA at h
  by_cases h1 : codeOf e = 112
  · rw [if_pos h1] at h; omega
  · rw [if_neg h1] at h
    by_cases h2 : legalC arch (codeOf e) = true
    · exact ⟨by have := codeOf_le e; omega, h2⟩
    · rw [if_neg h2] at h; omega
theorem firstErr_zero {arch : Int} : ∀ {l : List Edge}, firstErr arch l = 0 → ∀ e ∈ l, errA arch e = 0
  | [], _, e, he => by cases he
  | x :: r, h, e, he => by
    unfold firstErr at h
    by_cases hx : errA arch x ≠ 0
    · rw [if_pos hx] at h; exact absurd h hx
    · rw [if_neg hx] at h
      rcases List.mem_cons.1 he with rfl | h'
      · simpa using hx
      · exact firstErr_zero h e h'

set_option maxRecDepth 100000 in
set_option maxHeartbeats 3200000 in
theorem progGiven (arch : Int) (l : List Edge) (a : Option Addr) (c : Nat) (w : World) (h : Es w a l) : Calls Try.prog 20 #[.int .i64 arch, .slice a l.length c] w (Ret w (.int .i64 (givenN arch l))) := by
  have hl := h.len
  have B := Below.refl w.heap.size w
  by_cases ha : isArch arch
  · have hg : givenN arch l = firstErr arch l := by unfold givenN; rw [if_pos ha]
    rw [hg]
    have hz : (arch != 1) = false ∨ ((arch != 1) = true ∧ (arch != 2) = false) := by
      rcases ha with rfl | rfl
      · exact .inl rfl
      · exact .inr ⟨rfl, rfl⟩
    have HA := hid ha
    have hd : decide (isArch arch) = true := decide_eq_true ha
    clear hg ha
    rcases hz with z1 | ⟨z1, z2⟩
    all_goals
      go_enter Try.func20, Try.ntmps20
      go_wp2_with fail
      go_loopw [17] (fun i wr => ∃ k : Nat, k ≤ l.length ∧ i = .int .i64 k ∧ Hid (∀ j (hj : j < l.length), j < k → errA arch l[j] = 0) ∧ Es wr a l ∧ Below w.heap.size w wr) (fun i _ => l.length - (intOf i).toNat)
      case atStart => exact ⟨0, by omega, rfl, hid (fun j hj h' => absurd h' (Nat.not_lt_zero j)), h, B⟩
      case round =>
        clear h B
        obtain ⟨k, hk, rfl, HK, h, B⟩ := hrel
        by_cases hlt : k < l.length
        · obtain ⟨e, he⟩ : ∃ e, l[k] = e := ⟨_, rfl⟩
          obtain ⟨c0, c1, c2, c3, c4, c5⟩ := h.cells k hlt e he
          have ix := h.idx k hlt
          have HE := hid he
          clear he
          obtain ⟨b, hb⟩ : ∃ b, legalB arch e = b := ⟨_, rfl⟩
          obtain ⟨n, hn⟩ : ∃ n, legalN arch e = n := ⟨_, rfl⟩
          have hcase : (n = 30 ∧ errA arch e = 30) ∨ (n = 0 ∧ b = false ∧ errA arch e = 5) ∨ (n = 0 ∧ b = true ∧ errA arch e = 0) := by
            subst hb; subst hn
            unfold legalB legalN errA errE
            rw [if_pos HA.out, if_pos HA.out]
            by_cases h1 : codeOf e = 112
            · rw [if_pos h1, if_pos h1, if_pos h1]; exact .inl ⟨rfl, rfl⟩
            · rw [if_neg h1, if_neg h1, if_neg h1]
              by_cases h2 : legalC arch (codeOf e) = true
              · rw [if_pos h2]; exact .inr (.inr ⟨rfl, h2, rfl⟩)
              · rw [if_neg h2]; exact .inr (.inl ⟨rfl, by simpa using h2, rfl⟩)
          have HB := hid hb; have HN := hid hn
          clear hb hn
          rcases hcase with ⟨rfl, he⟩ | ⟨rfl, rfl, he⟩ | ⟨rfl, rfl, he⟩
          all_goals
            have HE2 := hid he
            clear he
            go_wp2_with fail
            refine (progLegal arch e _).mono ?_
            rintro e' w7 ⟨rfl, E7⟩
            rw [HB.out, HN.out]
            have E8 := (al _ (.cells #[.int .i64 e.kind, .bool e.ext, .bool e.same, .int .i64 e.src, .int .i64 e.dst, .int .i64 e.fence] 23)).trans (E7.mono (by simp))
            have h := h.below E8
            have B := B.trans (E8.mono B.size)
            clear c0 c1 c2 c3 c4 c5 ix E7 E8
            go_wp2_with fail
          · go_ret
            exact ⟨ret_int (by rw [firstErr_at hlt HK.out (by rw [HE.out, HE2.out]; omega), HE.out, HE2.out]), B⟩
          · go_ret
            exact ⟨ret_int (by rw [firstErr_at hlt HK.out (by rw [HE.out, HE2.out]; omega), HE.out, HE2.out]), B⟩
          · go_roundw
            case rel => exact ⟨k + 1, by omega, by go_num, hid (fun j hj hjk => by
              by_cases hh : j = k
              · subst hh; rw [HE.out, HE2.out]
              · exact HK.out j hj (by omega)), h, B⟩
            case measure => simp [intOf]; omega
        · go_wp2_with fail
          go_ret
          exact ⟨ret_int (firstErr_none (fun j hj => HK.out j hj (by omega))).symm, B⟩
  · have hg : givenN arch l = 1 := by unfold givenN; rw [if_neg ha]
    rw [hg]
    have z1 : (arch != 1) = true := by simp; intro h; exact ha (.inl h)
    have z2 : (arch != 2) = true := by simp; intro h; exact ha (.inr h)
    clear hg ha
    go_enter Try.func20, Try.ntmps20
    go_wp2_with fail
    go_ret
    exact ⟨rfl, B⟩
end Go.Proofs.Yteijgmaggmhggaa
