/- Periods: by definition, and by borders (Knuth, Morris and Pratt). No program in sight; no condition. -/
import Derived.Test.YtdafpafoioejaaaMath3
namespace Go.Proofs.Ytdafpafoioejaaa
set_option linter.unusedVariables false

/-- the list, again and again -/
def cyc (l : List Int) (t : Nat) : Int := l.getD (t % l.length) 0
theorem at_cyc (l : List Int) (p t : Nat) : at_ l p t = cyc l (p + t) := rfl
theorem cyc_add (l : List Int) (t : Nat) : cyc l (t + l.length) = cyc l t := by simp [cyc]
theorem cyc_mod (l : List Int) (t : Nat) : cyc l (t % l.length) = cyc l t := by simp [cyc]
def CycPer (l : List Int) (q : Nat) : Prop := ∀ t, cyc l (t + q) = cyc l t
theorem CycPer.mul {l : List Int} {q : Nat} (h : CycPer l q) (m t : Nat) : cyc l (t + m * q) = cyc l t := by
  induction m with
  | zero => simp
  | succ m ih => rw [Nat.succ_mul, ← Nat.add_assoc, h, ih]
theorem cycPer_len (l : List Int) : CycPer l l.length := cyc_add l
theorem rot_eq_iff {l : List Int} {q : Nat} (hl : l ≠ []) : rot l (q % l.length) = l ↔ CycPer l q := by
  have hn : 0 < l.length := List.length_pos_iff.2 hl
  have hq : q % l.length < l.length := Nat.mod_lt _ hn
  constructor
  · intro h t
    have ht : t % l.length < l.length := Nat.mod_lt _ hn
    have h1 := rot_getElem l _ _ hq ht
    have h2 : (rot l (q % l.length))[t % l.length]'(by rw [rot_length]; exact ht) = l[t % l.length] := by
      simp only [h]
    rw [h2, at_cyc] at h1
    have e1 : cyc l t = l[t % l.length] := by unfold cyc; simp [ht]
    have e2 : cyc l (t + q) = cyc l (q % l.length + t % l.length) := by
      rw [← cyc_mod, ← cyc_mod l (q % l.length + t % l.length)]; congr 1; simp [Nat.add_comm]
    rw [e1, h1, e2]
  · intro h
    apply List.ext_getElem
    · exact rot_length _ _
    · intro t h1 h2
      rw [rot_getElem l _ t hq h2, at_cyc]
      have e2 : cyc l (q % l.length + t) = cyc l (t + q) := by
        rw [← cyc_mod, ← cyc_mod l (t + q)]; congr 1; simp [Nat.add_comm]
      rw [e2, h t]
      unfold cyc
      simp [Nat.mod_eq_of_lt h2, h2]

/-- the least number of places, from 1 on, by which a list is turned to itself -/
def IsPer (l : List Int) (p : Nat) : Prop := 1 ≤ p ∧ p ≤ l.length ∧ CycPer l p ∧ ∀ q, 1 ≤ q → q < p → ¬ CycPer l q
theorem IsPer.unique {l : List Int} {p q : Nat} (h : IsPer l p) (h' : IsPer l q) : p = q := by
  rcases Nat.lt_trichotomy p q with h1 | h1 | h1
  · exact absurd h.2.2.1 (h'.2.2.2 p h.1 h1)
  · exact h1
  · exact absurd h'.2.2.1 (h.2.2.2 q h'.1 h1)
def perUp (l : List Int) : Nat → Nat → Nat
  | 0, p => p
  | f + 1, p => if rot l (p % l.length) = l then p else perUp l f (p + 1)
/-- P2.2 -/
def period (l : List Int) : Nat := if l = [] then 0 else perUp l l.length 1
theorem perUp_spec (l : List Int) (hl : l ≠ []) : ∀ f p, 1 ≤ p → p + f = l.length + 1 → 0 < f → (∀ q, 1 ≤ q → q < p → ¬ CycPer l q) → IsPer l (perUp l f p) := by
  intro f
  induction f with
  | zero => intro p _ _ h; omega
  | succ f ih =>
    intro p hp hf _ hq
    unfold perUp
    split
    · rename_i h
      exact ⟨hp, by omega, (rot_eq_iff hl).1 h, hq⟩
    · rename_i h
      have hne : ¬ CycPer l p := fun hc => h ((rot_eq_iff hl).2 hc)
      by_cases hf0 : f = 0
      · exfalso
        have : p = l.length := by omega
        subst this; exact hne (cycPer_len l)
      · refine ih (p + 1) (by omega) (by omega) (by omega) ?_
        intro q h1 h2
        by_cases e : q = p
        · subst e; exact hne
        · exact hq q h1 (by omega)
theorem period_spec (l : List Int) (hl : l ≠ []) : IsPer l (period l) := by
  unfold period
  rw [if_neg hl]
  exact perUp_spec l hl l.length 1 (Nat.le_refl _) (by omega) (List.length_pos_iff.2 hl) (fun q h1 h2 => by omega)
theorem period_nil : period [] = 0 := rfl
theorem IsPer.dvd {l : List Int} {p : Nat} (h : IsPer l p) {n : Nat} (hn : CycPer l n) : n % p = 0 := by
  have hp : 0 < p := h.1
  have h1 : n % p < p := Nat.mod_lt _ hp
  rcases Nat.eq_zero_or_pos (n % p) with h0 | h0
  · exact h0
  · refine absurd ?_ (h.2.2.2 (n % p) h0 h1)
    intro t
    have h2 := CycPer.mul h.2.2.1 (n / p) (t + n % p)
    rw [← h2, Nat.add_assoc, show n % p + n / p * p = n by rw [Nat.add_comm, Nat.mul_comm]; exact Nat.div_add_mod n p, hn t]
theorem CycPer.of_dvd {l : List Int} {p n : Nat} (h : CycPer l p) (hd : n % p = 0) : CycPer l n := by
  intro t
  have h2 := CycPer.mul h (n / p) t
  rwa [show n / p * p = n by rw [Nat.mul_comm]; have := Nat.div_add_mod n p; omega] at h2

/-! ### borders -/
/-- the first b of the first m are the last b of them, and not all -/
def Border (l : List Int) (m b : Nat) : Prop := b < m ∧ ∀ t, t < b → l.getD (m - b + t) 0 = l.getD t 0
structure IsFail (l : List Int) (m b : Nat) : Prop where
  border : Border l m b
  most : ∀ c, Border l m c → c ≤ b
theorem border_zero (l : List Int) (m : Nat) (h : 0 < m) : Border l m 0 := ⟨h, fun t ht => absurd ht (Nat.not_lt_zero t)⟩
theorem isFail_one (l : List Int) : IsFail l 1 0 := ⟨border_zero l 1 (by omega), fun c h => by have := h.1; omega⟩
theorem Border.trans {l : List Int} {m b c : Nat} (h : Border l m b) (h' : Border l b c) : Border l m c := by
  refine ⟨by have := h.1; have := h'.1; omega, fun t ht => ?_⟩
  have h1 := h.1; have h2 := h'.1
  have e := h.2 (b - c + t) (by omega)
  rw [show m - b + (b - c + t) = m - c + t by omega] at e
  rw [e]; exact h'.2 t ht
theorem Border.sub {l : List Int} {m b c : Nat} (h : Border l m b) (h' : Border l m c) (hc : c < b) : Border l b c := by
  refine ⟨hc, fun t ht => ?_⟩
  have h1 := h.1
  have e := h.2 (b - c + t) (by omega)
  rw [show m - b + (b - c + t) = m - c + t by omega] at e
  rw [← e]; exact h'.2 t ht
theorem border_succ {l : List Int} {m c : Nat} : Border l (m + 1) (c + 1) ↔ (c < m ∧ (∀ t, t < c → l.getD (m - c + t) 0 = l.getD t 0) ∧ l.getD m 0 = l.getD c 0) := by
  constructor
  · intro h
    have h1 := h.1
    refine ⟨by omega, fun t ht => ?_, ?_⟩
    · have := h.2 t (by omega); rwa [show m + 1 - (c + 1) + t = m - c + t by omega] at this
    · have := h.2 c (by omega); rwa [show m + 1 - (c + 1) + c = m by omega] at this
  · rintro ⟨h1, h2, h3⟩
    refine ⟨by omega, fun t ht => ?_⟩
    rw [show m + 1 - (c + 1) + t = m - c + t by omega]
    by_cases e : t = c
    · subst e; rw [show m - t + t = m by omega]; exact h3
    · exact h2 t (by omega)
/-- while the border that grows is looked for: k is one, no longer one grows -/
structure Look (l : List Int) (i k : Nat) : Prop where
  border : Border l i k
  none : ∀ c, Border l i c → k < c → l.getD c 0 ≠ l.getD i 0
theorem Look.start {l : List Int} {i k : Nat} (h : IsFail l i k) : Look l i k := ⟨h.border, fun c hc hk => by have := h.most c hc; omega⟩
theorem Look.next {l : List Int} {i k k' : Nat} (h : Look l i k) (hne : l.getD i 0 ≠ l.getD k 0) (hf : IsFail l k k') : Look l i k' := by
  refine ⟨h.border.trans hf.border, fun c hc hk => ?_⟩
  rcases Nat.lt_trichotomy c k with h1 | h1 | h1
  · have := hf.most c (h.border.sub hc h1); omega
  · subst h1; exact fun e => hne e.symm
  · exact h.none c hc h1
theorem Look.yes {l : List Int} {i k : Nat} (h : Look l i k) (he : l.getD i 0 = l.getD k 0) : IsFail l (i + 1) (k + 1) := by
  refine ⟨border_succ.2 ⟨h.border.1, h.border.2, he⟩, fun c hc => ?_⟩
  cases c with
  | zero => omega
  | succ c =>
    obtain ⟨h1, h2, h3⟩ := border_succ.1 hc
    rcases Nat.lt_or_ge k c with hk | hk
    · exact absurd h3.symm (h.none c ⟨h1, h2⟩ hk)
    · omega
theorem Look.no {l : List Int} {i : Nat} (h : Look l i 0) (hne : l.getD i 0 ≠ l.getD 0 0) : IsFail l (i + 1) 0 := by
  refine ⟨border_zero l _ (by omega), fun c hc => ?_⟩
  cases c with
  | zero => omega
  | succ c =>
    obtain ⟨h1, h2, h3⟩ := border_succ.1 hc
    by_cases hk : c = 0
    · subst hk; exact absurd h3 hne
    · exact absurd h3.symm (h.none c ⟨h1, h2⟩ (by omega))

/-- the end of the search: the list's own longest border tells its period -/
theorem period_of_fail {l : List Int} {b : Nat} (h : IsFail l l.length b) : period l = if l.length % (l.length - b) = 0 then l.length - b else l.length := by
  have hb := h.border.1
  have hl : l ≠ [] := by intro e; subst e; simp at hb
  have hn : 0 < l.length := by omega
  have hgc : ∀ t, t < l.length → cyc l t = l.getD t 0 := fun t ht => by unfold cyc; rw [Nat.mod_eq_of_lt ht]
  -- a number by which it is turned to itself is a period of the text, so it is not less
  have hge : ∀ q, 1 ≤ q → q < l.length → CycPer l q → l.length - b ≤ q := by
    intro q h1 h2 hq
    have : Border l l.length (l.length - q) := by
      refine ⟨by omega, fun t ht => ?_⟩
      have := hq t
      rw [hgc (t + q) (by omega), hgc t (by omega)] at this
      rw [show l.length - (l.length - q) + t = t + q by omega]; exact this
    have := h.most _ this
    omega
  have hp := period_spec l hl
  -- the text's own period, if it fits
  have hstr : ∀ t, t + (l.length - b) < l.length → l.getD (t + (l.length - b)) 0 = l.getD t 0 := by
    intro t ht
    have := h.border.2 t (by omega)
    rwa [show l.length - b + t = t + (l.length - b) by omega] at this
  by_cases hd : l.length % (l.length - b) = 0
  · rw [if_pos hd]
    have hc : CycPer l (l.length - b) := by
      intro t
      generalize hPP : l.length - b = P at *
      have hP : 0 < P := by omega
      -- t reduced below the length
      rw [← cyc_mod l t, ← cyc_mod l (t + P), Nat.add_mod, ]
      have ht : t % l.length < l.length := Nat.mod_lt _ hn
      by_cases hPn : P = l.length
      · rw [hPn, Nat.mod_self, Nat.add_zero, Nat.mod_mod]
      · rw [Nat.mod_eq_of_lt (show P < l.length by omega)]
        generalize t % l.length = s at *
        by_cases hs : s + P < l.length
        · rw [Nat.mod_eq_of_lt hs, hgc _ hs, hgc s ht]; exact hstr s hs
        · rw [Nat.mod_eq_sub_mod (by omega), Nat.mod_eq_of_lt (by omega), hgc _ ht, hgc _ (by omega)]
          -- both are what stands at their remainder
          have hrem : ∀ u, u < l.length → l.getD u 0 = l.getD (u % P) 0 := by
            intro u
            induction u using Nat.strongRecOn with
            | _ u ih =>
              intro hu
              rcases Nat.lt_or_ge u P with h1 | h1
              · rw [Nat.mod_eq_of_lt h1]
              · have e1 := hstr (u - P) (by omega)
                rw [show u - P + P = u by omega] at e1
                rw [e1, ih (u - P) (by omega) (by omega), Nat.mod_eq_sub_mod h1]
          rw [hrem s ht, hrem (s + P - l.length) (by omega)]
          congr 1
          have e3 : (s + P - l.length + l.length) % P = (s + P - l.length) % P := by
            rw [Nat.add_mod, hd, Nat.add_zero, Nat.mod_mod]
          rw [← e3, show s + P - l.length + l.length = s + P by omega, Nat.add_mod_right]
    refine IsPer.unique hp ⟨by omega, by omega, hc, ?_⟩
    intro q h1 h2 hq
    have := hge q h1 (by omega) hq
    omega
  · rw [if_neg hd]
    refine IsPer.unique hp ⟨by omega, Nat.le_refl _, cycPer_len l, ?_⟩
    intro q h1 h2 hq
    -- then the least one is less than the length, divides it, and the text's own period would too
    have hlt : period l < l.length := by
      rcases Nat.lt_or_ge q (period l) with h3 | h3
      · exact absurd hq (hp.2.2.2 q h1 h3)
      · omega
    have hdv := hp.dvd (cycPer_len l)
    generalize period l = Q at *
    have hPQ := hge Q hp.1 hlt hp.2.2.1
    have h2Q : 2 * Q ≤ l.length := by
      obtain ⟨m, hm⟩ := Nat.dvd_of_mod_eq_zero hdv
      have : m ≠ 0 := by intro e; subst e; omega
      have : m ≠ 1 := by intro e; subst e; omega
      have : Q * 2 ≤ Q * m := Nat.mul_le_mul_left Q (by omega)
      omega
    have hcp : CycPer l (l.length - b) := by
      intro t
      have hQ : 0 < Q := hp.1
      have hr : t % Q < Q := Nat.mod_lt _ hQ
      have e1 := CycPer.mul hp.2.2.1 (t / Q) (t % Q)
      have e2 := CycPer.mul hp.2.2.1 (t / Q) (t % Q + (l.length - b))
      have ht : t % Q + t / Q * Q = t := by rw [Nat.add_comm, Nat.mul_comm]; exact Nat.div_add_mod t Q
      rw [show t % Q + (l.length - b) + t / Q * Q = t + (l.length - b) by omega] at e2
      rw [ht] at e1
      rw [e1, e2, hgc _ (by omega), hgc _ (by omega)]
      exact hstr _ (by omega)
    have hQP : Q = l.length - b := by
      rcases Nat.lt_or_ge (l.length - b) Q with h3 | h3
      · exact absurd hcp (hp.2.2.2 _ (by omega) h3)
      · omega
    rw [← hQP] at hd
    exact hd hdv

end Go.Proofs.Ytdafpafoioejaaa
