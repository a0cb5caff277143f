/- What read answers, as plain functions of the parts. No condition. -/
import Derived.Test.YtigimkgmghjgoaaGreatDoorR8
import Derived.Lib.AtoiAll
namespace Go.Proofs.YtigimkgmghjgoaaGreatDoor
set_option linter.unusedVariables false

theorem last_dropWhile {p : UInt8 → Bool} {l : Tx} {c : UInt8} (h : (l.dropWhile p).getLast? = some c) : l.getLast? = some c := by
  obtain ⟨t, ht⟩ := List.dropWhile_suffix p (l := l)
  rw [← ht, List.getLast?_append, h]; rfl
theorem trimT_head {l : Tx} : ∀ c, (trimT l).head? = some c → blankC c = false := by
  intro c hc; rw [trimT_eq] at hc; exact head_dropWhile hc
theorem trimT_last {l : Tx} : ∀ c, (trimT l).getLast? = some c → blankC c = false := by
  intro c hc
  rw [trimT_eq] at hc
  have := last_dropWhile hc
  rw [List.getLast?_reverse] at this
  exact head_dropWhile this
theorem trimT_idem (l : Tx) : trimT (trimT l) = trimT l := trimT_clean trimT_head trimT_last
theorem addrT_trim (l : Tx) : addrT (trimT l) = addrT l := by unfold addrT; rw [trimT_idem]
theorem atoi_fin : ∀ a : Fin 64, ∀ b : Fin 64, Lib.atoiAll (decI ((64 * a.val + b.val : Nat) - 2048)) = .ok ((64 * a.val + b.val : Nat) - 2048) := by decide +kernel
theorem atoi_decI {n : Int} (h1 : -2048 ≤ n) (h2 : n ≤ 2047) : Lib.atoiAll (decI n) = .ok n := by
  have := atoi_fin ⟨(n + 2048).toNat / 64, by omega⟩ ⟨(n + 2048).toNat % 64, by omega⟩
  simp only at this
  rwa [show ((64 * ((n + 2048).toNat / 64) + (n + 2048).toNat % 64 : Nat) : Int) - 2048 = n by omega] at this
theorem addrT_lt {l : Tx} {n : Nat} (h : addrT l = some n) : n < 32 := by
  unfold addrT at h
  simp only at h
  split at h
  · exact (regOf_some h).1
  · cases h

/-- what is kept of an answer -/
def keepI (i : Ins) (ok : Bool) : Option Ins := if ok && checkI i then some i else none
theorem keep_false (i : Ins) : keepI i false = none := rfl
theorem keep_true {i : Ins} (h : checkI i = true) : keepI i true = some i := by unfold keepI; rw [h]; rfl
theorem check_lw {d a : Nat} (hd : d < 32) (ha : a < 32) : checkI ⟨6, d, a, 0, 0, [], [], 0⟩ = true := by
  have h1 := regB_of hd; have h2 := regB_of ha
  unfold checkI; rw [h1, h2]; simp [okI, wantI]; decide
theorem check_sw {b a : Nat} (hd : b < 32) (ha : a < 32) : checkI ⟨7, 0, a, b, 0, [], [], 0⟩ = true := by
  have h1 := regB_of hd; have h2 := regB_of ha
  unfold checkI; rw [h1, h2]; simp [okI, wantI]; decide
theorem check_3 {op : Int} (ho : op = 9 ∨ op = 10) {d a b : Nat} (hd : d < 32) (ha : a < 32) (hb : b < 32) : checkI ⟨op, d, a, b, 0, [], [], 0⟩ = true := by
  have h1 := regB_of hd; have h2 := regB_of ha; have h3 := regB_of hb
  rcases ho with rfl | rfl <;> (unfold checkI; rw [h1, h2, h3]; simp [okI, wantI])
theorem check_ori {d a : Nat} {n : Int} (hd : d < 32) (ha : a < 32) : checkI ⟨8, d, a, 0, n, [], [], 0⟩ = (decide (-2048 ≤ n) && decide (n ≤ 2047)) := by
  have h1 := regB_of hd; have h2 := regB_of ha
  unfold checkI; rw [h1, h2]; simp [okI, wantI, show regB 0 = true by decide]
theorem check_bne {a b : Nat} {z : Tx} (hd : a < 32) (ha : b < 32) : checkI ⟨11, 0, a, b, 0, [], z, 0⟩ = nameB z := by
  have h1 := regB_of hd; have h2 := regB_of ha
  unfold checkI; rw [h1, h2]; simp [okI, wantI, show regB 0 = true by decide]
theorem check_label {z : Tx} : checkI ⟨12, 0, 0, 0, 0, [], z, 0⟩ = nameB z := by
  unfold checkI; simp [okI, wantI, show regB 0 = true by decide]
theorem check_fence {f : Int} : checkI ⟨13, 0, 0, 0, 0, [], [], f⟩ = (decide (2 ≤ f) && decide (f ≤ 11)) := by
  unfold checkI; simp [okI, wantI, show regB 0 = true by decide]

theorem keep_lw {o1 o2 : Option Nat} : (∀ n, o1 = some n → n < 32) → (∀ n, o2 = some n → n < 32) →
    keepI ⟨6, optN o1, optN o2, 0, 0, [], [], 0⟩ (o1.isSome && o2.isSome) = match o1, o2 with
      | some d, some a => some ⟨6, d, a, 0, 0, [], [], 0⟩
      | _, _ => none := by
  intro h1 h2
  cases o1 with
  | none => rfl
  | some d => cases o2 with
    | none => rfl
    | some a => exact keep_true (check_lw (h1 d rfl) (h2 a rfl))
theorem keep_sw {o1 o2 : Option Nat} : (∀ n, o1 = some n → n < 32) → (∀ n, o2 = some n → n < 32) →
    keepI ⟨7, 0, optN o2, optN o1, 0, [], [], 0⟩ (o1.isSome && o2.isSome) = match o1, o2 with
      | some d, some a => some ⟨7, 0, a, d, 0, [], [], 0⟩
      | _, _ => none := by
  intro h1 h2
  cases o1 with
  | none => rfl
  | some d => cases o2 with
    | none => rfl
    | some a => exact keep_true (check_sw (h1 d rfl) (h2 a rfl))
theorem keep_bne {a b : Nat} {z : Tx} (ha : a < 32) (hb : b < 32) : keepI ⟨11, 0, a, b, 0, [], z, 0⟩ true = if nameB z then some ⟨11, 0, a, b, 0, [], z, 0⟩ else none := by
  unfold keepI; rw [check_bne ha hb, Bool.true_and]
theorem keep_ori {a b : Nat} {z : Tx} {v : Int} (ha : a < 32) (hb : b < 32) (hv : Lib.atoiAll z = .ok v) :
    keepI ⟨8, a, b, 0, v, [], [], 0⟩ (Lib.itoa v == z) = match numT z with
      | some n => some ⟨8, a, b, 0, n, [], [], 0⟩
      | none => none := by
  unfold keepI
  rw [check_ori ha hb]
  cases hn : numT z with
  | some n =>
    obtain ⟨e, b1, b2⟩ := numT_some hn
    rw [e, atoi_decI b1 b2] at hv
    cases hv
    have h1 : (Lib.itoa v == z) = true := by rw [e, itoa_decI (by omega) (by omega)]; simp
    rw [h1, decide_eq_true b1, decide_eq_true b2]; rfl
  | none =>
    by_cases he : Lib.itoa v = z
    · by_cases hr : -2048 ≤ v ∧ v ≤ 2047
      · have := numT_decI hr.1 hr.2
        rw [← itoa_decI (by omega) (by omega), he, hn] at this
        cases this
      · rw [show (decide (-2048 ≤ v) && decide (v ≤ 2047)) = false by simp; omega]; simp
    · rw [show (Lib.itoa v == z) = false by simpa using he]; rfl
theorem numT_bad {z : Tx} (h : ∀ v, Lib.atoiAll z ≠ .ok v) : numT z = none := by
  cases hn : numT z with
  | none => rfl
  | some n =>
    obtain ⟨e, b1, b2⟩ := numT_some hn
    exact absurd (by rw [e]; exact atoi_decI b1 b2) (h n)
theorem keep_three {op : Int} (ho : op = 9 ∨ op = 10) {a b : Nat} (ha : a < 32) (hb : b < 32) {o : Option Nat} : (∀ n, o = some n → n < 32) →
    keepI ⟨op, a, b, optN o, 0, [], [], 0⟩ o.isSome = match o with
      | some c => some ⟨op, a, b, c, 0, [], [], 0⟩
      | none => none := by
  intro h
  cases o with
  | none => rfl
  | some c => exact keep_true (check_3 ho ha hb (h c rfl))
theorem fpartOf_at : ∀ k : Nat, ∀ x : Tx, ([[114], [119], [114, 119]] : List Tx)[k]? = some x → fpartOf x = some (k : Int) := by
  intro k x h
  match k, h with
  | 0, h => simp at h; subst h; rfl
  | 1, h => simp at h; subst h; rfl
  | 2, h => simp at h; subst h; rfl
  | k + 3, h => simp at h
theorem fpartOf_some {x : Tx} {n : Int} (h : fpartOf x = some n) : ∃ k : Nat, k < 3 ∧ n = k ∧ ([[114], [119], [114, 119]] : List Tx)[k]? = some x := by
  unfold fpartOf at h
  split at h
  · cases h; exact ⟨0, by omega, rfl, by subst x; rfl⟩
  · split at h
    · cases h; exact ⟨1, by omega, rfl, by subst x; rfl⟩
    · split at h
      · cases h; exact ⟨2, by omega, rfl, by subst x; rfl⟩
      · cases h
end Go.Proofs.YtigimkgmghjgoaaGreatDoor
