/- What the statement RiscvSums computes, as plain functions. No condition. -/
import Derived.Test.YtigimkgmghjgoaaGreatDoorQV12
namespace Go.Proofs.YtigimkgmghjgoaaGreatDoor
open Go.RowKit
set_option linter.unusedVariables false

def vn (x : Int) : Vl := ⟨[], x⟩
theorem mayB_vn {x : Int} (h : n32 x) : mayB (vn x) = true := by
  unfold mayB vn; rw [if_pos rfl]; simp; exact h
def sumsC (imm : Int) : List Ins :=
  [⟨10, 3, 1, 2, 0, [], [], 0⟩, ⟨10, 4, 2, 1, 0, [], [], 0⟩, ⟨9, 5, 1, 2, 0, [], [], 0⟩, ⟨9, 6, 5, 2, 0, [], [], 0⟩, ⟨8, 7, 1, 0, imm, [], [], 0⟩, ⟨8, 8, 7, 0, imm, [], [], 0⟩, ⟨9, 9, 2, 2, 0, [], [], 0⟩, ⟨8, 0, 1, 0, 1, [], [], 0⟩]
theorem sums_check {imm : Int} (h : -2048 ≤ imm ∧ imm ≤ 2047) : ∀ i ∈ sumsC imm, checkI i = true := by
  intro i hi
  have h1 : decide (-2048 ≤ imm) = true := decide_eq_true h.1
  have h2 : decide (imm ≤ 2047) = true := decide_eq_true h.2
  simp only [sumsC, List.mem_cons, List.not_mem_nil, or_false] at hi
  rcases hi with rfl | rfl | rfl | rfl | rfl | rfl | rfl | rfl <;> simp [checkI, okI, wantI, regB, h.1, h.2]
theorem sums_links {imm : Int} (h : -2048 ≤ imm ∧ imm ≤ 2047) : (linksV (sumsC imm)).2.1 = 0 := by
  unfold linksV
  rw [if_neg (by simp [sumsC])]
  have h1 : (sumsC imm).findIdx? (fun i => !checkI i) = none := by
    rw [List.findIdx?_eq_none_iff]
    intro i hi
    rw [sums_check h i hi]; rfl
  rw [h1]
  have h2 : (List.range (sumsC imm).length).find? (fun k => (stepR (sumsC imm) k).isNone) = none := by
    rw [List.find?_eq_none]
    intro k hk
    have hk : k < 8 := by simpa [sumsC] using hk
    match k, hk with
    | 0, _ => simp [stepR, sumsC]
    | 1, _ => simp [stepR, sumsC]
    | 2, _ => simp [stepR, sumsC]
    | 3, _ => simp [stepR, sumsC]
    | 4, _ => simp [stepR, sumsC]
    | 5, _ => simp [stepR, sumsC]
    | 6, _ => simp [stepR, sumsC]
    | 7, _ => simp [stepR, sumsC]
  simp only [h2]
def sums0 (a b : Int) : List Vl := (((List.replicate 32 vl0).set 1 (vn a)).set 2 (vn b)).set 9 (vn 77)
def sumsS (a b imm : Int) : List (Nat × Vl) := [(3, vn (add32 a b)), (4, vn (add32 b a)), (5, vn (xor32 a b)), (6, vn (xor32 (xor32 a b) b)), (7, vn (or32 a imm)), (8, vn (or32 (or32 a imm) imm)), (9, vl0)]
def setAll (l : List Vl) (s : List (Nat × Vl)) : List Vl := s.foldl (fun l p => l.set p.1 p.2) l
def sumsR (a b imm : Int) (k : Nat) : List Vl := setAll (sums0 a b) ((sumsS a b imm).take k)
/-- registers that may be -/
def RegsOk (l : List Vl) : Prop := l.length = 32 ∧ l.all mayB = true ∧ l[0]? = some vl0
theorem RegsOk.set {l : List Vl} (h : RegsOk l) {k : Nat} (hk : k ≠ 0) {v : Vl} (hv : mayB v = true) : RegsOk (l.set k v) := by
  obtain ⟨h1, h2, h3⟩ := h
  refine ⟨by simpa using h1, ?_, ?_⟩
  · rw [List.all_eq_true] at h2 ⊢
    intro x hx
    rcases List.mem_or_eq_of_mem_set hx with h | rfl
    · exact h2 x h
    · exact hv
  · rw [List.getElem?_set_ne hk]; exact h3
theorem RegsOk.all : ∀ (s : List (Nat × Vl)) (l : List Vl), RegsOk l → (∀ p ∈ s, p.1 ≠ 0 ∧ mayB p.2 = true) → RegsOk (setAll l s)
  | [], l, h, _ => h
  | p :: r, l, h, hs => RegsOk.all r _ (h.set (hs p (by simp)).1 (hs p (by simp)).2) fun q hq => hs q (by simp [hq])
theorem RegsOk.ready {l : List Vl} (h : RegsOk l) {n k : Nat} (hk : k < n) : readyV n l k = true := by
  unfold readyV
  simp only [Bool.and_eq_true, decide_eq_true_eq]
  exact ⟨⟨⟨⟨by omega, by omega⟩, h.1⟩, h.2.1⟩, h.2.2⟩
theorem n32_f (op x y : Int) : n32 (f32 op x y) := f32_in op x y
theorem n32_add (x y : Int) : n32 (add32 x y) := small32 _
theorem n32_xor (x y : Int) : n32 (xor32 x y) := small32 _
theorem n32_or (x y : Int) : n32 (or32 x y) := small32 _
theorem may0 : mayB vl0 = true := by decide
theorem zeros_ok : RegsOk (List.replicate 32 vl0) := by refine ⟨by simp, ?_, by rfl⟩; decide
theorem sums0_ok {a b : Int} (ha : n32 a) (hb : n32 b) : RegsOk (sums0 a b) :=
  ((zeros_ok.set (by decide) (mayB_vn ha)).set (by decide) (mayB_vn hb)).set (by decide) (mayB_vn (by unfold n32; omega))
theorem sumsR_ok {a b : Int} (imm : Int) (ha : n32 a) (hb : n32 b) (k : Nat) : RegsOk (sumsR a b imm k) := by
  refine RegsOk.all _ _ (sums0_ok ha hb) fun p hp => ?_
  have hp := List.mem_of_mem_take hp
  simp only [sumsS, List.mem_cons, List.not_mem_nil, or_false] at hp
  rcases hp with rfl | rfl | rfl | rfl | rfl | rfl | rfl
  · exact ⟨by simp, mayB_vn (n32_add _ _)⟩
  · exact ⟨by simp, mayB_vn (n32_add _ _)⟩
  · exact ⟨by simp, mayB_vn (n32_xor _ _)⟩
  · exact ⟨by simp, mayB_vn (n32_xor _ _)⟩
  · exact ⟨by simp, mayB_vn (n32_or _ _)⟩
  · exact ⟨by simp, mayB_vn (n32_or _ _)⟩
  · exact ⟨by decide, may0⟩
theorem doV_go {code : List Ins} {l : List Vl} {k : Nat} (he : (linksV code).2.1 = 0) (hr : readyV code.length l k = true) :
    doV code l k = stepV (code.getD k ins0) (l.getD (code.getD k ins0).a.toNat vl0) (l.getD (code.getD k ins0).b.toNat vl0) ((linksV code).1.getD k 0) ((k : Int) + 1) l := by
  unfold doV
  rw [if_neg (by rw [he]; simp), if_neg (by rw [hr]; simp)]
  simp only [Int.toNat_natCast]
theorem step_add {i : Ins} (h : i.op = 10) {x y : Int} {lab p : Int} {l : List Vl} (hd : i.d ≠ 0) : stepV i (vn x) (vn y) lab p l = ⟨l.set i.d.toNat (vn (add32 x y)), p, ac1, 0⟩ := by
  unfold stepV
  rw [if_neg (by omega), if_neg (by omega), if_pos (by omega)]
  have hv : valR i (vn x) (vn y) = some (vn (add32 x y)) := by unfold valR; rw [if_neg (by omega), if_neg (by omega)]; rfl
  rw [hv, if_pos (by rfl)]
  show (⟨setR l i.d _, p, ac1, 0⟩ : DoR) = _
  unfold setR; rw [if_neg hd]
theorem step_xor {i : Ins} (h : i.op = 9) (hab : i.a ≠ i.b) {x y : Int} {lab p : Int} {l : List Vl} (hd : i.d ≠ 0) : stepV i (vn x) (vn y) lab p l = ⟨l.set i.d.toNat (vn (xor32 x y)), p, ac1, 0⟩ := by
  unfold stepV
  rw [if_neg (by omega), if_neg (by omega), if_pos (by omega)]
  have hv : valR i (vn x) (vn y) = some (vn (xor32 x y)) := by unfold valR xorV; rw [if_neg (by omega), if_pos h, if_neg hab]; rfl
  rw [hv, if_pos (by rfl)]
  show (⟨setR l i.d _, p, ac1, 0⟩ : DoR) = _
  unfold setR; rw [if_neg hd]
theorem step_xor0 {i : Ins} (h : i.op = 9) (hab : i.a = i.b) {x y : Vl} {lab p : Int} {l : List Vl} (hd : i.d ≠ 0) : stepV i x y lab p l = ⟨l.set i.d.toNat vl0, p, ac1, 0⟩ := by
  unfold stepV
  rw [if_neg (by omega), if_neg (by omega), if_pos (by omega)]
  have hv : valR i x y = some vl0 := by unfold valR xorV; rw [if_neg (by omega), if_pos h, if_pos hab]
  rw [hv, if_pos (by rfl)]
  show (⟨setR l i.d _, p, ac1, 0⟩ : DoR) = _
  unfold setR; rw [if_neg hd]
theorem step_ori {i : Ins} (h : i.op = 8) {x : Int} {y : Vl} {lab p : Int} {l : List Vl} : stepV i (vn x) y lab p l = ⟨setR l i.d (vn (or32 x i.imm)), p, ac1, 0⟩ := by
  unfold stepV
  rw [if_neg (by omega), if_neg (by omega), if_pos (by omega)]
  have hv : valR i (vn x) y = some (vn (or32 x i.imm)) := by unfold valR; rw [if_pos h]; rfl
  rw [hv, if_pos (by rfl)]
  rfl
theorem sums_step {a b imm : Int} (ha : n32 a) (hb : n32 b) (hi : -2048 ≤ imm ∧ imm ≤ 2047) (k : Nat) (hk : k < 8) :
    doV (sumsC imm) (sumsR a b imm k) k = ⟨sumsR a b imm (k + 1), (k : Int) + 1, ac1, 0⟩ := by
  rw [doV_go (sums_links hi) ((sumsR_ok imm ha hb k).ready (by simpa [sumsC] using hk))]
  match k, hk with
  | 0, _ => exact step_add (i := ⟨10, 3, 1, 2, 0, [], [], 0⟩) rfl (by decide)
  | 1, _ => exact step_add (i := ⟨10, 4, 2, 1, 0, [], [], 0⟩) rfl (by decide)
  | 2, _ => exact step_xor (i := ⟨9, 5, 1, 2, 0, [], [], 0⟩) rfl (by decide) (by decide)
  | 3, _ => exact step_xor (i := ⟨9, 6, 5, 2, 0, [], [], 0⟩) rfl (by decide) (by decide)
  | 4, _ => exact step_ori (i := ⟨8, 7, 1, 0, imm, [], [], 0⟩) rfl
  | 5, _ => exact step_ori (i := ⟨8, 8, 7, 0, imm, [], [], 0⟩) rfl
  | 6, _ => exact step_xor0 (i := ⟨9, 9, 2, 2, 0, [], [], 0⟩) rfl rfl (by decide)
  | 7, _ => exact step_ori (i := ⟨8, 0, 1, 0, 1, [], [], 0⟩) rfl
/-- a number brought to 32 bits by steps -/
theorem add32_eq {a b s : Int} (h1 : -2147483648 ≤ s) (h2 : s ≤ 2147483647) (h3 : s % 4294967296 = (a + b) % 4294967296) : add32 a b = s := by
  rw [← round_add, w32_def]
  split <;> omega
theorem add32_comm (a b : Int) : add32 a b = add32 b a := by unfold add32; rw [BitVec.add_comm]
theorem b32_toInt (v : BitVec 32) : b32 v.toInt = v := by unfold b32; exact BitVec.ofInt_toInt
theorem toInt_b32 {a : Int} (h : n32 a) : (b32 a).toInt = a := by
  rw [← wrap32_eq]; exact n32_wrap h
theorem xor_back {a : Int} (b : Int) (h : n32 a) : xor32 (xor32 a b) b = a := by
  unfold xor32; rw [b32_toInt, BitVec.xor_assoc, BitVec.xor_self, BitVec.xor_zero, toInt_b32 h]
theorem or_twice (a m : Int) : or32 (or32 a m) m = or32 a m := by
  unfold or32; rw [b32_toInt, BitVec.or_assoc, BitVec.or_self]
theorem sums_at (a b imm : Int) :
    (sumsR a b imm 8)[0]? = some vl0 ∧ (sumsR a b imm 8)[3]? = some (vn (add32 a b)) ∧ (sumsR a b imm 8)[4]? = some (vn (add32 b a)) ∧ (sumsR a b imm 8)[5]? = some (vn (xor32 a b)) ∧ (sumsR a b imm 8)[6]? = some (vn (xor32 (xor32 a b) b)) ∧ (sumsR a b imm 8)[7]? = some (vn (or32 a imm)) ∧ (sumsR a b imm 8)[8]? = some (vn (or32 (or32 a imm) imm)) ∧ (sumsR a b imm 8)[9]? = some vl0 :=
  ⟨rfl, rfl, rfl, rfl, rfl, rfl, rfl, rfl⟩
end Go.Proofs.YtigimkgmghjgoaaGreatDoor
