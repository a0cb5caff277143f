/- The walks of blank, Parse (the program's). Conditions: lengths that an int holds; the library's variables as the program's text lays them. -/
import Derived.Test.YtigimkgmghjgoaaGreatDoorR12
import Derived.Test.YtigimkgmghjgoaaGreatDoorR5
namespace Go.Proofs.YtigimkgmghjgoaaGreatDoor
open Go.RowKit
set_option linter.unusedVariables false

attribute [local go_sem high] eqI neqI

theorem u8_eq (c d : UInt8) (h : c = d) : ((c.toNat : Int) == (d.toNat : Int)) = true := by subst h; simp
theorem u8_neq (c d : UInt8) (h : c ≠ d) : ((c.toNat : Int) == (d.toNat : Int)) = false := by
  simp only [beq_eq_false_iff_ne, ne_eq]
  intro e
  exact h (UInt8.toNat_inj.1 (by omega))
theorem progBlank (c : UInt8) (w : World) : Calls Tryz.prog 39 #[.int .u8 c.toNat] w fun e w' => e = .returned (.bool (blankC c)) ∧ w = w' := by
  by_cases h1 : c = 32
  · have z : ((c.toNat : Int) == 32) = true := u8_eq c 32 h1
    have e : blankC c = true := by subst h1; rfl
    rw [e]; clear e h1
    go_enter Tryz.func39, Tryz.ntmps39
    go_wp2
    go_ret
    exact ⟨rfl, rfl⟩
  have z1 : ((c.toNat : Int) == 32) = false := u8_neq c 32 h1
  by_cases h2 : c = 9
  · have z : ((c.toNat : Int) == 9) = true := u8_eq c 9 h2
    have e : blankC c = true := by subst h2; rfl
    rw [e]; clear e h1 h2
    go_enter Tryz.func39, Tryz.ntmps39
    go_wp2
    go_ret
    exact ⟨rfl, rfl⟩
  have z2 : ((c.toNat : Int) == 9) = false := u8_neq c 9 h2
  by_cases h3 : c = 10
  · have z : ((c.toNat : Int) == 10) = true := u8_eq c 10 h3
    have e : blankC c = true := by subst h3; rfl
    rw [e]; clear e h1 h2 h3
    go_enter Tryz.func39, Tryz.ntmps39
    go_wp2
    go_ret
    exact ⟨rfl, rfl⟩
  have z3 : ((c.toNat : Int) == 10) = false := u8_neq c 10 h3
  by_cases h4 : c = 13
  · have z : ((c.toNat : Int) == 13) = true := u8_eq c 13 h4
    have e : blankC c = true := by subst h4; rfl
    rw [e]; clear e h1 h2 h3 h4
    go_enter Tryz.func39, Tryz.ntmps39
    go_wp2
    go_ret
    exact ⟨rfl, rfl⟩
  have z4 : ((c.toNat : Int) == 13) = false := u8_neq c 13 h4
  have e : blankC c = false := by unfold blankC; simp [h1, h2, h3, h4]
  rw [e]; clear e h1 h2 h3 h4
  go_enter Tryz.func39, Tryz.ntmps39
  go_wp2
  go_ret
  exact ⟨rfl, rfl⟩

theorem splitC_le (c : UInt8) : ∀ (l : Tx), ∀ x ∈ splitC c l, x.length ≤ l.length
  | [], x, h => by simp [splitC] at h; subst h; simp
  | b :: l, x, h => by
    have ih := splitC_le c l
    unfold splitC at h
    split at h
    · rcases List.mem_cons.1 h with rfl | h
      · simp
      · have := ih x h; simp; omega
    · split at h
      · simp at h; subst h; simp
      · rename_i y t hy
        rcases List.mem_cons.1 h with rfl | h
        · have := ih y (by rw [hy]; simp); simp; omega
        · have := ih x (by rw [hy]; simp [h]); simp; omega
theorem takeWhile_len (p : UInt8 → Bool) : ∀ (l : Tx) (k : Nat), (∀ (j : Nat) c, j < k → l[j]? = some c → p c = true) → (∀ c, l[k]? = some c → p c = false) → k ≤ l.length → (l.takeWhile p).length = k
  | [], k, _, _, h => by simp at h; subst h; rfl
  | b :: l, 0, _, h2, _ => by rw [List.takeWhile_cons, if_neg (by rw [h2 b rfl]; simp)]; rfl
  | b :: l, k + 1, h1, h2, h3 => by
    rw [List.takeWhile_cons, if_pos (h1 0 b (by omega) rfl), List.length_cons, takeWhile_len p l k (fun j c hj hc => h1 (j + 1) c (by omega) (by simpa using hc)) (fun c hc => h2 c (by simpa using hc)) (by simpa using h3)]
theorem freshV {w w' : World} {v0 v1 v2 v3 v4 v5 v6 v7 : Value} {t : TypeId} (h : Below (w.alloc (.cells #[v0, v1, v2, v3, v4, v5, v6, v7] t)).heap.size (w.alloc (.cells #[v0, v1, v2, v3, v4, v5, v6, v7] t)) w') :
    (w'.cell? ⟨w.heap.size, 0, none⟩ = some v0 ∧ w'.cell? ⟨w.heap.size, 1, none⟩ = some v1 ∧ w'.cell? ⟨w.heap.size, 2, none⟩ = some v2 ∧ w'.cell? ⟨w.heap.size, 3, none⟩ = some v3 ∧ w'.cell? ⟨w.heap.size, 4, none⟩ = some v4 ∧ w'.cell? ⟨w.heap.size, 5, none⟩ = some v5 ∧ w'.cell? ⟨w.heap.size, 6, none⟩ = some v6 ∧ w'.cell? ⟨w.heap.size, 7, none⟩ = some v7) ∧
    (∀ k, w'.frozen? ⟨w.heap.size, k, none⟩ = false) ∧ w.heap.size < w'.heap.size ∧ Below w.heap.size w w' := by
  have hs := h.size
  simp at hs
  have hc : ∀ k, w'.cell? ⟨w.heap.size, k, none⟩ = (#[v0, v1, v2, v3, v4, v5, v6, v7] : Array Value)[k]? := fun k => by
    rw [h.cell (p := ⟨w.heap.size, k, none⟩) (by simp)]
    have hh := heap_alloc_new w (.cells #[v0, v1, v2, v3, v4, v5, v6, v7] t)
    simp only [World.cell?, hh]
    simp
  refine ⟨⟨hc 0, hc 1, hc 2, hc 3, hc 4, hc 5, hc 6, hc 7⟩, fun k => ?_, by omega, (al w _).trans (h.mono (al w _).size)⟩
  rw [h.frozen (p := ⟨w.heap.size, k, none⟩) (by simp)]
  have hh := heap_alloc_new w (.cells #[v0, v1, v2, v3, v4, v5, v6, v7] t)
  simp only [World.frozen?, hh]
  simp
/-- what Parse answers -/
def insO (r : Option Ins) : Ins := match r with
  | some i => i
  | none => ins0
def errO (r : Option Ins) : Int := match r with
  | some _ => 0
  | none => 91
def RetP (r : Option Ins) (w : World) (e : Ending) (w' : World) : Prop := e = .returned (.tuple #[vI (insO r), .int .i64 (errO r)]) ∧ Below w.heap.size w w'
theorem RetP.no {w w' : World} {e : Ending} {r : Option Ins} (hr : r = none) (h : e = .returned (.tuple #[.agg #[.int .i64 0, .int .i64 0, .int .i64 0, .int .i64 0, .int .i64 0, .string ⟨#[]⟩, .string ⟨#[]⟩, .int .i64 0], .int .i64 91])) (hb : Below w.heap.size w w') : RetP r w e w' := by
  subst hr h; exact ⟨rfl, hb⟩
theorem RetP.yes {w w' : World} {e : Ending} {r : Option Ins} {op d a b imm fence : Int} {label : Tx} (hr : r = some ⟨op, d, a, b, imm, [], label, fence⟩) (h : e = .returned (.tuple #[.agg #[.int .i64 op, .int .i64 d, .int .i64 a, .int .i64 b, .int .i64 imm, .string ⟨#[]⟩, .string (tx label), .int .i64 fence], .int .i64 0])) (hb : Below w.heap.size w w') : RetP r w e w' := by
  subst hr h; exact ⟨rfl, hb⟩
theorem RetP.yes0 {w w' : World} {e : Ending} {r : Option Ins} {op d a b imm fence : Int} (hr : r = some ⟨op, d, a, b, imm, [], [], fence⟩) (h : e = .returned (.tuple #[.agg #[.int .i64 op, .int .i64 d, .int .i64 a, .int .i64 b, .int .i64 imm, .string ⟨#[]⟩, .string ⟨#[]⟩, .int .i64 fence], .int .i64 0])) (hb : Below w.heap.size w w') : RetP r w e w' := by
  subst hr h; exact ⟨rfl, hb⟩
set_option maxRecDepth 100000 in
set_option maxHeartbeats 3200000 in
theorem progParse_long (s : Tx) (hl : 262144 < s.length) (w : World) : Calls Tryz.prog 12 #[.string (tx s)] w (RetP (parseI s) w) := by
  obtain ⟨r, hr⟩ : ∃ r, parseI s = r := ⟨_, rfl⟩
  rw [hr]
  have HK := hid (show r = none by rw [← hr]; unfold parseI; rw [if_pos hl])
  obtain ⟨n, hn⟩ : ∃ n, (tx s).size = n := ⟨_, rfl⟩
  have hz : decide (262144 < (n : Int)) = true := by rw [← hn, tx_size]; simp; omega
  clear hr hl
  go_enter Tryz.func12, Tryz.ntmps12
  go_wp2_with fail
  exact bodyPost_ret (by simp [results, Tryz.results12, go_sem]) rfl (RetP.no HK.out rfl (by repeat (first | with_reducible assumption | with_reducible exact Below.refl _ _ | with_reducible refine bel_alloc ?_ _ | with_reducible refine bel_drew ?_ | with_reducible refine bel_set ?_ (by dsimp only; omega) _)))
set_option maxRecDepth 100000 in
set_option maxHeartbeats 3200000 in
theorem progParse_tso (s : Tx) (hl : s.length ≤ 262144) (ht : trimT s = [102, 101, 110, 99, 101, 46, 116, 115, 111]) (w : World) : Calls Tryz.prog 12 #[.string (tx s)] w (RetP (parseI s) w) := by
  obtain ⟨r, hr⟩ : ∃ r, parseI s = r := ⟨_, rfl⟩
  rw [hr]
  have HK := hid (show r = some ⟨13, 0, 0, 0, 0, [], [], 2⟩ by rw [← hr]; unfold parseI; rw [if_neg (by omega)]; simp only [ht]; rw [if_pos trivial])
  obtain ⟨n, hn⟩ : ∃ n, (tx s).size = n := ⟨_, rfl⟩
  have hnl : n = s.length := by rw [← hn, tx_size]
  have hz : decide (262144 < (n : Int)) = false := by simp; omega
  have TR := hid (fun (w : World) => progTrimmed s (by omega) w)
  rw [ht] at TR
  have z : ((tx [102, 101, 110, 99, 101, 46, 116, 115, 111]).toList == [102, 101, 110, 99, 101, 46, 116, 115, 111]) = true := by rw [tx_toList]; rfl
  clear hr hl hnl ht
  go_enter Tryz.func12, Tryz.ntmps12
  go_wp2_with fail
  refine (TR.out _).mono ?_
  rintro e w1 ⟨rfl, E⟩
  obtain ⟨⟨d0, d1, d2, d3, d4, d5, d6, d7⟩, hf, hlt, B⟩ := fresh8 E
  clear E
  go_wp2_with fail
  exact bodyPost_ret (by simp [results, Tryz.results12, go_sem, d0, d1, d2, d3, d4, d5, d6, d7]) rfl (RetP.yes0 HK.out rfl (by repeat (first | with_reducible assumption | with_reducible exact Below.refl _ _ | with_reducible refine bel_alloc ?_ _ | with_reducible refine bel_drew ?_ | with_reducible refine bel_set ?_ (by dsimp only; omega) _)))
set_option maxRecDepth 100000 in
set_option maxHeartbeats 3200000 in
theorem progParse_label (s t : Tx) (hl : s.length ≤ 262144) (ht : trimT s = t) (h1 : t ≠ [102, 101, 110, 99, 101, 46, 116, 115, 111]) (h2 : t.getLast? = some 58) (w : World) : Calls Tryz.prog 12 #[.string (tx s)] w (RetP (parseI s) w) := by
  obtain ⟨r, hr⟩ : ∃ r, parseI s = r := ⟨_, rfl⟩
  rw [hr]
  have HK := hid (show r = if nameB (trimT t.dropLast) then some ⟨12, 0, 0, 0, 0, [], trimT t.dropLast, 0⟩ else none by rw [← hr]; unfold parseI; rw [if_neg (by omega)]; simp only [ht]; rw [if_neg h1, if_pos h2])
  obtain ⟨n, hn⟩ : ∃ n, (tx s).size = n := ⟨_, rfl⟩
  have hnl : n = s.length := by rw [← hn, tx_size]
  have hz : decide (262144 < (n : Int)) = false := by simp; omega
  have TR := hid (fun (w : World) => progTrimmed s (by omega) w)
  rw [ht] at TR
  have htl := trimT_length s
  rw [ht] at htl
  have z : ((tx t).toList == [102, 101, 110, 99, 101, 46, 116, 115, 111]) = false := tx_ne _ _ h1
  have hs2 := suffix_any t 58 (by omega)
  rw [show (t.getLast? == some 58) = true by rw [h2]; rfl] at hs2
  have SF := hid hs2
  obtain ⟨m, hm⟩ : ∃ m, t.length = m := ⟨_, rfl⟩
  have hm1 : 1 ≤ m := by
    rcases Nat.eq_zero_or_pos m with h0 | h0
    · rw [h0] at hm; have := List.eq_nil_of_length_eq_zero hm; rw [this] at h2; cases h2
    · exact h0
  have htm : (tx t).size = m := by rw [tx_size, hm]
  have sl : ∀ w, (Instr.sliceAt 9 (.string (tx t)) none (some (.int .i64 ((m : Int) - 1))) none).run Tryz.prog w = .ok (.string (tx t.dropLast)) w := by
    have := run_strto t (m - 1) (by omega)
    rwa [show ((m - 1 : Nat) : Int) = (m : Int) - 1 by omega, show t.take (m - 1) = t.dropLast by rw [List.dropLast_eq_take, hm]] at this
  have T2 := hid (fun (w : World) => progTrimmed t.dropLast (by simp; omega) w)
  have hll := trimT_length t.dropLast
  have hmb : m ≤ 262144 := by omega
  rw [List.length_dropLast, hm] at hll
  generalize t.dropLast = u at *
  generalize trimT u = lb at *
  have CK := hid (fun (w : World) => progCheck ⟨12, 0, 0, 0, 0, [], lb, 0⟩ (by simp; omega) w)
  clear hr hl hnl ht hs2 h2 h1 hm htl
  by_cases hnm : nameB lb = true
  · have hE := errI_yes (i := ⟨12, 0, 0, 0, 0, [], lb, 0⟩) (by rw [check_label]; exact hnm)
    rw [if_pos hnm] at HK
    rw [hE] at CK
    clear hE hnm
    go_enter Tryz.func12, Tryz.ntmps12
    go_wp2_with fail
    refine (TR.out _).mono ?_
    rintro e w1 ⟨rfl, E⟩
    go_wp2_with fail
    refine (SF.out _).mono ?_
    rintro e w2 ⟨rfl, rfl⟩
    go_wp2_with fail
    refine (T2.out _).mono ?_
    rintro e w3 ⟨rfl, E3⟩
    have E := ext_trans E E3
    go_wp2_with fail
    refine (CK.out _).mono ?_
    rintro e w4 ⟨rfl, E4⟩
    obtain ⟨⟨f0, f1, f2, f3, f4, f5, f6, f7⟩, hf2, hlt2, B2⟩ := freshV E4
    have E := ext_trans E B2
    obtain ⟨⟨d0, d1, d2, d3, d4, d5, d6, d7⟩, hf, hlt, B⟩ := fresh8 E
    clear E E3 E4 B2
    go_wp2_with fail
    exact bodyPost_ret (by simp [results, Tryz.results12, go_sem, d0, d1, d2, d3, d4, d5, d6, d7]) rfl (RetP.yes HK.out rfl (by repeat (first | with_reducible assumption | with_reducible exact Below.refl _ _ | with_reducible refine bel_alloc ?_ _ | with_reducible refine bel_drew ?_ | with_reducible refine bel_set ?_ (by dsimp only; omega) _)))
  · have hE := errI_no (i := ⟨12, 0, 0, 0, 0, [], lb, 0⟩) (by rw [check_label]; simpa using hnm)
    rw [if_neg hnm] at HK
    rw [hE] at CK
    clear hE hnm
    go_enter Tryz.func12, Tryz.ntmps12
    go_wp2_with fail
    refine (TR.out _).mono ?_
    rintro e w1 ⟨rfl, E⟩
    go_wp2_with fail
    refine (SF.out _).mono ?_
    rintro e w2 ⟨rfl, rfl⟩
    go_wp2_with fail
    refine (T2.out _).mono ?_
    rintro e w3 ⟨rfl, E3⟩
    have E := ext_trans E E3
    go_wp2_with fail
    refine (CK.out _).mono ?_
    rintro e w4 ⟨rfl, E4⟩
    obtain ⟨⟨f0, f1, f2, f3, f4, f5, f6, f7⟩, hf2, hlt2, B2⟩ := freshV E4
    have E := ext_trans E B2
    obtain ⟨⟨d0, d1, d2, d3, d4, d5, d6, d7⟩, hf, hlt, B⟩ := fresh8 E
    clear E E3 E4 B2
    go_wp2_with fail
    exact bodyPost_ret (by simp [results, Tryz.results12, go_sem, d0, d1, d2, d3, d4, d5, d6, d7]) rfl (RetP.no HK.out rfl (by repeat (first | with_reducible assumption | with_reducible exact Below.refl _ _ | with_reducible refine bel_alloc ?_ _ | with_reducible refine bel_drew ?_ | with_reducible refine bel_set ?_ (by dsimp only; omega) _)))
end Go.Proofs.YtigimkgmghjgoaaGreatDoor
