/- The walk of read (the program's). Conditions: texts in memory as read, of lengths that an int holds; the library's variables as the program's text lays them. -/
import Derived.Test.YtigimkgmghjgoaaGreatDoorMathR4
import Derived.Test.YtigimkgmghjgoaaGreatDoorR10
namespace Go.Proofs.YtigimkgmghjgoaaGreatDoor
open Go.RowKit
set_option linter.unusedVariables false

/-- an instruction, and whether: what is kept of them -/
def Rd (r : Option Ins) (w : World) (e : Ending) (w' : World) : Prop :=
  ∃ (op d a b imm : Int) (label : Tx) (fence : Int) (ok : Bool), e = .returned (.tuple #[.agg #[.int .i64 op, .int .i64 d, .int .i64 a, .int .i64 b, .int .i64 imm, .string ⟨#[]⟩, .string (tx label), .int .i64 fence], .bool ok]) ∧ keepI ⟨op, d, a, b, imm, [], label, fence⟩ ok = r ∧ label.length ≤ 1000000 ∧ Below w.heap.size w w'
theorem Rd.of {r : Option Ins} {w w' : World} {e : Ending} {op d a b imm fence : Int} {ok : Bool} (h : RetF w op d a b imm ⟨#[]⟩ ⟨#[]⟩ fence ok e w') (hk : keepI ⟨op, d, a, b, imm, [], [], fence⟩ ok = r) : Rd r w e w' :=
  ⟨op, d, a, b, imm, [], fence, ok, h.1, hk, by simp, h.2⟩
theorem regOf_lt {s : Tx} : ∀ n, regOf s = some n → n < 32 := fun n h => (regOf_some h).1
theorem addrT_lt' {s : Tx} : ∀ n, addrT s = some n → n < 32 := fun n h => addrT_lt h
theorem len2 {l : List Tx} (h : l.length = 2) : ∃ x y, l = [x, y] := by
  match l, h with
  | [x, y], _ => exact ⟨x, y, rfl⟩
theorem len3 {l : List Tx} (h : l.length = 3) : ∃ x y z, l = [x, y, z] := by
  match l, h with
  | [x, y, z], _ => exact ⟨x, y, z, rfl⟩
theorem read_lw2 (x y : Tx) : readI [108, 119] [x, y] = match regOf x, addrT y with
      | some d, some a => some ⟨6, d, a, 0, 0, [], [], 0⟩
      | _, _ => none := by unfold readI; rw [if_pos rfl]; rfl
theorem read_sw2 (x y : Tx) : readI [115, 119] [x, y] = match regOf x, addrT y with
      | some d, some a => some ⟨7, 0, a, d, 0, [], [], 0⟩
      | _, _ => none := by unfold readI; rw [if_neg (by decide), if_pos rfl]; rfl
theorem read_lw_no {l : List Tx} (h : l.length ≠ 2) : readI [108, 119] l = none := by
  unfold readI; rw [if_pos rfl]
  match l with
  | [] => rfl
  | [_] => rfl
  | [_, _] => simp at h
  | _ :: _ :: _ :: _ => rfl
theorem read_sw_no {l : List Tx} (h : l.length ≠ 2) : readI [115, 119] l = none := by
  unfold readI; rw [if_neg (by decide), if_pos rfl]
  match l with
  | [] => rfl
  | [_] => rfl
  | [_, _] => simp at h
  | _ :: _ :: _ :: _ => rfl
theorem moved_lw (l : List Tx) (a : Option Addr) (c : Nat) (w : World) (h : Txs w a l) (hs : Sm l) : Calls Tryz.prog 66 #[.string (tx [108, 119]), .slice a l.length c] w (Rd (readI [108, 119] (l.map trimT)) w) := by
  by_cases hl : l.length = 2
  · obtain ⟨x, y, rfl⟩ := len2 hl
    refine (progMoved_lw [108, 119] x y rfl a c w h hs).mono fun e w' hh => Rd.of hh ?_
    rw [show [x, y].map trimT = [trimT x, trimT y] from rfl, read_lw2, addrT_trim]
    exact keep_lw regOf_lt addrT_lt'
  · refine (progMoved_no [108, 119] l.length c a hl w).mono fun e w' hh => Rd.of hh ?_
    rw [read_lw_no (by simpa using hl)]; rfl
theorem moved_sw (l : List Tx) (a : Option Addr) (c : Nat) (w : World) (h : Txs w a l) (hs : Sm l) : Calls Tryz.prog 66 #[.string (tx [115, 119]), .slice a l.length c] w (Rd (readI [115, 119] (l.map trimT)) w) := by
  by_cases hl : l.length = 2
  · obtain ⟨x, y, rfl⟩ := len2 hl
    refine (progMoved_sw [115, 119] x y (by decide) a c w h hs).mono fun e w' hh => Rd.of hh ?_
    rw [show [x, y].map trimT = [trimT x, trimT y] from rfl, read_sw2, addrT_trim]
    exact keep_sw regOf_lt addrT_lt'
  · refine (progMoved_no [115, 119] l.length c a hl w).mono fun e w' hh => Rd.of hh ?_
    rw [read_sw_no (by simpa using hl)]; rfl
theorem read_fence2 (x y : Tx) : readI [102, 101, 110, 99, 101] [x, y] = match fpartOf x, fpartOf y with
      | some k, some j => some ⟨13, 0, 0, 0, 0, [], [], 3 + 3 * k + j⟩
      | _, _ => none := by unfold readI; rw [if_neg (by decide), if_neg (by decide), if_pos rfl]; rfl
theorem read_fence_no {l : List Tx} (h : l.length ≠ 2) : readI [102, 101, 110, 99, 101] l = none := by
  unfold readI; rw [if_neg (by decide), if_neg (by decide), if_pos rfl]
  match l with
  | [] => rfl
  | [_] => rfl
  | [_, _] => simp at h
  | _ :: _ :: _ :: _ => rfl
theorem fence_rd (l : List Tx) (a : Option Addr) (c : Nat) (w : World) (h : Txs w a l) (hs : Sm l) : Calls Tryz.prog 67 #[.slice a l.length c] w (Rd (readI [102, 101, 110, 99, 101] (l.map trimT)) w) := by
  by_cases hl : l.length = 2
  · obtain ⟨x, y, rfl⟩ := len2 hl
    refine (progFence x y a c w h hs).mono fun e w' hh => ?_
    rw [show [x, y].map trimT = [trimT x, trimT y] from rfl, read_fence2]
    obtain ⟨h1 | h1, hb⟩ := hh
    · obtain ⟨k, j, hk, hj, hx, hy, he⟩ := h1
      rw [fpartOf_at k _ hx, fpartOf_at j _ hy]
      exact Rd.of ⟨he, hb⟩ (keep_true (by rw [check_fence]; simp; omega))
    · obtain ⟨hn, he⟩ := h1
      refine Rd.of ⟨he, hb⟩ ?_
      rw [keep_false]
      cases h2 : fpartOf (trimT x) with
      | none => rfl
      | some k => cases h3 : fpartOf (trimT y) with
        | none => rfl
        | some j =>
          obtain ⟨k', hk', -, ex⟩ := fpartOf_some h2
          obtain ⟨j', hj', -, ey⟩ := fpartOf_some h3
          exact absurd ⟨ex, ey⟩ (hn k' j' hk' hj' (.inl hk'))
  · refine (progFence_no l.length c a hl w).mono fun e w' hh => Rd.of hh ?_
    rw [read_fence_no (by simpa using hl)]; rfl
theorem Rd.map {r r' : Option Ins} {w w' : World} {e : Ending} (h : Rd r w e w') (hr : r = r') : Rd r' w e w' := hr ▸ h
set_option maxRecDepth 100000 in
set_option maxHeartbeats 3200000 in
theorem progRead_lw (l : List Tx) (a : Option Addr) (c : Nat) (w : World) (h : Txs w a l) (hs : Sm l) : Calls Tryz.prog 40 #[.string (tx [108, 119]), .slice a l.length c] w (Rd (readI [108, 119] (l.map trimT)) w) := by
  have z1 : ((tx [108, 119]).toList == [108, 119]) = true := by rw [tx_toList]; rfl
  have C := hid (moved_lw l a c (w.alloc zeroI) (h.below (al _ _)) hs)
  generalize readI [108, 119] (l.map trimT) = r at *
  generalize l.length = n at *
  go_enter Tryz.func40, Tryz.ntmps40
  go_wp2_with fail
  refine C.out.mono ?_
  rintro e w1 ⟨op, d, a1, b, imm, label, fence, ok, rfl, hk, hl, E⟩
  obtain ⟨⟨d0, d1, d2, d3, d4, d5, d6, d7⟩, hf, hlt, B⟩ := fresh8 E
  have HK := hid hk
  clear hk E h hs
  go_wp2_with fail
  exact bodyPost_ret (by simp [results, Tryz.results40, go_sem, d0, d1, d2, d3, d4, d5, d6, d7]) rfl ⟨op, d, a1, b, imm, label, fence, ok, rfl, HK.out, hl, (by repeat (first | with_reducible assumption | with_reducible exact Below.refl _ _ | with_reducible refine bel_alloc ?_ _ | with_reducible refine bel_drew ?_ | with_reducible refine bel_set ?_ (by dsimp only; omega) _))⟩
end Go.Proofs.YtigimkgmghjgoaaGreatDoor
