/- The walk of Parse of the one constant text that the statements parse (the document's answer). No condition. -/
import Derived.Test.YteijgmaggmhggaaE28
import Derived.Test.YteijgmaggmhggaaLibE3
namespace Go.Proofs.Yteijgmaggmhggaa
open Go.RowKit
set_option linter.unusedVariables false

attribute [local go_sem high] eqE neqE

def sbText : ByteArray := ⟨#[80, 111, 100, 87, 82, 32, 70, 114, 101, 32, 80, 111, 100, 87, 82, 32, 70, 114, 101]⟩
def sbAt : Nat → Nat
  | 0 => 0 | 1 => 5 | 2 => 6 | 3 => 9 | 4 => 10 | 5 => 15 | 6 => 16 | _ => 19
def sbTo : Nat → List Edge
  | 0 => []
  | 1 => [ofCode 8] | 2 => [ofCode 8]
  | 3 => [ofCode 8, ofCode 2] | 4 => [ofCode 8, ofCode 2]
  | 5 => [ofCode 8, ofCode 2, ofCode 8] | 6 => [ofCode 8, ofCode 2, ofCode 8]
  | _ => [ofCode 8, ofCode 2, ofCode 8, ofCode 2]
theorem refParse_at (s : ByteArray) (k : Nat) (hk : k < 9) (h : s = nm k) (w : World) : Calls Try.prog 44 #[.string s] w (Ret w (.tuple #[vE (ofCode k), .int .i64 0])) := by
  subst h; exact refParse_lo k hk w
def blankB (x : Int) : Bool := x == 32 || x == 9 || x == 10 || x == 13
theorem refBlank (x : Int) (b : Bool) (h : blankB x = b) (w : World) : Calls Try.prog 43 #[.int .u8 x] w fun e w' => e = .returned (.bool b) ∧ w = w' := by
  subst h
  by_cases h1 : x = 32
  · have z : (x == 32) = true := by simp [h1]
    have e : blankB x = true := by unfold blankB; rw [z]; rfl
    rw [e]; clear e h1
    go_enter Try.func43, Try.ntmps43
    go_wp2
    go_ret
    exact ⟨rfl, rfl⟩
  · have z1 : (x == 32) = false := by simp [h1]
    by_cases h2 : x = 9
    · have z : (x == 9) = true := by simp [h2]
      have e : blankB x = true := by unfold blankB; rw [z]; simp
      rw [e]; clear e h1 h2
      go_enter Try.func43, Try.ntmps43
      go_wp2
      go_ret
      exact ⟨rfl, rfl⟩
    · have z2 : (x == 9) = false := by simp [h2]
      by_cases h3 : x = 10
      · have z : (x == 10) = true := by simp [h3]
        have e : blankB x = true := by unfold blankB; rw [z]; simp
        rw [e]; clear e h1 h2 h3
        go_enter Try.func43, Try.ntmps43
        go_wp2
        go_ret
        exact ⟨rfl, rfl⟩
      · have z3 : (x == 10) = false := by simp [h3]
        have e : blankB x = (x == 13) := by unfold blankB; rw [z1, z2, z3]; simp
        rw [e]; clear e h1 h2 h3
        go_enter Try.func43, Try.ntmps43
        go_wp2
        go_ret
        exact ⟨rfl, rfl⟩
set_option maxRecDepth 100000 in
set_option maxHeartbeats 6400000 in
theorem refParse_sb (w : World) : Calls Try.prog 28 #[.string ⟨#[80, 111, 100, 87, 82, 32, 70, 114, 101, 32, 80, 111, 100, 87, 82, 32, 70, 114, 101]⟩] w
    (fun x w' => ∃ a c, x = .returned (.tuple #[.slice a 4 c, .int .i64 0, .int .i64 0]) ∧ OwnE w' w.heap.size a 4 c (sbTo 7) ∧ Below w.heap.size w w') := by
  have B0 := Below.refl w.heap.size w
  have o0 : OwnE w w.heap.size none 0 0 (sbTo 0) := Own.nil _ _ _ _
  go_enter Try.func28, Try.ntmps28
  go_wp2_with fail
  go_loopw [6, 7] (fun s i wr => ∃ (t c n p : Nat) (a : Option Addr) (L : List Edge), t ≤ 7 ∧ i = .int .i64 p ∧ s = .slice a n c ∧ Hid (p = sbAt t) ∧ Hid (n = (sbTo t).length) ∧ Hid (L = sbTo t) ∧ OwnE wr w.heap.size a n c L ∧ Below w.heap.size w wr) (fun _ i _ => 20 - (intOf i).toNat)
  case atStart => exact ⟨0, 0, 0, 0, none, _, by omega, rfl, rfl, rfl, rfl, rfl, o0, B0⟩
  case round =>
    clear o0 B0
    obtain ⟨t, c, n, p, a, L, ht, rfl, rfl, hp, hn, hL, o, B⟩ := hrel
    have htc : t = 0 ∨ t = 1 ∨ t = 2 ∨ t = 3 ∨ t = 4 ∨ t = 5 ∨ t = 6 ∨ t = 7 := by omega
    clear ht
    rcases htc with rfl | rfl | rfl | rfl | rfl | rfl | rfl | rfl
    · obtain rfl : p = 0 := hp.out
      obtain rfl : n = 0 := hn.out
      clear hp hn
      go_wp2_with (go_at_call 43; first | (refine (refBlank _ true rfl _).mono ?_; rintro x w8 ⟨rfl, rfl⟩) | (refine (refBlank _ false rfl _).mono ?_; rintro x w8 ⟨rfl, rfl⟩))
      go_loopw [7] (fun i wr => ∃ j : Nat, 0 ≤ j ∧ j ≤ 5 ∧ i = .int .i64 j ∧ OwnE wr w.heap.size a 0 c L ∧ Below w.heap.size w wr) (fun i _ => 20 - (intOf i).toNat)
      case atStart => exact ⟨0, by omega, by omega, rfl, o, B⟩
      case round =>
        clear o B
        obtain ⟨j, hj1, hj2, rfl, o, B⟩ := hrel
        have hjc : j = 0 ∨ j = 1 ∨ j = 2 ∨ j = 3 ∨ j = 4 ∨ j = 5 := by omega
        clear hj1 hj2
        rcases hjc with rfl | rfl | rfl | rfl | rfl | rfl
        · go_wp2_with (go_at_call 43; first | (refine (refBlank _ true rfl _).mono ?_; rintro x w8 ⟨rfl, rfl⟩) | (refine (refBlank _ false rfl _).mono ?_; rintro x w8 ⟨rfl, rfl⟩))
          go_roundw
          case rel => exact ⟨1, by omega, by omega, by go_num, o, B⟩
          case measure => simp [intOf]
        · go_wp2_with (go_at_call 43; first | (refine (refBlank _ true rfl _).mono ?_; rintro x w8 ⟨rfl, rfl⟩) | (refine (refBlank _ false rfl _).mono ?_; rintro x w8 ⟨rfl, rfl⟩))
          go_roundw
          case rel => exact ⟨2, by omega, by omega, by go_num, o, B⟩
          case measure => simp [intOf]
        · go_wp2_with (go_at_call 43; first | (refine (refBlank _ true rfl _).mono ?_; rintro x w8 ⟨rfl, rfl⟩) | (refine (refBlank _ false rfl _).mono ?_; rintro x w8 ⟨rfl, rfl⟩))
          go_roundw
          case rel => exact ⟨3, by omega, by omega, by go_num, o, B⟩
          case measure => simp [intOf]
        · go_wp2_with (go_at_call 43; first | (refine (refBlank _ true rfl _).mono ?_; rintro x w8 ⟨rfl, rfl⟩) | (refine (refBlank _ false rfl _).mono ?_; rintro x w8 ⟨rfl, rfl⟩))
          go_roundw
          case rel => exact ⟨4, by omega, by omega, by go_num, o, B⟩
          case measure => simp [intOf]
        · go_wp2_with (go_at_call 43; first | (refine (refBlank _ true rfl _).mono ?_; rintro x w8 ⟨rfl, rfl⟩) | (refine (refBlank _ false rfl _).mono ?_; rintro x w8 ⟨rfl, rfl⟩))
          go_roundw
          case rel => exact ⟨5, by omega, by omega, by go_num, o, B⟩
          case measure => simp [intOf]
        · go_wp2_with (go_at_call 43; first | (refine (refBlank _ true rfl _).mono ?_; rintro x w8 ⟨rfl, rfl⟩) | (refine (refBlank _ false rfl _).mono ?_; rintro x w8 ⟨rfl, rfl⟩))
          refine (refParse_at _ 8 (by omega) (by kernel_rfl) _).mono ?_
          rintro x w7 ⟨rfl, E7⟩
          have B7 := B.trans (E7.mono B.size)
          have bx := Bx.new w7 (ofCode 8) 23
          have E8 := al w7 (mkE (ofCode 8))
          have o8 : OwnE (w7.alloc (mkE (ofCode 8))) w.heap.size a 0 c L := (o.below E7).below E8
          have B8 := B7.trans (E8.mono B7.size)
          obtain ⟨c0, c1, c2, c3, c4, c5⟩ := bx.cells
          have hs8 : (w7.alloc (mkE (ofCode 8))).heap.size = w7.heap.size + 1 := by simp
          have HS8 := hid hs8
          clear hs8 o B E7 E8 B7
          go_wp2_with (at_builtin; go_loud (refine wpList_app1n esl (.tmp 51) (.tmp 53) rfl rfl HS8.out rfl o8 rfl rfl (eC_one (ofCode 8)) B8 B8.size (by omega) (by unfold maxLen; omega) ?_))
          intro a9 c9 w9 o9 g9 B9
          have o10 : OwnE w9 w.heap.size a9 1 c9 (L ++ [ofCode 8]) := by unfold OwnE; rw [edges_snoc]; exact o9
          have hL2 := hid (show L ++ [ofCode 8] = sbTo 1 by rw [hL.out]; rfl)
          clear o8 o9 g9
          go_wp2_with fail
          go_roundw
          case rel => exact ⟨1, c9, 1, 5, a9, _, by omega, by go_num, rfl, rfl, rfl, hL2, o10, B9⟩
          case measure => simp [intOf]
    · obtain rfl : p = 5 := hp.out
      obtain rfl : n = 1 := hn.out
      clear hp hn
      go_wp2_with (go_at_call 43; first | (refine (refBlank _ true rfl _).mono ?_; rintro x w8 ⟨rfl, rfl⟩) | (refine (refBlank _ false rfl _).mono ?_; rintro x w8 ⟨rfl, rfl⟩))
      go_roundw
      case rel => exact ⟨2, c, 1, 6, a, L, by omega, by go_num, rfl, rfl, rfl, hL, o, B⟩
      case measure => simp [intOf]
    · obtain rfl : p = 6 := hp.out
      obtain rfl : n = 1 := hn.out
      clear hp hn
      go_wp2_with (go_at_call 43; first | (refine (refBlank _ true rfl _).mono ?_; rintro x w8 ⟨rfl, rfl⟩) | (refine (refBlank _ false rfl _).mono ?_; rintro x w8 ⟨rfl, rfl⟩))
      go_loopw [7] (fun i wr => ∃ j : Nat, 6 ≤ j ∧ j ≤ 9 ∧ i = .int .i64 j ∧ OwnE wr w.heap.size a 1 c L ∧ Below w.heap.size w wr) (fun i _ => 20 - (intOf i).toNat)
      case atStart => exact ⟨6, by omega, by omega, rfl, o, B⟩
      case round =>
        clear o B
        obtain ⟨j, hj1, hj2, rfl, o, B⟩ := hrel
        have hjc : j = 6 ∨ j = 7 ∨ j = 8 ∨ j = 9 := by omega
        clear hj1 hj2
        rcases hjc with rfl | rfl | rfl | rfl
        · go_wp2_with (go_at_call 43; first | (refine (refBlank _ true rfl _).mono ?_; rintro x w8 ⟨rfl, rfl⟩) | (refine (refBlank _ false rfl _).mono ?_; rintro x w8 ⟨rfl, rfl⟩))
          go_roundw
          case rel => exact ⟨7, by omega, by omega, by go_num, o, B⟩
          case measure => simp [intOf]
        · go_wp2_with (go_at_call 43; first | (refine (refBlank _ true rfl _).mono ?_; rintro x w8 ⟨rfl, rfl⟩) | (refine (refBlank _ false rfl _).mono ?_; rintro x w8 ⟨rfl, rfl⟩))
          go_roundw
          case rel => exact ⟨8, by omega, by omega, by go_num, o, B⟩
          case measure => simp [intOf]
        · go_wp2_with (go_at_call 43; first | (refine (refBlank _ true rfl _).mono ?_; rintro x w8 ⟨rfl, rfl⟩) | (refine (refBlank _ false rfl _).mono ?_; rintro x w8 ⟨rfl, rfl⟩))
          go_roundw
          case rel => exact ⟨9, by omega, by omega, by go_num, o, B⟩
          case measure => simp [intOf]
        · go_wp2_with (go_at_call 43; first | (refine (refBlank _ true rfl _).mono ?_; rintro x w8 ⟨rfl, rfl⟩) | (refine (refBlank _ false rfl _).mono ?_; rintro x w8 ⟨rfl, rfl⟩))
          refine (refParse_at _ 2 (by omega) (by kernel_rfl) _).mono ?_
          rintro x w7 ⟨rfl, E7⟩
          have B7 := B.trans (E7.mono B.size)
          have bx := Bx.new w7 (ofCode 2) 23
          have E8 := al w7 (mkE (ofCode 2))
          have o8 : OwnE (w7.alloc (mkE (ofCode 2))) w.heap.size a 1 c L := (o.below E7).below E8
          have B8 := B7.trans (E8.mono B7.size)
          obtain ⟨c0, c1, c2, c3, c4, c5⟩ := bx.cells
          have hs8 : (w7.alloc (mkE (ofCode 2))).heap.size = w7.heap.size + 1 := by simp
          have HS8 := hid hs8
          clear hs8 o B E7 E8 B7
          go_wp2_with (at_builtin; go_loud (refine wpList_app1n esl (.tmp 51) (.tmp 53) rfl rfl HS8.out rfl o8 rfl rfl (eC_one (ofCode 2)) B8 B8.size (by omega) (by unfold maxLen; omega) ?_))
          intro a9 c9 w9 o9 g9 B9
          have o10 : OwnE w9 w.heap.size a9 2 c9 (L ++ [ofCode 2]) := by unfold OwnE; rw [edges_snoc]; exact o9
          have hL2 := hid (show L ++ [ofCode 2] = sbTo 3 by rw [hL.out]; rfl)
          clear o8 o9 g9
          go_wp2_with fail
          go_roundw
          case rel => exact ⟨3, c9, 2, 9, a9, _, by omega, by go_num, rfl, rfl, rfl, hL2, o10, B9⟩
          case measure => simp [intOf]
    · obtain rfl : p = 9 := hp.out
      obtain rfl : n = 2 := hn.out
      clear hp hn
      go_wp2_with (go_at_call 43; first | (refine (refBlank _ true rfl _).mono ?_; rintro x w8 ⟨rfl, rfl⟩) | (refine (refBlank _ false rfl _).mono ?_; rintro x w8 ⟨rfl, rfl⟩))
      go_roundw
      case rel => exact ⟨4, c, 2, 10, a, L, by omega, by go_num, rfl, rfl, rfl, hL, o, B⟩
      case measure => simp [intOf]
    · obtain rfl : p = 10 := hp.out
      obtain rfl : n = 2 := hn.out
      clear hp hn
      go_wp2_with (go_at_call 43; first | (refine (refBlank _ true rfl _).mono ?_; rintro x w8 ⟨rfl, rfl⟩) | (refine (refBlank _ false rfl _).mono ?_; rintro x w8 ⟨rfl, rfl⟩))
      go_loopw [7] (fun i wr => ∃ j : Nat, 10 ≤ j ∧ j ≤ 15 ∧ i = .int .i64 j ∧ OwnE wr w.heap.size a 2 c L ∧ Below w.heap.size w wr) (fun i _ => 20 - (intOf i).toNat)
      case atStart => exact ⟨10, by omega, by omega, rfl, o, B⟩
      case round =>
        clear o B
        obtain ⟨j, hj1, hj2, rfl, o, B⟩ := hrel
        have hjc : j = 10 ∨ j = 11 ∨ j = 12 ∨ j = 13 ∨ j = 14 ∨ j = 15 := by omega
        clear hj1 hj2
        rcases hjc with rfl | rfl | rfl | rfl | rfl | rfl
        · go_wp2_with (go_at_call 43; first | (refine (refBlank _ true rfl _).mono ?_; rintro x w8 ⟨rfl, rfl⟩) | (refine (refBlank _ false rfl _).mono ?_; rintro x w8 ⟨rfl, rfl⟩))
          go_roundw
          case rel => exact ⟨11, by omega, by omega, by go_num, o, B⟩
          case measure => simp [intOf]
        · go_wp2_with (go_at_call 43; first | (refine (refBlank _ true rfl _).mono ?_; rintro x w8 ⟨rfl, rfl⟩) | (refine (refBlank _ false rfl _).mono ?_; rintro x w8 ⟨rfl, rfl⟩))
          go_roundw
          case rel => exact ⟨12, by omega, by omega, by go_num, o, B⟩
          case measure => simp [intOf]
        · go_wp2_with (go_at_call 43; first | (refine (refBlank _ true rfl _).mono ?_; rintro x w8 ⟨rfl, rfl⟩) | (refine (refBlank _ false rfl _).mono ?_; rintro x w8 ⟨rfl, rfl⟩))
          go_roundw
          case rel => exact ⟨13, by omega, by omega, by go_num, o, B⟩
          case measure => simp [intOf]
        · go_wp2_with (go_at_call 43; first | (refine (refBlank _ true rfl _).mono ?_; rintro x w8 ⟨rfl, rfl⟩) | (refine (refBlank _ false rfl _).mono ?_; rintro x w8 ⟨rfl, rfl⟩))
          go_roundw
          case rel => exact ⟨14, by omega, by omega, by go_num, o, B⟩
          case measure => simp [intOf]
        · go_wp2_with (go_at_call 43; first | (refine (refBlank _ true rfl _).mono ?_; rintro x w8 ⟨rfl, rfl⟩) | (refine (refBlank _ false rfl _).mono ?_; rintro x w8 ⟨rfl, rfl⟩))
          go_roundw
          case rel => exact ⟨15, by omega, by omega, by go_num, o, B⟩
          case measure => simp [intOf]
        · go_wp2_with (go_at_call 43; first | (refine (refBlank _ true rfl _).mono ?_; rintro x w8 ⟨rfl, rfl⟩) | (refine (refBlank _ false rfl _).mono ?_; rintro x w8 ⟨rfl, rfl⟩))
          refine (refParse_at _ 8 (by omega) (by kernel_rfl) _).mono ?_
          rintro x w7 ⟨rfl, E7⟩
          have B7 := B.trans (E7.mono B.size)
          have bx := Bx.new w7 (ofCode 8) 23
          have E8 := al w7 (mkE (ofCode 8))
          have o8 : OwnE (w7.alloc (mkE (ofCode 8))) w.heap.size a 2 c L := (o.below E7).below E8
          have B8 := B7.trans (E8.mono B7.size)
          obtain ⟨c0, c1, c2, c3, c4, c5⟩ := bx.cells
          have hs8 : (w7.alloc (mkE (ofCode 8))).heap.size = w7.heap.size + 1 := by simp
          have HS8 := hid hs8
          clear hs8 o B E7 E8 B7
          go_wp2_with (at_builtin; go_loud (refine wpList_app1n esl (.tmp 51) (.tmp 53) rfl rfl HS8.out rfl o8 rfl rfl (eC_one (ofCode 8)) B8 B8.size (by omega) (by unfold maxLen; omega) ?_))
          intro a9 c9 w9 o9 g9 B9
          have o10 : OwnE w9 w.heap.size a9 3 c9 (L ++ [ofCode 8]) := by unfold OwnE; rw [edges_snoc]; exact o9
          have hL2 := hid (show L ++ [ofCode 8] = sbTo 5 by rw [hL.out]; rfl)
          clear o8 o9 g9
          go_wp2_with fail
          go_roundw
          case rel => exact ⟨5, c9, 3, 15, a9, _, by omega, by go_num, rfl, rfl, rfl, hL2, o10, B9⟩
          case measure => simp [intOf]
    · obtain rfl : p = 15 := hp.out
      obtain rfl : n = 3 := hn.out
      clear hp hn
      go_wp2_with (go_at_call 43; first | (refine (refBlank _ true rfl _).mono ?_; rintro x w8 ⟨rfl, rfl⟩) | (refine (refBlank _ false rfl _).mono ?_; rintro x w8 ⟨rfl, rfl⟩))
      go_roundw
      case rel => exact ⟨6, c, 3, 16, a, L, by omega, by go_num, rfl, rfl, rfl, hL, o, B⟩
      case measure => simp [intOf]
    · obtain rfl : p = 16 := hp.out
      obtain rfl : n = 3 := hn.out
      clear hp hn
      go_wp2_with (go_at_call 43; first | (refine (refBlank _ true rfl _).mono ?_; rintro x w8 ⟨rfl, rfl⟩) | (refine (refBlank _ false rfl _).mono ?_; rintro x w8 ⟨rfl, rfl⟩))
      go_loopw [7] (fun i wr => ∃ j : Nat, 16 ≤ j ∧ j ≤ 19 ∧ i = .int .i64 j ∧ OwnE wr w.heap.size a 3 c L ∧ Below w.heap.size w wr) (fun i _ => 20 - (intOf i).toNat)
      case atStart => exact ⟨16, by omega, by omega, rfl, o, B⟩
      case round =>
        clear o B
        obtain ⟨j, hj1, hj2, rfl, o, B⟩ := hrel
        have hjc : j = 16 ∨ j = 17 ∨ j = 18 ∨ j = 19 := by omega
        clear hj1 hj2
        rcases hjc with rfl | rfl | rfl | rfl
        · go_wp2_with (go_at_call 43; first | (refine (refBlank _ true rfl _).mono ?_; rintro x w8 ⟨rfl, rfl⟩) | (refine (refBlank _ false rfl _).mono ?_; rintro x w8 ⟨rfl, rfl⟩))
          go_roundw
          case rel => exact ⟨17, by omega, by omega, by go_num, o, B⟩
          case measure => simp [intOf]
        · go_wp2_with (go_at_call 43; first | (refine (refBlank _ true rfl _).mono ?_; rintro x w8 ⟨rfl, rfl⟩) | (refine (refBlank _ false rfl _).mono ?_; rintro x w8 ⟨rfl, rfl⟩))
          go_roundw
          case rel => exact ⟨18, by omega, by omega, by go_num, o, B⟩
          case measure => simp [intOf]
        · go_wp2_with (go_at_call 43; first | (refine (refBlank _ true rfl _).mono ?_; rintro x w8 ⟨rfl, rfl⟩) | (refine (refBlank _ false rfl _).mono ?_; rintro x w8 ⟨rfl, rfl⟩))
          go_roundw
          case rel => exact ⟨19, by omega, by omega, by go_num, o, B⟩
          case measure => simp [intOf]
        · go_wp2_with (go_at_call 43; first | (refine (refBlank _ true rfl _).mono ?_; rintro x w8 ⟨rfl, rfl⟩) | (refine (refBlank _ false rfl _).mono ?_; rintro x w8 ⟨rfl, rfl⟩))
          refine (refParse_at _ 2 (by omega) (by kernel_rfl) _).mono ?_
          rintro x w7 ⟨rfl, E7⟩
          have B7 := B.trans (E7.mono B.size)
          have bx := Bx.new w7 (ofCode 2) 23
          have E8 := al w7 (mkE (ofCode 2))
          have o8 : OwnE (w7.alloc (mkE (ofCode 2))) w.heap.size a 3 c L := (o.below E7).below E8
          have B8 := B7.trans (E8.mono B7.size)
          obtain ⟨c0, c1, c2, c3, c4, c5⟩ := bx.cells
          have hs8 : (w7.alloc (mkE (ofCode 2))).heap.size = w7.heap.size + 1 := by simp
          have HS8 := hid hs8
          clear hs8 o B E7 E8 B7
          go_wp2_with (at_builtin; go_loud (refine wpList_app1n esl (.tmp 51) (.tmp 53) rfl rfl HS8.out rfl o8 rfl rfl (eC_one (ofCode 2)) B8 B8.size (by omega) (by unfold maxLen; omega) ?_))
          intro a9 c9 w9 o9 g9 B9
          have o10 : OwnE w9 w.heap.size a9 4 c9 (L ++ [ofCode 2]) := by unfold OwnE; rw [edges_snoc]; exact o9
          have hL2 := hid (show L ++ [ofCode 2] = sbTo 7 by rw [hL.out]; rfl)
          clear o8 o9 g9
          go_wp2_with fail
          go_roundw
          case rel => exact ⟨7, c9, 4, 19, a9, _, by omega, by go_num, rfl, rfl, rfl, hL2, o10, B9⟩
          case measure => simp [intOf]
    · obtain rfl : p = 19 := hp.out
      obtain rfl : n = 4 := hn.out
      clear hp hn
      go_wp2_with fail
      go_ret3
      obtain rfl : L = sbTo 7 := hL.out
      exact ⟨a, c, rfl, o, B⟩
end Go.Proofs.Yteijgmaggmhggaa
