/- The walks of the stable sort of few edges, of stronger (the program's). Conditions: fewer than twenty edges, in memory of the call's own; an edge of the architecture. -/
import Derived.Test.YteijgmaggmhggaaE20
import Derived.Test.YteijgmaggmhggaaE18
import Derived.Test.YteijgmaggmhggaaE3
namespace Go.Proofs.Yteijgmaggmhggaa
open Go.RowKit
set_option linter.unusedVariables false

attribute [local go_sem high] eqE neqE

set_option maxRecDepth 100000 in
set_option maxHeartbeats 1600000 in
theorem progStable (e : Edge) (b : Nat) (l : List Edge) (B : Nat) (a : Option Addr) (c : Nat) (w : World) (o : OwnE w B a l.length c l) (hb : Bx w b e) (hbB : b < B) (hB : B ≤ w.heap.size) (hl : l.length < 20) :
    Calls Try.prog 54 #[.slice a l.length c, .int .i64 l.length, .func (.func 37) #[] #[.pointer (some ⟨b, 0, none⟩)]] w (Lies B a c (byCost e l) w) := by
  have hbc := hid (byCost_length e l)
  have h1 : decide (20 ≤ (l.length : Int)) = false := by simp; omega
  have h2 : decide ((20 : Int) < (l.length : Int)) = false := by simp; omega
  go_enter Try.func54, Try.ntmps54
  go_wp2_with fail
  go_loopw [7, 8] (fun s t wr => s = .int .i64 0 ∧ t = .int .i64 20 ∧ OwnE wr B a l.length c l ∧ Bx wr b e ∧ wr = w) (fun _ _ _ => 0)
  case atStart => exact ⟨rfl, rfl, o, hb, rfl⟩
  case round =>
    clear o hb
    obtain ⟨rfl, rfl, o, hb, rfl⟩ := hrel
    go_wp2_with fail
    refine (progIns e b l B a c _ o hb hbB hB (by omega)).mono ?_
    rintro x w7 ⟨rfl, o7, B7⟩
    rw [hbc.out] at o7
    go_wp2_with fail
    go_loopw [6] (fun s w8 => s = .int .i64 20 ∧ w8 = w7) (fun _ _ => 0)
    case atStart => exact ⟨rfl, rfl⟩
    case round =>
      obtain ⟨rfl, rfl⟩ := hrel
      go_wp2_with fail
      go_end0
      unfold Lies
      rw [hbc.out]
      exact ⟨rfl, o7, B7⟩
theorem progSort (e : Edge) (b : Nat) (l : List Edge) (B : Nat) (a : Option Addr) (c : Nat) (w : World) (o : OwnE w B a l.length c l) (hb : Bx w b e) (hbB : b < B) (hB : B ≤ w.heap.size) (hl : l.length < 20) :
    Calls Try.prog 36 #[.slice a l.length c, .func (.func 37) #[] #[.pointer (some ⟨b, 0, none⟩)]] w (Lies B a c (byCost e l) w) := by
  go_enter Try.func36, Try.ntmps36
  go_wp2_with fail
  refine (progStable e b l B a c _ o hb hbB hB hl).mono ?_
  rintro x w7 ⟨rfl, o7, B7⟩
  go_wp2_with fail
  go_end0
  exact ⟨rfl, o7, B7⟩

/-- the edges that may stand in an edge's place, by cost -/
def strongE (arch : Int) (e : Edge) : List Edge := byCost e ((allE arch).filter (mayP e))
theorem few1 : ∀ c, c < 112 → ((allE 1).filter (mayP (ofCode c))).length < 20 := by decide +kernel
theorem few2 : ∀ c, c < 112 → ((allE 2).filter (mayP (ofCode c))).length < 20 := by decide +kernel
theorem few {arch : Int} (h : isArch arch) {e : Edge} (he : codeOf e < 112) : ((allE arch).filter (mayP e)).length < 20 := by
  rw [← codeOf_lt he]
  rcases h with rfl | rfl
  · exact few1 _ he
  · exact few2 _ he
theorem strongE_length {arch : Int} (h : isArch arch) {e : Edge} (he : codeOf e < 112) : (strongE arch e).length < 20 := by unfold strongE; rw [byCost_length]; exact few h he
theorem allE_length (arch : Int) : (allE arch).length ≤ 112 := allTo_length arch 112
set_option maxRecDepth 100000 in
set_option maxHeartbeats 1600000 in
theorem progStrong (arch : Int) (ha : isArch arch) (e : Edge) (he : codeOf e < 112) (w : World) :
    Calls Try.prog 21 #[.int .i64 arch, vE e] w (RetEs w (strongE arch e)) := by
  show Calls Try.prog _ _ w (RetEs w (byCost e ((allE arch).filter (mayP e))))
  have b0 := Bx.new w e 23
  have E1 := al w (mkE e)
  have hal := allE_length arch
  have hfew := few ha he
  have hlen := hid (byCost_length e ((allE arch).filter (mayP e)))
  have HA := hid ha
  clear ha he
  go_enter Try.func21, Try.ntmps21
  go_wp2_with fail
  refine (progAll arch HA.out _).mono ?_
  rintro x w7 ⟨a, c, rfl, o, E7⟩
  have b7 := b0.below E7
  have B7 := E1.trans (E7.mono E1.size)
  have hs7 : w.heap.size < (w.alloc (mkE e)).heap.size := by simp
  have hz7 : (w.alloc (mkE e)).heap.size ≤ w7.heap.size := E7.size
  obtain ⟨B, hB⟩ : ∃ B, (w.alloc (mkE e)).heap.size = B := ⟨_, rfl⟩
  have o : OwnE w7 B a (allE arch).length c (allE arch) := by rw [← hB]; exact o
  have hbB : w.heap.size < B := by omega
  have hB7 : B ≤ w7.heap.size := by omega
  have hwB : w.heap.size ≤ B := by omega
  clear hs7 hz7 hB E7
  generalize allE arch = A at *
  go_wp2_with fail
  refine (progDelete e w.heap.size A B a c _ o b7 hbB hB7 (by omega)).mono ?_
  rintro x w8 ⟨rfl, o8, B8⟩
  have b8 := b7.belowB hbB B8
  have hB8 : B ≤ w8.heap.size := by have := B8.size; omega
  clear o b7
  go_wp2_with fail
  refine (progSort e w.heap.size _ B a c _ o8 b8 hbB hB8 hfew).mono ?_
  rintro x w9 ⟨rfl, o9, B9⟩
  go_wp2_with fail
  go_ret
  unfold RetEs
  rw [hlen.out]
  rw [hlen.out] at o9
  exact ⟨a, c, rfl, Own.mono o9 hwB, B7.trans ((B8.mono hwB).trans (B9.mono hwB))⟩
end Go.Proofs.Yteijgmaggmhggaa
