/- The walks of TwinLocal, SameLocal and KeptLocal (the document's). Conditions: the registers lie in memory as read, no more of them than memory holds. · The walks of SameLocal and KeptLocal (the document's), where the answer is yes. Conditions: the registers lie in memory as read. · Threads and what is asked of the memory, in blocks of their own; an append as a step of a drawn region. Lemmas of this claim's own; no condition. -/
import Derived.Test.YtigimkgmghjgoaaGreatDoorQV17
import Derived.Deep.RegionHeld3
import Derived.Deep.DeepCutAuto
namespace Go.Proofs.YtigimkgmghjgoaaGreatDoor
open Go.RowKit
set_option linter.unusedVariables false

attribute [local go_sem high] eqI neqI eqV neqV
def mk4 : Tx := [109, 97, 114, 107]
def marksV (k : Nat) : List Vl := (List.range k).map fun (i : Nat) => ⟨mk4, (i : Int)⟩
theorem marksV_succ (k : Nat) : marksV (k + 1) = marksV k ++ [⟨mk4, k⟩] := by simp [marksV, List.range_succ]
theorem marksV_length (k : Nat) : (marksV k).length = k := by simp [marksV]
theorem valsC_mark (l : List Vl) (k : Nat) : valsC (l ++ marksV (k + 1)) = valsC (l ++ marksV k) ++ [.string ⟨#[109, 97, 114, 107]⟩, .int .i64 k] := by
  rw [marksV_succ, ← List.append_assoc, valsC_app (l ++ marksV k)]; rfl
/-- a twin -/
def RetTwin (l : List Vl) (at' : Int) (w : World) (e : Ending) (w' : World) : Prop :=
  ∃ a c, e = .returned (.agg #[.slice a l.length c, .int .i64 at']) ∧ OwnV w' w.heap.size a (l.length + 40) c (l ++ marksV 40) ∧ Below w.heap.size w w'
set_option maxRecDepth 100000 in
set_option maxHeartbeats 3200000 in
theorem refTwinLocal (l : List Vl) (b : Option Addr) (cb : Nat) (at' : Int) (hb : l.length * 24 ≤ 140737488351232) (w : World) (hV : Vs w b l) :
    Calls Tryz.prog 24 #[.agg #[.slice b l.length cb, .int .i64 at']] w (RetTwin l at' w) := by
  have HV := hid hV
  unfold RetTwin
  obtain ⟨n, hn⟩ : ∃ n, l.length = n := ⟨_, rfl⟩
  have hrow : (valsC l).length = n * 2 := by rw [valsC_length, hn]
  rw [hn] at hb ⊢
  have A1 := al w (boxT b n cb at')
  have A2 := bel_alloc A1 zT
  have A3 := bel_alloc A2 (oT at')
  have s2 : ((w.alloc (boxT b n cb at')).alloc zT).heap.size = w.heap.size + 2 := by simp
  have s3 : (((w.alloc (boxT b n cb at')).alloc zT).alloc (oT at')).heap.size = w.heap.size + 3 := by simp
  have hVa := hV.below A3
  have on := (Own.nil (((w.alloc (boxT b n cb at')).alloc zT).alloc (oT at')) (((w.alloc (boxT b n cb at')).alloc zT).alloc (oT at')).heap.size 50 2)
  clear hV hn
  go_enter Tryz.func24, Tryz.ntmps24
  go_wp2_with (at_builtin; go_loud (refine wpList_app vsl (.tmp 10) (.tmp 12) rfl rfl rfl on rfl hVa.row hrow (valsC_oneCell _) (Below.refl _ _) (Nat.le_refl _) (by omega) (by unfold maxLen; omega) ?_))
  intro a1 c1 w4 o1 g1 B1
  have T : OwnV w4 (w.heap.size + 3) a1 (n + 0) c1 (l ++ marksV 0) := by rw [← s3]; simpa [OwnV, marksV] using o1
  have B1 : Below (w.heap.size + 3) (((w.alloc (boxT b n cb at')).alloc zT).alloc (oT at')) w4 := by first | exact B1 | (rw [← s3]; exact B1)
  have hwp : w.heap.size + 3 ≤ w4.heap.size := by have := B1.size; rw [s3] at this; exact this
  have h2 := heap_alloc_new (w.alloc (boxT b n cb at')) zT
  have s1 : (w.alloc (boxT b n cb at')).heap.size = w.heap.size + 1 := by simp
  rw [s1] at h2
  have h3 := heap_alloc_new ((w.alloc (boxT b n cb at')).alloc zT) (oT at')
  rw [s2] at h3
  have D1 := al ((w.alloc (boxT b n cb at')).alloc zT) (oT at')
  have C2 : ∀ j, w4.cell? ⟨w.heap.size + 1, j, none⟩ = ((w.alloc (boxT b n cb at')).alloc zT).cell? ⟨w.heap.size + 1, j, none⟩ := fun j =>
    (B1.cell (p := ⟨w.heap.size + 1, j, none⟩) (by dsimp only; omega)).trans (D1.cell (p := ⟨w.heap.size + 1, j, none⟩) (by rw [s2]; dsimp only; omega))
  have C3 : ∀ j, w4.cell? ⟨w.heap.size + 1 + 1, j, none⟩ = (((w.alloc (boxT b n cb at')).alloc zT).alloc (oT at')).cell? ⟨w.heap.size + 2, j, none⟩ := fun j =>
    (B1.cell (p := ⟨w.heap.size + 2, j, none⟩) (by dsimp only; omega))
  have F2 : ∀ j, w4.frozen? ⟨w.heap.size + 1, j, none⟩ = ((w.alloc (boxT b n cb at')).alloc zT).frozen? ⟨w.heap.size + 1, j, none⟩ := fun j =>
    (B1.frozen (p := ⟨w.heap.size + 1, j, none⟩) (by dsimp only; omega)).trans (D1.frozen (p := ⟨w.heap.size + 1, j, none⟩) (by rw [s2]; dsimp only; omega))
  have F3 : ∀ j, w4.frozen? ⟨w.heap.size + 1 + 1, j, none⟩ = (((w.alloc (boxT b n cb at')).alloc zT).alloc (oT at')).frozen? ⟨w.heap.size + 2, j, none⟩ := fun j =>
    (B1.frozen (p := ⟨w.heap.size + 2, j, none⟩) (by dsimp only; omega))
  have l0 : w4.cell? ⟨w.heap.size + 1, 0, none⟩ = some (.slice none 0 0) := by rw [C2]; simp only [World.cell?, h2]; simp
  have l1 : w4.cell? ⟨w.heap.size + 1, 1, none⟩ = some (.int .i64 0) := by rw [C2]; simp only [World.cell?, h2]; simp
  have o0 : w4.cell? ⟨w.heap.size + 1 + 1, 0, none⟩ = some (.slice none 0 0) := by rw [C3]; simp only [World.cell?, h3]; simp
  have p1 : w4.cell? ⟨w.heap.size + 1 + 1, 1, none⟩ = some (.int .i64 at') := by rw [C3]; simp only [World.cell?, h3]; simp
  have fl : ∀ j, w4.frozen? ⟨w.heap.size + 1, j, none⟩ = false := fun j => by rw [F2]; simp only [World.frozen?, h2]; simp
  have fo' : ∀ j, w4.frozen? ⟨w.heap.size + 1 + 1, j, none⟩ = false := fun j => by rw [F3]; simp only [World.frozen?, h3]; simp
  have E : Below w.heap.size w w4 := A3.trans (B1.mono (by omega))
  clear C2 C3 F2 F3 h2 h3 D1 s1 s2 s3 A1 A2 A3 on o1 g1 hVa B1
  go_wp2_with fail
  go_loopw [5] (fun i wr => ∃ (j : Nat) (a' : Option Addr) (c' : Nat), j ≤ 40 ∧ i = .int .i64 j ∧ OwnV wr (w.heap.size + 3) a' (n + j) c' (l ++ marksV j) ∧ Below w.heap.size w wr ∧ w.heap.size + 3 ≤ wr.heap.size
    ∧ wr.cell? ⟨w.heap.size + 1, 0, none⟩ = some (.slice none 0 0) ∧ wr.cell? ⟨w.heap.size + 1, 1, none⟩ = some (.int .i64 0) ∧ wr.cell? ⟨w.heap.size + 1 + 1, 0, none⟩ = some (.slice a' (n + j) c') ∧ wr.cell? ⟨w.heap.size + 1 + 1, 1, none⟩ = some (.int .i64 at')
    ∧ (∀ j, wr.frozen? ⟨w.heap.size + 1, j, none⟩ = false) ∧ (∀ j, wr.frozen? ⟨w.heap.size + 1 + 1, j, none⟩ = false)) (fun i _ => 40 - (intOf i).toNat)
  case atStart =>
    have hO : a1 = none ∨ bk a1 ≠ w.heap.size + 1 + 1 := by
      by_cases h : a1 = none
      · exact .inl h
      · have := (Own.lt T h).1; exact .inr (by omega)
    refine ⟨0, a1, c1, Nat.zero_le _, rfl, own_other T hO, bel_set (p := ⟨w.heap.size + 1 + 1, 0, none⟩) E (by dsimp only; omega) _, by simp; omega, ?_, ?_, ?_, ?_, ?_, ?_⟩
    · exact (World.cell?_setCell_other _ ⟨w.heap.size + 1 + 1, 0, none⟩ ⟨w.heap.size + 1, 0, none⟩ _ (by simp)).trans l0
    · exact (World.cell?_setCell_other _ ⟨w.heap.size + 1 + 1, 0, none⟩ ⟨w.heap.size + 1, 1, none⟩ _ (by simp)).trans l1
    · exact World.cell?_setCell_same _ _ _ o0
    · exact (World.cell?_setCell_other _ ⟨w.heap.size + 1 + 1, 0, none⟩ ⟨w.heap.size + 1 + 1, 1, none⟩ _ (by simp)).trans p1
    · intro j; exact (World.frozen?_of_block (Below.heap_setCell _ _ _ _ (by dsimp only; omega))).trans (fl j)
    · intro j; rw [World.frozen?_setCell]; exact fo' j
  case round =>
    clear T E l0 l1 o0 p1 fl fo' hwp
    obtain ⟨j, a', c', hj, rfl, o1, E, hsz, l0, l1, o0, p1, fl, fo'⟩ := hrel
    by_cases hlt : j < 40
    · go_wp2_with (at_builtin; go_loud (refine wpList_app1 vsl (.tmp 23) (.tmp 26) rfl rfl rfl o1 rfl rfl (by intro u hu; simp at hu; rcases hu with rfl | rfl <;> rfl) (Below.refl (w.heap.size + 3) wr) hsz (by omega) (by unfold maxLen; omega) ?_))
      intro a3 c3 w3 o3 g3 B3
      have o4 : OwnV w3 (w.heap.size + 3) a3 (n + (j + 1)) c3 (l ++ marksV (j + 1)) := by
        unfold OwnV
        rw [valsC_mark]; exact o3
      have E := E.trans (B3.mono (by omega))
      have hsz3 := Nat.le_trans hsz B3.size
      replace l0 := (B3.cell (p := ⟨w.heap.size + 1, 0, none⟩) (by dsimp only; omega)).trans l0
      replace l1 := (B3.cell (p := ⟨w.heap.size + 1, 1, none⟩) (by dsimp only; omega)).trans l1
      replace o0 := (B3.cell (p := ⟨w.heap.size + 1 + 1, 0, none⟩) (by dsimp only; omega)).trans o0
      replace p1 := (B3.cell (p := ⟨w.heap.size + 1 + 1, 1, none⟩) (by dsimp only; omega)).trans p1
      replace fl := fun j => (B3.frozen (p := ⟨w.heap.size + 1, j, none⟩) (by dsimp only; omega)).trans (fl j)
      replace fo' := fun j => (B3.frozen (p := ⟨w.heap.size + 1 + 1, j, none⟩) (by dsimp only; omega)).trans (fo' j)
      have f0 := fo' 0
      have hO : a3 = none ∨ bk a3 ≠ w.heap.size + 1 + 1 := by
        by_cases h : a3 = none
        · exact .inl h
        · have := (Own.lt o4 h).1; exact .inr (by omega)
      have o5 := hid (own_other (j := 0) (v := .slice a3 (n + (j + 1)) c3) o4 hO)
      have E5 := bel_set (p := ⟨w.heap.size + 1 + 1, 0, none⟩) E (by dsimp only; omega) (.slice a3 (n + (j + 1)) c3)
      have L0 := (World.cell?_setCell_other _ ⟨w.heap.size + 1 + 1, 0, none⟩ ⟨w.heap.size + 1, 0, none⟩ (.slice a3 (n + (j + 1)) c3) (by simp)).trans l0
      have L1 := (World.cell?_setCell_other _ ⟨w.heap.size + 1 + 1, 0, none⟩ ⟨w.heap.size + 1, 1, none⟩ (.slice a3 (n + (j + 1)) c3) (by simp)).trans l1
      have P0 := World.cell?_setCell_same _ _ (.slice a3 (n + (j + 1)) c3) o0
      have P1 := (World.cell?_setCell_other _ ⟨w.heap.size + 1 + 1, 0, none⟩ ⟨w.heap.size + 1 + 1, 1, none⟩ (.slice a3 (n + (j + 1)) c3) (by simp)).trans p1
      have FL := fun j' => (World.frozen?_of_block (Below.heap_setCell w3 ⟨w.heap.size + 1 + 1, 0, none⟩ (.slice a3 (n + (j + 1)) c3) _ (by dsimp only; omega))).trans (fl j')
      have FO := fun j' => show (w3.setCell ⟨w.heap.size + 1 + 1, 0, none⟩ (.slice a3 (n + (j + 1)) c3)).frozen? ⟨w.heap.size + 1 + 1, j', none⟩ = false by rw [World.frozen?_setCell]; exact fo' j'
      have L0 := hid L0; have L1 := hid L1; have P0 := hid P0; have P1 := hid P1; have FL := hid FL; have FO := hid FO
      clear o1 o3 g3 o4 B3 hsz hO E
      go_wp2_with fail
      go_roundw
      case rel => exact ⟨j + 1, a3, c3, by omega, by go_num, o5.out, E5, by simpa using hsz3, L0.out, L1.out, P0.out, P1.out, FL.out, FO.out⟩
      case measure => simp [intOf]; omega
    · obtain rfl : j = 40 := by omega
      have hcap := o1.cap.1
      have cut := run_cut_to vsl a' (n + 40) c' n (by omega) .i64
      have f0 := fo' 0; have f1 := fl 0; have f2 := fl 1
      have hO : a' = none ∨ bk a' ≠ w.heap.size + 1 + 1 := by
        by_cases h : a' = none
        · exact .inl h
        · have := (Own.lt o1 h).1; exact .inr (by omega)
      have hO2 : a' = none ∨ bk a' ≠ w.heap.size + 1 := by
        by_cases h : a' = none
        · exact .inl h
        · have := (Own.lt o1 h).1; exact .inr (by omega)
      have O := hid (Own.mono o1 (show w.heap.size ≤ w.heap.size + 3 by omega))
      clear o1
      go_wp2_with fail
      exact bodyPost_ret (by simp [results, Tryz.results24, go_sem, l0, l1]) rfl ⟨a', c', rfl, (by repeat (first | with_reducible exact O.out | with_reducible refine own_other ?_ hO | with_reducible refine own_other ?_ hO2)), (by repeat (first | with_reducible assumption | with_reducible exact Below.refl _ _ | with_reducible refine bel_alloc ?_ _ | with_reducible refine bel_drew ?_ | with_reducible refine bel_set ?_ (by dsimp only; omega) _))⟩
end Go.Proofs.YtigimkgmghjgoaaGreatDoor
namespace Go.Proofs.YtigimkgmghjgoaaGreatDoor
open Go.RowKit
set_option linter.unusedVariables false

attribute [local go_sem high] eqI neqI eqV neqV
abbrev W2t (w : World) (a : Option Addr) (n c : Nat) (p : Int) (a' : Option Addr) (n' c' : Nat) (p' : Int) : World := (w.alloc (boxT a n c p)).alloc (boxT a' n' c' p')
/-- two boxes of threads -/
theorem box2 {w w' : World} {a : Option Addr} {n c : Nat} {p : Int} {a' : Option Addr} {n' c' : Nat} {p' : Int} (h : Below (W2t w a n c p a' n' c' p').heap.size (W2t w a n c p a' n' c' p') w') :
    w'.cell? ⟨w.heap.size, 0, none⟩ = some (.slice a n c) ∧ w'.cell? ⟨w.heap.size, 1, none⟩ = some (.int .i64 p) ∧ w'.cell? ⟨w.heap.size + 1, 0, none⟩ = some (.slice a' n' c') ∧ w'.cell? ⟨w.heap.size + 1, 1, none⟩ = some (.int .i64 p') ∧ Below w.heap.size w w' ∧ w.heap.size + 2 ≤ w'.heap.size := by
  have s1 : (w.alloc (boxT a n c p)).heap.size = w.heap.size + 1 := by simp
  have s2 : (W2t w a n c p a' n' c' p').heap.size = w.heap.size + 2 := by simp
  have h1 := heap_alloc_new w (boxT a n c p)
  have h2 := heap_alloc_new (w.alloc (boxT a n c p)) (boxT a' n' c' p')
  rw [s1] at h2
  have b2 := al (w.alloc (boxT a n c p)) (boxT a' n' c' p')
  have C1 : ∀ j, w'.cell? ⟨w.heap.size, j, none⟩ = (w.alloc (boxT a n c p)).cell? ⟨w.heap.size, j, none⟩ := fun j =>
    (h.cell (p := ⟨w.heap.size, j, none⟩) (by rw [s2]; dsimp only; omega)).trans (b2.cell (p := ⟨w.heap.size, j, none⟩) (by rw [s1]; dsimp only; omega))
  have C2 : ∀ j, w'.cell? ⟨w.heap.size + 1, j, none⟩ = (W2t w a n c p a' n' c' p').cell? ⟨w.heap.size + 1, j, none⟩ := fun j =>
    h.cell (p := ⟨w.heap.size + 1, j, none⟩) (by rw [s2]; dsimp only; omega)
  refine ⟨?_, ?_, ?_, ?_, ext_trans (bel_alloc (al w _) _) h, by have := h.size; rw [s2] at this; exact this⟩
  · rw [C1]; simp only [World.cell?, h1]; simp
  · rw [C1]; simp only [World.cell?, h1]; simp
  · rw [C2]; simp only [World.cell?, h2]; simp
  · rw [C2]; simp only [World.cell?, h2]; simp
set_option maxRecDepth 100000 in
set_option maxHeartbeats 3200000 in
theorem refSameLocal (l : List Vl) (a1 a2 : Option Addr) (c1 c2 : Nat) (p : Int) (w : World) (h1 : Vs w a1 l) (h2 : Vs w a2 l) :
    Calls Tryz.prog 27 #[.agg #[.slice a1 l.length c1, .int .i64 p], .agg #[.slice a2 l.length c2, .int .i64 p]] w (Ret w (.bool true)) := by
  have H1 := hid h1; have H2 := hid h2
  have X1 := hid h1.idx; have X2 := hid h2.idx
  have hlen := h1.len
  obtain ⟨n, hn⟩ : ∃ n, l.length = n := ⟨_, rfl⟩
  rw [hn] at X1 X2 hlen ⊢
  have HG := hid (fun (k : Nat) (hk : k < n) => show ∃ i, l[k]? = some i from ⟨_, List.getElem?_eq_getElem (by omega)⟩)
  have zp : (p != p) = false := by simp
  have E0 := Below.refl (W2t w a1 n c1 p a2 n c2 p).heap.size (W2t w a1 n c1 p a2 n c2 p)
  clear h1 h2 hn
  go_enter Tryz.func27, Tryz.ntmps27
  go_wp2_with fail
  go_loopw [5] (fun i wr => ∃ k : Nat, k ≤ n ∧ i = .int .i64 k ∧ Below (W2t w a1 n c1 p a2 n c2 p).heap.size (W2t w a1 n c1 p a2 n c2 p) wr) (fun i _ => n - (intOf i).toNat)
  case atStart => exact ⟨0, by omega, rfl, E0⟩
  case round =>
    obtain ⟨k, hk, rfl, E⟩ := hrel
    obtain ⟨b0, b1, d0, d1, B, hsz⟩ := box2 E
    clear E0
    by_cases hlt : k < n
    · obtain ⟨x, hx⟩ := HG.out k hlt
      obtain ⟨p0, p1⟩ := (H1.out.below B).cells hx
      obtain ⟨q0, q1⟩ := (H2.out.below B).cells hx
      have ix := X1.out k hlt; have iy := X2.out k hlt
      have zx : decide (x = x) = true := decide_eq_true rfl
      have zx2 : (!decide (x = x)) = false := by rw [zx]; rfl
      clear hx B
      go_wp2_with fail
      go_quiet (fail)
      go_wp2_with fail
      go_roundw
      case rel => exact ⟨k + 1, by omega, by go_num, ext_trans E (below_drewN wr _)⟩
      case measure => simp [intOf]; omega
    · obtain rfl : k = n := by omega
      go_wp2_with fail
      go_ret
      exact ⟨rfl, B⟩
set_option maxRecDepth 100000 in
set_option maxHeartbeats 3200000 in
theorem refKeptLocal (l : List Vl) (a1 a2 : Option Addr) (c1 c2 : Nat) (p : Int) (w : World) (h1 : Vs w a1 (l ++ marksV 40)) (hc : l.length + 40 ≤ c1) (h2 : Vs w a2 l) :
    Calls Tryz.prog 28 #[.agg #[.slice a1 l.length c1, .int .i64 p], .agg #[.slice a2 l.length c2, .int .i64 p]] w (Ret w (.bool true)) := by
  have SL := hid (fun (w : World) (h1 : Vs w a1 l) (h2 : Vs w a2 l) => refSameLocal l a1 a2 c1 c2 p w h1 h2)
  have HP := hid (fun (w : World) (h1 : Vs w a1 (l ++ marksV 40)) => (show Vs w a1 l from ⟨by
    have h := h1.row
    rw [valsC_app] at h
    exact h.app_left, by have := h1.len; simp at this; omega⟩))
  have H1 := hid h1; have H2 := hid h2
  have X1 := h1.idx
  have hll : (l ++ marksV 40).length = l.length + 40 := by simp [marksV_length]
  rw [hll] at X1
  have X1 := hid X1
  have hlen := h2.len
  have HG := hid (fun (k : Nat) (hk : k < 40) => show (l ++ marksV 40)[l.length + k]? = some ⟨mk4, (k : Int)⟩ by
    rw [List.getElem?_append_right (by omega)]
    simp [marksV, hk])
  obtain ⟨n, hn⟩ : ∃ n, l.length = n := ⟨_, rfl⟩
  rw [hn] at X1 SL HG hlen hc ⊢
  have E0 := Below.refl (W2t w a1 n c1 p a2 n c2 p).heap.size (W2t w a1 n c1 p a2 n c2 p)
  obtain ⟨-, -, -, -, B0, -⟩ := box2 E0
  have V1 := HP.out _ (H1.out.below B0)
  have V2 := H2.out.below B0
  have cut := run_cut_to vsl a1 n c1 (n + 40) (by omega) .i64
  have ha : ((n + 40 : Nat) : Int) = (n : Int) + 40 := by omega
  rw [ha] at cut
  have hw : IntKind.i64.wrap ((n : Int) + 40) = (n : Int) + 40 := IntWalk.i64_in _ (by omega)
  clear h1 h2 hn hll ha
  go_enter Tryz.func28, Tryz.ntmps28
  go_wp2_with fail
  refine (SL.out _ V1 V2).mono ?_
  rintro e w1 ⟨rfl, E1⟩
  obtain ⟨b0, b1, d0, d1, B, hsz⟩ := box2 E1
  clear V1 V2 B0 E0
  go_wp2_with fail
  go_loopw [7] (fun i wr => ∃ k : Nat, k ≤ 40 ∧ i = .int .i64 k ∧ Below w.heap.size w wr) (fun i _ => 40 - (intOf i).toNat)
  case atStart => exact ⟨0, by omega, rfl, B⟩
  case round =>
    clear B
    obtain ⟨k, hk, rfl, B⟩ := hrel
    by_cases hlt : k < 40
    · have hx := HG.out k hlt
      obtain ⟨p0, p1⟩ := (H1.out.below B).cells hx
      have ix := X1.out (n + k) (by omega)
      have ha : ((n + k : Nat) : Int) = (n : Int) + (k : Int) := by omega
      rw [ha] at ix
      have hw2 : IntKind.i64.wrap ((n : Int) + (k : Int)) = (n : Int) + (k : Int) := IntWalk.i64_in _ (by omega)
      have zx : decide ((⟨mk4, (k : Int)⟩ : Vl) = ⟨mk4, (k : Int)⟩) = true := decide_eq_true rfl
      have NE : ∀ w, (binOp .neq 50 (.agg #[.string (tx mk4), .int .i64 k]) (.agg #[.string ⟨#[109, 97, 114, 107]⟩, .int .i64 k])).run Tryz.prog w = .ok (.bool false) w := fun w => by
        have := neqV ⟨mk4, k⟩ ⟨mk4, k⟩ w
        rw [zx] at this; exact this
      clear hx ha zx
      go_wp2_with fail
      go_roundw
      case rel => exact ⟨k + 1, by omega, by go_num, B⟩
      case measure => simp [intOf]; omega
    · obtain rfl : k = 40 := by omega
      go_wp2_with fail
      go_ret
      exact ⟨rfl, B⟩
end Go.Proofs.YtigimkgmghjgoaaGreatDoor
namespace Go.Proofs.YtigimkgmghjgoaaGreatDoor
open Go.RowKit
set_option linter.unusedVariables false

/-- a thread in a block by itself -/
def BxT (w : World) (d : Nat) (a : Option Addr) (n c : Nat) (p : Int) : Prop := d < w.heap.size ∧ w.cell? ⟨d, 0, none⟩ = some (.slice a n c) ∧ w.cell? ⟨d, 1, none⟩ = some (.int .i64 p)
theorem BxT.new (w : World) (a : Option Addr) (n c : Nat) (p : Int) : BxT (w.alloc (boxT a n c p)) w.heap.size a n c p := by
  have hh := heap_alloc_new w (boxT a n c p)
  exact ⟨by simp, by simp only [World.cell?, hh]; simp, by simp only [World.cell?, hh]; simp⟩
theorem BxT.below {w w' : World} {d : Nat} {a : Option Addr} {n c : Nat} {p : Int} (h : BxT w d a n c p) (hb : Below w.heap.size w w') : BxT w' d a n c p :=
  ⟨Nat.lt_of_lt_of_le h.1 hb.size, by rw [hb.cell (p := ⟨d, 0, none⟩) h.1]; exact h.2.1, by rw [hb.cell (p := ⟨d, 1, none⟩) h.1]; exact h.2.2⟩
theorem step_block {w w' : World} {sa a' : Option Addr} (st : Step w w' sa a') {d : Nat} (hd : d < w.heap.size) (hne : sa = none ∨ bk sa ≠ d) : w'.heap[d]? = w.heap[d]? := by
  refine st.grown.block d hd ?_
  cases sa with
  | none => simp
  | some x => rcases hne with h | h; · cases h
              · intro e; simp at e; exact h (by simpa [bk] using e.symm)
theorem BxT.step {w w' : World} {d : Nat} {a : Option Addr} {n c : Nat} {p : Int} {sa a' : Option Addr} (h : BxT w d a n c p) (st : Step w w' sa a') (hne : sa = none ∨ bk sa ≠ d) : BxT w' d a n c p :=
  ⟨Nat.lt_of_lt_of_le h.1 st.grown.size, (World.cell?_of_block (a := ⟨d, 0, none⟩) (step_block st h.1 hne)).trans h.2.1, (World.cell?_of_block (a := ⟨d, 1, none⟩) (step_block st h.1 hne)).trans h.2.2⟩
abbrev mkAc (x : Ac) : Obj := .cells #[.int .i64 x.kind, .string (tx x.loc), .int .i64 x.value, .int .i64 x.reg, .int .i64 x.fence] 45
/-- an act in a block by itself -/
def BxA (w : World) (d : Nat) (x : Ac) : Prop := d < w.heap.size ∧ w.cell? ⟨d, 0, none⟩ = some (.int .i64 x.kind) ∧ w.cell? ⟨d, 1, none⟩ = some (.string (tx x.loc)) ∧ w.cell? ⟨d, 2, none⟩ = some (.int .i64 x.value) ∧ w.cell? ⟨d, 3, none⟩ = some (.int .i64 x.reg) ∧ w.cell? ⟨d, 4, none⟩ = some (.int .i64 x.fence)
theorem BxA.new (w : World) (x : Ac) : BxA (w.alloc (mkAc x)) w.heap.size x := by
  have hh := heap_alloc_new w (mkAc x)
  refine ⟨by simp, ?_, ?_, ?_, ?_, ?_⟩ <;> (simp only [World.cell?, hh]; simp)
theorem BxA.below {w w' : World} {d : Nat} {x : Ac} (h : BxA w d x) (hb : Below w.heap.size w w') : BxA w' d x := by
  obtain ⟨h0, h1, h2, h3, h4, h5⟩ := h
  refine ⟨Nat.lt_of_lt_of_le h0 hb.size, ?_, ?_, ?_, ?_, ?_⟩
  · rw [hb.cell (p := ⟨d, 0, none⟩) h0]; exact h1
  · rw [hb.cell (p := ⟨d, 1, none⟩) h0]; exact h2
  · rw [hb.cell (p := ⟨d, 2, none⟩) h0]; exact h3
  · rw [hb.cell (p := ⟨d, 3, none⟩) h0]; exact h4
  · rw [hb.cell (p := ⟨d, 4, none⟩) h0]; exact h5
theorem eqAc (x y : Ac) (w : World) : (binOp .eql 45 (aV x) (aV y)).run Tryz.prog w = .ok (.bool (decide (x = y))) w := by
  have hS : Tryz.prog.underlying 45 = some (.struct (Tryz.prog.fieldsOf 45)) := by kernel_rfl
  have hp : Tryz.prog.stoodInHeld 45 = false := by kernel_rfl
  have a3 := Tryz.isAgg3; have z3 := Tryz.sizeOf3; have u3 := Tryz.underlying3
  have a4 := Tryz.isAgg9; have z4 := Tryz.sizeOf9; have u4 := Tryz.underlying9
  rw [run_eql_struct, show (10000 : Nat) = 9999 + 1 from rfl, run_equalIn_agg w 9999 45 _ _ hS hp]
  simp only [Program.fieldsOf, Tryz.underlying45]
  go_simp
  have e : (x = y) ↔ (x.kind = y.kind ∧ x.loc = y.loc ∧ x.value = y.value ∧ x.reg = y.reg ∧ x.fence = y.fence) := by cases x; cases y; simp
  rw [show decide (x = y) = decide (x.kind = y.kind ∧ x.loc = y.loc ∧ x.value = y.value ∧ x.reg = y.reg ∧ x.fence = y.fence) from decide_eq_decide.2 e]
  simp only [tx_toList]
  by_cases h1 : x.kind = y.kind <;> by_cases h2 : x.loc = y.loc <;> by_cases h3 : x.value = y.value <;> by_cases h4 : x.reg = y.reg <;> by_cases h5 : x.fence = y.fence <;> simp [h1, h2, h3, h4, h5]
theorem neqAc (x y : Ac) (w : World) : (binOp .neq 45 (aV x) (aV y)).run Tryz.prog w = .ok (.bool (!decide (x = y))) w := by
  have h := eqAc x y w
  rw [run_eql_struct] at h
  rw [run_neq_struct]
  generalize (Op.equalIn 10000 45 (.agg #[.int .i64 x.kind, .string (tx x.loc), .int .i64 x.value, .int .i64 x.reg, .int .i64 x.fence]) (.agg #[.int .i64 y.kind, .string (tx y.loc), .int .i64 y.value, .int .i64 y.reg, .int .i64 y.fence])).run Tryz.prog w = r at *
  cases r with
  | ok b w' => simp [Result.andThen] at h ⊢; obtain ⟨rfl, rfl⟩ := h; exact ⟨rfl, rfl⟩
  | halt x w' => simp [Result.andThen] at h
theorem step_app {P : Program} {t e : TypeId} {z : Value} {size bytes : Nat} (T : ElT P t e z size bytes) {ops : Array Oper} {o : Oper} {f : Act} {K : Act → World → Prop} {Q : Exit → Act → World → Prop} {E : Prop} {w : World} (s x : Operand) (hgd : o.guard = none) (ho : o.op = .call { callee := .builtin .append, args := #[s, x], argTypes := #[t, t] })
    {B n c : Nat} {sa : Option Addr} {xs : List Value} (hs : f.eval s = .slice sa n c) (hown : Own w B e size sa n c xs)
    {xa : Option Addr} {m xc : Nat} {ys : List Value} (hx : f.eval x = .slice xa m xc) (hrow : Row w xa ys) (hl : ys.length = m * size) (h1c : ∀ u ∈ ys, u.oneCell' = true)
    (hB0 : B ≤ w.heap.size) (hbytes : (n + m) * bytes ≤ 140737488355328) (hm : n + m ≤ maxLen)
    (h : ∀ a' c' w', Own w' B e size a' (n + m) c' (xs ++ ys) → Grew w w' sa c a' c' → K (f.put o.dst (.slice a' (n + m) c')) w') : if Region.wanted o (yielded ops f.tmps) = true then Oper.wp P o f w K Q else E := by
  have hw : Region.wanted o (yielded ops f.tmps) = true := by simp [Region.wanted, hgd]
  rw [if_pos hw]
  obtain ⟨a', c', w', hrun, h1, h2⟩ := run_app T o.type hown (xc := xc) hrow hl h1c hbytes hm hB0
  unfold Oper.wp execOp
  simp only [ho, resolve, invoke, builtin, Sem.run_bind, Sem.run_pure, Result.andThen_ok, List.map_toArray, List.map_cons, List.map_nil, hs, hx, hrun]
  exact h a' c' w' h1 h2
theorem cell_far {w : World} {d k : Nat} {p : Addr} {v x : Value} (h : w.cell? p = some x) (hp : p.block ≠ d) : (w.setCell ⟨d, k, none⟩ v).cell? p = some x :=
  (World.cell?_of_block (Below.heap_setCell w ⟨d, k, none⟩ v _ hp)).trans h
theorem BxA.newd (w : World) (x : Ac) (d : Nat) (hd : w.heap.size = d) : BxA (w.alloc (mkAc x)) d x := by subst hd; exact BxA.new w x
theorem Vs.left {w : World} {a : Option Addr} {l r : List Vl} (h : Vs w a (l ++ r)) : Vs w a l :=
  ⟨by have h := h.row; rw [valsC_app] at h; exact h.app_left, by have := h.len; simp at this; omega⟩
/-- what Do hands back -/
def RetD (R : List Vl) (n : Nat) (q : Int) (A : Ac) (x : Int) (w : World) (e : Ending) (w' : World) : Prop := ∃ a c, e = .returned (.tuple #[.agg #[.slice a n c, .int .i64 q], aV A, .int .i64 x]) ∧ OwnV w' w.heap.size a n c R ∧ Below w.heap.size w w'
theorem BxT.drew {w : World} {d : Nat} {a : Option Addr} {n c : Nat} {p : Int} (h : BxT w d a n c p) : BxT w.drew d a n c p := h.below (below_drewN w 1)
theorem BxT.allocO {w : World} {d : Nat} {a : Option Addr} {n c : Nat} {p : Int} (h : BxT w d a n c p) (o : Obj) : BxT (w.alloc o) d a n c p := h.below (al w o)
theorem BxT.far {w : World} {d d' k : Nat} {a : Option Addr} {n c : Nat} {p : Int} {v : Value} (h : BxT w d a n c p) (hp : d ≠ d') : BxT (w.setCell ⟨d', k, none⟩ v) d a n c p :=
  ⟨by simpa using h.1, cell_far h.2.1 hp, cell_far h.2.2 hp⟩
theorem BxT.put {w : World} {d : Nat} {a : Option Addr} {n c : Nat} {p : Int} (h : BxT w d a n c p) (a' : Option Addr) (n' c' : Nat) (p' : Int) : BxT ((w.setCell ⟨d, 0, none⟩ (.slice a' n' c')).setCell ⟨d, 1, none⟩ (.int .i64 p')) d a' n' c' p' := by
  obtain ⟨h0, h1, h2⟩ := h
  refine ⟨by simpa using h0, ?_, ?_⟩
  · exact (World.cell?_setCell_other _ ⟨d, 1, none⟩ ⟨d, 0, none⟩ _ (by simp)).trans (World.cell?_setCell_same _ _ _ h1)
  · exact World.cell?_setCell_same _ _ _ ((World.cell?_setCell_other _ ⟨d, 0, none⟩ ⟨d, 1, none⟩ _ (by simp)).trans h2)
theorem doV_len (code : List Ins) (l : List Vl) (at' : Int) : (doV code l at').regs.length ≤ 32 := by
  have hE : ∀ e, (doE e).regs.length ≤ 32 := fun e => by simp [doE]
  have hM : ∀ (l : List Vl) d o, l.length = 32 → (outM l d o).length ≤ 32 := fun l d o h => by
    cases o with
    | none => exact Nat.le_of_eq h
    | some v =>
      show (setR l d v).length ≤ 32
      unfold setR
      split
      · exact Nat.le_of_eq h
      · rw [List.length_set]; exact Nat.le_of_eq h
  unfold doV
  split
  · exact hE _
  · split
    · exact hE _
    · rename_i h1 h2
      have h3 := (ready_spec (Bool.of_not_eq_false h2)).2.2.1
      unfold stepV
      split
      · split
        · exact hE _
        · exact Nat.le_of_eq h3
      · split
        · split
          · exact hE _
          · exact Nat.le_of_eq h3
        · split
          · split
            · exact hM _ _ _ h3
            · exact hE _
          · split
            · exact Nat.le_of_eq h3
            · split
              · exact Nat.le_of_eq h3
              · exact Nat.le_of_eq h3
end Go.Proofs.YtigimkgmghjgoaaGreatDoor
