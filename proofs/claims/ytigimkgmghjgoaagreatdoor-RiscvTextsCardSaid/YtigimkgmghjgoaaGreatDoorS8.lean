/- The walk of place (the document's answer). Condition: a text of at most a million bytes. -/
import Derived.Test.YtigimkgmghjgoaaGreatDoorS3
import Derived.Test.YtigimkgmghjgoaaGreatDoorMathR6
import Derived.Test.YtigimkgmghjgoaaGreatDoorR13
namespace Go.Proofs.YtigimkgmghjgoaaGreatDoor
open Go.RowKit
set_option linter.unusedVariables false

/-- what place answers of the parts -/
def placeA : List Tx → Option Nat
  | [x, y] => if x = [48] ∧ y.getLast? = some 41 then regOf (trimT y.dropLast) else none
  | _ => none
theorem placeA_eq (s : Tx) : placeA ((splitC 40 s).map trimT) = addrT s := placeV_eq s
theorem placeA_no {l : List Tx} (h : l.length ≠ 2) : placeA l = none := by
  match l with
  | [] => rfl
  | [_] => rfl
  | [_, _] => simp at h
  | _ :: _ :: _ :: _ => rfl
theorem splitC_sm (c : UInt8) (s : Tx) (hs : s.length ≤ 1000000) : Sm ((splitC c s).map trimT) := by
  intro x hx
  obtain ⟨y, hy, rfl⟩ := List.mem_map.1 hx
  have h1 := trimT_length y
  have h2 := splitC_le c s y hy
  omega
def PlP (o : Option Nat) (w : World) (e : Ending) (w' : World) : Prop := e = .returned (.tuple #[.int .i64 (optN o), .bool o.isSome]) ∧ Below w.heap.size w w'
theorem PlP.no {w w' : World} {o : Option Nat} (h : o = none) (hb : Below w.heap.size w w') : PlP o w (.returned (.tuple #[.int .i64 0, .bool false])) w' := by
  subst h; exact ⟨rfl, hb⟩
set_option maxHeartbeats 1600000 in
theorem refPlace (s : Tx) (hs : s.length ≤ 1000000) (w : World) : Calls Tryz.prog 73 #[.string (tx s)] w (PlP (addrT s) w) := by
  have SP := hid (fun w => refSplit s 40 hs w)
  have hsm := splitC_sm 40 s hs
  rw [← placeA_eq]
  generalize (splitC 40 s).map trimT = A at *
  by_cases h2 : A.length = 2
  · obtain ⟨x, y, rfl⟩ := len2 h2
    clear h2
    have hx := hsm x (by simp); have hy := hsm y (by simp)
    have i0 : ∀ a w0, Txs w0 a [x, y] → ∀ c w', (Instr.indexAt 67 (.slice a 2 c) (.int .i64 0)).run Tryz.prog w' = .ok (.pointer (some ⟨bk a, fo a, none⟩)) w' := fun a w0 h c w' => h.idx 0 (by simp) c w'
    have i1 : ∀ a w0, Txs w0 a [x, y] → ∀ c w', (Instr.indexAt 67 (.slice a 2 c) (.int .i64 1)).run Tryz.prog w' = .ok (.pointer (some ⟨bk a, fo a + 1, none⟩)) w' := fun a w0 h c w' => h.idx 1 (by simp) c w'
    have I0 := hid i0; have I1 := hid i1
    clear i0 i1 hsm
    have HP := hid (show placeA [x, y] = if x = [48] ∧ y.getLast? = some 41 then regOf (trimT y.dropLast) else none from rfl)
    generalize placeA [x, y] = o at *
    by_cases h48 : x = [48]
    · subst h48
      have z1 : ((tx [48]).toList != [48]) = false := by rw [tx_toList]; rfl
      have z1' : (!((tx [48]).toList == [48])) = false := by rw [tx_toList]; rfl
      have z1q : ((tx [48]).toList == [48]) = true := by rw [tx_toList]; rfl
      rcases List.eq_nil_or_concat y with rfl | ⟨Y, c, hyc⟩
      · have HR := hid (show o = none by rw [HP.out, if_neg (by simp)])
        have hz0 : (tx ([] : Tx)).size = 0 := rfl
        clear HP
        go_enter Tryz.func73, Tryz.ntmps73
        go_wp2_with fail
        refine (SP.out _).mono ?_
        rintro e w1 ⟨a, c, rfl, t1, E⟩
        have j0 := I0.out a w1 t1 c; have j1 := I1.out a w1 t1 c
        have c0 : w1.cell? ⟨bk a, fo a, none⟩ = some (.string (tx [48])) := t1.cell 0 (by simp)
        have c1 : w1.cell? ⟨bk a, fo a + 1, none⟩ = some (.string (tx [])) := t1.cell 1 (by simp)
        clear t1
        go_wp2_with fail
        go_quiet (fail)
        go_wp2_with fail
        go_ret2
        exact PlP.no HR.out (E.trans ((below_drewN _ _).mono E.size))
      · rw [List.concat_eq_append] at hyc
        subst hyc
        obtain ⟨k, hk⟩ : ∃ k, Y.length = k := ⟨_, rfl⟩
        have hsz : (tx (Y ++ [c])).size = k + 1 := by rw [tx_size]; simp [hk]
        have hkb : k + 1 ≤ 1000000 := by rw [← hsz, tx_size]; exact hy
        have ix := run_ix (Y ++ [c]) k c (by simp [← hk])
        have hw1 : IntKind.i64.wrap ((k : Int) + 1 - 1) = k := by rw [show (k : Int) + 1 - 1 = k by omega]; exact IntWalk.i64_in _ (by omega)
        have hk1 : decide ((k : Int) + 1 < 1) = false := by simp; omega
        by_cases h41 : c = 41
        · subst h41
          have z2 : (((41 : UInt8).toNat : Int) != 41) = false := by decide
          have z2q : (((41 : UInt8).toNat : Int) == 41) = true := by decide
          have z2' : (!(((41 : UInt8).toNat : Int) == 41)) = false := by decide
          have sl : ∀ w, (Instr.sliceAt 9 (.string (tx (Y ++ [41]))) none (some (.int .i64 k)) none).run Tryz.prog w = .ok (.string (tx Y)) w := fun w => by
            have h1 := run_strto (Y ++ [41]) k (by rw [List.length_append, hk]; omega) w
            have e : List.take k (Y ++ [41]) = Y := by rw [← hk]; simp
            rw [e] at h1; exact h1
          have HR := hid (show o = regOf (trimT Y) by rw [HP.out, if_pos ⟨rfl, by simp⟩, List.dropLast_concat])
          have TR := hid (fun w => refTrim Y (by omega) w)
          have e1 := regN_opt (trimT Y); have e2 := regE_opt (trimT Y)
          rw [← HR.out] at e1 e2
          generalize trimT Y = T at *
          have RG := hid (fun w => refRegOf T w)
          have H1 := hid e1; have H2 := hid e2
          clear HP hk hy e1 e2
          generalize Y ++ [41] = yy at *
          go_enter Tryz.func73, Tryz.ntmps73
          go_wp2_with fail
          refine (SP.out _).mono ?_
          rintro e w1 ⟨a, c, rfl, t1, E⟩
          have j0 := I0.out a w1 t1 c; have j1 := I1.out a w1 t1 c
          have c0 : w1.cell? ⟨bk a, fo a, none⟩ = some (.string (tx [48])) := t1.cell 0 (by simp)
          have c1 : w1.cell? ⟨bk a, fo a + 1, none⟩ = some (.string (tx yy)) := t1.cell 1 (by simp)
          clear t1
          go_wp2_with fail
          go_quiet (fail)
          go_wp2_with fail
          go_quiet (first | (go_at_call 42; refine (TR.out _).mono ?_; rintro e w' ⟨rfl, rfl⟩; exact ⟨rfl, _, rfl⟩) | (go_at_call 72; refine (RG.out _).mono ?_; rintro e w' ⟨rfl, rfl⟩; exact ⟨rfl, _, rfl⟩))
          go_wp2_with fail
          go_ret2
          exact ⟨ret_ib H1.out H2.out, by first | exact E.trans ((below_drewN _ _).mono E.size) | (rw [World.drewN_drewN]; exact E.trans ((below_drewN _ _).mono E.size))⟩
        · have z2 : ((c.toNat : Int) != 41) = true := u8_ne c 41 h41
          have z2q : ((c.toNat : Int) == 41) = false := u8_neq c 41 h41
          have z2' : (!((c.toNat : Int) == 41)) = true := by rw [z2q]; rfl
          have HR := hid (show o = none by rw [HP.out, if_neg (by simp; exact h41)])
          clear HP hk hy h41
          generalize Y ++ [c] = yy at *
          go_enter Tryz.func73, Tryz.ntmps73
          go_wp2_with fail
          refine (SP.out _).mono ?_
          rintro e w1 ⟨a, c, rfl, t1, E⟩
          have j0 := I0.out a w1 t1 c; have j1 := I1.out a w1 t1 c
          have c0 : w1.cell? ⟨bk a, fo a, none⟩ = some (.string (tx [48])) := t1.cell 0 (by simp)
          have c1 : w1.cell? ⟨bk a, fo a + 1, none⟩ = some (.string (tx yy)) := t1.cell 1 (by simp)
          clear t1
          go_wp2_with fail
          go_quiet (fail)
          go_wp2_with fail
          go_ret2
          exact PlP.no HR.out (E.trans ((below_drewN _ _).mono E.size))
    · have z1 : ((tx x).toList != [48]) = true := by rw [tx_toList]; simpa using h48
      have z1q : ((tx x).toList == [48]) = false := by rw [tx_toList]; simpa using h48
      have z1' : (!((tx x).toList == [48])) = true := by rw [z1q]; rfl
      have HR := hid (show o = none by rw [HP.out, if_neg (fun h => h48 h.1)])
      clear HP h48
      go_enter Tryz.func73, Tryz.ntmps73
      go_wp2_with fail
      refine (SP.out _).mono ?_
      rintro e w1 ⟨a, c, rfl, t1, E⟩
      have j0 := I0.out a w1 t1 c; have j1 := I1.out a w1 t1 c
      have c0 : w1.cell? ⟨bk a, fo a, none⟩ = some (.string (tx x)) := t1.cell 0 (by simp)
      have c1 : w1.cell? ⟨bk a, fo a + 1, none⟩ = some (.string (tx y)) := t1.cell 1 (by simp)
      clear t1
      go_wp2_with fail
      go_quiet (fail)
      go_wp2_with fail
      go_ret2
      exact PlP.no HR.out (E.trans ((below_drewN _ _).mono E.size))
  · have HR := hid (placeA_no h2)
    have z1 : ((A.length : Int) != 2) = true := by simp; omega
    have z1q : ((A.length : Int) == 2) = false := by simp; omega
    have z1' : (!((A.length : Int) == 2)) = true := by rw [z1q]; rfl
    clear h2 hsm
    generalize placeA A = o at *
    go_enter Tryz.func73, Tryz.ntmps73
    go_wp2_with fail
    refine (SP.out _).mono ?_
    rintro e w1 ⟨a, c, rfl, t1, E⟩
    clear t1 SP
    generalize A.length = n at *
    go_wp2_with fail
    go_quiet (fail)
    go_wp2_with fail
    go_ret2
    exact PlP.no HR.out (E.trans ((below_drewN _ _).mono E.size))
end Go.Proofs.YtigimkgmghjgoaaGreatDoor
