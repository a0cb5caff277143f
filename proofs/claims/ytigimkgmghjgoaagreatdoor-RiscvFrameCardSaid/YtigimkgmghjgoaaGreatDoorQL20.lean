/- The walk of the statement RiscvFrame. Condition: the library's variables as the program's text lays them; code, registers and the value lie in memory as read. -/
import Derived.Test.YtigimkgmghjgoaaGreatDoorQL17
import Derived.Test.YtigimkgmghjgoaaGreatDoorQL18
import Derived.Test.YtigimkgmghjgoaaGreatDoorQMathF
import Derived.Test.YtigimkgmghjgoaaGreatDoorQV17
import Derived.Lib.QuietBelow
import Derived.BigQuiet
namespace Go.Proofs.YtigimkgmghjgoaaGreatDoor
open Go.RowKit Go.Sort
set_option linter.unusedVariables false

attribute [local go_sem high] eqI neqI eqV neqV eqAc neqAc
set_option maxRecDepth 100000 in
set_option maxHeartbeats 6400000 in
theorem lawRiscvFrame_no (code : List Ins) (a : Option Addr) (c : Nat) (l : List Vl) (b : Option Addr) (cb : Nat) (at' reg : Int) (v : Vl) (w : World) (hI : Is w a code) (hc : code.length ≤ c) (hL : ∀ i ∈ code, i.label.length ≤ 9223372036854775807)
    (hV : Vs w b l) (hs : SmV l) (he : (doV code l at').e ≠ 0) (g : Gl w) :
    Calls Tryz.prog 9 #[.slice a code.length c, .agg #[.slice b l.length cb, .int .i64 at'], .int .i64 reg, vV v] w (Ret w (.bool true)) := by
  have AW := hid awake10
  have PD := fun (w : World) (hI : Is w a code) (hV : Vs w b l) => progDo code a c l b cb at' hc hL hs w hI hV
  have RD := fun (w : World) (hI : Is w a code) (hV : Vs w b l) => refDo code a c l b cb at' hL hs w hI hV
  obtain ⟨⟨R, q, A, e⟩, hr⟩ : ∃ r, doV code l at' = r := ⟨_, rfl⟩
  rw [hr] at PD RD he
  have z1 : (e != 0) = true := by simpa using he
  have ze : (e == e) = true := by simp
  have PD := hid (show ∀ (w : World), Is w a code → Vs w b l → Calls Tryz.prog 25 #[.slice a code.length c, .agg #[.slice b l.length cb, .int .i64 at']] w (RetD R R.length q A e w) from PD)
  have RD := hid (show ∀ (w : World), Is w a code → Vs w b l → Calls Tryz.prog 26 #[.slice a code.length c, .agg #[.slice b l.length cb, .int .i64 at']] w (RetD R R.length q A e w) from RD)
  have E0 := bel_alloc (al w (boxT b l.length cb at')) (mkV v)
  have I1 := hI.below E0; have V1 := hV.below E0
  have D := (BxT.new w b l.length cb at').allocO (mkV v)
  have HG := hid g
  clear hr he hL hc hs hI hV g
  generalize code.length = n at *
  generalize l.length = m at *
  generalize R.length = nR at *
  go_enter Tryz.func9, Tryz.ntmps9
  obtain ⟨d, d0, d1⟩ := D
  go_wp2_with fail
  refine (PD.out _ I1 V1).mono ?_
  rintro e' w2 ⟨aR, cR, rfl, oR, E2⟩
  have E3 := ext_trans E2 (bel_alloc (al w2 (boxT aR nR cR q)) (mkAc A))
  have I2 := I1.below E3; have V2 := V1.below E3
  have D := (show BxT _ w.heap.size b m cb at' from ⟨d, d0, d1⟩).below E3
  have E := ext_trans E0 E3
  clear d d0 d1
  obtain ⟨d, d0, d1⟩ := D
  go_wp2_with fail
  refine (RD.out _ I2 V2).mono ?_
  rintro e' w3 ⟨aW, cW, rfl, oW, E4⟩
  have E := bel_alloc (bel_alloc (ext_trans E E4) (boxT aW nR cW q)) (mkAc A)
  have G := HG.out.below E
  clear d d0 d1
  go_wp2_with fail
  refine (AW.out _ G).mono ?_
  rintro e' w4 ⟨rfl, E5⟩
  have E := ext_trans E E5
  go_wp2_with fail
  go_ret
  exact ⟨rfl, E⟩
/-- what Uses hands back -/
def RetU (L : List Int) (n : Nat) (x : Int) (w : World) (e : Ending) (w' : World) : Prop := ∃ a c, e = .returned (.tuple #[.slice a n c, .int .i64 x, .int .i64 0]) ∧ OwnI w' w.heap.size a n c L ∧ Below w.heap.size w w'
theorem usesL_len (i : Ins) : (usesL i).length ≤ 2 := by
  unfold usesL
  split
  · simp
  · split
    · simp
    · split
      · simp
      · split <;> simp
set_option maxRecDepth 100000 in
set_option maxHeartbeats 12800000 in
theorem lawRiscvFrame_yes (code : List Ins) (a : Option Addr) (c : Nat) (l : List Vl) (b : Option Addr) (cb k : Nat) (reg : Int) (v : Vl) (w : World) (hI : Is w a code) (hc : code.length ≤ c) (hL : ∀ i ∈ code, i.label.length ≤ 9223372036854775807)
    (hV : Vs w b l) (hs : SmV l) (hv : v.loc.length ≤ 9223372036854775807) (R : List Vl) (q : Int) (A : Ac) (he : doV code l k = ⟨R, q, A, 0⟩) (g : Gl w) :
    Calls Tryz.prog 9 #[.slice a code.length c, .agg #[.slice b l.length cb, .int .i64 k], .int .i64 reg, vV v] w (Ret w (.bool true)) := by
  obtain ⟨i, hi, hci, hok, hRl, hkeep, hfr⟩ := frame_ok he
  have hlab : i.label.length ≤ 9223372036854775807 := hL i (List.mem_of_getElem? hi)
  have hsv : SmV (l ++ [v]) := fun x hx => by
    rcases List.mem_append.1 hx with h | h
    · exact hs x h
    · simp at h; subst h; exact hv
  have AW := hid awake10
  have P1 := fun (w : World) (hI : Is w a code) (hV : Vs w b l) => progDo code a c l b cb k hc hL hs w hI hV
  have P2 := hid (fun (r : Nat) (ar : Option Addr) (cr : Nat) (w : World) (hI : Is w a code) (hV : Vs w ar (l.set r v)) => progDo code a c (l.set r v) ar cr k hc hL (fun x hx => by
    rcases List.mem_or_eq_of_mem_set hx with h | rfl
    · exact hs x h
    · exact hv) w hI hV)
  have UU := hid (fun (w : World) => (show Calls Tryz.prog 30 #[vI i] w (RetU (usesL i) (usesL i).length (usesW i) w) from by
    have h := progUses i hlab w
    unfold usesV at h
    rw [if_pos hci] at h
    exact h))
  have IV := hid (fun (w : World) => refIsVal v hv w)
  rw [he] at P1
  have hkl := (List.getElem?_eq_some_iff.1 hi).1
  have P1 := hid (show ∀ (w : World), Is w a code → Vs w b l → Calls Tryz.prog 25 #[.slice a code.length c, .agg #[.slice b l.length cb, .int .i64 k]] w (RetD R 32 q A 0 w) from by rw [← hRl]; exact P1)
  have hl32 := hok.1
  have hul := usesL_len i
  have hW31 : usesW i ≤ 31 := by
    obtain ⟨-, -, hD, -, -⟩ := checkI_spec hci
    obtain ⟨kd, hkd, hd⟩ := regB_nat hD
    unfold usesW; split <;> omega
  have HU := hid (fun (r : Nat) (hr1 : 1 ≤ r) (hr2 : r < 32) (hv : mayB v = true) (hn : (r : Int) ∉ usesL i) => hfr r v hr1 hr2 hv hn)
  generalize hUL : usesL i = U at *
  generalize hUW : usesW i = W at *
  obtain ⟨nU, hnU⟩ : ∃ n, U.length = n := ⟨_, rfl⟩
  have HNU := hid hnU
  rw [hnU] at UU hul
  rw [hl32] at P1 ⊢
  have E0 := bel_alloc (al w (boxT b 32 cb k)) (mkV v)
  have I1 := hI.below E0; have V1 := hV.below E0
  have D := (BxT.new w b 32 cb k).allocO (mkV v)
  have DV : BxV ((w.alloc (boxT b 32 cb k)).alloc (mkV v)) (w.heap.size + 1) v := by have h := BxV.new (w.alloc (boxT b 32 cb k)) v; simpa using h
  have ixc := hI.idx k hkl
  have HG := hid g; have HI := hid hI; have HV := hid hV; have HIC := hid hi; have HK := hid hkeep; have HRL := hid hRl; have HLL := hid hl32
  clear he hL hc hs hI hV g hi hci hok hRl hkeep hfr hlab hsv hUL hUW hnU hv hl32
  generalize code.length = n at *
  go_enter Tryz.func9, Tryz.ntmps9
  obtain ⟨d, d0, d1⟩ := D
  go_wp2_with fail
  refine (P1.out _ I1 V1).mono ?_
  rintro e' w2 ⟨aR, cR, rfl, oR, E2⟩
  have E3 := ext_trans E2 (bel_alloc (al w2 (boxT aR 32 cR q)) (mkAc A))
  have I2 := I1.below E3
  have D := (show BxT _ w.heap.size b 32 cb k from ⟨d, d0, d1⟩).below E3
  have DV := DV.below E3
  have DR := (BxT.new w2 aR 32 cR q).allocO (mkAc A)
  have DA := BxA.newd (w2.alloc (boxT aR 32 cR q)) A (w2.heap.size + 1) (by simp)
  have oR := Own.below (Own.mono oR E0.size) (bel_alloc (al w2 (boxT aR 32 cR q)) (mkAc A))
  have E := ext_trans E0 E3
  clear d d0 d1 E0 I1 V1
  obtain ⟨d, d0, d1⟩ := D
  obtain ⟨p0, p1, p2, p3, p4, p5, p6, p7⟩ := I2.cells HIC.out
  have hlt := I2.lt (List.getElem?_eq_some_iff.1 HIC.out).1
  go_wp2_with fail
  refine (UU.out _).mono ?_
  rintro e' w3 ⟨aU, cU, rfl, oU, E4⟩
  have D := (show BxT _ w.heap.size b 32 cb k from ⟨d, d0, d1⟩).below E4
  have DV := DV.below E4; have DR := DR.below E4; have DA := DA.below E4
  have oR := Own.below oR E4
  have oU := Own.mono oU E.size
  have E := ext_trans E E4
  have I3 := HI.out.below E; have V3 := HV.out.below E
  have VR := OwnV.vs oR (by have := HRL.out; omega)
  have iU := oU.ints.1
  have hs2 : w.heap.size + 2 ≤ w2.heap.size := by have := E2.size; simp at this; omega
  have hs3 : w2.heap.size + 2 ≤ w3.heap.size := by have := E4.size; simp at this; omega
  clear d d0 d1 p0 p1 p2 p3 p4 p5 p6 p7 I2 hlt E2 E3 E4
  obtain ⟨d, d0, d1⟩ := D
  obtain ⟨e0, e1, e2⟩ := DR
  go_wp2_with fail
  go_loopw [18] (fun i wr => ∃ (k' : Nat), k' ≤ 32 ∧ i = .int .i64 k' ∧ Below w3.heap.size w3 wr) (fun i _ => 32 - (intOf i).toNat)
  case atStart => exact ⟨0, by omega, rfl, Below.refl _ _⟩
  case round =>
    obtain ⟨k', hk', rfl, EB⟩ := hrel
    have D := (show BxT _ w.heap.size b 32 cb k from ⟨d, d0, d1⟩).below EB
    have DR := (show BxT _ w2.heap.size aR 32 cR q from ⟨e0, e1, e2⟩).below EB
    have V4 := V3.below EB; have VR4 := VR.below EB
    have hd := D.1; have he := DR.1
    clear d d0 d1 e0 e1 e2
    obtain ⟨d, d0, d1⟩ := D
    obtain ⟨e0, e1, e2⟩ := DR
    by_cases hlt : k' < 32
    · obtain ⟨x, hx⟩ : ∃ x, l[k']? = some x := ⟨_, List.getElem?_eq_getElem (by have := HLL.out; omega)⟩
      obtain ⟨p0, p1⟩ := V4.cells hx
      have ix := V4.idx k' (by have := HLL.out; omega)
      rw [HLL.out] at ix
      have iy := VR4.idx k' (by have := HRL.out; omega)
      rw [HRL.out] at iy
      obtain ⟨y, hy⟩ : ∃ y, R[k']? = some y := ⟨_, List.getElem?_eq_getElem (by have := HRL.out; omega)⟩
      obtain ⟨q0, q1⟩ := VR4.cells hy
      by_cases hkw : (k' : Int) = W
      · have zw : ((k' : Int) != W) = false := by simpa using hkw
        clear hx hy hkw
        go_wp2_with fail
        go_quiet (fail)
        go_wp2_with fail
        go_roundw
        case rel => exact ⟨k' + 1, by omega, by go_num, ext_trans EB (below_drewN wr _)⟩
        case measure => simp [intOf]; omega
      · have hxy : y = x := Option.some.inj (hy.symm.trans ((HK.out k' hkw).trans hx))
        have zw : ((k' : Int) != W) = true := by simpa using hkw
        subst hxy
        have zx : decide (y = y) = true := decide_eq_true rfl
        have zx2 : (!decide (y = y)) = false := by rw [zx]; rfl
        clear hx hy hkw
        go_wp2_with fail
        go_quiet (fail)
        go_wp2_with fail
        go_roundw
        case rel => exact ⟨k' + 1, by omega, by go_num, ext_trans EB (below_drewN wr _)⟩
        case measure => simp [intOf]; omega
    · obtain ⟨u, hu⟩ : ∃ u, IntKind.u64.wrap reg = u := ⟨_, rfl⟩
      have hu0 : 0 ≤ u := by rw [← hu, u64_def]; omega
      have huB : u ≤ 18446744073709551615 := by rw [← hu, u64_def]; omega
      have DV := DV.below EB
      have DA := DA.below EB
      have iU4 := iU.below EB
      have E := ext_trans E EB
      have I4 := I3.below EB
      have oR4 := Own.below oR EB
      have hsz := EB.size
      clear iU oU oR VR V3 I3 EB
      go_wp2_with fail
      generalize hz : 1 + u % 31 = z
      obtain ⟨r, rfl⟩ : ∃ r : Nat, z = r := ⟨z.toNat, by omega⟩
      have hr1 : 1 ≤ r := by omega
      have hr2 : r < 32 := by omega
      clear hz hu hu0 huB
      generalize wr = wv at *
      go_loopw [19] (fun s wr => ∃ (j : Nat), j ≤ nU ∧ s = .int .i64 j ∧ Hid (∀ x ∈ U.take j, x ≠ (r : Int)) ∧ wr = wv) (fun s _ => nU - (intOf s).toNat)
      case atStart => exact ⟨0, by omega, rfl, hid (by simp), rfl⟩
      case round =>
        obtain ⟨j, hj, rfl, hnot, rfl⟩ := hrel
        by_cases hlj : j < nU
        · obtain ⟨x, hx⟩ : ∃ x, U[j]? = some x := ⟨_, List.getElem?_eq_getElem (by have := HNU.out; omega)⟩
          have cx := iU4.cell j (by have := HNU.out; omega)
          rw [(List.getElem?_eq_some_iff.1 hx).2] at cx
          have ix := iU4.idx isl j (by have := HNU.out; omega)
          rw [HNU.out] at ix
          by_cases hxr : x = r
          · have zx : (x == (r : Int)) = true := by simpa using hxr
            have G := HG.out.below E
            clear hx hxr
            go_wp2_with fail
            refine (AW.out _ G).mono ?_
            rintro e' w9 ⟨rfl, E9⟩
            have E := ext_trans E E9
            go_wp2_with fail
            go_ret
            exact ⟨rfl, E⟩
          · have zx : (x == (r : Int)) = false := by simpa using hxr
            have HN := hid (show ∀ y ∈ U.take (j + 1), y ≠ (r : Int) from fun y hy => by
              rw [List.take_add_one, hx] at hy
              rcases List.mem_append.1 hy with h | h
              · exact hnot.out y h
              · simp at h; rw [h]; exact hxr)
            clear hx hxr hnot
            go_wp2_with fail
            go_roundw
            case rel => exact ⟨j + 1, by omega, by go_num, HN, by first | rfl | trivial⟩
            case measure => simp [intOf]; omega
        · have hnU : (r : Int) ∉ U := fun h => hnot.out _ (by rw [List.take_of_length_le (by have := HNU.out; omega)]; exact h) rfl
          obtain ⟨hv0, hv1, hv2⟩ := DV
          obtain ⟨mb, hmb⟩ : ∃ mb, mayB v = mb := ⟨_, rfl⟩
          rw [hmb] at IV
          have HMB := hid hmb
          have HNN := hid hnU
          clear hmb hnU hnot
          cases mb
          · go_wp2_with fail
            refine (IV.out _).mono ?_
            rintro e' w9 ⟨rfl, E9⟩
            have E := ext_trans E E9
            have G := HG.out.below E
            go_wp2_with fail
            refine (AW.out _ G).mono ?_
            rintro e' w10 ⟨rfl, E10⟩
            have E := ext_trans E E10
            go_wp2_with fail
            go_ret
            exact ⟨rfl, E⟩
          · obtain ⟨R', hR', hRl', hW⟩ := HU.out r hr1 hr2 HMB.out HNN.out
            go_wp2_with fail
            refine (IV.out _).mono ?_
            rintro e' w5 ⟨rfl, E5⟩
            have E := ext_trans E E5
            have I5 := I4.below E5; have oR5 := Own.below oR4 E5; have DA := DA.below E5
            have D := (show BxT _ w.heap.size b 32 cb k from ⟨d, d0, d1⟩).below E5
            have DR := (show BxT _ w2.heap.size aR 32 cR q from ⟨e0, e1, e2⟩).below E5
            have DV := (show BxV _ (w.heap.size + 1) v from ⟨hv0, hv1, hv2⟩).below E5
            have V5 := HV.out.below E
            have hs5 := E5.size
            clear d d0 d1 e0 e1 e2 hv0 hv1 hv2 I4 oR4 iU4 hd he V4 VR4
            obtain ⟨d, d0, d1⟩ := D
            go_wp2_with fail
            have HROW := hid (show (valsC l).length = 32 * 2 by rw [valsC_length, HLL.out])
            have hd0 : w.heap.size < w5.heap.size := d
            go_cut [20] (fun s20 wx => ∃ (a2 : Option Addr) (c2 dd : Nat), s20 = .pointer (some ⟨dd, 0, none⟩) ∧ BxT wx dd a2 32 c2 k ∧ OwnV wx w5.heap.size a2 32 c2 l ∧ bk a2 ≠ dd ∧ w5.heap.size ≤ dd ∧ Below w5.heap.size w5 wx)
            case first =>
              go_region_held3 (fun w' => w'.cell? ⟨w.heap.size, 0, none⟩ = some (.slice b 32 cb) ∧ w'.cell? ⟨w.heap.size, 1, none⟩ = some (.int .i64 k)) (first | exact ⟨by assumption, by assumption⟩ | go_keep | exact ⟨cell_far (cell_far (by assumption) (by dsimp only; omega)) (by dsimp only; omega), cell_far (cell_far (by assumption) (by dsimp only; omega)) (by dsimp only; omega)⟩)
                (((refine step_app vsl (.tmp 108) (.tmp 110) (by rfl) (by rfl) (B := w5.heap.size) (n := 0) (xs := []) (by rfl) ?_ (xa := b) (m := 32) (xc := cb) (ys := valsC l) (by rfl) ?_ HROW.out (valsC_oneCell _) ?_ ?_ ?_ ?_; (focus (repeat (first | (with_reducible refine own_litk ?_ ?_ <;> (simp; done)) | with_reducible refine own_drew ?_ | with_reducible refine own_alloc ?_ _))); (focus (refine (V5.below ?_).row; (repeat (first | with_reducible assumption | with_reducible exact Below.refl _ _ | with_reducible refine bel_alloc ?_ _ | with_reducible refine bel_drew ?_)))); (focus (first | exact Nat.le_refl _ | (simp; done) | (simp; omega))); (focus omega); (focus (unfold maxLen; omega)); intro a2 c2 w6 o1 g1; have E6 : Below w5.heap.size w5 w6 := (by refine Grew.below (E := 50) (size := 2) (n := 0) (xs := []) g1 ?_ ?_ ?_; (focus (repeat (first | (with_reducible refine own_litk ?_ ?_ <;> (simp; done)) | with_reducible refine own_drew ?_ | with_reducible refine own_alloc ?_ _))); (focus (repeat (first | with_reducible assumption | with_reducible exact Below.refl _ _ | with_reducible refine bel_alloc ?_ _ | with_reducible refine bel_drew ?_))); (focus (first | exact Nat.le_refl _ | (simp; done) | (simp; omega)))); have O2 : OwnV w6 w5.heap.size a2 32 c2 l := (by simpa [OwnV] using o1); have hs6 := E6.size; have d0 := (E6.cell (p := ⟨w.heap.size, 0, none⟩) hd0).trans d0; have d1 := (E6.cell (p := ⟨w.heap.size, 1, none⟩) hd0).trans d1; (try (have tA : NewT w6 (w5.heap.size) := ?_; rotate_left; (focus (refine NewT.step (V := w5) g1.step ?_ ?_ ?_; all_goals (first | rfl | (simp; done) | ((repeat (first | with_reducible assumption | with_reducible exact Below.refl _ _ | with_reducible refine bel_alloc ?_ _ | with_reducible refine bel_drew ?_)); done)))))); (try (have tA : NewT w6 (w5.heap.size + 1) := ?_; rotate_left; (focus (refine NewT.step (V := w5.alloc (.cells #[] 50)) g1.step ?_ ?_ ?_; all_goals (first | rfl | (simp; done) | ((repeat (first | with_reducible assumption | with_reducible exact Below.refl _ _ | with_reducible refine bel_alloc ?_ _ | with_reducible refine bel_drew ?_)); done)))))); (try (have hA1 : bk a2 ≠ w5.heap.size := ?_; rotate_left; (focus (rcases g1 with ⟨h, _⟩ | ⟨h, _⟩ <;> first | (rw [h]; simp [bk]; done) | (simp at h; omega))))); (try (have hA2 : bk a2 ≠ w5.heap.size + 1 := ?_; rotate_left; (focus (rcases g1 with ⟨h, _⟩ | ⟨h, _⟩ <;> first | (rw [h]; simp [bk]; done) | (simp at h; omega))))); have hn2 := Own.some O2 (by omega); have hA3 : bk a2 ≠ w6.heap.size := (by have := (Own.lt O2 hn2).2; omega); (try (obtain ⟨tB0, tB1, tB2, tB3, tB4⟩ := id tA)); clear o1 g1)))
              all_goals
                go_wp2_with fail
                go_meet
                refine ⟨a2, c2, _, rfl, ?_, ?_, by assumption, by omega, ?_⟩
                · (repeat (first | with_reducible exact BxT.new _ _ _ _ _ | with_reducible refine BxT.drew ?_ | (with_reducible refine NewT.set ?_ _ _ _ _; with_reducible assumption)))
                · (repeat (first | with_reducible assumption | with_reducible refine own_drew ?_ | with_reducible refine own_alloc ?_ _ | with_reducible refine own_other ?_ (.inr (by assumption))))
                · exact (by repeat (first | with_reducible assumption | with_reducible exact Below.refl _ _ | with_reducible refine bel_alloc ?_ _ | with_reducible refine bel_drew ?_ | with_reducible refine bel_set ?_ (by dsimp only; omega) _))
            case rest =>
              obtain ⟨a2, c2, dd, rfl, Dd, O2, hne2, hge, EC⟩ := hcut
              have hn2 := Own.some O2 (by omega)
              have hlt2 := Own.lt O2 hn2
              have DV2 := DV.below EC
              obtain ⟨hv0, hv1, hv2⟩ := DV2
              have V6 := OwnV.vs O2 (by have := HLL.out; omega)
              have ix := V6.idx r (by have := HLL.out; omega)
              rw [HLL.out] at ix
              obtain ⟨y', hy'⟩ : ∃ y, l[r]? = some y := ⟨_, List.getElem?_eq_getElem (by have := HLL.out; omega)⟩
              obtain ⟨q0, q1⟩ := V6.cells hy'
              have u0 := Own.frozen O2 hn2 (r * 2)
              have u1 := Own.frozen O2 hn2 (r * 2 + 1)
              rw [← Nat.add_assoc] at u1
              obtain ⟨o3, st⟩ := OwnV.set O2 hn2 r (by have := HLL.out; omega) v
              have ES := st.below O2 EC EC.size
              have hst := st.grown.size
              have Ds := Dd.step st (.inr hne2)
              have DRs := DR.below ES; have DAs := DA.below ES; have Is' := I5.below ES; have oRs := Own.below oR5 ES
              have EE := ext_trans E ES
              have Vs' := OwnV.vs o3 (by have := HLL.out; simp; omega)
              have P2' := P2.out r a2 c2 _ Is' Vs'
              rw [hR', List.length_set, HLL.out] at P2'
              have P2' := hid (show Calls Tryz.prog 25 #[.slice a n c, .agg #[.slice a2 32 c2, .int .i64 k]] ((wc.setCell ⟨bk a2, fo a2 + r * 2, none⟩ (.string (tx v.loc))).setCell ⟨bk a2, fo a2 + r * 2 + 1, none⟩ (.int .i64 v.n)) (RetD R' 32 q A 0 ((wc.setCell ⟨bk a2, fo a2 + r * 2, none⟩ (.string (tx v.loc))).setCell ⟨bk a2, fo a2 + r * 2 + 1, none⟩ (.int .i64 v.n))) from P2'.mono fun e w' ⟨a', c', he, ho, hb⟩ => by
                simp only [hRl'] at he ho
                exact ⟨a', c', he, ho, hb⟩)
              obtain ⟨f0, f1, f2⟩ := Dd
              have HDs := hid Ds; have HDRs := hid DRs; have HDAs := hid DAs; have HoRs := hid oRs; have HEE := hid EE
              have ho3 := (Own.lt o3 hn2).2
              clear d d0 d1 V6 hy' o3 st ES DV DR DA I5 V5 oR5 E EC P2 Is' Vs' Ds DRs DAs oRs EE E5
              go_wp2_with fail
              refine P2'.out.mono ?_
              rintro e' w6 ⟨aQ, cQ, rfl, oQ, E6⟩
              have EA := bel_alloc (al w6 (boxT aQ 32 cQ q)) (mkAc A)
              have E7 := ext_trans E6 EA
              have DR := HDRs.out.below E7; have DA := HDAs.out.below E7
              have oRz := Own.below HoRs.out E7
              have DQ := (BxT.new w6 aQ 32 cQ q).allocO (mkAc A)
              have DB := BxA.newd (w6.alloc (boxT aQ 32 cQ q)) A (w6.heap.size + 1) (by simp)
              have oQ := Own.below oQ EA
              have EE := HEE.out.trans (E7.mono HEE.out.size)
              have zA : decide (A = A) = true := decide_eq_true rfl
              have zA2 : (!decide (A = A)) = false := by rw [zA]; rfl
              have zq : (q != q) = false := by simp
              obtain ⟨e0, e1, e2⟩ := DR
              obtain ⟨g0, g1, g2, g3, g4, g5⟩ := DA
              obtain ⟨i0, i1, i2⟩ := DQ
              obtain ⟨j0, j1, j2, j3, j4, j5⟩ := DB
              clear hv0 hv1 hv2 q0 q1 u0 u1 f0 f1 f2 E6 E7 EA P2'
              by_cases hw1 : W < 1
              · have zw : decide (W < 1) = true := decide_eq_true hw1
                clear hw1 hW oRz oQ
                have cA := fun (d : Nat) (os : Array Obj) => Calls.regrown_of (retc (AW.out (grow (redrawn ((w6.alloc (boxT aQ 32 cQ q)).alloc (mkAc A)) d) os) (HG.out.below (EE.trans ((below_regrown ((w6.alloc (boxT aQ 32 cQ q)).alloc (mkAc A)) d os).mono EE.size)))))
                go_wp2_with fail
                refine wp_region_quiet_below (by kernel_rfl) (by kernel_rfl) ?_
                repeat (go_big_quiet_step (exact cA _ _))
                refine wpQuiet_nil ?_
                intro _ hw'
                obtain ⟨⟨dq, osq⟩, hw''⟩ := hw'
                subst hw''
                have EQ := below_regrown ((w6.alloc (boxT aQ 32 cQ q)).alloc (mkAc A)) dq osq
                have EZ := EE.trans (EQ.mono EE.size)
                generalize grow (redrawn ((w6.alloc (boxT aQ 32 cQ q)).alloc (mkAc A)) dq) osq = wq at *
                go_wp2_with fail
                go_ret
                exact ⟨rfl, EZ⟩

              · have zw : decide (W < 1) = false := decide_eq_false hw1
                by_cases hk2 : A.kind = 2
                · have zk : (A.kind == 2) = true := by simpa using hk2
                  clear hk2 hw1 hW oRz oQ
                  have cA := fun (d : Nat) (os : Array Obj) => Calls.regrown_of (retc (AW.out (grow (redrawn ((w6.alloc (boxT aQ 32 cQ q)).alloc (mkAc A)) d) os) (HG.out.below (EE.trans ((below_regrown ((w6.alloc (boxT aQ 32 cQ q)).alloc (mkAc A)) d os).mono EE.size)))))
                  go_wp2_with fail
                  have g1 := cell_regrown g1
                  refine wp_region_quiet_below (by kernel_rfl) (by kernel_rfl) ?_
                  repeat (go_big_quiet_step (exact cA _ _))
                  refine wpQuiet_nil ?_
                  intro _ hw'
                  obtain ⟨⟨dq, osq⟩, hw''⟩ := hw'
                  subst hw''
                  have EQ := below_regrown ((w6.alloc (boxT aQ 32 cQ q)).alloc (mkAc A)) dq osq
                  have EZ := EE.trans (EQ.mono EE.size)
                  generalize grow (redrawn ((w6.alloc (boxT aQ 32 cQ q)).alloc (mkAc A)) dq) osq = wq at *
                  go_wp2_with fail
                  go_ret
                  exact ⟨rfl, EZ⟩

                · have zk : (A.kind == 2) = false := by simpa using hk2
                  obtain ⟨j, rfl⟩ : ∃ j : Nat, W = j := ⟨W.toNat, by omega⟩
                  have hj : j < 32 := by omega
                  have hWj : R'[j]? = R[j]? := by
                    rcases hW with h | h | h
                    · exact absurd h hw1
                    · exact absurd h hk2
                    · simpa using h
                  obtain ⟨x, hx⟩ : ∃ x, R[j]? = some x := ⟨_, List.getElem?_eq_getElem (by have := HRL.out; omega)⟩
                  have VR := OwnV.vs oRz (by have := HRL.out; omega)
                  have VQ := OwnV.vs oQ (by omega)
                  have ir := VR.idx j (by have := HRL.out; omega)
                  rw [HRL.out] at ir
                  have iq := VQ.idx j (by omega)
                  rw [hRl'] at iq
                  obtain ⟨p0, p1⟩ := VR.cells hx
                  obtain ⟨r0, r1⟩ := VQ.cells (hWj.trans hx)
                  have hbR : bk aR < _ := VR.lt (k := j) (by have := HRL.out; omega)
                  have hbQ : bk aQ < _ := VQ.lt (k := j) (by omega)
                  have zx : decide (x = x) = true := decide_eq_true rfl
                  have h0j : (0 : Int) ≤ (j : Int) := by omega
                  have h1j : (j : Int) < 32 := by omega
                  clear hk2 hw1 hW oRz oQ hx hWj VR VQ
                  have cA := fun (d : Nat) (os : Array Obj) => Calls.regrown_of (retc (AW.out (grow (redrawn ((w6.alloc (boxT aQ 32 cQ q)).alloc (mkAc A)) d) os) (HG.out.below (EE.trans ((below_regrown ((w6.alloc (boxT aQ 32 cQ q)).alloc (mkAc A)) d os).mono EE.size)))))
                  go_wp2_with fail
                  have g1 := cell_regrown g1
                  have e1 := cell_regrown e1
                  have i1 := cell_regrown i1
                  have p0 := cell_regrown p0
                  have p1 := cell_regrown p1
                  have r0 := cell_regrown r0
                  have r1 := cell_regrown r1
                  refine wp_region_quiet_below (by kernel_rfl) (by kernel_rfl) ?_
                  repeat (go_big_quiet_step (exact cA _ _))
                  refine wpQuiet_nil ?_
                  intro _ hw'
                  obtain ⟨⟨dq, osq⟩, hw''⟩ := hw'
                  subst hw''
                  have EQ := below_regrown ((w6.alloc (boxT aQ 32 cQ q)).alloc (mkAc A)) dq osq
                  have EZ := EE.trans (EQ.mono EE.size)
                  generalize grow (redrawn ((w6.alloc (boxT aQ 32 cQ q)).alloc (mkAc A)) dq) osq = wq at *
                  go_wp2_with fail
                  go_ret
                  exact ⟨rfl, EZ⟩

theorem lawRiscvFrame (code : List Ins) (a : Option Addr) (c : Nat) (l : List Vl) (b : Option Addr) (cb : Nat) (at' reg : Int) (v : Vl) (w : World) (hI : Is w a code) (hc : code.length ≤ c) (hb : code.length * 80 ≤ 140737488351232) (hL : ∀ i ∈ code, i.label.length ≤ 9223372036854775807)
    (hV : Vs w b l) (hbl : l.length * 24 ≤ 140737488351232) (hs : SmV l) (hv : v.loc.length ≤ 9223372036854775807) (g : Gl w) :
    Calls Tryz.prog 9 #[.slice a code.length c, .agg #[.slice b l.length cb, .int .i64 at'], .int .i64 reg, vV v] w (Ret w (.bool true)) := by
  by_cases he : (doV code l at').e = 0
  · obtain ⟨-, hr⟩ := doV_e0 he
    obtain ⟨k, rfl, -, -⟩ := ready_ok hr
    obtain ⟨⟨R, q, A, e⟩, hd⟩ : ∃ r, doV code l (k : Int) = r := ⟨_, rfl⟩
    rw [hd] at he
    obtain rfl : e = 0 := he
    exact lawRiscvFrame_yes code a c l b cb k reg v w hI hc hL hV hs hv R q A hd g
  · exact lawRiscvFrame_no code a c l b cb at' reg v w hI hc hL hV hs he g
end Go.Proofs.YtigimkgmghjgoaaGreatDoor
