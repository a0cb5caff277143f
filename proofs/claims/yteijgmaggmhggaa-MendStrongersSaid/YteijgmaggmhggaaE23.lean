/- The walks of stronger and Stronger (the document's answer). Conditions: none but those that each theorem names. -/
import Derived.Test.YteijgmaggmhggaaE22
import Derived.Test.YteijgmaggmhggaaE16
import Derived.Lib.QuietBelow
import Derived.BigQuiet
namespace Go.Proofs.Yteijgmaggmhggaa
open Go.BigFrame Go.RowKit Go.Sort
set_option linter.unusedVariables false

attribute [local go_sem high] eqE neqE

theorem retc {P : Program} {f : FuncId} {args : Array Value} {w : World} {v : Value} (h : Calls P f args w (Ret w v)) : Calls P f args w fun e w' => e = .returned v ∧ Below w.heap.size w w' := h
def RetPair (w : World) (e : Edge) (L : List Edge) (x : Ending) (w' : World) : Prop :=
  ∃ a c a2 c2, x = .returned (.tuple #[.slice a L.length c, .slice a2 L.length c2]) ∧ OwnE w' w.heap.size a L.length c L ∧ OwnI w' w.heap.size a2 L.length c2 (costsE e L) ∧ Apart a a2 ∧ Below w.heap.size w w'
/-- those that cost so much, of the first i -/
def ofCost (e : Edge) (A : List Edge) (c i : Nat) : List Edge := (A.take i).filter fun f => mayP e f && (costP e f == (c : Int))
theorem ofCost_yes {e f : Edge} {A : List Edge} {c i : Nat} (h : i < A.length) (hf : A[i] = f) (hm : mayP e f = true) (hc : costP e f = (c : Int)) : ofCost e A c (i + 1) = ofCost e A c i ++ [f] := by
  unfold ofCost; rw [List.take_add_one, List.getElem?_eq_getElem h, hf, List.filter_append]; simp [hm, hc]
theorem ofCost_no {e f : Edge} {A : List Edge} {c i : Nat} (h : i < A.length) (hf : A[i] = f) (hn : mayP e f = false ∨ costP e f ≠ (c : Int)) : ofCost e A c (i + 1) = ofCost e A c i := by
  unfold ofCost; rw [List.take_add_one, List.getElem?_eq_getElem h, hf, List.filter_append]
  rcases hn with hn | hn <;> simp [hn]
theorem ofCost_all (e : Edge) (A : List Edge) (c i : Nat) (h : A.length ≤ i) : byKey (costP e) c (A.filter (mayP e)) ++ ofCost e A c i = byKey (costP e) (c + 1) (A.filter (mayP e)) := by
  unfold ofCost
  rw [byKey_succ, List.take_of_length_le h, List.filter_filter]
  congr 2
  funext f
  rw [Bool.and_comm]; congr 1
theorem allE_code {arch : Int} {f : Edge} (h : f ∈ allE arch) : codeOf f < 112 := by
  unfold allE at h
  obtain ⟨c, hc, rfl⟩ := List.mem_map.1 h
  have := (List.mem_filter.1 hc).1
  simp at this
  rw [codeOf_ofCode this]; exact this
set_option maxRecDepth 100000 in
set_option maxHeartbeats 6400000 in
theorem refStrong (arch : Int) (ha : isArch arch) (e : Edge) (he : codeOf e < 112) (w : World) :
    Calls Try.prog 25 #[.int .i64 arch, vE e] w (RetPair w e (strongE arch e)) := by
  show Calls Try.prog _ _ w (RetPair w e (byKey (costP e) 7 ((allE arch).filter (mayP e))))
  have E1 := al w (mkE e)
  have b0 := Bx.new w e 23
  have hcode := hid (fun f (h : f ∈ allE arch) => allE_code h)
  have hal := allE_length arch
  have HA := hid ha; have HE := hid he
  clear ha he
  go_enter Try.func25, Try.ntmps25
  go_wp2_with fail
  refine (refAll arch HA.out _).mono ?_
  rintro x w7 ⟨aA, cA, rfl, oA, E7⟩
  have b7 := b0.below E7
  have B7 := E1.trans (E7.mono E1.size)
  have hA7 := OwnE.es oA (by omega : (allE arch).length ≤ 1000000000000000000)
  clear b0 E1 E7 oA
  generalize allE arch = A at *
  have ox0 : OwnE w7 w7.heap.size none 0 0 (byKey (costP e) 0 (A.filter (mayP e))) := Own.nil _ _ _ _
  have oi0 : OwnI w7 w7.heap.size none 0 0 (costsE e (byKey (costP e) 0 (A.filter (mayP e)))) := Own.nil _ _ _ _
  have ap0 : Apart none none := .inr (.inl rfl)
  go_wp2_with fail
  go_loopw [8, 9, 10] (fun s t u wr => ∃ (c n c1 c2 : Nat) (a1 a2 : Option Addr) (X : List Edge), c ≤ 7 ∧ u = .int .i64 c ∧ s = .slice a1 n c1 ∧ t = .slice a2 n c2 ∧ n ≤ 112 * c ∧ Hid (X = byKey (costP e) c (A.filter (mayP e))) ∧ OwnE wr w7.heap.size a1 n c1 X ∧ OwnI wr w7.heap.size a2 n c2 (costsE e X) ∧ Apart a1 a2 ∧ Below w7.heap.size w7 wr) (fun _ _ u _ => 7 - (intOf u).toNat)
  case atStart => exact ⟨0, 0, 0, 0, none, none, _, by omega, rfl, rfl, rfl, by omega, rfl, ox0, oi0, ap0, Below.refl _ _⟩
  case round =>
    clear ox0 oi0 ap0
    obtain ⟨c, n, c1, c2, a1, a2, X, hc, rfl, rfl, rfl, hn, HX, ox, oi, ap, B⟩ := hrel
    by_cases hlc : c < 7
    · have hcz : decide ((c : Int) ≤ 6) = true := by simp; omega
      have HX0 := hid (show X = byKey (costP e) c (A.filter (mayP e)) ++ ofCost e A c 0 by rw [HX.out]; simp [ofCost])
      go_wp2_with fail
      go_loopw [8, 9, 11] (fun s t u wr => ∃ (i n c1 c2 : Nat) (a1 a2 : Option Addr) (X : List Edge), i ≤ A.length ∧ u = .int .i64 i ∧ s = .slice a1 n c1 ∧ t = .slice a2 n c2 ∧ n ≤ 112 * c + i ∧ Hid (X = byKey (costP e) c (A.filter (mayP e)) ++ ofCost e A c i) ∧ OwnE wr w7.heap.size a1 n c1 X ∧ OwnI wr w7.heap.size a2 n c2 (costsE e X) ∧ Apart a1 a2 ∧ Below w7.heap.size w7 wr) (fun _ _ u _ => A.length - (intOf u).toNat)
      case atStart => exact ⟨0, n, c1, c2, a1, a2, X, by omega, rfl, rfl, rfl, by omega, HX0, ox, oi, ap, B⟩
      case round =>
        clear ox oi ap B HX HX0 hn
        obtain ⟨i, n, c1, c2, a1, a2, X, hi, rfl, rfl, rfl, hn, HX, ox, oi, ap, B⟩ := hrel
        by_cases hli : i < A.length
        · obtain ⟨f, hf⟩ : ∃ f, A[i] = f := ⟨_, rfl⟩
          have HF := hid hf
          have hcf := hcode.out f (by rw [← hf]; exact List.getElem_mem hli)
          have HM := hid (mayP_eq HE.out hcf)
          have HCO := hid (costP_eq HE.out hcf)
          clear hf hcf
          have b := b7.below B; have hA := hA7.below B
          obtain ⟨q0, q1, q2, q3, q4, q5⟩ := b.cells
          obtain ⟨p0, p1, p2, p3, p4, p5⟩ := hA.cells i hli f HF.out
          have q0 := cell_regrown q0; have q1 := cell_regrown q1; have q2 := cell_regrown q2; have q3 := cell_regrown q3; have q4 := cell_regrown q4; have q5 := cell_regrown q5
          have p0 := cell_regrown p0; have p1 := cell_regrown p1; have p2 := cell_regrown p2; have p3 := cell_regrown p3; have p4 := cell_regrown p4; have p5 := cell_regrown p5
          have ix := hA.idx i hli
          have h0i : (0 : Int) ≤ (i : Int) := by omega
          have h1i : (i : Int) < (A.length : Int) := by omega
          obtain ⟨mb, hmb⟩ : ∃ mb, mayP e f = mb := ⟨_, rfl⟩
          have HMB := hid hmb
          have CM := hid (fun (W : World) => (show Calls Try.prog 31 #[vE e, vE f] W (Ret W (.bool mb)) by have := refMay e f W; rwa [← HM.out, HMB.out] at this))
          have cM := fun (d : Nat) (os : Array Obj) => Calls.regrown_of (retc (CM.out (grow (redrawn wr d) os)))
          unfold vE at cM
          clear hmb
          cases mb
          · have HX2 := hid (show X = byKey (costP e) c (A.filter (mayP e)) ++ ofCost e A c (i + 1) by rw [ofCost_no hli HF.out (.inl HMB.out)]; exact HX.out)
            go_wp2_with fail
            refine wp_region_quiet_below (by kernel_rfl) (by kernel_rfl) ?_
            repeat (go_big_quiet_step (exact cM _ _))
            refine wpQuiet_nil ?_
            intro _ hw'
            obtain ⟨⟨dq, osq⟩, hw''⟩ := hw'
            subst hw''
            have EQ := below_regrown wr dq osq
            generalize grow (redrawn wr dq) osq = wq at *
            have oi := Own.below oi EQ; have ox := Own.below ox EQ; have B := B.trans (EQ.mono B.size)
            clear p0 p1 p2 p3 p4 p5 q0 q1 q2 q3 q4 q5 ix
            go_wp2_with fail
            go_roundw
            case rel => exact ⟨i + 1, n, c1, c2, a1, a2, X, by omega, by go_num, rfl, rfl, by omega, HX2, ox, oi, ap, B⟩
            case measure => simp [intOf]; omega
          · obtain ⟨kk, hkk⟩ : ∃ kk, costP e f = kk := ⟨_, rfl⟩
            have HK := hid hkk
            have CC := hid (fun (W : World) => (show Calls Try.prog 42 #[vE e, vE f] W (Ret W (.int .i64 kk)) by have := refCost e f W; rwa [← HCO.out HMB.out, HK.out] at this))
            have cC := fun (d : Nat) (os : Array Obj) => Calls.regrown_of (retc (CC.out (grow (redrawn wr d) os)))
            unfold vE at cC
            clear hkk
            by_cases hk : kk = (c : Int)
            · have HX2 := hid (show X ++ [f] = byKey (costP e) c (A.filter (mayP e)) ++ ofCost e A c (i + 1) by rw [ofCost_yes hli HF.out HMB.out (HK.out.trans hk), ← List.append_assoc, ← HX.out])
              have HKC := hid (show costP e f = (c : Int) by rw [HK.out, hk])
              subst hk
              go_wp2_with fail
              refine wp_region_quiet_below (by kernel_rfl) (by kernel_rfl) ?_
              repeat (go_big_quiet_step (first | exact cM _ _ | exact cC _ _))
              refine wpQuiet_nil ?_
              intro _ hw'
              obtain ⟨⟨dq, osq⟩, hw''⟩ := hw'
              subst hw''
              have EQ := below_regrown wr dq osq
              generalize grow (redrawn wr dq) osq = wq at *
              have oi := Own.below oi EQ; have ox := Own.below ox EQ; have B := B.trans (EQ.mono B.size)
              clear p0 p1 p2 p3 p4 p5 q0 q1 q2 q3 q4 q5 b hA
              have hA := hA7.below B
              obtain ⟨p0, p1, p2, p3, p4, p5⟩ := hA.cells i hli f HF.out
              have hbA := hA.lt hli
              go_wp2_with (at_builtin; go_loud (refine wpList_app1 esl (.tmp 43) (.tmp 48) rfl rfl rfl ox rfl rfl (eC_one f) B B.size (by omega) (by unfold maxLen; omega) ?_))
              intro a3 c3 w10 o10 g10 B10
              obtain ⟨oi10, ap10⟩ := Own.step oi g10.step ap.symm
              have ox10 : OwnE w10 w7.heap.size a3 (n + 1) c3 (X ++ [f]) := by unfold OwnE; rw [edges_snoc]; exact o10
              clear o10 g10 oi ox ap p0 p1 p2 p3 p4 p5 hbA ix
              go_wp2_with (at_builtin; go_loud (refine wpList_app1 isl (.tmp 50) (.tmp 52) rfl rfl rfl oi10 rfl rfl (by intro u hu; simp at hu; subst hu; rfl) B10 B10.size (by omega) (by unfold maxLen; omega) ?_))
              intro a4 c4 w11 o11 g11 B11
              obtain ⟨ox11, ap11⟩ := Own.step ox10 g11.step ap10.symm
              have oi11 : OwnI w11 w7.heap.size a4 (n + 1) c4 (costsE e (X ++ [f])) := by unfold costsE; rw [List.map_append]; simpa [OwnI, ints, costsE, HKC.out] using o11
              clear o11 g11 ox10 oi10 ap10
              go_wp2_with fail
              go_roundw
              case rel => exact ⟨i + 1, n + 1, c3, c4, a3, a4, _, by omega, by go_num, rfl, rfl, by omega, HX2, ox11, oi11, ap11, B11⟩
              case measure => simp [intOf]; omega
            · have HX2 := hid (show X = byKey (costP e) c (A.filter (mayP e)) ++ ofCost e A c (i + 1) by rw [ofCost_no hli HF.out (.inr (by rw [HK.out]; exact hk))]; exact HX.out)
              have hkz : (kk == (c : Int)) = false := by simpa using hk
              clear hk
              go_wp2_with fail
              refine wp_region_quiet_below (by kernel_rfl) (by kernel_rfl) ?_
              repeat (go_big_quiet_step (first | exact cM _ _ | exact cC _ _))
              refine wpQuiet_nil ?_
              intro _ hw'
              obtain ⟨⟨dq, osq⟩, hw''⟩ := hw'
              subst hw''
              have EQ := below_regrown wr dq osq
              generalize grow (redrawn wr dq) osq = wq at *
              have oi := Own.below oi EQ; have ox := Own.below ox EQ; have B := B.trans (EQ.mono B.size)
              clear p0 p1 p2 p3 p4 p5 q0 q1 q2 q3 q4 q5 ix
              go_wp2_with fail
              go_roundw
              case rel => exact ⟨i + 1, n, c1, c2, a1, a2, X, by omega, by go_num, rfl, rfl, by omega, HX2, ox, oi, ap, B⟩
              case measure => simp [intOf]; omega
        · have HX2 := hid (show X = byKey (costP e) (c + 1) (A.filter (mayP e)) by rw [HX.out, ofCost_all e A c i (by omega)])
          go_wp2_with fail
          go_roundw
          case rel => exact ⟨c + 1, n, c1, c2, a1, a2, X, by omega, by go_num, rfl, rfl, by omega, HX2, ox, oi, ap, B⟩
          case measure => simp [intOf]; omega
    · obtain rfl : c = 7 := by omega
      have hl := hid (OwnE.len ox)
      go_wp2_with fail
      go_ret2
      unfold RetPair
      rw [← HX.out, ← hl.out]
      exact ⟨a1, c1, a2, c2, rfl, Own.mono ox B7.size, Own.mono oi B7.size, ap, B7.trans (B.mono B7.size)⟩
end Go.Proofs.Yteijgmaggmhggaa
