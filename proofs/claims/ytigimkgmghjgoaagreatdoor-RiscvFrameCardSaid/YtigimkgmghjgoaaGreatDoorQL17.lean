/- The walk of the statement RiscvDoes. Condition: the library's variables as the program's text lays them; code and registers lie in memory as read. -/
import Derived.Test.YtigimkgmghjgoaaGreatDoorQr
import Derived.Test.YtigimkgmghjgoaaGreatDoorQs
namespace Go.Proofs.YtigimkgmghjgoaaGreatDoor
open Go.RowKit
set_option linter.unusedVariables false

attribute [local go_sem high] eqI neqI eqV neqV eqAc neqAc
theorem own_litk {w : World} {B E size k : Nat} (h : B ≤ w.heap.size) (hk : w.heap.size = k) : Own (w.alloc (.cells #[] E)) B E size (Option.some ⟨k, 0, none⟩) 0 0 [] := by
  subst hk; exact World.ownsRow_lit w #[] 0 h (by unfold maxLen; omega) (by simp)
/-- a variable of a thread's own, in a block not written yet -/
def NewT (w : World) (d : Nat) : Prop := d < w.heap.size ∧ w.cell? ⟨d, 0, none⟩ = some (.slice none 0 0) ∧ w.cell? ⟨d, 1, none⟩ = some (.int .i64 0) ∧ w.frozen? ⟨d, 0, none⟩ = false ∧ w.frozen? ⟨d, 1, none⟩ = false
theorem NewT.below {w w' : World} {d : Nat} (h : NewT w d) (hb : Below w.heap.size w w') : NewT w' d :=
  ⟨Nat.lt_of_lt_of_le h.1 hb.size, by rw [hb.cell (p := ⟨d, 0, none⟩) h.1]; exact h.2.1, by rw [hb.cell (p := ⟨d, 1, none⟩) h.1]; exact h.2.2.1, by rw [hb.frozen (p := ⟨d, 0, none⟩) h.1]; exact h.2.2.2.1, by rw [hb.frozen (p := ⟨d, 1, none⟩) h.1]; exact h.2.2.2.2⟩
theorem NewT.new (w : World) (d : Nat) (hd : w.heap.size = d) : NewT (w.alloc zT) d := by
  subst hd
  have hh := heap_alloc_new w zT
  refine ⟨by simp, ?_, ?_, ?_, ?_⟩
  · simp only [World.cell?, hh]; simp
  · simp only [World.cell?, hh]; simp
  · simp only [World.frozen?, hh]; simp
  · simp only [World.frozen?, hh]; simp
theorem NewT.step {V X w1 : World} {d k : Nat} {a' : Option Addr} (st : Step X w1 (Option.some ⟨k, 0, none⟩) a') (hX : Below (V.alloc zT).heap.size (V.alloc zT) X) (hd : V.heap.size = d) (hk : k ≠ d) : NewT w1 d := by
  obtain ⟨h0, h1, h2, h3, h4⟩ := (NewT.new V d hd).below hX
  have hb := step_block st h0 (.inr (by simpa using hk))
  exact ⟨Nat.lt_of_lt_of_le h0 st.grown.size, (World.cell?_of_block (a := ⟨d, 0, none⟩) hb).trans h1, (World.cell?_of_block (a := ⟨d, 1, none⟩) hb).trans h2, (World.frozen?_of_block (a := ⟨d, 0, none⟩) hb).trans h3, (World.frozen?_of_block (a := ⟨d, 1, none⟩) hb).trans h4⟩
def spoV (k : Nat) : Vl := ⟨[115, 112, 111, 105, 108, 116], k⟩
def moreV (k : Nat) : List Vl := List.replicate k ⟨[109, 111, 114, 101], 0⟩
theorem valsC_more (l : List Vl) (k : Nat) : valsC (l ++ moreV (k + 1)) = valsC (l ++ moreV k) ++ [.string ⟨#[109, 111, 114, 101]⟩, .int .i64 0] := by
  unfold moreV
  rw [List.replicate_succ', ← List.append_assoc, valsC_app (l ++ _)]; rfl
theorem NewT.set {w : World} {d : Nat} (h : NewT w d) (a : Option Addr) (n c : Nat) (p : Int) : BxT ((w.setCell ⟨d, 0, none⟩ (.slice a n c)).setCell ⟨d, 1, none⟩ (.int .i64 p)) d a n c p := by
  obtain ⟨h0, h1, h2, -, -⟩ := h
  refine ⟨by simpa using h0, ?_, ?_⟩
  · exact (World.cell?_setCell_other _ ⟨d, 1, none⟩ ⟨d, 0, none⟩ _ (by simp)).trans (World.cell?_setCell_same _ _ _ h1)
  · exact World.cell?_setCell_same _ _ _ ((World.cell?_setCell_other _ ⟨d, 0, none⟩ ⟨d, 1, none⟩ _ (by simp)).trans h2)
set_option maxRecDepth 100000 in
set_option maxHeartbeats 12800000 in
theorem lawRiscvDoes (code : List Ins) (a : Option Addr) (c : Nat) (l : List Vl) (b : Option Addr) (cb : Nat) (at' : Int) (w : World) (hI : Is w a code) (hc : code.length ≤ c) (hb : code.length * 80 ≤ 140737488351232) (hL : ∀ i ∈ code, i.label.length ≤ 9223372036854775807)
    (hV : Vs w b l) (hbl : l.length * 24 ≤ 140737488351232) (hs : SmV l) (g : Gl w) :
    Calls Tryz.prog 5 #[.slice a code.length c, .agg #[.slice b l.length cb, .int .i64 at']] w (Ret w (.bool true)) := by
  have hlen := doV_len code l at'
  have PD := fun (a b : Option Addr) (c cb : Nat) (h : code.length ≤ c) (w : World) (hI : Is w a code) (hV : Vs w b l) => progDo code a c l b cb at' h hL hs w hI hV
  have RD := fun (a b : Option Addr) (c cb : Nat) (w : World) (hI : Is w a code) (hV : Vs w b l) => refDo code a c l b cb at' hL hs w hI hV
  have SC := hid (fun (a1 a2 : Option Addr) (c1 c2 : Nat) (w : World) (h1 : Is w a1 code) (h2 : Is w a2 code) => refSameCode code code a1 a2 c1 c2 w h1 h2)
  rw [decide_eq_true rfl] at SC
  have TW := hid (fun (w : World) (hV : Vs w b l) => refTwinLocal l b cb at' hbl w hV)
  have KL := hid (fun (a1 a2 : Option Addr) (c1 c2 : Nat) (w : World) (h1 : Vs w a1 (l ++ marksV 40)) (hc : l.length + 40 ≤ c1) (h2 : Vs w a2 l) => refKeptLocal l a1 a2 c1 c2 at' w h1 hc h2)
  obtain ⟨⟨R, q, A, e⟩, hr⟩ : ∃ r, doV code l at' = r := ⟨_, rfl⟩
  rw [hr] at hlen PD RD
  have SL := hid (fun (a1 a2 : Option Addr) (c1 c2 : Nat) (w : World) (h1 : Vs w a1 R) (h2 : Vs w a2 R) => refSameLocal R a1 a2 c1 c2 q w h1 h2)
  obtain ⟨n, hn⟩ : ∃ n, code.length = n := ⟨_, rfl⟩
  obtain ⟨m, hm⟩ : ∃ m, l.length = m := ⟨_, rfl⟩
  have HN := hid hn; have HM := hid hm
  rw [hn, hm] at PD RD
  rw [hn] at SC hc hb ⊢
  unfold RetTwin at TW
  rw [hm] at TW KL hbl ⊢
  have hlen : R.length ≤ 32 := hlen
  obtain ⟨nR, hnR⟩ : ∃ n, R.length = n := ⟨_, rfl⟩
  have HNR := hid hnR
  have PD := hid (show ∀ (a b : Option Addr) (c cb : Nat), n ≤ c → ∀ (w : World), Is w a code → Vs w b l → Calls Tryz.prog 25 #[.slice a n c, .agg #[.slice b m cb, .int .i64 at']] w (RetD R nR q A e w) from by subst hnR; exact PD)
  have RD := hid (show ∀ (a b : Option Addr) (c cb : Nat) (w : World), Is w a code → Vs w b l → Calls Tryz.prog 26 #[.slice a n c, .agg #[.slice b m cb, .int .i64 at']] w (RetD R nR q A e w) from by subst hnR; exact RD)
  rw [hnR] at hlen SL
  have AW := hid awake10
  have HI := hid hI; have HV := hid hV; have HG := hid g
  have hrow : (insC code).length = n * 8 := by rw [insC_length, hn]
  have HROW := hid hrow
  have b3 := BxT.new w b m cb at'
  have E0 := al w (boxT b m cb at')
  have hIb := hI.below E0; have hVb := hV.below E0; have hGb := g.below E0
  have hsb : (w.alloc (boxT b m cb at')).heap.size = w.heap.size + 1 := by simp
  obtain ⟨hb3, b30, b31⟩ := b3
  clear hr hn hm hL hs hI hV g hrow hnR
  go_enter Tryz.func5, Tryz.ntmps5
  go_wp2_with fail
  go_cut [5, 6] (fun s5 s6 wx => ∃ (a1 : Option Addr) (c1 : Nat) (a2 : Option Addr) (c2 d : Nat), s5 = .slice a1 n c1 ∧ s6 = .pointer (some ⟨d, 0, none⟩) ∧ OwnN wx w.heap.size a1 n c1 code ∧ OwnV wx w.heap.size a2 (m + 40) c2 (l ++ marksV 40) ∧ BxT wx d a2 m c2 at' ∧ BxT wx w.heap.size b m cb at' ∧ Below w.heap.size w wx)
  case first =>
    go_region_held3 (fun w' => w'.cell? ⟨w.heap.size, 0, none⟩ = some (.slice b m cb) ∧ w'.cell? ⟨w.heap.size, 1, none⟩ = some (.int .i64 at')) (first | exact ⟨by assumption, by assumption⟩ | go_keep | exact ⟨cell_far (cell_far (by assumption) (by dsimp only; omega)) (by dsimp only; omega), cell_far (cell_far (by assumption) (by dsimp only; omega)) (by dsimp only; omega)⟩)
      (first
        | ((refine step_app inl (.tmp 19) (.tmp 20) (by rfl) (by rfl) (B := (w.alloc (boxT b m cb at')).heap.size) (n := 0) (xs := []) (by rfl) ?_ (xa := a) (m := n) (xc := c) (ys := insC code) (by rfl) ?_ HROW.out (insC_oneCell _) ?_ ?_ ?_ ?_; (focus (repeat (first | (with_reducible refine own_litk ?_ ?_ <;> (simp; done)) | with_reducible refine own_drew ?_ | with_reducible refine own_alloc ?_ _))); (focus (refine (hIb.below ?_).row; (repeat (first | with_reducible assumption | with_reducible exact Below.refl _ _ | with_reducible refine bel_alloc ?_ _ | with_reducible refine bel_drew ?_)))); (focus (simp; done)); (focus omega); (focus (unfold maxLen; omega)); intro a1 c1 w1 o1 g1; have E1 : Below (w.alloc (boxT b m cb at')).heap.size (w.alloc (boxT b m cb at')) w1 := (by refine Grew.below (E := 23) (size := 8) (n := 0) (xs := []) g1 ?_ ?_ ?_; (focus (repeat (first | (with_reducible refine own_litk ?_ ?_ <;> (simp; done)) | with_reducible refine own_drew ?_ | with_reducible refine own_alloc ?_ _))); (focus (repeat (first | with_reducible assumption | with_reducible exact Below.refl _ _ | with_reducible refine bel_alloc ?_ _ | with_reducible refine bel_drew ?_))); (focus (simp; done))); have hV1 := hVb.below E1; have hs1 : w.heap.size + 1 ≤ w1.heap.size := (by have := E1.size; simpa using this); have T : OwnN w1 w.heap.size a1 n c1 code := Own.mono (B := (w.alloc (boxT b m cb at')).heap.size) (by simpa [OwnN] using o1) (by simp); have b30 := (E1.cell (p := ⟨w.heap.size, 0, none⟩) (by simp)).trans b30; have b31 := (E1.cell (p := ⟨w.heap.size, 1, none⟩) (by simp)).trans b31; (try (have tA : NewT w1 (w.heap.size + 1) := ?_; rotate_left; (focus (refine NewT.step (V := w.alloc (boxT b m cb at')) g1.step ?_ ?_ ?_; all_goals (first | (simp; done) | ((repeat (first | with_reducible assumption | with_reducible exact Below.refl _ _ | with_reducible refine bel_alloc ?_ _ | with_reducible refine bel_drew ?_)); done)))))); (try (have tA : NewT w1 (w.heap.size + 1 + 1) := ?_; rotate_left; (focus (refine NewT.step (V := (w.alloc (boxT b m cb at')).alloc (.cells #[] 23)) g1.step ?_ ?_ ?_; all_goals (first | (simp; done) | ((repeat (first | with_reducible assumption | with_reducible exact Below.refl _ _ | with_reducible refine bel_alloc ?_ _ | with_reducible refine bel_drew ?_)); done)))))); have hs2 : w.heap.size < w1.heap.size := (by omega); (try (have tA1 : w.heap.size + 1 < w1.heap.size := ?_; rotate_left; (focus (exact tA.1)))); (try (have tA2 : w.heap.size + 1 + 1 < w1.heap.size := ?_; rotate_left; (focus (exact tA.1)))); (try (have hA1 : a1 = none ∨ bk a1 ≠ w.heap.size + 1 := ?_; rotate_left; (focus (right; rcases g1 with ⟨h, _⟩ | ⟨h, _⟩ <;> first | (rw [h]; simp [bk]; done) | (simp at h; omega))))); (try (have hA2 : a1 = none ∨ bk a1 ≠ w.heap.size + 1 + 1 := ?_; rotate_left; (focus (right; rcases g1 with ⟨h, _⟩ | ⟨h, _⟩ <;> first | (rw [h]; simp [bk]; done) | (simp at h; omega))))); have hA3 : a1 = none ∨ bk a1 ≠ w1.heap.size := (by by_cases h : a1 = none; (exact .inl h); (right; have := (Own.lt T h).2; omega)); clear o1 g1))
        | ((go_at_call 24; refine (TW.out _ (by first | with_reducible exact hV1 | with_reducible exact hV1.below (bel_drew (Below.refl _ _)) | with_reducible exact hV1.below (al _ _) | with_reducible exact hV1.below (bel_drew (al _ _)))).mono ?_; rintro e' w2 ⟨a2, c2, rfl, o2, E2⟩; have EY : Below w1.heap.size w1 w2 := (by refine ext_trans ?_ E2; (repeat (first | with_reducible assumption | with_reducible exact Below.refl _ _ | with_reducible refine bel_alloc ?_ _ | with_reducible refine bel_drew ?_))); (try (have tB : NewT w2 (w.heap.size + 1) := ?_; rotate_left; (focus (refine NewT.below (w := w1) ?_ ?_ <;> assumption)); have tC := tB; obtain ⟨tB0, tB1, tB2, tB3, tB4⟩ := tC)); (try (have tB : NewT w2 (w.heap.size + 1 + 1) := ?_; rotate_left; (focus (refine NewT.below (w := w1) ?_ ?_ <;> assumption)); have tC := tB; obtain ⟨tB0, tB1, tB2, tB3, tB4⟩ := tC)); (try (have tB : NewT w2 w1.heap.size := ?_; rotate_left; (focus (refine NewT.below (w := w1.alloc zT) ?_ ?_; exact NewT.new w1 _ rfl; first | with_reducible exact E2 | with_reducible exact ext_trans (bel_drew (Below.refl _ _)) E2)); have tC := tB; obtain ⟨tB0, tB1, tB2, tB3, tB4⟩ := tC)); have hsY := E2.size; have hB2 : a2 = none ∨ w1.heap.size ≤ bk a2 := (by by_cases h : a2 = none; (exact .inl h); (right; have := (Own.lt o2 h).1; first | omega | (simp at this; omega))); (try (have hB3 : a2 = none ∨ bk a2 ≠ w1.heap.size := ?_; rotate_left; (focus (by_cases h : a2 = none; (exact .inl h); (right; have := (Own.lt o2 h).1; simp at this; omega))))); have o2 : OwnV w2 w.heap.size a2 (m + 40) c2 (l ++ marksV 40) := Own.mono o2 (by first | omega | (simp; omega)); have T := T.below EY; have E12 := E1.trans (EY.mono E1.size); have b30 := (EY.cell (p := ⟨w.heap.size, 0, none⟩) (by first | omega | (simp; omega))).trans b30; have b31 := (EY.cell (p := ⟨w.heap.size, 1, none⟩) (by first | omega | (simp; omega))).trans b31)))
    all_goals
      go_wp2_with fail
      go_meet
      refine ⟨a1, c1, a2, c2, _, rfl, rfl, ?_, ?_, ?_, ?_, ?_⟩
      · (repeat (first | with_reducible assumption | with_reducible refine own_drew ?_ | with_reducible refine own_alloc ?_ _ | with_reducible refine own_other ?_ (by first | with_reducible assumption | (rcases hB2 with h | h; (exact .inl h); (right; omega)))))
      · (repeat (first | with_reducible assumption | with_reducible refine own_drew ?_ | with_reducible refine own_alloc ?_ _ | with_reducible refine own_other ?_ (by first | with_reducible assumption | (rcases hB2 with h | h; (exact .inl h); (right; omega)))))
      · (repeat (first | with_reducible exact BxT.new _ _ _ _ _ | with_reducible refine BxT.drew ?_ | (with_reducible refine NewT.set ?_ _ _ _ _; with_reducible assumption)))
      · have bx : BxT w2 w.heap.size b m cb at' := ⟨by omega, b30, b31⟩
        (repeat (first | with_reducible assumption | with_reducible refine BxT.drew ?_ | with_reducible refine BxT.allocO ?_ _ | with_reducible refine BxT.far ?_ (by omega)))
      · have EE := E0.trans (E12.mono E0.size)
        exact (by repeat (first | with_reducible assumption | with_reducible exact Below.refl _ _ | with_reducible refine bel_alloc ?_ _ | with_reducible refine bel_drew ?_ | with_reducible refine bel_set ?_ (by dsimp only; omega) _))
  case rest =>
    obtain ⟨a1, c1, a2, c2, d, rfl, rfl, T, K, D6, D0, E⟩ := hcut
    have hc1 := T.cap.1
    have hc2 := K.cap.1
    have IT := OwnN.is T (by have := HN.out; omega)
    have KV := OwnV.vs K (by simp [marksV_length]; have := HM.out; omega)
    have IV := Vs.left KV
    obtain ⟨d6, d60, d61⟩ := D6
    clear hb3 b30 b31 hIb hVb hGb E0
    go_wp2_with fail
    refine (PD.out _ _ _ _ hc1 _ IT IV).mono ?_
    rintro e' w2 ⟨aR, cR, rfl, oR, E2⟩
    have EA := bel_alloc (al w2 (boxT aR nR cR q)) (mkAc A)
    have E3 := ext_trans E2 EA
    have hRlt : aR = none ∨ bk aR < w2.heap.size := by
      by_cases h : aR = none
      · exact .inl h
      · exact .inr (Own.lt oR h).2
    have hRlo : aR = none ∨ wc.heap.size ≤ bk aR := by
      by_cases h : aR = none
      · exact .inl h
      · exact .inr (Own.lt oR h).1
    have hK2 : a2 = none ∨ bk a2 < wc.heap.size := by
      by_cases h : a2 = none
      · exact .inl h
      · exact .inr (Own.lt K h).2
    have hd6 : d < wc.heap.size := d6
    have hws : w.heap.size < wc.heap.size := D0.1
    have D6 := (show BxT _ d a2 m c2 at' from ⟨d6, d60, d61⟩).below E3
    have D0 := D0.below E3
    obtain ⟨d6, d60, d61⟩ := D6
    have IT := IT.below E3; have IV := IV.below E3; have K := K.below E3
    have D7 := (BxT.new w2 aR nR cR q).allocO (mkAc A)
    have D8 := BxA.newd (w2.alloc (boxT aR nR cR q)) A (w2.heap.size + 1) (by simp)
    have oR := Own.below (Own.mono oR E.size) EA
    have E := E.trans (E3.mono E.size)
    have hcw := E3.size
    clear KV
    go_wp2_with fail
    refine (PD.out _ _ _ _ hc1 _ IT IV).mono ?_
    rintro e' w3 ⟨aB, cB, rfl, oB, E2⟩
    have EA := bel_alloc (al w3 (boxT aB nR cB q)) (mkAc A)
    have E3 := ext_trans E2 EA
    have hs23 : w2.heap.size + 2 ≤ w3.heap.size := by have := E2.size; simp at this; omega
    have hBlt : aB = none ∨ w2.heap.size + 2 ≤ bk aB := by
      by_cases h : aB = none
      · exact .inl h
      · have := (Own.lt oB h).1; exact .inr (by simp at this; omega)
    have D6 := (show BxT _ d a2 m c2 at' from ⟨d6, d60, d61⟩).below E3
    have D0 := D0.below E3
    have IT := IT.below E3; have K := K.below E3
    have D7 := D7.below E3; have D8 := D8.below E3
    have D10 := (BxT.new w3 aB nR cB q).allocO (mkAc A)
    have D11 := BxA.newd (w3.alloc (boxT aB nR cB q)) A (w3.heap.size + 1) (by simp)
    have oR := Own.below oR E3
    have oB := Own.below (Own.mono oB E.size) EA
    have E := E.trans (E3.mono E.size)
    have I3 := HI.out.below E; have V3 := HV.out.below E
    obtain ⟨d0, d00, d01⟩ := D0
    clear IV d60 d61 d6
    go_wp2_with fail
    refine (RD.out _ _ _ _ _ I3 V3).mono ?_
    rintro e' w4 ⟨aW, cW, rfl, oW, E2⟩
    have EA := bel_alloc (al w4 (boxT aW nR cW q)) (mkAc A)
    have E3 := ext_trans E2 EA
    have hs34 : w3.heap.size + 2 ≤ w4.heap.size := by have := E2.size; simp at this; omega
    have hWlt : aW = none ∨ w3.heap.size + 2 ≤ bk aW := by
      by_cases h : aW = none
      · exact .inl h
      · have := (Own.lt oW h).1; exact .inr (by simp at this; omega)
    have D6 := D6.below E3
    have D0 := (show BxT _ w.heap.size b m cb at' from ⟨d0, d00, d01⟩).below E3
    have IT := IT.below E3; have K := K.below E3
    have D7 := D7.below E3; have D8 := D8.below E3; have D10 := D10.below E3; have D11 := D11.below E3
    have D13 := (BxT.new w4 aW nR cW q).allocO (mkAc A)
    have D14 := BxA.newd (w4.alloc (boxT aW nR cW q)) A (w4.heap.size + 1) (by simp)
    have oR := Own.below oR E3; have oB := Own.below oB E3
    have oW := Own.below (Own.mono oW E.size) EA
    have E := E.trans (E3.mono E.size)
    have V7 := OwnV.vs oR (by have := HNR.out; omega); have V10 := OwnV.vs oB (by have := HNR.out; omega); have V13 := OwnV.vs oW (by have := HNR.out; omega)
    have I5 := HI.out.below E; have V5 := HV.out.below E
    have KV := OwnV.vs K (by simp [marksV_length]; have := HM.out; omega)
    obtain ⟨d0, d00, d01⟩ := D0
    obtain ⟨d6, d60, d61⟩ := D6
    obtain ⟨d7, d70, d71⟩ := D7
    obtain ⟨d8, d80, d81, d82, d83, d84⟩ := D8
    obtain ⟨d10, d100, d101⟩ := D10
    obtain ⟨d11, d110, d111, d112, d113, d114⟩ := D11
    obtain ⟨d13, d130, d131⟩ := D13
    obtain ⟨d14, d140, d141, d142, d143, d144⟩ := D14
    have zA : decide (A = A) = true := decide_eq_true rfl
    have zA2 : (!decide (A = A)) = false := by rw [zA]; rfl
    have ze : (e != e) = false := by simp
    clear I3 V3
    go_wp2_with fail
    refine (SL.out _ _ _ _ _ V7 V13).mono ?_
    rintro e' w5 ⟨rfl, E5⟩
    have E := E.trans (E5.mono E.size)
    clear d80 d81 d82 d83 d84 d110 d111 d112 d113 d114 d140 d141 d142 d143 d144
    have D0 := (show BxT _ (w.heap.size) b m cb at' from ⟨d0, d00, d01⟩).below E5
    have D6 := (show BxT _ (d) a2 m c2 at' from ⟨d6, d60, d61⟩).below E5
    have D7 := (show BxT _ (w2.heap.size) aR nR cR q from ⟨d7, d70, d71⟩).below E5
    have D10 := (show BxT _ (w3.heap.size) aB nR cB q from ⟨d10, d100, d101⟩).below E5
    have D13 := (show BxT _ (w4.heap.size) aW nR cW q from ⟨d13, d130, d131⟩).below E5
    obtain ⟨d0, d00, d01⟩ := D0
    obtain ⟨d6, d60, d61⟩ := D6
    obtain ⟨d7, d70, d71⟩ := D7
    obtain ⟨d10, d100, d101⟩ := D10
    obtain ⟨d13, d130, d131⟩ := D13
    have oR := Own.below oR E5
    have oB := Own.below oB E5
    have oW := Own.below oW E5
    have K := Own.below K E5
    have V7 := V7.below E5
    have V10 := V10.below E5
    have V13 := V13.below E5
    have I5 := I5.below E5
    have V5 := V5.below E5
    have KV := KV.below E5
    have IT := IT.below E5
    go_wp2_with fail
    refine (SL.out _ _ _ _ _ V10 V13).mono ?_
    rintro e' w6 ⟨rfl, E6⟩
    have E := E.trans (E6.mono E.size)
    have D0 := (show BxT _ (w.heap.size) b m cb at' from ⟨d0, d00, d01⟩).below E6
    have D6 := (show BxT _ (d) a2 m c2 at' from ⟨d6, d60, d61⟩).below E6
    have D7 := (show BxT _ (w2.heap.size) aR nR cR q from ⟨d7, d70, d71⟩).below E6
    have D10 := (show BxT _ (w3.heap.size) aB nR cB q from ⟨d10, d100, d101⟩).below E6
    have D13 := (show BxT _ (w4.heap.size) aW nR cW q from ⟨d13, d130, d131⟩).below E6
    obtain ⟨d0, d00, d01⟩ := D0
    obtain ⟨d6, d60, d61⟩ := D6
    obtain ⟨d7, d70, d71⟩ := D7
    obtain ⟨d10, d100, d101⟩ := D10
    obtain ⟨d13, d130, d131⟩ := D13
    have oR := Own.below oR E6
    have oB := Own.below oB E6
    have oW := Own.below oW E6
    have K := Own.below K E6
    have V7 := V7.below E6
    have V10 := V10.below E6
    have V13 := V13.below E6
    have I5 := I5.below E6
    have V5 := V5.below E6
    have KV := KV.below E6
    have IT := IT.below E6
    go_wp2_with fail
    refine (SC.out _ _ _ _ _ IT I5).mono ?_
    rintro e' w7 ⟨rfl, q7⟩
    have E7 := q7.below
    have E := E.trans (E7.mono E.size)
    have D0 := (show BxT _ (w.heap.size) b m cb at' from ⟨d0, d00, d01⟩).below E7
    have D6 := (show BxT _ (d) a2 m c2 at' from ⟨d6, d60, d61⟩).below E7
    have D7 := (show BxT _ (w2.heap.size) aR nR cR q from ⟨d7, d70, d71⟩).below E7
    have D10 := (show BxT _ (w3.heap.size) aB nR cB q from ⟨d10, d100, d101⟩).below E7
    have D13 := (show BxT _ (w4.heap.size) aW nR cW q from ⟨d13, d130, d131⟩).below E7
    obtain ⟨d0, d00, d01⟩ := D0
    obtain ⟨d6, d60, d61⟩ := D6
    obtain ⟨d7, d70, d71⟩ := D7
    obtain ⟨d10, d100, d101⟩ := D10
    obtain ⟨d13, d130, d131⟩ := D13
    have oR := Own.below oR E7
    have oB := Own.below oB E7
    have oW := Own.below oW E7
    have K := Own.below K E7
    have V7 := V7.below E7
    have V10 := V10.below E7
    have V13 := V13.below E7
    have I5 := I5.below E7
    have V5 := V5.below E7
    have KV := KV.below E7
    have IT := IT.below E7
    go_wp2_with fail
    refine (KL.out _ _ _ _ _ KV hc2 V5).mono ?_
    rintro e' w8 ⟨rfl, E8⟩
    have E := E.trans (E8.mono E.size)
    have D0 := (show BxT _ (w.heap.size) b m cb at' from ⟨d0, d00, d01⟩).below E8
    have D6 := (show BxT _ (d) a2 m c2 at' from ⟨d6, d60, d61⟩).below E8
    have D7 := (show BxT _ (w2.heap.size) aR nR cR q from ⟨d7, d70, d71⟩).below E8
    have D10 := (show BxT _ (w3.heap.size) aB nR cB q from ⟨d10, d100, d101⟩).below E8
    have D13 := (show BxT _ (w4.heap.size) aW nR cW q from ⟨d13, d130, d131⟩).below E8
    obtain ⟨d0, d00, d01⟩ := D0
    obtain ⟨d6, d60, d61⟩ := D6
    obtain ⟨d7, d70, d71⟩ := D7
    obtain ⟨d10, d100, d101⟩ := D10
    obtain ⟨d13, d130, d131⟩ := D13
    have oR := Own.below oR E8
    have oB := Own.below oB E8
    have oW := Own.below oW E8
    have K := Own.below K E8
    have V7 := V7.below E8
    have V10 := V10.below E8
    have V13 := V13.below E8
    have I5 := I5.below E8
    have V5 := V5.below E8
    have KV := KV.below E8
    have IT := IT.below E8
    clear V7 V10 V13 I5 V5 KV IT E7 E8 q7 E5 E6 E2 E3 EA
    go_wp2_with fail
    have hne7 : aR = none ∨ bk aR ≠ w2.heap.size := by rcases hRlt with h | h; exact .inl h; exact .inr (by omega)
    have hne10 : aR = none ∨ bk aR ≠ w3.heap.size := by rcases hRlt with h | h; exact .inl h; exact .inr (by omega)
    have hne13 : aR = none ∨ bk aR ≠ w4.heap.size := by rcases hRlt with h | h; exact .inl h; exact .inr (by omega)
    have hne6 : aR = none ∨ bk aR ≠ d := by rcases hRlo with h | h; exact .inl h; exact .inr (by omega)
    have hne0 : aR = none ∨ bk aR ≠ w.heap.size := by rcases hRlo with h | h; exact .inl h; exact .inr (by omega)
    have apB : Apart aB aR := by
      rcases hBlt with h | h
      · exact .inl h
      · rcases hRlt with h2 | h2; exact .inr (.inl h2); exact .inr (.inr (by omega))
    have apW : Apart aW aR := by
      rcases hWlt with h | h
      · exact .inl h
      · rcases hRlt with h2 | h2; exact .inr (.inl h2); exact .inr (.inr (by omega))
    have apK : Apart a2 aR := by
      rcases hK2 with h | h
      · exact .inl h
      · rcases hRlo with h2 | h2; exact .inr (.inl h2); exact .inr (.inr (by omega))
    have HBX := hid (show BxT w8 w2.heap.size aR nR cR q ∧ BxT w8 w3.heap.size aB nR cB q ∧ BxT w8 w4.heap.size aW nR cW q ∧ BxT w8 d a2 m c2 at' ∧ BxT w8 w.heap.size b m cb at' from ⟨⟨d7, d70, d71⟩, ⟨d10, d100, d101⟩, ⟨d13, d130, d131⟩, ⟨d6, d60, d61⟩, ⟨d0, d00, d01⟩⟩)
    have HE := hid E
    have HR := hid oR; have HB := hid oB; have HW := hid oW; have HK := hid K; have HBT := hid T
    clear d7 d70 d71 d10 d100 d101 d13 d130 d131 d6 d60 d61 d0 d00 d01 oR oB oW K T E
    have oRl := HR.out
    go_loopw [16] (fun i wr => ∃ (k : Nat) (x : List Vl), k ≤ nR ∧ i = .int .i64 k ∧ x.length = nR ∧ OwnV wr w.heap.size aR nR cR x ∧ Step w8 wr aR aR) (fun i _ => nR - (intOf i).toNat)
    case atStart => exact ⟨0, R, Nat.zero_le _, rfl, HNR.out, oRl, Step.refl _ _⟩
    case round =>
      obtain ⟨k, x, hk, rfl, hx, o1, st1⟩ := hrel
      obtain ⟨b7, b70, b71⟩ := HBX.out.1.step st1 hne7
      by_cases hlt : k < nR
      · have hn : aR ≠ none := Own.some o1 (by omega)
        have ix := (OwnV.vs o1 (by omega)).idx k (by omega)
        rw [hx] at ix
        obtain ⟨y, hy⟩ : ∃ y, x[k]? = some y := ⟨_, List.getElem?_eq_getElem (by omega)⟩
        obtain ⟨p0, p1⟩ := (OwnV.vs o1 (by omega)).cells hy
        have f0 := Own.frozen o1 hn (k * 2)
        have f1 := Own.frozen o1 hn (k * 2 + 1)
        rw [← Nat.add_assoc] at f1
        obtain ⟨q1, q2⟩ := OwnV.set o1 hn k (by omega) (spoV k)
        have o2 := hid (show OwnV ((wr.setCell ⟨bk aR, fo aR + k * 2, none⟩ (.string ⟨#[115, 112, 111, 105, 108, 116]⟩)).setCell ⟨bk aR, fo aR + k * 2 + 1, none⟩ (.int .i64 k)) w.heap.size aR nR cR (x.set k (spoV k)) from q1)
        have st2 := hid (show Step w8 ((wr.setCell ⟨bk aR, fo aR + k * 2, none⟩ (.string ⟨#[115, 112, 111, 105, 108, 116]⟩)).setCell ⟨bk aR, fo aR + k * 2 + 1, none⟩ (.int .i64 k)) aR aR from st1.trans q2)
        have HX := hid hx
        clear q1 q2 hy o1 st1 hx
        go_wp2_with fail
        go_roundw
        case rel => exact ⟨k + 1, x.set k (spoV k), by omega, by go_num, by simpa using HX.out, o2.out, st2.out⟩
        case measure => simp [intOf]; omega
      · obtain rfl : k = nR := by omega
        have HX := hid hx
        clear hx
        go_wp2_with fail
        generalize wr = wv at *
        have o0 : OwnV wv w.heap.size aR (k + 0) cR (x ++ moreV 0) := by simpa [moreV] using o1
        go_loopw [17, 18] (fun s i wr => ∃ (j : Nat) (a' : Option Addr) (c' : Nat), j ≤ 40 ∧ i = .int .i64 j ∧ s = .slice a' (k + j) c' ∧ OwnV wr w.heap.size a' (k + j) c' (x ++ moreV j) ∧ OwnV wr w.heap.size aR k cR x ∧ Step wv wr aR aR ∧ Tail wv aR cR a' c') (fun _ i _ => 40 - (intOf i).toNat)
        case atStart => exact ⟨0, aR, cR, Nat.zero_le _, rfl, by simp, o0, o1, Step.refl _ _, .inl ⟨rfl, rfl⟩⟩
        case round =>
          clear o0 o1
          obtain ⟨j, a', c', hj, rfl, rfl, o1, o2, st2, tl⟩ := hrel
          by_cases hlt2 : j < 40
          · have hBr : w.heap.size ≤ wr.heap.size := Nat.le_trans (Nat.le_trans HE.out.size st1.grown.size) st2.grown.size
            have hlt' : aR ≠ none → bk aR < wv.heap.size := fun h => Nat.lt_of_lt_of_le (Own.lt HR.out h).2 st1.grown.size
            have HLT := hid hlt'
            clear hlt'
            go_wp2_with (at_builtin; go_loud (refine wpList_app1 vsl (.tmp 101) (.tmp 103) rfl rfl rfl o1 rfl rfl (by intro u hu; simp at hu; rcases hu with rfl | rfl <;> rfl) (Below.refl w.heap.size wr) hBr (by omega) (by unfold maxLen; omega) ?_))
            intro a3 c3 w3' o3 g3 B3
            have e2 : valsC (x ++ moreV j) = valsC x ++ valsC (moreV j) := valsC_app _ _
            obtain ⟨r1, r2, r3⟩ := Tail.grew (m := 1) (zs := [.string ⟨#[109, 111, 114, 101]⟩, .int .i64 0]) (ys := valsC (moreV j)) o2 (by rw [← e2]; exact o1) st2 HLT.out tl g3 (by rw [← e2]; exact o3)
            have o4 : OwnV w3' w.heap.size a3 (k + (j + 1)) c3 (x ++ moreV (j + 1)) := by
              unfold OwnV
              rw [valsC_more]; exact o3
            clear o1 o2 o3 g3 tl e2 st2
            go_wp2_with fail
            go_roundw
            case rel => exact ⟨j + 1, a3, c3, by omega, by go_num, by simp [Nat.add_assoc], o4, r1, r2, r3⟩
            case measure => simp [intOf]; omega
          · obtain rfl : j = 40 := by omega
            have st := st1.trans st2
            have EZ := st.below HR.out HE.out HE.out.size
            obtain ⟨B7, B10, B13, B6, B0⟩ := HBX.out
            obtain ⟨b7, b70, b71⟩ := B7.step st hne7
            obtain ⟨b10, b100, b101⟩ := B10.step st hne10
            obtain ⟨b13, b130, b131⟩ := B13.step st hne13
            obtain ⟨b6, b60, b61⟩ := B6.step st hne6
            obtain ⟨b0, b00, b01⟩ := B0.step st hne0
            have oB := (Own.step HB.out st apB).1
            have oW := (Own.step HW.out st apW).1
            have oK := (Own.step HK.out st apK).1
            have V10 := OwnV.vs oB (by have := HNR.out; omega); have V13 := OwnV.vs oW (by have := HNR.out; omega)
            have V5 := HV.out.below EZ
            have KV := OwnV.vs oK (by simp [marksV_length]; have := HM.out; omega)
            have hkk : ((k : Int) + 40 == (k : Int) + 40) = true := by simp
            have hwk : IntKind.i64.wrap ((k : Int) + 40) = (k : Int) + 40 := IntWalk.i64_in _ (by omega)
            have hw41 : ((k + 40 : Nat) : Int) = (k : Int) + 40 := by omega
            clear o1 o2 st2 tl st1 st b7 B7 B10 B13 B6 B0 oB oW
            go_wp2_with fail
            refine (SL.out _ _ _ _ _ V10 V13).mono ?_
            rintro e' x5 ⟨rfl, E5⟩
            have EZ := EZ.trans (E5.mono EZ.size)
            have B6 := (show BxT _ d a2 m c2 at' from ⟨b6, b60, b61⟩).below E5
            have B0 := (show BxT _ w.heap.size b m cb at' from ⟨b0, b00, b01⟩).below E5
            have KV := KV.below E5
            have V5 := V5.below E5
            clear b6 b60 b61 b0 b00 b01
            obtain ⟨b6, b60, b61⟩ := B6
            obtain ⟨b0, b00, b01⟩ := B0
            go_wp2_with fail
            refine (KL.out _ _ _ _ _ KV hc2 V5).mono ?_
            rintro e' x6 ⟨rfl, E6⟩
            have EZ := EZ.trans (E6.mono EZ.size)
            have G := HG.out.below EZ
            go_wp2_with fail
            refine (AW.out _ G).mono ?_
            rintro e' x7 ⟨rfl, E7⟩
            have EZ := EZ.trans (E7.mono EZ.size)
            go_wp2_with fail
            go_ret
            exact ⟨rfl, EZ⟩
end Go.Proofs.YtigimkgmghjgoaaGreatDoor
