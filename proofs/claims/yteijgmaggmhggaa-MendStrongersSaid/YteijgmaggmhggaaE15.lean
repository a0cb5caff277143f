/- The walks of EqualFunc over may, Weaker (the program's), refused, Weaker (the document's answer). Conditions: the edges lie in memory as read. -/
import Derived.Test.YteijgmaggmhggaaE14
import Derived.Deep.RegionHeld3
namespace Go.Proofs.Yteijgmaggmhggaa
open Go.RowKit
set_option linter.unusedVariables false

attribute [local go_sem high] eqE neqE

theorem Es.lt {w : World} {a : Option Addr} {l : List Edge} (h : Es w a l) {k : Nat} (hk : k < l.length) : bk a < w.heap.size := by
  refine h.row.lt ?_
  intro e
  have := edges_length l
  rw [e] at this; simp at this; omega
/-- each may stand in the other one's place -/
def allMay : List Edge → List Edge → Bool
  | [], [] => true
  | x :: r, y :: s => mayP x y && allMay r s
  | _, _ => false
theorem allMay_len : ∀ {a b : List Edge}, a.length ≠ b.length → allMay a b = false
  | [], [], h => absurd rfl h
  | [], _ :: _, _ => rfl
  | _ :: _, [], _ => rfl
  | x :: r, y :: s, h => by unfold allMay; rw [allMay_len (by simpa using h)]; simp
theorem allMay_all : ∀ {a b : List Edge} (h : a.length = b.length), (∀ j (hj : j < a.length) (hj' : j < b.length), mayP a[j] b[j] = true) → allMay a b = true
  | [], [], _, _ => rfl
  | x :: r, y :: s, h, hz => by
    unfold allMay
    have h0 : mayP x y = true := hz 0 (by simp) (by simp)
    rw [h0, allMay_all (a := r) (b := s) (by simpa using h) (fun j hj hj' => hz (j + 1) (by simpa using hj) (by simpa using hj'))]; rfl
theorem allMay_at : ∀ {a b : List Edge} {j : Nat} (hj : j < a.length) (hj' : j < b.length), mayP a[j] b[j] = false → allMay a b = false
  | x :: r, y :: s, 0, hj, hj', h => by unfold allMay; rw [show mayP x y = false by simpa using h]; rfl
  | x :: r, y :: s, j + 1, hj, hj', h => by
    unfold allMay
    rw [allMay_at (a := r) (b := s) (j := j) (by simpa using hj) (by simpa using hj') (by simpa using h)]; simp

def weakN (arch : Int) (a b : List Edge) : Int := if givenN arch a ≠ 0 then givenN arch a else givenN arch b
def weakB (arch : Int) (a b : List Edge) : Bool := if givenN arch a ≠ 0 then false else if givenN arch b ≠ 0 then false else allMay a b

abbrev mkE (e : Edge) : Obj := .cells #[.int .i64 e.kind, .bool e.ext, .bool e.same, .int .i64 e.src, .int .i64 e.dst, .int .i64 e.fence] 23
set_option maxRecDepth 100000 in
set_option maxHeartbeats 3200000 in
theorem progEqual (a b : List Edge) (a1 a2 : Option Addr) (c1 c2 : Nat) (w : World) (h1 : Es w a1 a) (h2 : Es w a2 b) :
    Calls Try.prog 29 #[.slice a1 a.length c1, .slice a2 b.length c2, .func (.func 30) #[] #[]] w (Ret w (.bool (allMay a b))) := by
  have hl1 := h1.len; have hl2 := h2.len
  have B := Below.refl w.heap.size w
  by_cases hlen : a.length = b.length
  · have z : ((a.length : Int) != (b.length : Int)) = false := by simp; omega
    have HL := hid hlen
    have hle : a.length ≤ b.length := by omega
    clear hlen
    go_enter Try.func29, Try.ntmps29
    go_wp2_with fail
    go_loopw [17] (fun i wr => ∃ k : Nat, k ≤ a.length ∧ i = .int .i64 k ∧ Hid (∀ j (hj : j < a.length) (hj' : j < b.length), j < k → mayP a[j] b[j] = true) ∧ Es wr a1 a ∧ Es wr a2 b ∧ Below w.heap.size w wr) (fun i _ => a.length - (intOf i).toNat)
    case atStart => exact ⟨0, by omega, rfl, hid (fun j hj _ h' => absurd h' (Nat.not_lt_zero j)), h1, h2, B⟩
    case round =>
      clear h1 h2 B
      obtain ⟨k, hk, rfl, HK, h1, h2, B⟩ := hrel
      by_cases hlt : k < a.length
      · obtain ⟨e, he⟩ : ∃ e, a[k] = e := ⟨_, rfl⟩
        obtain ⟨f, hf⟩ : ∃ f, b[k]'(by omega) = f := ⟨_, rfl⟩
        obtain ⟨p0, p1, p2, p3, p4, p5⟩ := h1.cells k hlt e he
        obtain ⟨q0, q1, q2, q3, q4, q5⟩ := h2.cells k (by omega) f hf
        have ix := h1.idx k hlt
        have iy := h2.idx k (by omega)
        have hb1 := h1.lt hlt
        have hb2 := h2.lt (by omega : k < b.length)
        have HE := hid he; have HF := hid hf
        clear he hf
        go_wp2_with fail
        have E8 : Below wr.heap.size wr ((wr.alloc (mkE e)).alloc (mkE f)) := (al wr (mkE e)).alloc (by simp) (mkE f)
        have h1 := h1.below E8
        have h2 := h2.below E8
        have B := B.trans (E8.mono B.size)
        clear p0 p1 p2 p3 p4 p5 q0 q1 q2 q3 q4 q5 ix iy hb1 hb2 E8
        refine (progMay e f _).mono ?_
        rintro e' w7 ⟨rfl, E7⟩
        have h1 := h1.below E7
        have h2 := h2.below E7
        have B := B.trans (E7.mono B.size)
        cases hm : mayP e f
        · have HM := hid hm
          clear hm
          go_wp2_with fail
          go_ret
          exact ⟨ret_bool (allMay_at hlt (by omega) (by rw [HE.out, HF.out]; exact HM.out)).symm, B⟩
        · have HM := hid hm
          clear hm
          go_wp2_with fail
          go_roundw
          case rel => exact ⟨k + 1, by omega, by go_num, hid (fun j hj hj' hjk => by
            by_cases hh : j = k
            · subst hh; rw [HE.out, HF.out]; exact HM.out
            · exact HK.out j hj hj' (by omega)), h1, h2, B⟩
          case measure => simp [intOf]; omega
      · go_wp2_with fail
        go_ret
        exact ⟨ret_bool (allMay_all HL.out (fun j hj hj' => HK.out j hj hj' (by omega))).symm, B⟩
  · have z : ((a.length : Int) != (b.length : Int)) = true := by simp; omega
    rw [allMay_len hlen]
    clear hlen
    go_enter Try.func29, Try.ntmps29
    go_wp2_with fail
    go_ret
    exact ⟨rfl, B⟩

set_option maxRecDepth 100000 in
set_option maxHeartbeats 3200000 in
theorem progWeaker (arch : Int) (a b : List Edge) (a1 a2 : Option Addr) (c1 c2 : Nat) (w : World) (h1 : Es w a1 a) (h2 : Es w a2 b) :
    Calls Try.prog 16 #[.int .i64 arch, .slice a1 a.length c1, .slice a2 b.length c2] w (Ret w (.tuple #[.bool (weakB arch a b), .int .i64 (weakN arch a b)])) := by
  by_cases g1 : givenN arch a = 0
  · have z1 : givenN arch a = 0 := g1
    by_cases g2 : givenN arch b = 0
    · have e1 : weakB arch a b = allMay a b := by unfold weakB; rw [if_neg (by omega), if_neg (by omega)]
      have e2 : weakN arch a b = 0 := by unfold weakN; rw [if_neg (by omega)]; exact g2
      rw [e1, e2]
      have G1 := hid g1; have G2 := hid g2
      clear e1 e2 g1 g2 z1
      go_enter Try.func16, Try.ntmps16
      go_wp2_with fail
      refine (progGiven arch a a1 c1 _ h1).mono ?_
      rintro e' w7 ⟨rfl, E7⟩
      rw [G1.out]
      go_wp2_with fail
      refine (progGiven arch b a2 c2 _ (h2.below E7)).mono ?_
      rintro e' w8 ⟨rfl, E8⟩
      rw [G2.out]
      go_wp2_with fail
      refine (progEqual a b a1 a2 c1 c2 _ ((h1.below E7).below E8) ((h2.below E7).below E8)).mono ?_
      rintro e' w9 ⟨rfl, E9⟩
      go_wp2_with fail
      go_ret2
      exact ⟨rfl, ext_trans (ext_trans E7 E8) E9⟩
    · have e1 : weakB arch a b = false := by unfold weakB; rw [if_neg (by omega), if_pos g2]
      have e2 : weakN arch a b = givenN arch b := by unfold weakN; rw [if_neg (by omega)]
      rw [e1, e2]
      have z2 : (givenN arch b != 0) = true := by simpa using g2
      have G1 := hid g1
      generalize hn : givenN arch b = n at *
      have HN := hid hn
      clear e1 e2 g1 g2 z1 hn
      go_enter Try.func16, Try.ntmps16
      go_wp2_with fail
      refine (progGiven arch a a1 c1 _ h1).mono ?_
      rintro e' w7 ⟨rfl, E7⟩
      rw [G1.out]
      go_wp2_with fail
      refine (progGiven arch b a2 c2 _ (h2.below E7)).mono ?_
      rintro e' w8 ⟨rfl, E8⟩
      rw [HN.out]
      go_wp2_with fail
      go_ret2
      exact ⟨rfl, ext_trans E7 E8⟩
  · have e1 : weakB arch a b = false := by unfold weakB; rw [if_pos g1]
    have e2 : weakN arch a b = givenN arch a := by unfold weakN; rw [if_pos g1]
    rw [e1, e2]
    have z2 : (givenN arch a != 0) = true := by simpa using g1
    generalize hn : givenN arch a = n at *
    have HN := hid hn
    clear e1 e2 g1 hn
    go_enter Try.func16, Try.ntmps16
    go_wp2_with fail
    refine (progGiven arch a a1 c1 _ h1).mono ?_
    rintro e' w7 ⟨rfl, E7⟩
    rw [HN.out]
    go_wp2_with fail
    go_ret2
    exact ⟨rfl, E7⟩
end Go.Proofs.Yteijgmaggmhggaa
