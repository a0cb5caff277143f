/- The walk of what must come whatever the arguments are. Condition: the library's variables as the program's text lays them. · The walk of SameCode (the document's answer). Condition: the instructions lie in memory as read. -/
import Derived.Test.YtigimkgmghjgoaaGreatDoorQn
import Derived.Test.YtigimkgmghjgoaaGreatDoorQi
import Derived.Test.YtigimkgmghjgoaaGreatDoorQc
namespace Go.Proofs.YtigimkgmghjgoaaGreatDoor
open Go.RowKit
set_option linter.unusedVariables false

theorem linksV_two : linksV [⟨12, 0, 0, 0, 0, [], [65], 0⟩, ⟨12, 0, 0, 0, 0, [], [65], 0⟩] = ([], 93, 1) := by decide +kernel
theorem print_ten : printI ⟨13, 0, 0, 0, 0, [], [], 10⟩ = [102, 101, 110, 99, 101, 32, 114, 119, 44, 119] := by decide +kernel
theorem reg_31 : regN [120, 51, 49] = 31 ∧ regE [120, 51, 49] = 0 := by decide +kernel
abbrev twoO : Obj := .cells #[.int .i64 12, .int .i64 0, .int .i64 0, .int .i64 0, .int .i64 0, .string ⟨#[]⟩, .string ⟨#[65]⟩, .int .i64 0, .int .i64 12, .int .i64 0, .int .i64 0, .int .i64 0, .int .i64 0, .string ⟨#[]⟩, .string ⟨#[65]⟩, .int .i64 0] 23
theorem Is.two (w : World) : Is (w.alloc twoO) (some ⟨w.heap.size, 0, none⟩) [⟨12, 0, 0, 0, 0, [], [65], 0⟩, ⟨12, 0, 0, 0, 0, [], [65], 0⟩] := by
  refine ⟨⟨fun _ => rfl, fun i hi => ?_⟩, by simp⟩
  have hh := heap_alloc_new w twoO
  simp only [World.cell?, bk_some, fo_some, hh]
  simp only [Nat.zero_add]
  rw [if_neg (by simp)]
  exact List.getElem?_toArray
set_option maxRecDepth 100000 in
set_option maxHeartbeats 3200000 in
theorem awake10 (w : World) (g : Gl w) : Calls Tryz.prog 16 #[] w (Ret w (.bool true)) := by
  have P1 : Calls Tryz.prog 12 #[.string ⟨#[32, 115, 119, 32, 32, 120, 53, 32, 44, 32, 48, 32, 40, 32, 120, 54, 32, 41]⟩] w (Ret w (.tuple #[.agg #[.int .i64 7, .int .i64 0, .int .i64 6, .int .i64 5, .int .i64 0, .string ⟨#[]⟩, .string ⟨#[]⟩, .int .i64 0], .int .i64 0])) := by
    have := progParse [32, 115, 119, 32, 32, 120, 53, 32, 44, 32, 48, 32, 40, 32, 120, 54, 32, 41] w g
    rw [parse_awake] at this
    exact this
  have P2 := hid (fun (w : World) (g : Gl w) => (show Calls Tryz.prog 10 #[.agg #[.int .i64 13, .int .i64 0, .int .i64 0, .int .i64 0, .int .i64 0, .string ⟨#[]⟩, .string ⟨#[]⟩, .int .i64 10]] w (Ret w (.tuple #[.string ⟨#[102, 101, 110, 99, 101, 32, 114, 119, 44, 119]⟩, .int .i64 0])) by
    have := progPrint_yes ⟨13, 0, 0, 0, 0, [], [], 10⟩ (by decide) w g
    rw [print_ten] at this
    exact this))
  have P3 := hid (fun (w : World) => (show Calls Tryz.prog 50 #[.string ⟨#[120, 51, 49]⟩] w fun e w' => e = .returned (.tuple #[.int .i64 31, .int .i64 0]) ∧ w = w' by
    have := progRegOf [120, 51, 49] w
    rw [reg_31.1, reg_31.2] at this
    exact this))
  have P4 := hid (fun (w : World) => (show Calls Tryz.prog 17 #[.slice (some ⟨w.heap.size, 0, none⟩) 2 2] (w.alloc twoO) (fun e w' => ∃ a c, e = .returned (.tuple #[.slice a 0 c, .int .i64 93, .int .i64 1]) ∧ Below (w.alloc twoO).heap.size (w.alloc twoO) w') by
    have := progLinks [⟨12, 0, 0, 0, 0, [], [65], 0⟩, ⟨12, 0, 0, 0, 0, [], [65], 0⟩] (some ⟨w.heap.size, 0, none⟩) 2 (by simp) (by simp) (w.alloc twoO) (Is.two w)
    rw [linksV_two] at this
    refine this.mono fun e w' hh => ?_
    obtain ⟨a, c, he, ho, hb⟩ := hh
    exact ⟨a, c, he, hb⟩))
  have hEQ : ∀ w, (binOp .eql 23 (.agg #[.int .i64 7, .int .i64 0, .int .i64 6, .int .i64 5, .int .i64 0, .string ⟨#[]⟩, .string ⟨#[]⟩, .int .i64 0]) (.agg #[.int .i64 7, .int .i64 0, .int .i64 6, .int .i64 5, .int .i64 0, .string ⟨#[]⟩, .string ⟨#[]⟩, .int .i64 0])).run Tryz.prog w = .ok (.bool true) w := fun w => by
    have := eqI ⟨7, 0, 6, 5, 0, [], [], 0⟩ ⟨7, 0, 6, 5, 0, [], [], 0⟩ w
    rw [decide_eq_true rfl] at this
    exact this
  have HP1 := hid P1
  clear P1
  go_enter Tryz.func16, Tryz.ntmps16
  go_wp2_with fail
  refine HP1.out.mono ?_
  rintro e w1 ⟨rfl, E1⟩
  have g1 := (g.below E1).below (al w1 (mkI ⟨7, 0, 6, 5, 0, [], [], 0⟩))
  have b1 := BxI.new w1 ⟨7, 0, 6, 5, 0, [], [], 0⟩
  have E := bel_alloc E1 (mkI ⟨7, 0, 6, 5, 0, [], [], 0⟩)
  go_wp2_with fail
  refine (P2.out _ g1).mono ?_
  rintro e w2 ⟨rfl, E2⟩
  have b2 := b1.below E2
  have E := E.trans (E2.mono E.size)
  clear b1 E2 E1 g1
  go_wp2_with fail
  refine (P3.out _).mono ?_
  rintro e w3 ⟨rfl, rfl⟩
  go_wp2_with fail
  refine (P4.out _).mono ?_
  rintro e w4 ⟨a4, c4, rfl, E4⟩
  have b4 := (b2.below (al w2 twoO)).below E4
  have E := (bel_alloc E twoO).trans (E4.mono (bel_alloc E twoO).size)
  obtain ⟨c0, c1, c2, c3, c4, c5', c6', c7⟩ := b4.cells
  have c5 : w4.cell? ⟨w1.heap.size, 5, none⟩ = some (.string ⟨#[]⟩) := c5'
  have c6 : w4.cell? ⟨w1.heap.size, 6, none⟩ = some (.string ⟨#[]⟩) := c6'
  have hlt := b4.1
  clear b2 b4 E4 c5' c6'
  go_wp2_with fail
  go_ret
  exact ⟨rfl, E⟩
end Go.Proofs.YtigimkgmghjgoaaGreatDoor
namespace Go.Proofs.YtigimkgmghjgoaaGreatDoor
open Go.RowKit
set_option linter.unusedVariables false

attribute [local go_sem high] eqI neqI
theorem takeI_step {a b : List Ins} {k : Nat} {x : Ins} (h : a.take k = b.take k) (h1 : a[k]? = some x) (h2 : b[k]? = some x) : a.take (k + 1) = b.take (k + 1) := by
  rw [List.take_add_one, List.take_add_one, h, h1, h2]
set_option maxHeartbeats 1600000 in
theorem refSameCode (a b : List Ins) (a1 a2 : Option Addr) (c1 c2 : Nat) (w : World) (h1 : Is w a1 a) (h2 : Is w a2 b) :
    Calls Tryz.prog 20 #[.slice a1 a.length c1, .slice a2 b.length c2] w (RetQ w (.bool (decide (a = b)))) := by
  have H1 := hid h1; have H2 := hid h2
  by_cases hlen : a.length = b.length
  · have HL := hid hlen
    have hix1 := h1.idx; have hix2 := h2.idx
    have hal := h1.len
    rw [← hlen] at hix2 ⊢
    have X1 := hid hix1; have X2 := hid hix2
    obtain ⟨n, hn⟩ : ∃ n, a.length = n := ⟨_, rfl⟩
    rw [hn] at X1 X2 hal ⊢
    have HN := hid hn
    have HG1 := hid (fun (k : Nat) (hk : k < n) => show ∃ i, a[k]? = some i from ⟨_, List.getElem?_eq_getElem (by omega)⟩)
    have HG2 := hid (fun (k : Nat) (hk : k < n) => show ∃ i, b[k]? = some i from ⟨_, List.getElem?_eq_getElem (by omega)⟩)
    clear hlen hix1 hix2 hn h1 h2
    go_enter Tryz.func20, Tryz.ntmps20
    go_wp2_with fail
    go_loopw [5] (fun i wr => ∃ k : Nat, k ≤ n ∧ i = .int .i64 k ∧ Hid (a.take k = b.take k) ∧ QW w wr) (fun i _ => n - (intOf i).toNat)
    case atStart => exact ⟨0, by omega, rfl, hid (by simp), QW.refl _⟩
    case round =>
      obtain ⟨k, hk, rfl, HK, ⟨q, rfl⟩⟩ := hrel
      by_cases hlt : k < n
      · obtain ⟨x, hx⟩ := HG1.out k hlt
        obtain ⟨y, hy⟩ := HG2.out k hlt
        obtain ⟨p0, p1, p2, p3, p4, p5, p6, p7⟩ := H1.out.cells hx
        obtain ⟨q0, q1, q2, q3, q4, q5, q6, q7⟩ := H2.out.cells hy
        have ix := X1.out k hlt; have iy := X2.out k hlt
        by_cases hm : x = y
        · have hd : decide (x = y) = true := decide_eq_true hm
          have hd2 : (!decide (x = y)) = false := by rw [hd]; rfl
          have HK2 := hid (takeI_step HK.out hx (hm ▸ hy))
          clear hm hx hy
          go_wp2_with fail
          go_quiet (fail)
          go_wp2_with fail
          go_roundw
          case rel => exact ⟨k + 1, by omega, by go_num, HK2, (by repeat (first | exact QW.refl _ | refine QW.d ?_ _))⟩
          case measure => simp [intOf]; omega
        · have hd : decide (x = y) = false := decide_eq_false hm
          have hd2 : (!decide (x = y)) = true := by rw [hd]; rfl
          have HM := hid (show ¬ a = b by intro h; subst h; rw [hx] at hy; exact hm (Option.some.inj hy))
          clear hm hx hy
          go_wp2_with fail
          go_quiet (fail)
          go_wp2_with fail
          go_ret
          exact ⟨ret_bool (decide_eq_false HM.out).symm, (by repeat (first | exact QW.refl _ | refine QW.d ?_ _))⟩
      · have hab := hid (show a = b by
          have := HK.out
          rwa [List.take_of_length_le (by have := HN.out; omega), List.take_of_length_le (by have := HL.out; have := HN.out; omega)] at this)
        go_wp2_with fail
        go_ret
        exact ⟨ret_bool (decide_eq_true hab.out).symm, (by repeat (first | exact QW.refl _ | refine QW.d ?_ _))⟩
  · have z : ((a.length : Int) != (b.length : Int)) = true := by simp; omega
    have HM := hid (show ¬ a = b by intro h; subst h; exact hlen rfl)
    clear hlen h1 h2
    go_enter Tryz.func20, Tryz.ntmps20
    go_wp2_with fail
    go_ret
    exact ⟨ret_bool (decide_eq_false HM.out).symm, (by repeat (first | exact QW.refl _ | refine QW.d ?_ _))⟩
end Go.Proofs.YtigimkgmghjgoaaGreatDoor
