/- The walk of fence (the program's). Conditions: texts in memory as read, of lengths that an int holds. · The walk of read (the program's). Conditions: texts in memory as read, of lengths that an int holds; the library's variables as the program's text lays them. -/
import Derived.Test.YtigimkgmghjgoaaGreatDoorQd
import Derived.Test.YtigimkgmghjgoaaGreatDoorQf
namespace Go.Proofs.YtigimkgmghjgoaaGreatDoor
open Go.RowKit
set_option linter.unusedVariables false

theorem Txs.cellq {w : World} {a : Option Addr} {l : List Tx} (h : Txs w a l) {k : Nat} {u : Tx} (hu : l[k]? = some u) : w.cell? ⟨bk a, fo a + k, none⟩ = some (.string (tx u)) := by
  obtain ⟨hk, rfl⟩ := List.getElem?_eq_some_iff.1 hu
  exact h.cell k hk
def partsL : List Tx := [[114], [119], [114, 119]]
theorem progPartsT (w : World) : Calls Tryz.prog 63 #[] w fun e w' => ∃ a, e = .returned (.slice a 3 3) ∧ Txs w' a partsL ∧ Below w.heap.size w w' := by
  refine (progParts w).mono fun e w' hh => ?_
  obtain ⟨he, rfl⟩ := hh
  refine ⟨_, he, ⟨⟨fun _ => rfl, fun i hi => ?_⟩, by decide⟩, al _ _⟩
  have hh := heap_alloc_new w (.cells #[.string ⟨#[114]⟩, .string ⟨#[119]⟩, .string ⟨#[114, 119]⟩] 9)
  simp only [World.cell?, bk_some, fo_some, hh]
  have hi : i = 0 ∨ i = 1 ∨ i = 2 := by simp [partsL] at hi; omega
  rcases hi with rfl | rfl | rfl <;> rfl
theorem parts_idx {w : World} {a : Option Addr} (h : Txs w a partsL) (k : Nat) (hk : k < 3) : ∀ c w', (Instr.indexAt 67 (.slice a 3 c) (.int .i64 k)).run Tryz.prog w' = .ok (.pointer (some ⟨bk a, fo a + k, none⟩)) w' := h.idx k hk
/-- no fence of these parts among the first k rows, and the first j of the next one -/
def NoF (x y : Tx) (k j : Nat) : Prop := ∀ k' j', k' < 3 → j' < 3 → (k' < k ∨ (k' = k ∧ j' < j)) → ¬ (partsL[k']? = some x ∧ partsL[j']? = some y)
def FenceP (x y : Tx) (w : World) (e : Ending) (w' : World) : Prop :=
  ((∃ k j : Nat, k < 3 ∧ j < 3 ∧ partsL[k]? = some x ∧ partsL[j]? = some y ∧ e = .returned (.tuple #[.agg #[.int .i64 13, .int .i64 0, .int .i64 0, .int .i64 0, .int .i64 0, .string ⟨#[]⟩, .string ⟨#[]⟩, .int .i64 (3 + 3 * (k : Int) + j)], .bool true])) ∨
   (NoF x y 3 0 ∧ e = .returned (.tuple #[.agg #[.int .i64 0, .int .i64 0, .int .i64 0, .int .i64 0, .int .i64 0, .string ⟨#[]⟩, .string ⟨#[]⟩, .int .i64 0], .bool false]))) ∧ Below w.heap.size w w'
theorem progFence_no (n c : Nat) (a : Option Addr) (hn : n ≠ 2) (w : World) : Calls Tryz.prog 67 #[.slice a n c] w (RetF w 0 0 0 0 0 ⟨#[]⟩ ⟨#[]⟩ 0 false) := by
  have z : ((n : Int) != 2) = true := by simp; omega
  clear hn
  go_enter Tryz.func67, Tryz.ntmps67
  go_wp2_with fail
  exact bodyPost_ret (by simp [results, Tryz.results67, go_sem]) rfl ⟨rfl, (by repeat (first | with_reducible assumption | with_reducible exact Below.refl _ _ | with_reducible refine bel_alloc ?_ _ | with_reducible refine bel_drew ?_ | with_reducible refine bel_set ?_ (by dsimp only; omega) _))⟩
set_option maxRecDepth 100000 in
set_option maxHeartbeats 6400000 in
theorem progFence (x y : Tx) (a : Option Addr) (c : Nat) (w : World) (h : Txs w a [x, y]) (hs : Sm [x, y]) :
    Calls Tryz.prog 67 #[.slice a 2 c] w (FenceP (trimT x) (trimT y) w) := by
  have X := hid (progTrimmed x (hs.at x (by simp)))
  have Y := hid (progTrimmed y (hs.at y (by simp)))
  have i0 : ∀ c w', (Instr.indexAt 67 (.slice a 2 c) (.int .i64 0)).run Tryz.prog w' = .ok (.pointer (some ⟨bk a, fo a, none⟩)) w' := fun c w' => h.idx 0 (by simp) c w'
  have i1 : ∀ c w', (Instr.indexAt 67 (.slice a 2 c) (.int .i64 1)).run Tryz.prog w' = .ok (.pointer (some ⟨bk a, fo a + 1, none⟩)) w' := fun c w' => h.idx 1 (by simp) c w'
  generalize trimT x = tx' at *
  generalize trimT y = ty' at *
  have E0 : Below (w.alloc zeroI).heap.size (w.alloc zeroI) (w.alloc zeroI) := Below.refl _ _
  have HW := hid (al w zeroI)
  go_enter Tryz.func67, Tryz.ntmps67
  go_wp2_with fail
  refine (progPartsT _).mono ?_
  rintro e w1 ⟨a1, rfl, p1, E⟩
  have E1 := E0.trans E
  clear E0 E
  go_wp2_with fail
  go_loopw [14] (fun i wr => ∃ k : Nat, k ≤ 3 ∧ i = .int .i64 k ∧ Hid (NoF tx' ty' k 0) ∧ Txs wr a1 partsL ∧ Below (w.alloc zeroI).heap.size (w.alloc zeroI) wr) (fun i _ => 3 - (intOf i).toNat)
  case atStart => exact ⟨0, by omega, rfl, fun k' j' _ _ h => by omega, p1, E1⟩
  case round =>
    clear p1 E1
    obtain ⟨k, hk, rfl, HN, p, E⟩ := hrel
    by_cases hlk : k < 3
    · obtain ⟨u, hu⟩ : ∃ u, partsL[k]? = some u := ⟨_, List.getElem?_eq_getElem hlk⟩
      have HU := hid hu
      have ik := parts_idx p k hlk
      have ck : ∀ W, Below wr.heap.size wr W → W.cell? ⟨bk a1, fo a1 + k, none⟩ = some (.string (tx u)) := fun W hW => (p.below hW).cellq hu
      have ck0 := ck wr (Below.refl _ _)
      clear hu ck
      go_wp2_with fail
      refine (progPartsT _).mono ?_
      rintro e w2 ⟨a2, rfl, p2, E2⟩
      have p := p.below E2
      have E := E.trans (E2.mono E.size)
      clear E2 ck0
      go_wp2_with fail
      go_loopw [21] (fun i wr => ∃ j : Nat, j ≤ 3 ∧ i = .int .i64 j ∧ Hid (NoF tx' ty' k j) ∧ Txs wr a1 partsL ∧ Txs wr a2 partsL ∧ Below (w.alloc zeroI).heap.size (w.alloc zeroI) wr) (fun i _ => 3 - (intOf i).toNat)
      case atStart => exact ⟨0, by omega, rfl, HN, p, p2, E⟩
      case round =>
        clear p p2 E
        obtain ⟨j, hj, rfl, HN2, p, p2, E⟩ := hrel
        by_cases hlj : j < 3
        · obtain ⟨v, hv⟩ : ∃ v, partsL[j]? = some v := ⟨_, List.getElem?_eq_getElem hlj⟩
          have HV := hid hv
          have ij := parts_idx p2 j hlj
          have cj : wr.cell? ⟨bk a2, fo a2 + j, none⟩ = some (.string (tx v)) := p2.cellq hv
          have hB : Below w.heap.size w wr := HW.out.trans (E.mono HW.out.size)
          have hT := h.below hB
          have c0 : wr.cell? ⟨bk a, fo a, none⟩ = some (.string (tx x)) := hT.cell 0 (by simp)
          clear hv hB
          by_cases hx : tx' = u
          · have z1 : ((tx tx').toList == (tx u).toList) = true := by rw [tx_beq]; simpa using hx
            by_cases hy : ty' = v
            · have z2 : ((tx ty').toList == (tx v).toList) = true := by rw [tx_beq]; simpa using hy
              have HF := hid (show partsL[k]? = some tx' ∧ partsL[j]? = some ty' by rw [HU.out, HV.out, hx, hy]; exact ⟨rfl, rfl⟩)
              clear hx hy
              go_wp2_with fail
              refine (X.out _).mono ?_
              rintro e w3 ⟨rfl, E3⟩
              have hT := hT.below E3; have E := E.trans (E3.mono E.size)
              have c1 : w3.cell? ⟨bk a, fo a + 1, none⟩ = some (.string (tx y)) := hT.cell 1 (by simp)
              have p2 := p2.below E3
              have cj : w3.cell? ⟨bk a2, fo a2 + j, none⟩ = some (.string (tx v)) := p2.cellq HV.out
              clear E3 c0
              go_wp2_with fail
              refine (Y.out _).mono ?_
              rintro e w4 ⟨rfl, E4⟩
              have E := E.trans (E4.mono E.size)
              obtain ⟨⟨d0, d1, d2, d3, d4, d5, d6, d7⟩, hf, hlt, B⟩ := fresh8 E
              clear E4 E c1 cj hT HN HN2 p2 p
              go_wp2_with fail
              exact bodyPost_ret (by simp [results, Tryz.results67, go_sem, d0, d1, d2, d3, d4, d5, d6, d7]) rfl ⟨.inl ⟨k, j, hlk, hlj, HF.out.1, HF.out.2, rfl⟩, (by repeat (first | with_reducible assumption | with_reducible exact Below.refl _ _ | with_reducible refine bel_alloc ?_ _ | with_reducible refine bel_drew ?_ | with_reducible refine bel_set ?_ (by dsimp only; omega) _))⟩
            · have z2 : ((tx ty').toList == (tx v).toList) = false := tx_eq_false hy
              have HN3 := hid (show NoF tx' ty' k (j + 1) from fun k' j' h1 h2 h3 => by
                by_cases hc : k' = k ∧ j' = j
                · rintro ⟨-, h5⟩; rw [hc.2, HV.out] at h5; cases h5; exact hy rfl
                · exact HN2.out k' j' h1 h2 (by omega))
              clear hx hy
              go_wp2_with fail
              refine (X.out _).mono ?_
              rintro e w3 ⟨rfl, E3⟩
              have hT := hT.below E3; have E := E.trans (E3.mono E.size)
              have c1 : w3.cell? ⟨bk a, fo a + 1, none⟩ = some (.string (tx y)) := hT.cell 1 (by simp)
              have p2 := p2.below E3; have p := p.below E3
              clear E3 c0
              go_wp2_with fail
              refine (Y.out _).mono ?_
              rintro e w4 ⟨rfl, E4⟩
              have E := E.trans (E4.mono E.size)
              have p2 := p2.below E4; have p := p.below E4
              clear E4 c1 cj hT HN HN2
              go_wp2_with fail
              go_roundw
              case rel => exact ⟨j + 1, by omega, by go_num, HN3, p, p2, E⟩
              case measure => simp [intOf]; omega
          · have z1 : ((tx tx').toList == (tx u).toList) = false := tx_eq_false hx
            have HN3 := hid (show NoF tx' ty' k (j + 1) from fun k' j' h1 h2 h3 => by
              by_cases hc : k' = k ∧ j' = j
              · rintro ⟨h5, -⟩; rw [hc.1, HU.out] at h5; cases h5; exact hx rfl
              · exact HN2.out k' j' h1 h2 (by omega))
            clear hx
            go_wp2_with fail
            refine (X.out _).mono ?_
            rintro e w3 ⟨rfl, E3⟩
            have E := E.trans (E3.mono E.size)
            have p2 := p2.below E3; have p := p.below E3
            clear E3 c0 cj hT HN HN2
            go_wp2_with fail
            go_roundw
            case rel => exact ⟨j + 1, by omega, by go_num, HN3, p, p2, E⟩
            case measure => simp [intOf]; omega
        · obtain rfl : j = 3 := by omega
          have HN3 := hid (show NoF tx' ty' (k + 1) 0 from fun k' j' h1 h2 h3 => HN2.out k' j' h1 h2 (by omega))
          go_wp2_with fail
          go_roundw
          case rel => exact ⟨k + 1, by omega, by go_num, HN3, p, E⟩
          case measure => simp [intOf]; omega
    · obtain rfl : k = 3 := by omega
      obtain ⟨⟨d0, d1, d2, d3, d4, d5, d6, d7⟩, hf, hlt, B⟩ := fresh8 E
      clear E
      go_wp2_with fail
      exact bodyPost_ret (by simp [results, Tryz.results67, go_sem, d0, d1, d2, d3, d4, d5, d6, d7]) rfl ⟨.inr ⟨HN, rfl⟩, (by repeat (first | with_reducible assumption | with_reducible exact Below.refl _ _ | with_reducible refine bel_alloc ?_ _ | with_reducible refine bel_drew ?_ | with_reducible refine bel_set ?_ (by dsimp only; omega) _))⟩
end Go.Proofs.YtigimkgmghjgoaaGreatDoor
namespace Go.Proofs.YtigimkgmghjgoaaGreatDoor
open Go.RowKit
set_option linter.unusedVariables false

/-- an instruction, and whether: what is kept of them -/
def Rd (r : Option Ins) (w : World) (e : Ending) (w' : World) : Prop :=
  ∃ (op d a b imm : Int) (label : Tx) (fence : Int) (ok : Bool), e = .returned (.tuple #[.agg #[.int .i64 op, .int .i64 d, .int .i64 a, .int .i64 b, .int .i64 imm, .string ⟨#[]⟩, .string (tx label), .int .i64 fence], .bool ok]) ∧ keepI ⟨op, d, a, b, imm, [], label, fence⟩ ok = r ∧ label.length ≤ 1000000 ∧ Below w.heap.size w w'
theorem Rd.of {r : Option Ins} {w w' : World} {e : Ending} {op d a b imm fence : Int} {ok : Bool} (h : RetF w op d a b imm ⟨#[]⟩ ⟨#[]⟩ fence ok e w') (hk : keepI ⟨op, d, a, b, imm, [], [], fence⟩ ok = r) : Rd r w e w' :=
  ⟨op, d, a, b, imm, [], fence, ok, h.1, hk, by simp, h.2⟩
theorem regOf_lt {s : Tx} : ∀ n, regOf s = some n → n < 32 := fun n h => (regOf_some h).1
theorem addrT_lt' {s : Tx} : ∀ n, addrT s = some n → n < 32 := fun n h => addrT_lt h
theorem len2 {l : List Tx} (h : l.length = 2) : ∃ x y, l = [x, y] := by
  match l, h with
  | [x, y], _ => exact ⟨x, y, rfl⟩
theorem len3 {l : List Tx} (h : l.length = 3) : ∃ x y z, l = [x, y, z] := by
  match l, h with
  | [x, y, z], _ => exact ⟨x, y, z, rfl⟩
theorem read_lw2 (x y : Tx) : readI [108, 119] [x, y] = match regOf x, addrT y with
      | some d, some a => some ⟨6, d, a, 0, 0, [], [], 0⟩
      | _, _ => none := by unfold readI; rw [if_pos rfl]; rfl
theorem read_sw2 (x y : Tx) : readI [115, 119] [x, y] = match regOf x, addrT y with
      | some d, some a => some ⟨7, 0, a, d, 0, [], [], 0⟩
      | _, _ => none := by unfold readI; rw [if_neg (by decide), if_pos rfl]; rfl
theorem read_lw_no {l : List Tx} (h : l.length ≠ 2) : readI [108, 119] l = none := by
  unfold readI; rw [if_pos rfl]
  match l with
  | [] => rfl
  | [_] => rfl
  | [_, _] => simp at h
  | _ :: _ :: _ :: _ => rfl
theorem read_sw_no {l : List Tx} (h : l.length ≠ 2) : readI [115, 119] l = none := by
  unfold readI; rw [if_neg (by decide), if_pos rfl]
  match l with
  | [] => rfl
  | [_] => rfl
  | [_, _] => simp at h
  | _ :: _ :: _ :: _ => rfl
theorem moved_lw (l : List Tx) (a : Option Addr) (c : Nat) (w : World) (h : Txs w a l) (hs : Sm l) : Calls Tryz.prog 66 #[.string (tx [108, 119]), .slice a l.length c] w (Rd (readI [108, 119] (l.map trimT)) w) := by
  by_cases hl : l.length = 2
  · obtain ⟨x, y, rfl⟩ := len2 hl
    refine (progMoved_lw [108, 119] x y rfl a c w h hs).mono fun e w' hh => Rd.of hh ?_
    rw [show [x, y].map trimT = [trimT x, trimT y] from rfl, read_lw2, addrT_trim]
    exact keep_lw regOf_lt addrT_lt'
  · refine (progMoved_no [108, 119] l.length c a hl w).mono fun e w' hh => Rd.of hh ?_
    rw [read_lw_no (by simpa using hl)]; rfl
theorem moved_sw (l : List Tx) (a : Option Addr) (c : Nat) (w : World) (h : Txs w a l) (hs : Sm l) : Calls Tryz.prog 66 #[.string (tx [115, 119]), .slice a l.length c] w (Rd (readI [115, 119] (l.map trimT)) w) := by
  by_cases hl : l.length = 2
  · obtain ⟨x, y, rfl⟩ := len2 hl
    refine (progMoved_sw [115, 119] x y (by decide) a c w h hs).mono fun e w' hh => Rd.of hh ?_
    rw [show [x, y].map trimT = [trimT x, trimT y] from rfl, read_sw2, addrT_trim]
    exact keep_sw regOf_lt addrT_lt'
  · refine (progMoved_no [115, 119] l.length c a hl w).mono fun e w' hh => Rd.of hh ?_
    rw [read_sw_no (by simpa using hl)]; rfl
theorem read_fence2 (x y : Tx) : readI [102, 101, 110, 99, 101] [x, y] = match fpartOf x, fpartOf y with
      | some k, some j => some ⟨13, 0, 0, 0, 0, [], [], 3 + 3 * k + j⟩
      | _, _ => none := by unfold readI; rw [if_neg (by decide), if_neg (by decide), if_pos rfl]; rfl
theorem read_fence_no {l : List Tx} (h : l.length ≠ 2) : readI [102, 101, 110, 99, 101] l = none := by
  unfold readI; rw [if_neg (by decide), if_neg (by decide), if_pos rfl]
  match l with
  | [] => rfl
  | [_] => rfl
  | [_, _] => simp at h
  | _ :: _ :: _ :: _ => rfl
theorem fence_rd (l : List Tx) (a : Option Addr) (c : Nat) (w : World) (h : Txs w a l) (hs : Sm l) : Calls Tryz.prog 67 #[.slice a l.length c] w (Rd (readI [102, 101, 110, 99, 101] (l.map trimT)) w) := by
  by_cases hl : l.length = 2
  · obtain ⟨x, y, rfl⟩ := len2 hl
    refine (progFence x y a c w h hs).mono fun e w' hh => ?_
    rw [show [x, y].map trimT = [trimT x, trimT y] from rfl, read_fence2]
    obtain ⟨h1 | h1, hb⟩ := hh
    · obtain ⟨k, j, hk, hj, hx, hy, he⟩ := h1
      rw [fpartOf_at k _ hx, fpartOf_at j _ hy]
      exact Rd.of ⟨he, hb⟩ (keep_true (by rw [check_fence]; simp; omega))
    · obtain ⟨hn, he⟩ := h1
      refine Rd.of ⟨he, hb⟩ ?_
      rw [keep_false]
      cases h2 : fpartOf (trimT x) with
      | none => rfl
      | some k => cases h3 : fpartOf (trimT y) with
        | none => rfl
        | some j =>
          obtain ⟨k', hk', -, ex⟩ := fpartOf_some h2
          obtain ⟨j', hj', -, ey⟩ := fpartOf_some h3
          exact absurd ⟨ex, ey⟩ (hn k' j' hk' hj' (.inl hk'))
  · refine (progFence_no l.length c a hl w).mono fun e w' hh => Rd.of hh ?_
    rw [read_fence_no (by simpa using hl)]; rfl
theorem Rd.map {r r' : Option Ins} {w w' : World} {e : Ending} (h : Rd r w e w') (hr : r = r') : Rd r' w e w' := hr ▸ h
set_option maxRecDepth 100000 in
set_option maxHeartbeats 3200000 in
theorem progRead_lw (l : List Tx) (a : Option Addr) (c : Nat) (w : World) (h : Txs w a l) (hs : Sm l) : Calls Tryz.prog 40 #[.string (tx [108, 119]), .slice a l.length c] w (Rd (readI [108, 119] (l.map trimT)) w) := by
  have z1 : ((tx [108, 119]).toList == [108, 119]) = true := by rw [tx_toList]; rfl
  have C := hid (moved_lw l a c (w.alloc zeroI) (h.below (al _ _)) hs)
  generalize readI [108, 119] (l.map trimT) = r at *
  generalize l.length = n at *
  go_enter Tryz.func40, Tryz.ntmps40
  go_wp2_with fail
  refine C.out.mono ?_
  rintro e w1 ⟨op, d, a1, b, imm, label, fence, ok, rfl, hk, hl, E⟩
  obtain ⟨⟨d0, d1, d2, d3, d4, d5, d6, d7⟩, hf, hlt, B⟩ := fresh8 E
  have HK := hid hk
  clear hk E h hs
  go_wp2_with fail
  exact bodyPost_ret (by simp [results, Tryz.results40, go_sem, d0, d1, d2, d3, d4, d5, d6, d7]) rfl ⟨op, d, a1, b, imm, label, fence, ok, rfl, HK.out, hl, (by repeat (first | with_reducible assumption | with_reducible exact Below.refl _ _ | with_reducible refine bel_alloc ?_ _ | with_reducible refine bel_drew ?_ | with_reducible refine bel_set ?_ (by dsimp only; omega) _))⟩
end Go.Proofs.YtigimkgmghjgoaaGreatDoor
