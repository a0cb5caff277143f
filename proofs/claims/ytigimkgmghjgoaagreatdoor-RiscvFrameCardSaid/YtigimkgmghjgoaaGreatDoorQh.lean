/- The walk of read (the program's), continued. Conditions: texts in memory as read, of lengths that an int holds; the library's variables as the program's text lays them. · The walks of blank, Parse (the program's). Conditions: lengths that an int holds; the library's variables as the program's text lays them. -/
import Derived.Test.YtigimkgmghjgoaaGreatDoorQg
import Derived.Test.YtigimkgmghjgoaaGreatDoorQc
namespace Go.Proofs.YtigimkgmghjgoaaGreatDoor
open Go.RowKit
set_option linter.unusedVariables false

set_option maxRecDepth 100000 in
set_option maxHeartbeats 3200000 in
theorem progRead_sw (l : List Tx) (a : Option Addr) (c : Nat) (w : World) (h : Txs w a l) (hs : Sm l) : Calls Tryz.prog 40 #[.string (tx [115, 119]), .slice a l.length c] w (Rd (readI [115, 119] (l.map trimT)) w) := by
  have z0 : ((tx [115, 119]).toList == [108, 119]) = false := by rw [tx_toList]; rfl
  have z1 : ((tx [115, 119]).toList == [115, 119]) = true := by rw [tx_toList]; rfl
  have C := hid (moved_sw l a c (w.alloc zeroI) (h.below (al _ _)) hs)
  generalize readI [115, 119] (l.map trimT) = r at *
  generalize l.length = n at *
  go_enter Tryz.func40, Tryz.ntmps40
  go_wp2_with fail
  refine C.out.mono ?_
  rintro e w1 ⟨op, d, a1, b, imm, label, fence, ok, rfl, hk, hl, E⟩
  obtain ⟨⟨d0, d1, d2, d3, d4, d5, d6, d7⟩, hf, hlt, B⟩ := fresh8 E
  have HK := hid hk
  clear hk E h hs
  go_wp2_with fail
  exact bodyPost_ret (by simp [results, Tryz.results40, go_sem, d0, d1, d2, d3, d4, d5, d6, d7]) rfl ⟨op, d, a1, b, imm, label, fence, ok, rfl, HK.out, hl, (by repeat (first | with_reducible assumption | with_reducible exact Below.refl _ _ | with_reducible refine bel_alloc ?_ _ | with_reducible refine bel_drew ?_ | with_reducible refine bel_set ?_ (by dsimp only; omega) _))⟩

set_option maxRecDepth 100000 in
set_option maxHeartbeats 3200000 in
theorem progRead_fence (l : List Tx) (a : Option Addr) (c : Nat) (w : World) (h : Txs w a l) (hs : Sm l) : Calls Tryz.prog 40 #[.string (tx [102, 101, 110, 99, 101]), .slice a l.length c] w (Rd (readI [102, 101, 110, 99, 101] (l.map trimT)) w) := by
  have z0 : ((tx [102, 101, 110, 99, 101]).toList == [108, 119]) = false := by rw [tx_toList]; rfl
  have z1 : ((tx [102, 101, 110, 99, 101]).toList == [115, 119]) = false := by rw [tx_toList]; rfl
  have z2 : ((tx [102, 101, 110, 99, 101]).toList == [102, 101, 110, 99, 101]) = true := by rw [tx_toList]; rfl
  have C := hid (fence_rd l a c (w.alloc zeroI) (h.below (al _ _)) hs)
  generalize readI [102, 101, 110, 99, 101] (l.map trimT) = r at *
  generalize l.length = n at *
  go_enter Tryz.func40, Tryz.ntmps40
  go_wp2_with fail
  refine C.out.mono ?_
  rintro e w1 ⟨op, d, a1, b, imm, label, fence, ok, rfl, hk, hl, E⟩
  obtain ⟨⟨d0, d1, d2, d3, d4, d5, d6, d7⟩, hf, hlt, B⟩ := fresh8 E
  have HK := hid hk
  clear hk E h hs
  go_wp2_with fail
  exact bodyPost_ret (by simp [results, Tryz.results40, go_sem, d0, d1, d2, d3, d4, d5, d6, d7]) rfl ⟨op, d, a1, b, imm, label, fence, ok, rfl, HK.out, hl, (by repeat (first | with_reducible assumption | with_reducible exact Below.refl _ _ | with_reducible refine bel_alloc ?_ _ | with_reducible refine bel_drew ?_ | with_reducible refine bel_set ?_ (by dsimp only; omega) _))⟩

theorem read_3no {op : Tx} {l : List Tx} (h1 : op ≠ [108, 119]) (h2 : op ≠ [115, 119]) (h3 : op ≠ [102, 101, 110, 99, 101]) (h : l.length ≠ 3) : readI op l = none := by
  unfold readI; rw [if_neg h1, if_neg h2, if_neg h3]
  match l with
  | [] => rfl
  | [_] => rfl
  | [_, _] => rfl
  | [_, _, _] => simp at h
  | _ :: _ :: _ :: _ :: _ => rfl
set_option maxRecDepth 100000 in
theorem read_3 {op : Tx} (x y z : Tx) (h1 : op ≠ [108, 119]) (h2 : op ≠ [115, 119]) (h3 : op ≠ [102, 101, 110, 99, 101]) : readI op [x, y, z] = match regOf x, regOf y with
      | some a, some b =>
        if op = [98, 110, 101] then (if nameB z then some ⟨11, 0, a, b, 0, [], z, 0⟩ else none)
        else if op = [111, 114, 105] then (match numT z with
          | some n => some ⟨8, a, b, 0, n, [], [], 0⟩
          | none => none)
        else match regOf z with
          | some c => if op = [120, 111, 114] then some ⟨9, a, b, c, 0, [], [], 0⟩ else if op = [97, 100, 100] then some ⟨10, a, b, c, 0, [], [], 0⟩ else none
          | none => none
      | _, _ => none := by
  unfold readI; rw [if_neg h1, if_neg h2, if_neg h3]; rfl
theorem tx_ne (op q : Tx) (h : op ≠ q) : ((tx op).toList == q) = false := by rw [tx_toList]; simpa using h
theorem tx_be (op q : Tx) (h : op = q) : ((tx op).toList == q) = true := by rw [tx_toList]; simpa using h

set_option maxRecDepth 100000 in
set_option maxHeartbeats 3200000 in
theorem progRead_3no (op : Tx) (h1 : op ≠ [108, 119]) (h2 : op ≠ [115, 119]) (h3 : op ≠ [102, 101, 110, 99, 101]) (l : List Tx) (hl : l.length ≠ 3) (a : Option Addr) (c : Nat) (w : World) : Calls Tryz.prog 40 #[.string (tx op), .slice a l.length c] w (Rd (readI op (l.map trimT)) w) := by
  obtain ⟨r, hr⟩ : ∃ r, readI op (l.map trimT) = r := ⟨_, rfl⟩
  rw [hr]
  have HK := hid (show keepI ⟨0, 0, 0, 0, 0, [], [], 0⟩ false = r by rw [← hr, read_3no h1 h2 h3 (by simpa using hl)]; rfl)
  have z1 := tx_ne _ _ h1; have z2 := tx_ne _ _ h2; have z3 := tx_ne _ _ h3
  have C := hid (progThree_no l.length c a hl (w.alloc zeroI))
  clear h1 h2 h3 hl hr
  go_enter Tryz.func40, Tryz.ntmps40
  go_wp2_with fail
  refine C.out.mono ?_
  rintro e w1 ⟨rfl, E⟩
  obtain ⟨⟨d0, d1, d2, d3, d4, d5, d6, d7⟩, hf, hlt, B⟩ := fresh8 E
  clear E
  go_wp2_with fail
  exact bodyPost_ret (by simp [results, Tryz.results40, go_sem, d0, d1, d2, d3, d4, d5, d6, d7]) rfl (Rd.of ⟨rfl, (by repeat (first | with_reducible assumption | with_reducible exact Below.refl _ _ | with_reducible refine bel_alloc ?_ _ | with_reducible refine bel_drew ?_ | with_reducible refine bel_set ?_ (by dsimp only; omega) _))⟩ HK.out)

set_option maxRecDepth 100000 in
set_option maxHeartbeats 3200000 in
theorem progRead_bad (op : Tx) (h1 : op ≠ [108, 119]) (h2 : op ≠ [115, 119]) (h3 : op ≠ [102, 101, 110, 99, 101]) (x y z : Tx) (hr : ((regOf (trimT x)).isSome && (regOf (trimT y)).isSome) = false) (a : Option Addr) (c : Nat) (w : World) (h : Txs w a [x, y, z]) (hs : Sm [x, y, z]) : Calls Tryz.prog 40 #[.string (tx op), .slice a 3 c] w (Rd (readI op [trimT x, trimT y, trimT z]) w) := by
  have hn : readI op [trimT x, trimT y, trimT z] = none := by
    rw [read_3 _ _ _ h1 h2 h3]
    cases hx : regOf (trimT x) with
    | none => rfl
    | some p => cases hy : regOf (trimT y) with
      | none => rfl
      | some q => rw [hx, hy] at hr; cases hr
  obtain ⟨r, hr0⟩ : ∃ r, readI op [trimT x, trimT y, trimT z] = r := ⟨_, rfl⟩
  rw [hr0]
  have HK := hid (show keepI ⟨0, 0, 0, 0, 0, [], [], 0⟩ false = r by rw [← hr0, hn]; rfl)
  have z1 := tx_ne _ _ h1; have z2 := tx_ne _ _ h2; have z3 := tx_ne _ _ h3
  have C := progThree3 x y z a c (w.alloc zeroI) (h.below (al _ _)) hs
  rw [hr] at C
  have C := hid C
  clear h1 h2 h3 hr hn hr0
  go_enter Tryz.func40, Tryz.ntmps40
  go_wp2_with fail
  refine C.out.mono ?_
  rintro e w1 ⟨rfl, E⟩
  obtain ⟨⟨d0, d1, d2, d3, d4, d5, d6, d7⟩, hf, hlt, B⟩ := fresh8 E
  clear E
  go_wp2_with fail
  exact bodyPost_ret (by simp [results, Tryz.results40, go_sem, d0, d1, d2, d3, d4, d5, d6, d7]) rfl (Rd.of ⟨rfl, (by repeat (first | with_reducible assumption | with_reducible exact Below.refl _ _ | with_reducible refine bel_alloc ?_ _ | with_reducible refine bel_drew ?_ | with_reducible refine bel_set ?_ (by dsimp only; omega) _))⟩ HK.out)

set_option maxRecDepth 100000 in
set_option maxHeartbeats 3200000 in
theorem progRead_bne (x y z : Tx) (p q : Nat) (hx : regOf (trimT x) = some p) (hy : regOf (trimT y) = some q) (a : Option Addr) (c : Nat) (w : World) (h : Txs w a [x, y, z]) (hs : Sm [x, y, z]) (g : Gl w) : Calls Tryz.prog 40 #[.string (tx [98, 110, 101]), .slice a 3 c] w (Rd (readI [98, 110, 101] [trimT x, trimT y, trimT z]) w) := by
  have hr : readI [98, 110, 101] [trimT x, trimT y, trimT z] = if nameB (trimT z) then some ⟨11, 0, p, q, 0, [], trimT z, 0⟩ else none := by
    rw [read_3 _ _ _ (by decide) (by decide) (by decide), hx, hy]; rfl
  have z0 : ((tx [98, 110, 101]).toList == [108, 119]) = false := by rw [tx_toList]; rfl
  have z1 : ((tx [98, 110, 101]).toList == [115, 119]) = false := by rw [tx_toList]; rfl
  have z2 : ((tx [98, 110, 101]).toList == [102, 101, 110, 99, 101]) = false := by rw [tx_toList]; rfl
  have z3 : ((tx [98, 110, 101]).toList == [98, 110, 101]) = true := by rw [tx_toList]; rfl
  obtain ⟨r, hr0⟩ : ∃ r, readI [98, 110, 101] [trimT x, trimT y, trimT z] = r := ⟨_, rfl⟩
  rw [hr0]
  rw [hr] at hr0
  clear hr
  have C := progThree3 x y z a c (w.alloc zeroI) (h.below (al _ _)) hs
  have hzl : (trimT z).length ≤ 1000000 := Nat.le_trans (trimT_length z) (hs z (by simp))
  have hz2 := trimT_idem z
  have g1 := g.below (al w zeroI)
  rw [hx, hy] at C
  have hp := regOf_lt p hx; have hq := regOf_lt q hy
  generalize trimT z = tz at *
  have C : Calls Tryz.prog 68 #[.slice a 3 c] (w.alloc zeroI) (Ret (w.alloc zeroI) (.tuple #[.int .i64 p, .int .i64 q, .string (tx tz), .bool true])) := C
  have C := hid C
  have HK := hid ((keep_bne (z := tz) hp hq).trans hr0)
  clear hx hy hr0
  go_enter Tryz.func40, Tryz.ntmps40
  go_wp2_with fail
  refine C.out.mono ?_
  rintro e w1 ⟨rfl, E⟩
  obtain ⟨⟨d0, d1, d2, d3, d4, d5, d6, d7⟩, hf, hlt, B⟩ := fresh8 E
  clear E g1
  go_wp2_with fail
  exact bodyPost_ret (by simp [results, Tryz.results40, go_sem, d0, d1, d2, d3, d4, d5, d6, d7]) rfl ⟨_, _, _, _, _, tz, _, _, rfl, HK.out, hzl, (by repeat (first | with_reducible assumption | with_reducible exact Below.refl _ _ | with_reducible refine bel_alloc ?_ _ | with_reducible refine bel_drew ?_ | with_reducible refine bel_set ?_ (by dsimp only; omega) _))⟩

set_option maxRecDepth 100000 in
set_option maxHeartbeats 3200000 in
theorem progRead_ori_ok (x y z : Tx) (p q : Nat) (hx : regOf (trimT x) = some p) (hy : regOf (trimT y) = some q) (v : Int) (hv : Lib.atoiAll (trimT z) = .ok v) (a : Option Addr) (c : Nat) (w : World) (h : Txs w a [x, y, z]) (hs : Sm [x, y, z]) (g : Gl w) : Calls Tryz.prog 40 #[.string (tx [111, 114, 105]), .slice a 3 c] w (Rd (readI [111, 114, 105] [trimT x, trimT y, trimT z]) w) := by
  have hr : readI [111, 114, 105] [trimT x, trimT y, trimT z] = match numT (trimT z) with
          | some n => some ⟨8, p, q, 0, n, [], [], 0⟩
          | none => none := by
    rw [read_3 _ _ _ (by decide) (by decide) (by decide), hx, hy]; rfl
  have z0 : ((tx [111, 114, 105]).toList == [108, 119]) = false := by rw [tx_toList]; rfl
  have z1 : ((tx [111, 114, 105]).toList == [115, 119]) = false := by rw [tx_toList]; rfl
  have z2 : ((tx [111, 114, 105]).toList == [102, 101, 110, 99, 101]) = false := by rw [tx_toList]; rfl
  have z3 : ((tx [111, 114, 105]).toList == [98, 110, 101]) = false := by rw [tx_toList]; rfl
  have z4 : ((tx [111, 114, 105]).toList == [111, 114, 105]) = true := by rw [tx_toList]; rfl
  obtain ⟨r, hr0⟩ : ∃ r, readI [111, 114, 105] [trimT x, trimT y, trimT z] = r := ⟨_, rfl⟩
  rw [hr0]
  rw [hr] at hr0
  clear hr
  have C := progThree3 x y z a c (w.alloc zeroI) (h.below (al _ _)) hs
  have hzl : (trimT z).length ≤ 1000000 := Nat.le_trans (trimT_length z) (hs z (by simp))
  have hz2 := trimT_idem z
  have g1 := g.below (al w zeroI)
  rw [hx, hy] at C
  have hp := regOf_lt p hx; have hq := regOf_lt q hy
  generalize trimT z = tz at *
  have C : Calls Tryz.prog 68 #[.slice a 3 c] (w.alloc zeroI) (Ret (w.alloc zeroI) (.tuple #[.int .i64 p, .int .i64 q, .string (tx tz), .bool true])) := C
  have C := hid C
  obtain ⟨b1, b2⟩ := Lib.atoiAll_bounds hv
  have AT := hid (atoi_ok tz hzl v hv)
  have HK := hid ((keep_ori hp hq hv).trans hr0)
  have IT := hid (fun (w : World) (g : Gl w) => itoa_any v b1 b2 w g)
  obtain ⟨u, hu⟩ : ∃ u, Lib.itoa v = u := ⟨_, rfl⟩
  rw [hu] at HK IT
  have hz : ((tx u).toList == (tx tz).toList) = (u == tz) := tx_beq u tz
  generalize (u == tz) = bb at *
  clear hu hv b1 b2
  clear hx hy hr0
  go_enter Tryz.func40, Tryz.ntmps40
  go_wp2_with fail
  refine C.out.mono ?_
  rintro e w1 ⟨rfl, E⟩
  have g2 := g1.below E
  go_wp2_with fail
  refine (AT.out _).mono ?_
  rintro e w2 ⟨rfl, E2⟩
  have g3 := g2.below E2
  have E := ext_trans E E2
  go_wp2_with fail
  refine (IT.out _ g3).mono ?_
  rintro e w3 ⟨rfl, E3⟩
  have E := ext_trans E E3
  obtain ⟨⟨d0, d1, d2, d3, d4, d5, d6, d7⟩, hf, hlt, B⟩ := fresh8 E
  clear E g1
  go_wp2_with fail
  exact bodyPost_ret (by simp [results, Tryz.results40, go_sem, d0, d1, d2, d3, d4, d5, d6, d7]) rfl (Rd.of ⟨rfl, (by repeat (first | with_reducible assumption | with_reducible exact Below.refl _ _ | with_reducible refine bel_alloc ?_ _ | with_reducible refine bel_drew ?_ | with_reducible refine bel_set ?_ (by dsimp only; omega) _))⟩ HK.out)

set_option maxRecDepth 100000 in
set_option maxHeartbeats 3200000 in
theorem progRead_ori_bad (x y z : Tx) (p q : Nat) (hx : regOf (trimT x) = some p) (hy : regOf (trimT y) = some q) (hv : ∀ v, Lib.atoiAll (trimT z) ≠ .ok v) (a : Option Addr) (c : Nat) (w : World) (h : Txs w a [x, y, z]) (hs : Sm [x, y, z]) (g : Gl w) : Calls Tryz.prog 40 #[.string (tx [111, 114, 105]), .slice a 3 c] w (Rd (readI [111, 114, 105] [trimT x, trimT y, trimT z]) w) := by
  have hr : readI [111, 114, 105] [trimT x, trimT y, trimT z] = match numT (trimT z) with
          | some n => some ⟨8, p, q, 0, n, [], [], 0⟩
          | none => none := by
    rw [read_3 _ _ _ (by decide) (by decide) (by decide), hx, hy]; rfl
  have z0 : ((tx [111, 114, 105]).toList == [108, 119]) = false := by rw [tx_toList]; rfl
  have z1 : ((tx [111, 114, 105]).toList == [115, 119]) = false := by rw [tx_toList]; rfl
  have z2 : ((tx [111, 114, 105]).toList == [102, 101, 110, 99, 101]) = false := by rw [tx_toList]; rfl
  have z3 : ((tx [111, 114, 105]).toList == [98, 110, 101]) = false := by rw [tx_toList]; rfl
  have z4 : ((tx [111, 114, 105]).toList == [111, 114, 105]) = true := by rw [tx_toList]; rfl
  obtain ⟨r, hr0⟩ : ∃ r, readI [111, 114, 105] [trimT x, trimT y, trimT z] = r := ⟨_, rfl⟩
  rw [hr0]
  rw [hr] at hr0
  clear hr
  have C := progThree3 x y z a c (w.alloc zeroI) (h.below (al _ _)) hs
  have hzl : (trimT z).length ≤ 1000000 := Nat.le_trans (trimT_length z) (hs z (by simp))
  have hz2 := trimT_idem z
  have g1 := g.below (al w zeroI)
  rw [hx, hy] at C
  have hp := regOf_lt p hx; have hq := regOf_lt q hy
  generalize trimT z = tz at *
  have C : Calls Tryz.prog 68 #[.slice a 3 c] (w.alloc zeroI) (Ret (w.alloc zeroI) (.tuple #[.int .i64 p, .int .i64 q, .string (tx tz), .bool true])) := C
  have C := hid C
  have AT := hid (atoi_bad tz hzl hv)
  have HKn := hid (show ∀ n, keepI ⟨8, p, q, 0, n, [], [], 0⟩ false = r from fun n => by rw [← hr0, numT_bad hv]; rfl)
  clear hv
  clear hx hy hr0
  go_enter Tryz.func40, Tryz.ntmps40
  go_wp2_with fail
  refine C.out.mono ?_
  rintro e w1 ⟨rfl, E⟩
  have g2 := g1.below E
  go_wp2_with fail
  refine (AT.out _ g2).mono ?_
  rintro e w2 ⟨n, tp, pp, rfl, E2⟩
  have HK := hid (HKn.out n)
  have E := ext_trans E E2
  obtain ⟨⟨d0, d1, d2, d3, d4, d5, d6, d7⟩, hf, hlt, B⟩ := fresh8 E
  clear E g1
  go_wp2_with fail
  exact bodyPost_ret (by simp [results, Tryz.results40, go_sem, d0, d1, d2, d3, d4, d5, d6, d7]) rfl (Rd.of ⟨rfl, (by repeat (first | with_reducible assumption | with_reducible exact Below.refl _ _ | with_reducible refine bel_alloc ?_ _ | with_reducible refine bel_drew ?_ | with_reducible refine bel_set ?_ (by dsimp only; omega) _))⟩ HK.out)

set_option maxRecDepth 100000 in
set_option maxHeartbeats 3200000 in
theorem progRead_xor (x y z : Tx) (p q : Nat) (hx : regOf (trimT x) = some p) (hy : regOf (trimT y) = some q) (a : Option Addr) (c : Nat) (w : World) (h : Txs w a [x, y, z]) (hs : Sm [x, y, z]) (g : Gl w) : Calls Tryz.prog 40 #[.string (tx [120, 111, 114]), .slice a 3 c] w (Rd (readI [120, 111, 114] [trimT x, trimT y, trimT z]) w) := by
  have hr : readI [120, 111, 114] [trimT x, trimT y, trimT z] = match regOf (trimT z) with
          | some c => some ⟨9, p, q, c, 0, [], [], 0⟩
          | none => none := by
    rw [read_3 _ _ _ (by decide) (by decide) (by decide), hx, hy]; rfl
  have z0 : ((tx [120, 111, 114]).toList == [108, 119]) = false := by rw [tx_toList]; rfl
  have z1 : ((tx [120, 111, 114]).toList == [115, 119]) = false := by rw [tx_toList]; rfl
  have z2 : ((tx [120, 111, 114]).toList == [102, 101, 110, 99, 101]) = false := by rw [tx_toList]; rfl
  have z3 : ((tx [120, 111, 114]).toList == [98, 110, 101]) = false := by rw [tx_toList]; rfl
  have z4 : ((tx [120, 111, 114]).toList == [111, 114, 105]) = false := by rw [tx_toList]; rfl
  have z5 : ((tx [120, 111, 114]).toList == [120, 111, 114]) = true := by rw [tx_toList]; rfl
  obtain ⟨r, hr0⟩ : ∃ r, readI [120, 111, 114] [trimT x, trimT y, trimT z] = r := ⟨_, rfl⟩
  rw [hr0]
  rw [hr] at hr0
  clear hr
  have C := progThree3 x y z a c (w.alloc zeroI) (h.below (al _ _)) hs
  have hzl : (trimT z).length ≤ 1000000 := Nat.le_trans (trimT_length z) (hs z (by simp))
  have hz2 := trimT_idem z
  have g1 := g.below (al w zeroI)
  rw [hx, hy] at C
  have hp := regOf_lt p hx; have hq := regOf_lt q hy
  generalize trimT z = tz at *
  have C : Calls Tryz.prog 68 #[.slice a 3 c] (w.alloc zeroI) (Ret (w.alloc zeroI) (.tuple #[.int .i64 p, .int .i64 q, .string (tx tz), .bool true])) := C
  have C := hid C
  have RG := hid (progRegister tz (by omega))
  rw [hz2] at RG
  have HK := hid ((keep_three (op := 9) (by omega) hp hq (o := regOf tz) regOf_lt).trans hr0)
  generalize regOf tz = rz at *
  clear hx hy hr0 hz2
  go_enter Tryz.func40, Tryz.ntmps40
  go_wp2_with fail
  refine C.out.mono ?_
  rintro e w1 ⟨rfl, E⟩
  go_wp2_with fail
  refine (RG.out _).mono ?_
  rintro e w2 ⟨rfl, E2⟩
  have E := ext_trans E E2
  obtain ⟨⟨d0, d1, d2, d3, d4, d5, d6, d7⟩, hf, hlt, B⟩ := fresh8 E
  clear E g1 E2
  go_wp2_with fail
  exact bodyPost_ret (by simp [results, Tryz.results40, go_sem, d0, d1, d2, d3, d4, d5, d6, d7]) rfl (Rd.of ⟨rfl, (by repeat (first | with_reducible assumption | with_reducible exact Below.refl _ _ | with_reducible refine bel_alloc ?_ _ | with_reducible refine bel_drew ?_ | with_reducible refine bel_set ?_ (by dsimp only; omega) _))⟩ HK.out)

set_option maxRecDepth 100000 in
set_option maxHeartbeats 3200000 in
theorem progRead_add (x y z : Tx) (p q : Nat) (hx : regOf (trimT x) = some p) (hy : regOf (trimT y) = some q) (a : Option Addr) (c : Nat) (w : World) (h : Txs w a [x, y, z]) (hs : Sm [x, y, z]) (g : Gl w) : Calls Tryz.prog 40 #[.string (tx [97, 100, 100]), .slice a 3 c] w (Rd (readI [97, 100, 100] [trimT x, trimT y, trimT z]) w) := by
  have hr : readI [97, 100, 100] [trimT x, trimT y, trimT z] = match regOf (trimT z) with
          | some c => some ⟨10, p, q, c, 0, [], [], 0⟩
          | none => none := by
    rw [read_3 _ _ _ (by decide) (by decide) (by decide), hx, hy]; rfl
  have z0 : ((tx [97, 100, 100]).toList == [108, 119]) = false := by rw [tx_toList]; rfl
  have z1 : ((tx [97, 100, 100]).toList == [115, 119]) = false := by rw [tx_toList]; rfl
  have z2 : ((tx [97, 100, 100]).toList == [102, 101, 110, 99, 101]) = false := by rw [tx_toList]; rfl
  have z3 : ((tx [97, 100, 100]).toList == [98, 110, 101]) = false := by rw [tx_toList]; rfl
  have z4 : ((tx [97, 100, 100]).toList == [111, 114, 105]) = false := by rw [tx_toList]; rfl
  have z5 : ((tx [97, 100, 100]).toList == [120, 111, 114]) = false := by rw [tx_toList]; rfl
  have z6 : ((tx [97, 100, 100]).toList == [97, 100, 100]) = true := by rw [tx_toList]; rfl
  obtain ⟨r, hr0⟩ : ∃ r, readI [97, 100, 100] [trimT x, trimT y, trimT z] = r := ⟨_, rfl⟩
  rw [hr0]
  rw [hr] at hr0
  clear hr
  have C := progThree3 x y z a c (w.alloc zeroI) (h.below (al _ _)) hs
  have hzl : (trimT z).length ≤ 1000000 := Nat.le_trans (trimT_length z) (hs z (by simp))
  have hz2 := trimT_idem z
  have g1 := g.below (al w zeroI)
  rw [hx, hy] at C
  have hp := regOf_lt p hx; have hq := regOf_lt q hy
  generalize trimT z = tz at *
  have C : Calls Tryz.prog 68 #[.slice a 3 c] (w.alloc zeroI) (Ret (w.alloc zeroI) (.tuple #[.int .i64 p, .int .i64 q, .string (tx tz), .bool true])) := C
  have C := hid C
  have RG := hid (progRegister tz (by omega))
  rw [hz2] at RG
  have HK := hid ((keep_three (op := 10) (by omega) hp hq (o := regOf tz) regOf_lt).trans hr0)
  generalize regOf tz = rz at *
  clear hx hy hr0 hz2
  go_enter Tryz.func40, Tryz.ntmps40
  go_wp2_with fail
  refine C.out.mono ?_
  rintro e w1 ⟨rfl, E⟩
  go_wp2_with fail
  refine (RG.out _).mono ?_
  rintro e w2 ⟨rfl, E2⟩
  have E := ext_trans E E2
  obtain ⟨⟨d0, d1, d2, d3, d4, d5, d6, d7⟩, hf, hlt, B⟩ := fresh8 E
  clear E g1 E2
  go_wp2_with fail
  exact bodyPost_ret (by simp [results, Tryz.results40, go_sem, d0, d1, d2, d3, d4, d5, d6, d7]) rfl (Rd.of ⟨rfl, (by repeat (first | with_reducible assumption | with_reducible exact Below.refl _ _ | with_reducible refine bel_alloc ?_ _ | with_reducible refine bel_drew ?_ | with_reducible refine bel_set ?_ (by dsimp only; omega) _))⟩ HK.out)

set_option maxRecDepth 100000 in
set_option maxHeartbeats 3200000 in
theorem progRead_none (op : Tx) (h1 : op ≠ [108, 119]) (h2 : op ≠ [115, 119]) (h3 : op ≠ [102, 101, 110, 99, 101]) (h4 : op ≠ [98, 110, 101]) (h5 : op ≠ [111, 114, 105]) (h6 : op ≠ [120, 111, 114]) (h7 : op ≠ [97, 100, 100]) (x y z : Tx) (p q : Nat) (hx : regOf (trimT x) = some p) (hy : regOf (trimT y) = some q) (a : Option Addr) (c : Nat) (w : World) (h : Txs w a [x, y, z]) (hs : Sm [x, y, z]) (g : Gl w) : Calls Tryz.prog 40 #[.string (tx op), .slice a 3 c] w (Rd (readI op [trimT x, trimT y, trimT z]) w) := by
  have hr : readI op [trimT x, trimT y, trimT z] = none := by
    rw [read_3 _ _ _ h1 h2 h3, hx, hy]
    simp only [if_neg h4, if_neg h5, if_neg h6, if_neg h7]
    cases regOf (trimT z) <;> rfl
  have z1 := tx_ne _ _ h1; have z2 := tx_ne _ _ h2; have z3 := tx_ne _ _ h3; have z4 := tx_ne _ _ h4; have z5 := tx_ne _ _ h5; have z6 := tx_ne _ _ h6; have z7 := tx_ne _ _ h7
  obtain ⟨r, hr0⟩ : ∃ r, readI op [trimT x, trimT y, trimT z] = r := ⟨_, rfl⟩
  rw [hr0]
  rw [hr] at hr0
  clear hr
  have C := progThree3 x y z a c (w.alloc zeroI) (h.below (al _ _)) hs
  have hzl : (trimT z).length ≤ 1000000 := Nat.le_trans (trimT_length z) (hs z (by simp))
  have hz2 := trimT_idem z
  have g1 := g.below (al w zeroI)
  rw [hx, hy] at C
  have hp := regOf_lt p hx; have hq := regOf_lt q hy
  generalize trimT z = tz at *
  have C : Calls Tryz.prog 68 #[.slice a 3 c] (w.alloc zeroI) (Ret (w.alloc zeroI) (.tuple #[.int .i64 p, .int .i64 q, .string (tx tz), .bool true])) := C
  have C := hid C
  have RG := hid (progRegister tz (by omega))
  have HK := hid (show keepI ⟨0, 0, 0, 0, 0, [], [], 0⟩ false = r from hr0)
  clear hx hy hr0 hz2 h1 h2 h3 h4 h5 h6 h7
  go_enter Tryz.func40, Tryz.ntmps40
  go_wp2_with fail
  refine C.out.mono ?_
  rintro e w1 ⟨rfl, E⟩
  go_wp2_with fail
  refine (RG.out _).mono ?_
  rintro e w2 ⟨rfl, E2⟩
  have E := ext_trans E E2
  obtain ⟨⟨d0, d1, d2, d3, d4, d5, d6, d7⟩, hf, hlt, B⟩ := fresh8 E
  clear E g1 E2
  go_wp2_with fail
  exact bodyPost_ret (by simp [results, Tryz.results40, go_sem, d0, d1, d2, d3, d4, d5, d6, d7]) rfl (Rd.of ⟨rfl, (by repeat (first | with_reducible assumption | with_reducible exact Below.refl _ _ | with_reducible refine bel_alloc ?_ _ | with_reducible refine bel_drew ?_ | with_reducible refine bel_set ?_ (by dsimp only; omega) _))⟩ HK.out)

theorem progRead (op : Tx) (l : List Tx) (a : Option Addr) (c : Nat) (w : World) (h : Txs w a l) (hs : Sm l) (g : Gl w) : Calls Tryz.prog 40 #[.string (tx op), .slice a l.length c] w (Rd (readI op (l.map trimT)) w) := by
  by_cases h1 : op = [108, 119]
  · subst h1; exact progRead_lw l a c w h hs
  by_cases h2 : op = [115, 119]
  · subst h2; exact progRead_sw l a c w h hs
  by_cases h3 : op = [102, 101, 110, 99, 101]
  · subst h3; exact progRead_fence l a c w h hs
  by_cases hl : l.length = 3
  · obtain ⟨x, y, z, rfl⟩ := len3 hl
    rw [show [x, y, z].map trimT = [trimT x, trimT y, trimT z] from rfl]
    cases hx : regOf (trimT x) with
    | none => exact progRead_bad op h1 h2 h3 x y z (by rw [hx]; rfl) a c w h hs
    | some p => cases hy : regOf (trimT y) with
      | none => exact progRead_bad op h1 h2 h3 x y z (by rw [hx, hy]; rfl) a c w h hs
      | some q =>
        by_cases h4 : op = [98, 110, 101]
        · subst h4; exact progRead_bne x y z p q hx hy a c w h hs g
        by_cases h5 : op = [111, 114, 105]
        · subst h5
          by_cases hv : ∃ v, Lib.atoiAll (trimT z) = .ok v
          · obtain ⟨v, hv⟩ := hv; exact progRead_ori_ok x y z p q hx hy v hv a c w h hs g
          · exact progRead_ori_bad x y z p q hx hy (fun v e => hv ⟨v, e⟩) a c w h hs g
        by_cases h6 : op = [120, 111, 114]
        · subst h6; exact progRead_xor x y z p q hx hy a c w h hs g
        by_cases h7 : op = [97, 100, 100]
        · subst h7; exact progRead_add x y z p q hx hy a c w h hs g
        exact progRead_none op h1 h2 h3 h4 h5 h6 h7 x y z p q hx hy a c w h hs g
  · exact progRead_3no op h1 h2 h3 l hl a c w
end Go.Proofs.YtigimkgmghjgoaaGreatDoor
namespace Go.Proofs.YtigimkgmghjgoaaGreatDoor
open Go.RowKit
set_option linter.unusedVariables false

attribute [local go_sem high] eqI neqI

theorem u8_eq (c d : UInt8) (h : c = d) : ((c.toNat : Int) == (d.toNat : Int)) = true := by subst h; simp
theorem u8_neq (c d : UInt8) (h : c ≠ d) : ((c.toNat : Int) == (d.toNat : Int)) = false := by
  simp only [beq_eq_false_iff_ne, ne_eq]
  intro e
  exact h (UInt8.toNat_inj.1 (by omega))
theorem progBlank (c : UInt8) (w : World) : Calls Tryz.prog 39 #[.int .u8 c.toNat] w fun e w' => e = .returned (.bool (blankC c)) ∧ w = w' := by
  by_cases h1 : c = 32
  · have z : ((c.toNat : Int) == 32) = true := u8_eq c 32 h1
    have e : blankC c = true := by subst h1; rfl
    rw [e]; clear e h1
    go_enter Tryz.func39, Tryz.ntmps39
    go_wp2
    go_ret
    exact ⟨rfl, rfl⟩
  have z1 : ((c.toNat : Int) == 32) = false := u8_neq c 32 h1
  by_cases h2 : c = 9
  · have z : ((c.toNat : Int) == 9) = true := u8_eq c 9 h2
    have e : blankC c = true := by subst h2; rfl
    rw [e]; clear e h1 h2
    go_enter Tryz.func39, Tryz.ntmps39
    go_wp2
    go_ret
    exact ⟨rfl, rfl⟩
  have z2 : ((c.toNat : Int) == 9) = false := u8_neq c 9 h2
  by_cases h3 : c = 10
  · have z : ((c.toNat : Int) == 10) = true := u8_eq c 10 h3
    have e : blankC c = true := by subst h3; rfl
    rw [e]; clear e h1 h2 h3
    go_enter Tryz.func39, Tryz.ntmps39
    go_wp2
    go_ret
    exact ⟨rfl, rfl⟩
  have z3 : ((c.toNat : Int) == 10) = false := u8_neq c 10 h3
  by_cases h4 : c = 13
  · have z : ((c.toNat : Int) == 13) = true := u8_eq c 13 h4
    have e : blankC c = true := by subst h4; rfl
    rw [e]; clear e h1 h2 h3 h4
    go_enter Tryz.func39, Tryz.ntmps39
    go_wp2
    go_ret
    exact ⟨rfl, rfl⟩
  have z4 : ((c.toNat : Int) == 13) = false := u8_neq c 13 h4
  have e : blankC c = false := by unfold blankC; simp [h1, h2, h3, h4]
  rw [e]; clear e h1 h2 h3 h4
  go_enter Tryz.func39, Tryz.ntmps39
  go_wp2
  go_ret
  exact ⟨rfl, rfl⟩

theorem splitC_le (c : UInt8) : ∀ (l : Tx), ∀ x ∈ splitC c l, x.length ≤ l.length
  | [], x, h => by simp [splitC] at h; subst h; simp
  | b :: l, x, h => by
    have ih := splitC_le c l
    unfold splitC at h
    split at h
    · rcases List.mem_cons.1 h with rfl | h
      · simp
      · have := ih x h; simp; omega
    · split at h
      · simp at h; subst h; simp
      · rename_i y t hy
        rcases List.mem_cons.1 h with rfl | h
        · have := ih y (by rw [hy]; simp); simp; omega
        · have := ih x (by rw [hy]; simp [h]); simp; omega
theorem takeWhile_len (p : UInt8 → Bool) : ∀ (l : Tx) (k : Nat), (∀ (j : Nat) c, j < k → l[j]? = some c → p c = true) → (∀ c, l[k]? = some c → p c = false) → k ≤ l.length → (l.takeWhile p).length = k
  | [], k, _, _, h => by simp at h; subst h; rfl
  | b :: l, 0, _, h2, _ => by rw [List.takeWhile_cons, if_neg (by rw [h2 b rfl]; simp)]; rfl
  | b :: l, k + 1, h1, h2, h3 => by
    rw [List.takeWhile_cons, if_pos (h1 0 b (by omega) rfl), List.length_cons, takeWhile_len p l k (fun j c hj hc => h1 (j + 1) c (by omega) (by simpa using hc)) (fun c hc => h2 c (by simpa using hc)) (by simpa using h3)]
theorem freshV {w w' : World} {v0 v1 v2 v3 v4 v5 v6 v7 : Value} {t : TypeId} (h : Below (w.alloc (.cells #[v0, v1, v2, v3, v4, v5, v6, v7] t)).heap.size (w.alloc (.cells #[v0, v1, v2, v3, v4, v5, v6, v7] t)) w') :
    (w'.cell? ⟨w.heap.size, 0, none⟩ = some v0 ∧ w'.cell? ⟨w.heap.size, 1, none⟩ = some v1 ∧ w'.cell? ⟨w.heap.size, 2, none⟩ = some v2 ∧ w'.cell? ⟨w.heap.size, 3, none⟩ = some v3 ∧ w'.cell? ⟨w.heap.size, 4, none⟩ = some v4 ∧ w'.cell? ⟨w.heap.size, 5, none⟩ = some v5 ∧ w'.cell? ⟨w.heap.size, 6, none⟩ = some v6 ∧ w'.cell? ⟨w.heap.size, 7, none⟩ = some v7) ∧
    (∀ k, w'.frozen? ⟨w.heap.size, k, none⟩ = false) ∧ w.heap.size < w'.heap.size ∧ Below w.heap.size w w' := by
  have hs := h.size
  simp at hs
  have hc : ∀ k, w'.cell? ⟨w.heap.size, k, none⟩ = (#[v0, v1, v2, v3, v4, v5, v6, v7] : Array Value)[k]? := fun k => by
    rw [h.cell (p := ⟨w.heap.size, k, none⟩) (by simp)]
    have hh := heap_alloc_new w (.cells #[v0, v1, v2, v3, v4, v5, v6, v7] t)
    simp only [World.cell?, hh]
    simp
  refine ⟨⟨hc 0, hc 1, hc 2, hc 3, hc 4, hc 5, hc 6, hc 7⟩, fun k => ?_, by omega, (al w _).trans (h.mono (al w _).size)⟩
  rw [h.frozen (p := ⟨w.heap.size, k, none⟩) (by simp)]
  have hh := heap_alloc_new w (.cells #[v0, v1, v2, v3, v4, v5, v6, v7] t)
  simp only [World.frozen?, hh]
  simp
/-- what Parse answers -/
def insO (r : Option Ins) : Ins := match r with
  | some i => i
  | none => ins0
def errO (r : Option Ins) : Int := match r with
  | some _ => 0
  | none => 91
def RetP (r : Option Ins) (w : World) (e : Ending) (w' : World) : Prop := e = .returned (.tuple #[vI (insO r), .int .i64 (errO r)]) ∧ Below w.heap.size w w'
theorem RetP.no {w w' : World} {e : Ending} {r : Option Ins} (hr : r = none) (h : e = .returned (.tuple #[.agg #[.int .i64 0, .int .i64 0, .int .i64 0, .int .i64 0, .int .i64 0, .string ⟨#[]⟩, .string ⟨#[]⟩, .int .i64 0], .int .i64 91])) (hb : Below w.heap.size w w') : RetP r w e w' := by
  subst hr h; exact ⟨rfl, hb⟩
theorem RetP.yes {w w' : World} {e : Ending} {r : Option Ins} {op d a b imm fence : Int} {label : Tx} (hr : r = some ⟨op, d, a, b, imm, [], label, fence⟩) (h : e = .returned (.tuple #[.agg #[.int .i64 op, .int .i64 d, .int .i64 a, .int .i64 b, .int .i64 imm, .string ⟨#[]⟩, .string (tx label), .int .i64 fence], .int .i64 0])) (hb : Below w.heap.size w w') : RetP r w e w' := by
  subst hr h; exact ⟨rfl, hb⟩
theorem RetP.yes0 {w w' : World} {e : Ending} {r : Option Ins} {op d a b imm fence : Int} (hr : r = some ⟨op, d, a, b, imm, [], [], fence⟩) (h : e = .returned (.tuple #[.agg #[.int .i64 op, .int .i64 d, .int .i64 a, .int .i64 b, .int .i64 imm, .string ⟨#[]⟩, .string ⟨#[]⟩, .int .i64 fence], .int .i64 0])) (hb : Below w.heap.size w w') : RetP r w e w' := by
  subst hr h; exact ⟨rfl, hb⟩
set_option maxRecDepth 100000 in
set_option maxHeartbeats 3200000 in
theorem progParse_long (s : Tx) (hl : 262144 < s.length) (w : World) : Calls Tryz.prog 12 #[.string (tx s)] w (RetP (parseI s) w) := by
  obtain ⟨r, hr⟩ : ∃ r, parseI s = r := ⟨_, rfl⟩
  rw [hr]
  have HK := hid (show r = none by rw [← hr]; unfold parseI; rw [if_pos hl])
  obtain ⟨n, hn⟩ : ∃ n, (tx s).size = n := ⟨_, rfl⟩
  have hz : decide (262144 < (n : Int)) = true := by rw [← hn, tx_size]; simp; omega
  clear hr hl
  go_enter Tryz.func12, Tryz.ntmps12
  go_wp2_with fail
  exact bodyPost_ret (by simp [results, Tryz.results12, go_sem]) rfl (RetP.no HK.out rfl (by repeat (first | with_reducible assumption | with_reducible exact Below.refl _ _ | with_reducible refine bel_alloc ?_ _ | with_reducible refine bel_drew ?_ | with_reducible refine bel_set ?_ (by dsimp only; omega) _)))
set_option maxRecDepth 100000 in
set_option maxHeartbeats 3200000 in
theorem progParse_tso (s : Tx) (hl : s.length ≤ 262144) (ht : trimT s = [102, 101, 110, 99, 101, 46, 116, 115, 111]) (w : World) : Calls Tryz.prog 12 #[.string (tx s)] w (RetP (parseI s) w) := by
  obtain ⟨r, hr⟩ : ∃ r, parseI s = r := ⟨_, rfl⟩
  rw [hr]
  have HK := hid (show r = some ⟨13, 0, 0, 0, 0, [], [], 2⟩ by rw [← hr]; unfold parseI; rw [if_neg (by omega)]; simp only [ht]; rw [if_pos trivial])
  obtain ⟨n, hn⟩ : ∃ n, (tx s).size = n := ⟨_, rfl⟩
  have hnl : n = s.length := by rw [← hn, tx_size]
  have hz : decide (262144 < (n : Int)) = false := by simp; omega
  have TR := hid (fun (w : World) => progTrimmed s (by omega) w)
  rw [ht] at TR
  have z : ((tx [102, 101, 110, 99, 101, 46, 116, 115, 111]).toList == [102, 101, 110, 99, 101, 46, 116, 115, 111]) = true := by rw [tx_toList]; rfl
  clear hr hl hnl ht
  go_enter Tryz.func12, Tryz.ntmps12
  go_wp2_with fail
  refine (TR.out _).mono ?_
  rintro e w1 ⟨rfl, E⟩
  obtain ⟨⟨d0, d1, d2, d3, d4, d5, d6, d7⟩, hf, hlt, B⟩ := fresh8 E
  clear E
  go_wp2_with fail
  exact bodyPost_ret (by simp [results, Tryz.results12, go_sem, d0, d1, d2, d3, d4, d5, d6, d7]) rfl (RetP.yes0 HK.out rfl (by repeat (first | with_reducible assumption | with_reducible exact Below.refl _ _ | with_reducible refine bel_alloc ?_ _ | with_reducible refine bel_drew ?_ | with_reducible refine bel_set ?_ (by dsimp only; omega) _)))
set_option maxRecDepth 100000 in
set_option maxHeartbeats 3200000 in
theorem progParse_label (s t : Tx) (hl : s.length ≤ 262144) (ht : trimT s = t) (h1 : t ≠ [102, 101, 110, 99, 101, 46, 116, 115, 111]) (h2 : t.getLast? = some 58) (w : World) : Calls Tryz.prog 12 #[.string (tx s)] w (RetP (parseI s) w) := by
  obtain ⟨r, hr⟩ : ∃ r, parseI s = r := ⟨_, rfl⟩
  rw [hr]
  have HK := hid (show r = if nameB (trimT t.dropLast) then some ⟨12, 0, 0, 0, 0, [], trimT t.dropLast, 0⟩ else none by rw [← hr]; unfold parseI; rw [if_neg (by omega)]; simp only [ht]; rw [if_neg h1, if_pos h2])
  obtain ⟨n, hn⟩ : ∃ n, (tx s).size = n := ⟨_, rfl⟩
  have hnl : n = s.length := by rw [← hn, tx_size]
  have hz : decide (262144 < (n : Int)) = false := by simp; omega
  have TR := hid (fun (w : World) => progTrimmed s (by omega) w)
  rw [ht] at TR
  have htl := trimT_length s
  rw [ht] at htl
  have z : ((tx t).toList == [102, 101, 110, 99, 101, 46, 116, 115, 111]) = false := tx_ne _ _ h1
  have hs2 := suffix_any t 58 (by omega)
  rw [show (t.getLast? == some 58) = true by rw [h2]; rfl] at hs2
  have SF := hid hs2
  obtain ⟨m, hm⟩ : ∃ m, t.length = m := ⟨_, rfl⟩
  have hm1 : 1 ≤ m := by
    rcases Nat.eq_zero_or_pos m with h0 | h0
    · rw [h0] at hm; have := List.eq_nil_of_length_eq_zero hm; rw [this] at h2; cases h2
    · exact h0
  have htm : (tx t).size = m := by rw [tx_size, hm]
  have sl : ∀ w, (Instr.sliceAt 9 (.string (tx t)) none (some (.int .i64 ((m : Int) - 1))) none).run Tryz.prog w = .ok (.string (tx t.dropLast)) w := by
    have := run_strto t (m - 1) (by omega)
    rwa [show ((m - 1 : Nat) : Int) = (m : Int) - 1 by omega, show t.take (m - 1) = t.dropLast by rw [List.dropLast_eq_take, hm]] at this
  have T2 := hid (fun (w : World) => progTrimmed t.dropLast (by simp; omega) w)
  have hll := trimT_length t.dropLast
  have hmb : m ≤ 262144 := by omega
  rw [List.length_dropLast, hm] at hll
  generalize t.dropLast = u at *
  generalize trimT u = lb at *
  have CK := hid (fun (w : World) => progCheck ⟨12, 0, 0, 0, 0, [], lb, 0⟩ (by simp; omega) w)
  clear hr hl hnl ht hs2 h2 h1 hm htl
  by_cases hnm : nameB lb = true
  · have hE := errI_yes (i := ⟨12, 0, 0, 0, 0, [], lb, 0⟩) (by rw [check_label]; exact hnm)
    rw [if_pos hnm] at HK
    rw [hE] at CK
    clear hE hnm
    go_enter Tryz.func12, Tryz.ntmps12
    go_wp2_with fail
    refine (TR.out _).mono ?_
    rintro e w1 ⟨rfl, E⟩
    go_wp2_with fail
    refine (SF.out _).mono ?_
    rintro e w2 ⟨rfl, rfl⟩
    go_wp2_with fail
    refine (T2.out _).mono ?_
    rintro e w3 ⟨rfl, E3⟩
    have E := ext_trans E E3
    go_wp2_with fail
    refine (CK.out _).mono ?_
    rintro e w4 ⟨rfl, E4⟩
    obtain ⟨⟨f0, f1, f2, f3, f4, f5, f6, f7⟩, hf2, hlt2, B2⟩ := freshV E4
    have E := ext_trans E B2
    obtain ⟨⟨d0, d1, d2, d3, d4, d5, d6, d7⟩, hf, hlt, B⟩ := fresh8 E
    clear E E3 E4 B2
    go_wp2_with fail
    exact bodyPost_ret (by simp [results, Tryz.results12, go_sem, d0, d1, d2, d3, d4, d5, d6, d7]) rfl (RetP.yes HK.out rfl (by repeat (first | with_reducible assumption | with_reducible exact Below.refl _ _ | with_reducible refine bel_alloc ?_ _ | with_reducible refine bel_drew ?_ | with_reducible refine bel_set ?_ (by dsimp only; omega) _)))
  · have hE := errI_no (i := ⟨12, 0, 0, 0, 0, [], lb, 0⟩) (by rw [check_label]; simpa using hnm)
    rw [if_neg hnm] at HK
    rw [hE] at CK
    clear hE hnm
    go_enter Tryz.func12, Tryz.ntmps12
    go_wp2_with fail
    refine (TR.out _).mono ?_
    rintro e w1 ⟨rfl, E⟩
    go_wp2_with fail
    refine (SF.out _).mono ?_
    rintro e w2 ⟨rfl, rfl⟩
    go_wp2_with fail
    refine (T2.out _).mono ?_
    rintro e w3 ⟨rfl, E3⟩
    have E := ext_trans E E3
    go_wp2_with fail
    refine (CK.out _).mono ?_
    rintro e w4 ⟨rfl, E4⟩
    obtain ⟨⟨f0, f1, f2, f3, f4, f5, f6, f7⟩, hf2, hlt2, B2⟩ := freshV E4
    have E := ext_trans E B2
    obtain ⟨⟨d0, d1, d2, d3, d4, d5, d6, d7⟩, hf, hlt, B⟩ := fresh8 E
    clear E E3 E4 B2
    go_wp2_with fail
    exact bodyPost_ret (by simp [results, Tryz.results12, go_sem, d0, d1, d2, d3, d4, d5, d6, d7]) rfl (RetP.no HK.out rfl (by repeat (first | with_reducible assumption | with_reducible exact Below.refl _ _ | with_reducible refine bel_alloc ?_ _ | with_reducible refine bel_drew ?_ | with_reducible refine bel_set ?_ (by dsimp only; omega) _)))
end Go.Proofs.YtigimkgmghjgoaaGreatDoor
