/- What an instruction does to its thread, as a plain function; the methods of the program as one. Condition: the instruction that is done lies in memory of the caller's own. · The walk of Do (the program's). Conditions: code and registers lie in memory as read; lengths that an int holds. -/
import Derived.Test.YtigimkgmghjgoaaGreatDoorQl
import Derived.Test.YtigimkgmghjgoaaGreatDoorQk
import Derived.Test.YtigimkgmghjgoaaGreatDoorQn
import Derived.Deep.RegionHeld3
namespace Go.Proofs.YtigimkgmghjgoaaGreatDoor
open Go.RowKit Go.MapKept
set_option linter.unusedVariables false

structure DoR where
  regs : List Vl
  at' : Int
  act : Ac
  e : Int
def ac0 : Ac := ⟨0, [], 0, 0, 0⟩
def ac1 : Ac := ⟨1, [], 0, 0, 0⟩
def doE (e : Int) : DoR := ⟨[], 0, ac0, e⟩
def valR (i : Ins) (a b : Vl) : Option Vl := if i.op = 8 then mixV 8 a ⟨[], i.imm⟩ else if i.op = 9 then xorV i a b else mixV 10 a b
/-- one step; at' is where the thread is behind it -/
def stepV (i : Ins) (a b : Vl) (lab at' : Int) (regs : List Vl) : DoR :=
  if i.op = 6 then (if a.loc = [] then doE 92 else ⟨regs, at', ⟨2, a.loc, 0, i.d, 0⟩, 0⟩)
  else if i.op = 7 then (if a.loc = [] ∨ b.loc ≠ [] then doE 92 else ⟨regs, at', ⟨3, a.loc, b.n, 0, 0⟩, 0⟩)
  else if i.op = 8 ∨ i.op = 9 ∨ i.op = 10 then (if (valR i a b).isSome then ⟨outM regs i.d (valR i a b), at', ac1, 0⟩ else doE 92)
  else if i.op = 11 then ⟨regs, if a = b then at' else lab, ac1, 0⟩
  else if i.op = 13 then ⟨regs, at', ⟨4, [], 0, 0, i.fence⟩, 0⟩
  else ⟨regs, at', ac1, 0⟩
def doV (code : List Ins) (regs : List Vl) (at' : Int) : DoR :=
  if (linksV code).2.1 ≠ 0 then doE (linksV code).2.1
  else if readyV code.length regs at' = false then doE 1
  else stepV (code.getD at'.toNat ins0) (regs.getD (code.getD at'.toNat ins0).a.toNat vl0) (regs.getD (code.getD at'.toNat ins0).b.toNat vl0) ((linksV code).1.getD at'.toNat 0) (at' + 1) regs
theorem imm_n32 {i : Ins} (h : checkI i = true) (ho : i.op = 8) : n32 i.imm := by
  obtain ⟨h1, -⟩ := checkI_spec h
  unfold okI at h1
  rw [if_pos ho] at h1
  simp at h1
  unfold n32; omega
theorem methods (B d : Nat) (g : Dg) (regs : List Vl) (hc : checkI g.i = true) (ha : n32 g.a.n) (hb : n32 g.b.n) (hact : g.act = ac1) :
    ∃ (n : Nat) (F : FuncId) (g2 : Dg) (regs2 : List Vl) (ok : Bool), n < 8 ∧ g.i.op = 6 + (n : Int) ∧ wayF n = F ∧ (∀ args w, (callFunc F args).run Tryz.prog w = .ok (.enter F args) w) ∧
      (∀ w, DgW w B d g regs → Calls Tryz.prog F #[.pointer (some ⟨d, 0, none⟩)] w (Did B d w g2 regs2 ok)) ∧
      stepV g.i g.a g.b g.lab g.at' regs = (if ok then ⟨regs2, g2.at', g2.act, 0⟩ else doE 92) := by
  obtain ⟨-, -, hd, -, -⟩ := checkI_spec hc
  rcases opOf hc with h | h | h | h | h | h | h | h
  · refine ⟨0, _, _, _, _, by omega, by omega, rfl, enters_of Tryz.func83 (by kernel_rfl) rfl, fun w hw => doLw B d g regs w hw, ?_⟩
    unfold stepV; rw [if_pos h]
    by_cases hl : g.a.loc = [] <;> simp [hl]
  · refine ⟨1, _, _, _, _, by omega, by omega, rfl, enters_of Tryz.func84 (by kernel_rfl) rfl, fun w hw => doSw B d g regs w hw, ?_⟩
    unfold stepV; rw [if_neg (by omega), if_pos h]
    by_cases hl : g.a.loc = [] <;> by_cases hm : g.b.loc = [] <;> simp [hl, hm]
  · refine ⟨2, _, _, _, _, by omega, by omega, rfl, enters_of Tryz.func85 (by kernel_rfl) rfl, fun w hw => doOri B d g regs ha (imm_n32 hc h) hd w hw, ?_⟩
    unfold stepV valR; rw [if_neg (by omega), if_neg (by omega), if_pos (by omega), if_pos h, hact]
  · refine ⟨3, _, _, _, _, by omega, by omega, rfl, enters_of Tryz.func86 (by kernel_rfl) rfl, fun w hw => doXor B d g regs ha hb hd w hw, ?_⟩
    have hv : valR g.i g.a g.b = xorV g.i g.a g.b := by unfold valR; rw [if_neg (by omega), if_pos h]
    unfold stepV; rw [if_neg (by omega), if_neg (by omega), if_pos (by omega), hv, hact]
  · refine ⟨4, _, _, _, _, by omega, by omega, rfl, enters_of Tryz.func87 (by kernel_rfl) rfl, fun w hw => doAdd B d g regs ha hb hd w hw, ?_⟩
    have hv : valR g.i g.a g.b = mixV 10 g.a g.b := by unfold valR; rw [if_neg (by omega), if_neg (by omega)]
    unfold stepV; rw [if_neg (by omega), if_neg (by omega), if_pos (by omega), hv, hact]
  · refine ⟨5, _, _, _, _, by omega, by omega, rfl, enters_of Tryz.func88 (by kernel_rfl) rfl, fun w hw => doBne B d g regs w hw, ?_⟩
    unfold stepV; rw [if_neg (by omega), if_neg (by omega), if_neg (by omega), if_pos h]
    by_cases hab : g.a = g.b <;> simp [hab, hact]
  · refine ⟨6, _, _, _, _, by omega, by omega, rfl, enters_of Tryz.func89 (by kernel_rfl) rfl, fun w hw => doNone B d g regs w hw, ?_⟩
    unfold stepV; rw [if_neg (by omega), if_neg (by omega), if_neg (by omega), if_neg (by omega), if_neg (by omega), hact]; rfl
  · refine ⟨7, _, _, _, _, by omega, by omega, rfl, enters_of Tryz.func90 (by kernel_rfl) rfl, fun w hw => doFence B d g regs w hw, ?_⟩
    unfold stepV; rw [if_neg (by omega), if_neg (by omega), if_neg (by omega), if_neg (by omega), if_pos h]; rfl
/-- the methods leave the row of registers where it is -/
theorem DgW.new {w : World} {B : Nat} {g : Dg} {regs : List Vl} (ho : OwnV w B g.ar 32 g.cr regs) (hB : B ≤ w.heap.size) : DgW (w.alloc (.cells (dC g).toArray 82)) B w.heap.size g regs := by
  have hh := heap_alloc_new w (.cells (dC g).toArray 82)
  refine ⟨hB, by simp, fun k hk => ?_, fun k => by simp only [World.frozen?, hh]; simp, Own.below ho (al _ _), ?_⟩
  · simp only [World.cell?, hh]
    simp [dC]
  · by_cases h : g.ar = none
    · exact .inl h
    · have := (Own.lt ho h).2; exact .inr (by omega)
theorem may_n32 {v : Vl} (h : mayB v = true) : n32 v.n := by
  unfold mayB at h
  split at h
  · simp at h; unfold n32; omega
  · simp at h; unfold n32; omega
theorem ready_spec {n : Nat} {l : List Vl} {at' : Int} (h : readyV n l at' = true) : 0 ≤ at' ∧ at' < n ∧ l.length = 32 ∧ (∀ v ∈ l, mayB v = true) ∧ l[0]? = some vl0 := by
  unfold readyV at h
  simp only [Bool.and_eq_true, decide_eq_true_eq, List.all_eq_true] at h
  exact ⟨h.1.1.1.1, h.1.1.1.2, h.1.1.2, h.1.2, h.2⟩
end Go.Proofs.YtigimkgmghjgoaaGreatDoor
namespace Go.Proofs.YtigimkgmghjgoaaGreatDoor
open Go.RowKit Go.MapKept Go.Maps
set_option linter.unusedVariables false

attribute [local go_sem high] eqI neqI eqV neqV
@[reducible] def aV (a : Ac) : Value := .agg #[.int .i64 a.kind, .string (tx a.loc), .int .i64 a.value, .int .i64 a.reg, .int .i64 a.fence]
def RetDo (r : DoR) (w : World) (e : Ending) (w' : World) : Prop := ∃ a c, e = .returned (.tuple #[.agg #[.slice a r.regs.length c, .int .i64 r.at'], aV r.act, .int .i64 r.e]) ∧ OwnV w' w.heap.size a r.regs.length c r.regs ∧ Below w.heap.size w w'
theorem RetDo.err {r : DoR} {k : Int} {w w' : World} {e : Ending} (hr : r = doE k) (he : e = .returned (.tuple #[.agg #[.slice none 0 0, .int .i64 0], .agg #[.int .i64 0, .string ⟨#[]⟩, .int .i64 0, .int .i64 0, .int .i64 0], .int .i64 k])) (hb : Below w.heap.size w w') : RetDo r w e w' := by
  subst hr he; exact ⟨none, 0, rfl, Own.nil _ _ _ _, hb⟩
abbrev boxT (a : Option Addr) (n c : Nat) (at' : Int) : Obj := .cells #[.slice a n c, .int .i64 at'] 42
abbrev zT : Obj := .cells #[.slice none 0 0, .int .i64 0] 42
abbrev zAc : Obj := .cells #[.int .i64 0, .string ⟨#[]⟩, .int .i64 0, .int .i64 0, .int .i64 0] 45
abbrev W3 (w : World) (a : Option Addr) (n c : Nat) (at' : Int) : World := ((w.alloc (boxT a n c at')).alloc zT).alloc zAc
/-- what lies in the call's first blocks -/
structure Bx3 (w w' : World) (a : Option Addr) (n c : Nat) (at' : Int) : Prop where
  t : w'.cell? ⟨w.heap.size, 0, none⟩ = some (.slice a n c) ∧ w'.cell? ⟨w.heap.size, 1, none⟩ = some (.int .i64 at')
  l : w'.cell? ⟨w.heap.size + 1, 0, none⟩ = some (.slice none 0 0) ∧ w'.cell? ⟨w.heap.size + 1, 1, none⟩ = some (.int .i64 0)
  a : w'.cell? ⟨w.heap.size + 2, 0, none⟩ = some (.int .i64 0) ∧ w'.cell? ⟨w.heap.size + 2, 1, none⟩ = some (.string ⟨#[]⟩) ∧ w'.cell? ⟨w.heap.size + 2, 2, none⟩ = some (.int .i64 0) ∧ w'.cell? ⟨w.heap.size + 2, 3, none⟩ = some (.int .i64 0) ∧ w'.cell? ⟨w.heap.size + 2, 4, none⟩ = some (.int .i64 0)
  fl : ∀ j, w'.frozen? ⟨w.heap.size + 1, j, none⟩ = false
  fa : ∀ j, w'.frozen? ⟨w.heap.size + 2, j, none⟩ = false
  size : w.heap.size + 3 ≤ w'.heap.size
  bel : Below w.heap.size w w'
theorem Bx3.of {w w' : World} {a : Option Addr} {n c : Nat} {at' : Int} (h : Below (W3 w a n c at').heap.size (W3 w a n c at') w') : Bx3 w w' a n c at' := by
  have s1 : (w.alloc (boxT a n c at')).heap.size = w.heap.size + 1 := by simp
  have s2 : ((w.alloc (boxT a n c at')).alloc zT).heap.size = w.heap.size + 2 := by simp
  have s3 : (W3 w a n c at').heap.size = w.heap.size + 3 := by simp
  have b1 := al w (boxT a n c at')
  have b2 := al (w.alloc (boxT a n c at')) zT
  have b3 := al ((w.alloc (boxT a n c at')).alloc zT) zAc
  have h1 := heap_alloc_new w (boxT a n c at')
  have h2 := heap_alloc_new (w.alloc (boxT a n c at')) zT
  have h3 := heap_alloc_new ((w.alloc (boxT a n c at')).alloc zT) zAc
  rw [s1] at h2; rw [s2] at h3
  have C1 : ∀ j, w'.cell? ⟨w.heap.size, j, none⟩ = (w.alloc (boxT a n c at')).cell? ⟨w.heap.size, j, none⟩ := fun j => by
    rw [h.cell (p := ⟨w.heap.size, j, none⟩) (by rw [s3]; dsimp only; omega), b3.cell (p := ⟨w.heap.size, j, none⟩) (by rw [s2]; dsimp only; omega), b2.cell (p := ⟨w.heap.size, j, none⟩) (by rw [s1]; dsimp only; omega)]
  have C2 : ∀ j, w'.cell? ⟨w.heap.size + 1, j, none⟩ = ((w.alloc (boxT a n c at')).alloc zT).cell? ⟨w.heap.size + 1, j, none⟩ := fun j => by
    rw [h.cell (p := ⟨w.heap.size + 1, j, none⟩) (by rw [s3]; dsimp only; omega), b3.cell (p := ⟨w.heap.size + 1, j, none⟩) (by rw [s2]; dsimp only; omega)]
  have C3 : ∀ j, w'.cell? ⟨w.heap.size + 2, j, none⟩ = (W3 w a n c at').cell? ⟨w.heap.size + 2, j, none⟩ := fun j => by
    rw [h.cell (p := ⟨w.heap.size + 2, j, none⟩) (by rw [s3]; dsimp only; omega)]
  refine ⟨⟨?_, ?_⟩, ⟨?_, ?_⟩, ⟨?_, ?_, ?_, ?_, ?_⟩, fun j => ?_, fun j => ?_, by have := h.size; rw [s3] at this; exact this, ext_trans (ext_trans (ext_trans b1 b2) b3) h⟩
  · rw [C1]; simp only [World.cell?, h1]; simp
  · rw [C1]; simp only [World.cell?, h1]; simp
  · rw [C2]; simp only [World.cell?, h2]; simp
  · rw [C2]; simp only [World.cell?, h2]; simp
  · rw [C3]; simp only [World.cell?, h3]; simp
  · rw [C3]; simp only [World.cell?, h3]; simp
  · rw [C3]; simp only [World.cell?, h3]; simp
  · rw [C3]; simp only [World.cell?, h3]; simp
  · rw [C3]; simp only [World.cell?, h3]; simp
  · rw [h.frozen (p := ⟨w.heap.size + 1, j, none⟩) (by rw [s3]; dsimp only; omega), b3.frozen (p := ⟨w.heap.size + 1, j, none⟩) (by rw [s2]; dsimp only; omega)]
    simp only [World.frozen?, h2]; simp
  · rw [h.frozen (p := ⟨w.heap.size + 2, j, none⟩) (by rw [s3]; dsimp only; omega)]
    simp only [World.frozen?, h3]; simp
def RetL4 (L : List Int) (x y : Int) (w : World) (e : Ending) (w' : World) : Prop :=
  ∃ a c, e = .returned (.tuple #[.slice a L.length c, .int .i64 x, .int .i64 y]) ∧ OwnI w' w.heap.size a L.length c L ∧ Below w.heap.size w w'
set_option maxRecDepth 100000 in
set_option maxHeartbeats 3200000 in
theorem progDo_links (code : List Ins) (a : Option Addr) (c : Nat) (l : List Vl) (b : Option Addr) (cb : Nat) (at' : Int) (hc : code.length ≤ c) (hL : ∀ i ∈ code, i.label.length ≤ 9223372036854775807) (he : (linksV code).2.1 ≠ 0) (w : World) (hI : Is w a code) :
    Calls Tryz.prog 25 #[.slice a code.length c, .agg #[.slice b l.length cb, .int .i64 at']] w (RetDo (doV code l at') w) := by
  have HD := hid (show doV code l at' = doE (linksV code).2.1 by unfold doV; rw [if_pos he])
  generalize doV code l at' = r at *
  have PL := fun (w : World) (hI : Is w a code) => progLinks code a c hc hL w hI
  have E0 := Below.refl (W3 w b l.length cb at').heap.size (W3 w b l.length cb at')
  have I3 := hI.below (Bx3.of E0).bel
  obtain ⟨⟨L, x, y⟩, hr⟩ : ∃ r, linksV code = r := ⟨_, rfl⟩
  rw [hr] at PL he HD
  have PL := hid (show ∀ (w : World), Is w a code → Calls Tryz.prog 17 #[.slice a code.length c] w (RetL4 L x y w) from PL)
  have z1 : (x != 0) = true := by simpa using he
  have HD := hid (show r = doE x from HD.out)
  clear he hr hI hL hc
  generalize code.length = n at *
  generalize l.length = m at *
  go_enter Tryz.func25, Tryz.ntmps25
  go_wp2_with fail
  refine (PL.out _ I3).mono ?_
  rintro e w1 ⟨aA, cA, rfl, oA, E⟩
  have b3 := Bx3.of E
  obtain ⟨⟨t0, t1⟩, ⟨l0, l1⟩, ⟨a0, a1, a2, a3, a4⟩, fl, fa, hsz, B⟩ := b3
  clear E oA I3
  go_wp2_with fail
  exact bodyPost_ret (by simp [results, Tryz.results25, go_sem, l0, l1, a0, a1, a2, a3, a4]) rfl (RetDo.err HD.out rfl (by repeat (first | with_reducible assumption | with_reducible exact Below.refl _ _ | with_reducible refine bel_alloc ?_ _ | with_reducible refine bel_drew ?_ | with_reducible refine bel_set ?_ (by dsimp only; omega) _)))
end Go.Proofs.YtigimkgmghjgoaaGreatDoor
