/- The walk of split (the document's answer). Condition: a text of at most a million bytes. -/
import Derived.Test.YtigimkgmghjgoaaGreatDoorS2
namespace Go.Proofs.YtigimkgmghjgoaaGreatDoor
open Go.RowKit
set_option linter.unusedVariables false

/-- texts that the call owns -/
def OwnS (w : World) (B : Nat) (a : Option Addr) (n c : Nat) (l : List Tx) : Prop := Own w B 9 1 a n c (l.map fun x => Value.string (tx x))
theorem OwnS.txs {w : World} {B n c : Nat} {a : Option Addr} {l : List Tx} (h : OwnS w B a n c l) (hl : l.length ≤ 1000000000000000000) : Txs w a l := ⟨Own.row h, hl⟩
/-- how far a text is split: k bytes looked at, the last piece from f on, the pieces so far -/
def SplitAt (b : UInt8) (s : Tx) (A : List Tx) (k f : Nat) (P : List Tx) : Prop :=
  (k ≤ s.length → f ≤ k ∧ P ++ (splitC b (s.drop f)).map trimT = A ∧ b ∉ (s.take k).drop f) ∧ (k = s.length + 1 → P = A)
theorem SplitAt.zero (b : UInt8) (s : Tx) : SplitAt b s ((splitC b s).map trimT) 0 0 [] := ⟨fun _ => ⟨Nat.le_refl _, by simp, by simp⟩, fun h => by omega⟩
theorem SplitAt.step {b x : UInt8} {s : Tx} {A P : List Tx} {k f : Nat} (h : SplitAt b s A k f P) (hx : s[k]? = some x) (hne : x ≠ b) : SplitAt b s A (k + 1) f P := by
  obtain ⟨hk, -⟩ := List.getElem?_eq_some_iff.1 hx
  obtain ⟨h1, h2, h3⟩ := h.1 (by omega)
  refine ⟨fun _ => ⟨by omega, h2, ?_⟩, fun e => by omega⟩
  rw [List.take_add_one, hx, List.drop_append_of_le_length (by simp; omega)]
  simp only [Option.toList_some, List.mem_append, List.mem_singleton, not_or]
  exact ⟨h3, fun e => hne e.symm⟩
theorem drop_split {s : Tx} {k f : Nat} (h1 : f ≤ k) (h2 : k ≤ s.length) : s.drop f = (s.take k).drop f ++ s.drop k := by
  conv => lhs; rw [← List.take_append_drop k s]
  rw [List.drop_append_of_le_length (by simp; omega)]
theorem SplitAt.cut {b : UInt8} {s : Tx} {A P : List Tx} {k f : Nat} (h : SplitAt b s A k f P) (hx : s[k]? = some b) : SplitAt b s A (k + 1) (k + 1) (P ++ [trimT ((s.take k).drop f)]) := by
  obtain ⟨hk, he⟩ := List.getElem?_eq_some_iff.1 hx
  obtain ⟨h1, h2, h3⟩ := h.1 (by omega)
  refine ⟨fun _ => ⟨Nat.le_refl _, ?_, by rw [List.drop_eq_nil_of_le (by simp; omega)]; simp⟩, fun e => by omega⟩
  rw [drop_split h1 (by omega), List.drop_eq_getElem_cons hk, he, splitC_app b _ _ h3] at h2
  rw [← h2]; simp
theorem SplitAt.fin {b : UInt8} {s : Tx} {A P : List Tx} {k f : Nat} (h : SplitAt b s A k f P) (hk : k = s.length) : SplitAt b s A (k + 1) (k + 1) (P ++ [trimT ((s.take k).drop f)]) := by
  subst hk
  obtain ⟨h1, h2, h3⟩ := h.1 (Nat.le_refl _)
  refine ⟨fun e => by omega, fun _ => ?_⟩
  rw [List.take_length] at h3 ⊢
  rw [splitC_none b _ h3] at h2
  rw [← h2]; simp
theorem SplitAt.le {b : UInt8} {s : Tx} {A P : List Tx} {k f : Nat} (h : SplitAt b s A k f P) (hk : k ≤ s.length) : f ≤ k := (h.1 hk).1
theorem SplitAt.all {b : UInt8} {s : Tx} {A P : List Tx} {k f : Nat} (h : SplitAt b s A k f P) (hk : k = s.length + 1) : P = A := h.2 hk
def SplitP (w : World) (A : List Tx) (e : Ending) (w' : World) : Prop := ∃ a c, e = .returned (.slice a A.length c) ∧ Txs w' a A ∧ Below w.heap.size w w'
set_option maxHeartbeats 3200000 in
theorem refSplit (s : Tx) (b : UInt8) (hs : s.length ≤ 1000000) (w : World) : Calls Tryz.prog 45 #[.string (tx s), .int .u8 b.toNat] w (SplitP w ((splitC b s).map trimT)) := by
  have H0 := hid (SplitAt.zero b s)
  have HL := hid (show ((splitC b s).map trimT).length ≤ 1000001 by have := splitC_length_le b s; simp; omega)
  generalize (splitC b s).map trimT = A at *
  obtain ⟨n, hn⟩ : ∃ n, s.length = n := ⟨_, rfl⟩
  have hsz : (tx s).size = n := by rw [tx_size, hn]
  have HN := hid hn
  rw [hn] at hs
  clear hn
  go_enter Tryz.func45, Tryz.ntmps45
  go_wp2_with fail
  go_loopw [5, 6, 7] (fun v f i wr => ∃ (k f' : Nat) (P : List Tx) (a : Option Addr) (c : Nat), k ≤ n + 1 ∧ i = .int .i64 k ∧ f = .int .i64 f' ∧ v = .slice a P.length c ∧ P.length ≤ k ∧ OwnS wr w.heap.size a P.length c P ∧ Below w.heap.size w wr ∧ Hid (SplitAt b s A k f' P)) (fun _ _ i _ => n + 1 - (intOf i).toNat)
  case atStart => exact ⟨0, 0, [], none, 0, by omega, rfl, rfl, rfl, by simp, Own.nil _ _ _ _, Below.refl _ _, H0⟩
  case round =>
    clear H0
    obtain ⟨k, f, P, a, c, hk, rfl, rfl, rfl, hP, o1, E, HS⟩ := hrel
    have hc : (k < n ∧ ∃ x, s[k]? = some x ∧ x ≠ b) ∨ ((k ≤ n ∧ f ≤ k) ∧ (((k : Int) == (n : Int)) = true ∨ (((k : Int) == (n : Int)) = false ∧ s[k]? = some b)) ∧ SplitAt b s A (k + 1) (k + 1) (P ++ [trimT ((s.take k).drop f)])) ∨ k = n + 1 := by
      have hn := HN.out
      rcases Nat.lt_trichotomy k n with h | h | h
      · obtain ⟨x, hx⟩ : ∃ x, s[k]? = some x := ⟨_, List.getElem?_eq_getElem (by omega)⟩
        by_cases e : x = b
        · subst e; exact .inr (.inl ⟨⟨by omega, HS.out.le (by omega)⟩, .inr ⟨by simp; omega, hx⟩, HS.out.cut hx⟩)
        · exact .inl ⟨h, x, hx, e⟩
      · exact .inr (.inl ⟨⟨by omega, HS.out.le (by omega)⟩, .inl (by simp; omega), HS.out.fin (by omega)⟩)
      · exact .inr (.inr (by omega))
    rcases hc with ⟨hlt, x, hx, hne⟩ | ⟨⟨hkn, hfk⟩, ht, hS⟩ | rfl
    · have ix := run_ix s k x hx
      have z1 : ((k : Int) == (n : Int)) = false := by simp; omega
      have z2 : ((x.toNat : Int) == (b.toNat : Int)) = false := by simp only [beq_eq_false_iff_ne, ne_eq]; intro e; exact hne (UInt8.toNat_inj.1 (by omega))
      have HR := hid (HS.out.step hx hne)
      clear hx hne HS
      go_wp2_with fail
      go_roundw
      case rel => exact ⟨k + 1, f, P, a, c, by omega, by go_num, rfl, rfl, by omega, o1, E, HR.out⟩
      case measure => simp [intOf]; omega
    · have HR := hid hS
      have sl := run_strsl s f k hfk (by rw [HN.out]; exact hkn)
      have hq : ((s.take k).drop f).length ≤ 9223372036854775807 := by simp; omega
      have TR := hid (fun w => refTrim ((s.take k).drop f) hq w)
      clear hS HS hq
      generalize (s.take k).drop f = q at *
      rcases ht with z1 | ⟨z1, hx⟩
      · go_wp2_with fail
        refine (TR.out _).mono ?_
        rintro e w' ⟨rfl, rfl⟩
        go_wp2_with (at_builtin; go_loud (refine wpList_app1 txl (.tmp 25) (.tmp 31) rfl rfl rfl o1 rfl rfl (by intro u hu; simp at hu; subst hu; rfl) E E.size (by omega) (by unfold maxLen; omega) ?_))
        intro a3 c3 w3 o3 g3 B3
        have o4 : OwnS w3 w.heap.size a3 (P.length + 1) c3 (P ++ [trimT q]) := by simpa [OwnS] using o3
        clear o1 o3 g3 E
        go_wp2_with fail
        go_roundw
        case rel => exact ⟨k + 1, k + 1, P ++ [trimT q], a3, c3, by omega, by go_num, by go_num, by simp, by simp; omega, by simpa using o4, B3, HR.out⟩
        case measure => simp [intOf]; omega
      · have ix := run_ix s k b hx
        have hlt : k < n := by simp at z1; omega
        clear hx
        go_wp2_with fail
        refine (TR.out _).mono ?_
        rintro e w' ⟨rfl, rfl⟩
        go_wp2_with (at_builtin; go_loud (refine wpList_app1 txl (.tmp 25) (.tmp 31) rfl rfl rfl o1 rfl rfl (by intro u hu; simp at hu; subst hu; rfl) E E.size (by omega) (by unfold maxLen; omega) ?_))
        intro a3 c3 w3 o3 g3 B3
        have o4 : OwnS w3 w.heap.size a3 (P.length + 1) c3 (P ++ [trimT q]) := by simpa [OwnS] using o3
        clear o1 o3 g3 E
        go_wp2_with fail
        go_roundw
        case rel => exact ⟨k + 1, k + 1, P ++ [trimT q], a3, c3, by omega, by go_num, by go_num, by simp, by simp; omega, by simpa using o4, B3, HR.out⟩
        case measure => simp [intOf]; omega
    · obtain rfl : P = A := HS.out.all (by rw [HN.out])
      go_wp2_with fail
      go_ret
      exact ⟨_, _, rfl, o1.txs (by have := HL.out; omega), E⟩
end Go.Proofs.YtigimkgmghjgoaaGreatDoor
