/- The walk of Print (document). Conditions: the test lies in memory as read; the library's variables as laid. The walks of the printer's closures, of kid, and of node at an atom (cond). Conditions: the nodes lie in memory as read and may be; the library's variables as the program's text lays them. The walks of the printer's kids (cond). Conditions: the nodes lie in memory as read and may be; the library's variables as the program's text lays them. -/
import Derived.Test.YthaibjefnclkjaaGreatDoorZ24
import Derived.Test.YthaibjefnclkjaaGreatDoorZ14
import Derived.Deep.DeepCutAuto
import Derived.Test.YthaibjefnclkjaaGreatDoorZ12
import Derived.Deep.RegionHeld3
namespace Go.Proofs.YthaibjefnclkjaaGreatDoor
open Go.RowKit Go.Sort
set_option linter.unusedVariables false

theorem askE_ok {t : Tst} (h : askE t = 0) : condE t.arch t.q t.node = 0 := by
  unfold askE at h
  by_cases h1 : condE t.arch t.q t.node = 0
  · exact h1
  · rw [if_pos h1] at h; exact absurd h h1
theorem begun_all {t : Tst} (h : begunE t = 0) : ∀ x ∈ t.init, firstB t.arch t.code.length x = true := by
  unfold begunE at h
  by_cases h1 : 1024 < t.init.length
  · rw [if_pos h1] at h; cases h
  rw [if_neg h1] at h
  split at h
  · rename_i h2
    rw [Bool.and_eq_true, List.all_eq_true] at h2
    exact h2.1
  · cases h
def head0 (t : Tst) : Tx := if t.arch = 2 then [82, 73, 83, 67, 86, 32] else [88, 56, 54, 32]
theorem head0_len (t : Tst) : (head0 t).length ≤ 6 := by unfold head0; split <;> simp
/-- what is known of a test that may be -/
structure Good (t : Tst) : Prop where
  arch : archB t.arch = true
  title : titleB t.name = true
  cyc : cycleB t.cycle = true
  c1 : 1 ≤ t.code.length
  c16 : t.code.length ≤ 16
  c256 : ∀ x ∈ t.code, x.l.length ≤ 256
  i1024 : t.init.length ≤ 1024
  first : ∀ x ∈ t.init, firstB t.arch t.code.length x = true
  cond : condE t.arch t.q t.node = 0
theorem Good.of {t : Tst} (h : tstE t = 0) : Good t := by
  obtain ⟨a, b, c, d, e, -⟩ := tst_ok h
  rw [Bool.and_eq_true] at b
  obtain ⟨k1, k5, k6⟩ := coded_ok c
  exact ⟨a, b.1, b.2, k1, k5, k6, begun_ok d, begun_all d, askE_ok e⟩
theorem Good.inits {t : Tst} (h : Good t) (k : Nat) : (initsK t k).length ≤ 102400 := by
  have := initsK_le (t := t) (fun x hx => initT_len h.arch h.c16 (h.first x hx)) k
  have := h.i1024
  omega
theorem printE_no {t : Tst} {r : Int} (h : tstE t = r) (hr : r ≠ 0) : printE t = ([], r) := by unfold printE; rw [if_pos (by rw [h]; exact hr), h]
theorem printE_long {t : Tst} (h : tstE t = 0) (hl : 262144 < (fileT t).length) : printE t = ([], 3) := by unfold printE; rw [if_neg (by rw [h]; simp), if_pos hl]
theorem printE_yes {t : Tst} (h : tstE t = 0) (hl : ¬ 262144 < (fileT t).length) : printE t = (fileT t, 0) := by unfold printE; rw [if_neg (by rw [h]; simp), if_neg hl]
end Go.Proofs.YthaibjefnclkjaaGreatDoor
namespace Go.Proofs.YthaibjefnclkjaaGreatDoor
open Go.RowKit Go.Sort
set_option linter.unusedVariables false

theorem condWeakA (k : Int) (w : World) : Calls Tryz.prog 107 #[.int .i64 k] w (RetQ w (.bool (weak true k))) := by
  by_cases h4 : k = 4
  · subst h4
    go_enter Tryz.func107, Tryz.ntmps107
    go_wp2
    go_ret
    exact ⟨rfl, (by repeat (first | exact QW.refl _ | refine QW.d ?_ _))⟩
  · have z4 : (k == 4) = false := by simpa using h4
    have e : weak true k = (k == 5) := by unfold weak; rw [decide_eq_false h4]; simp only [Bool.and_false, Bool.false_or]; rw [Bool.eq_iff_iff]; simp
    have E := hid e
    clear e h4
    go_enter Tryz.func107, Tryz.ntmps107
    go_wp2
    go_ret
    exact ⟨ret_bool E.out.symm, (by repeat (first | exact QW.refl _ | refine QW.d ?_ _))⟩
theorem condWeakO (k : Int) (w : World) : Calls Tryz.prog 111 #[.int .i64 k] w (RetQ w (.bool (weak false k))) := by
  have e : weak false k = (k == 5) := by unfold weak; simp only [Bool.false_and, Bool.false_or]; rw [Bool.eq_iff_iff]; simp
  have E := hid e
  clear e
  go_enter Tryz.func111, Tryz.ntmps111
  go_wp2
  go_ret
  exact ⟨ret_bool E.out.symm, (by repeat (first | exact QW.refl _ | refine QW.d ?_ _))⟩

abbrev prT : TypeId := 92
/-- what a part of the printer leaves -/
def RetPr (w0 w : World) (b : Nat) (arch : Int) (l : Tx) (e : Ending) (w' : World) : Prop :=
  e = .returned (.tuple #[]) ∧ Bld w' w0.heap.size b prT [.int .i64 arch] l ∧ Below w0.heap.size w0 w' ∧ Lib.OthersKept u8T (some b) w w'
/-- a node's walk is known -/
def PNode (arch : Int) (x : Nd) : Prop := ∀ (w0 w : World) (b : Nat) (l : Tx), NdIn w0 x → Gl w0 → Below w0.heap.size w0 w → Bld w w0.heap.size b prT [.int .i64 arch] l → l.length + 100 * cntN x ≤ 1000000 →
  Calls Tryz.prog 70 #[.pointer (some ⟨b, 0, none⟩), vN x] w (RetPr w0 w b arch (l ++ textN arch x))
theorem ndT_ne : 35 ≠ u8T := by decide
theorem pWrite {w0 w : World} {b : Nat} {arch : Int} {l : Tx} (s : Tx) (hB : Below w0.heap.size w0 w) (h : Bld w w0.heap.size b prT [.int .i64 arch] l) (hl : l.length + s.length ≤ 2000000) :
    Calls Tryz.prog 29 #[.pointer (some ⟨b, 0, none⟩), .string (tx s)] w fun e w' => e = .returned (.tuple #[.int .i64 s.length, .nilIface]) ∧ Bld w' w0.heap.size b prT [.int .i64 arch] (l ++ s) ∧ Below w0.heap.size w0 w' ∧ Lib.OthersKept u8T (some b) w w' :=
  (bldWrite w0.heap.size b prT [.int .i64 arch] l s w bldT3 h (by omega) hB.size).mono fun e w' ⟨he, h1, h2, h3⟩ => ⟨he, h1, hB.trans h2, h3⟩
theorem others_trans {b : Option Nat} {u v w : World} (h : Lib.OthersKept u8T b u v) (k : Lib.OthersKept u8T b v w) : Lib.OthersKept u8T b u w := h.trans k
set_option maxRecDepth 100000 in
set_option maxHeartbeats 3200000 in
theorem condKid (arch : Int) (x : Nd) (br : Bool) (H : PNode arch x) (ho : OkN arch x) (w0 w : World) (b : Nat) (l : Tx) (hI : NdIn w0 x) (g : Gl w0) (hB : Below w0.heap.size w0 w) (hP : Bld w w0.heap.size b prT [.int .i64 arch] l) (hl : l.length + 10 + 100 * cntN x ≤ 1000000) :
    Calls Tryz.prog 109 #[.pointer (some ⟨b, 0, none⟩), vN x, .bool br] w (RetPr w0 w b arch (l ++ inB br (textN arch x))) := by
  have hbb := hP.base
  have hne : w.heap.size ≠ b := by omega
  have B := al w (mkN x)
  have hP := hP.below B
  have hB := hB.trans (B.mono hB.size)
  have KB := others_below (some b) B
  have b0 : Blk (w.alloc (mkN x)) w.heap.size (cN x) 35 := Blk.new w _ _
  have HI := hid hI; have HG := hid g; have HH := hid H
  have hln := textN_len ho
  clear H hI g ho B
  cases br
  · have HN := HH.out w0 (w.alloc (mkN x)) b l HI.out HG.out hB hP (by omega)
    have HN := hid HN
    have HE := hid (show inB false (textN arch x) = textN arch x from rfl)
    clear hB hP b0
    rw [HE.out]
    generalize textN arch x = s at *
    go_enter Tryz.func109, Tryz.ntmps109
    go_wp2_with fail
    refine HN.out.mono ?_
    rintro e w1 ⟨rfl, hP, hB, K⟩
    have K := others_trans KB K
    go_wp2_with fail
    go_end0
    exact ⟨rfl, hP, hB, K⟩
  · have W1 := pWrite [40] hB hP (by simp; omega)
    have W1 := hid W1
    have HE := hid (show l ++ inB true (textN arch x) = l ++ [40] ++ textN arch x ++ [41] by unfold inB; rw [if_pos rfl]; simp)
    clear hB hP
    rw [HE.out]
    go_enter Tryz.func109, Tryz.ntmps109
    go_wp2_with fail
    refine W1.out.mono ?_
    rintro e w1 ⟨rfl, hP, hB, K⟩
    have b1 := b0.others K hne ndT_ne
    have K1 := others_trans KB K
    obtain ⟨q0, q1, q2, q3, q4, q5⟩ : w1.cell? ⟨w.heap.size, 0, none⟩ = some (.int .i64 x.kind) ∧ w1.cell? ⟨w.heap.size, 1, none⟩ = some (.int .i64 x.th.thread) ∧ w1.cell? ⟨w.heap.size, 2, none⟩ = some (.int .i64 x.th.reg) ∧ w1.cell? ⟨w.heap.size, 3, none⟩ = some (.string (tx x.th.loc)) ∧ w1.cell? ⟨w.heap.size, 4, none⟩ = some (.int .i64 x.val) ∧ w1.cell? ⟨w.heap.size, 5, none⟩ = some (.slice x.a x.kids.length x.c) := ⟨b1.get 0 _ rfl, b1.get 1 _ rfl, b1.get 2 _ rfl, b1.get 3 _ rfl, b1.get 4 _ rfl, b1.get 5 _ rfl⟩
    have HN := hid (HH.out w0 w1 b (l ++ [40]) HI.out HG.out hB hP (by simp; omega))
    clear hB hP K b0 b1
    go_wp2_with fail
    refine HN.out.mono ?_
    rintro e w2 ⟨rfl, hP, hB, K⟩
    have K1 := others_trans K1 K
    have W2 := hid (pWrite [41] hB hP (by simp; omega))
    clear hB hP K q0 q1 q2 q3 q4 q5
    go_wp2_with fail
    refine W2.out.mono ?_
    rintro e w3 ⟨rfl, hP, hB, K⟩
    have K1 := others_trans K1 K
    go_wp2_with fail
    go_end0
    exact ⟨rfl, hP, hB, K1⟩
end Go.Proofs.YthaibjefnclkjaaGreatDoor
namespace Go.Proofs.YthaibjefnclkjaaGreatDoor
open Go.RowKit Go.Sort
set_option linter.unusedVariables false

set_option maxRecDepth 100000 in
set_option maxHeartbeats 6400000 in
theorem condKidsA (arch : Int) (a : Option Addr) (c : Nat) (ks : List Nd) (ho : ∀ y ∈ ks, OkN arch y) (H : ∀ y ∈ ks, PNode arch y) (w0 w : World) (b : Nat) (l : Tx) (hE : Els cN w0 a ks) (hI : ∀ y ∈ ks, NdIn w0 y) (g : Gl w0) (hB : Below w0.heap.size w0 w) (hP : Bld w w0.heap.size b prT [.int .i64 arch] l) (hl : l.length + 100 * cntL ks ≤ 999900) :
    Calls Tryz.prog 110 #[.pointer (some ⟨b, 0, none⟩), .slice a ks.length c, .string ⟨#[32, 47, 92, 32]⟩, .func (.func 107) #[] #[]] w (RetPr w0 w b arch (l ++ textL arch true sepA ks)) := by
  obtain ⟨n, hn⟩ : ∃ n, ks.length = n := ⟨_, rfl⟩
  have HN := hid hn
  have hnl := hE.len
  rw [hn] at hnl ⊢
  have HO := hid ho; have HH := hid H; have HI := hid hI; have HG := hid g; have HE := hid hE
  have K0 := Lib.OthersKept.refl u8T (some b) w
  clear ho H hI g hE hn
  go_enter Tryz.func110, Tryz.ntmps110
  go_wp2_with fail
  go_loopw [12] (fun i wr => ∃ (k : Nat) (t : Tx), k ≤ n ∧ i = .int .i64 k ∧ Bld wr w0.heap.size b prT [.int .i64 arch] (l ++ t) ∧ Below w0.heap.size w0 wr ∧ Lib.OthersKept u8T (some b) w wr ∧ Hid (t = textL arch true sepA (ks.take k))) (fun i _ => n - (intOf i).toNat)
  case atStart => exact ⟨0, [], Nat.zero_le _, rfl, by rw [List.append_nil]; exact hP, hB, K0, hid (by rw [List.take_zero, textL_nil])⟩
  case round =>
    obtain ⟨k, t, hk, rfl, hP, hB, K, HT⟩ := hrel
    by_cases hlk : k < n
    · obtain ⟨y, hy⟩ : ∃ y, ks[k]? = some y := ⟨_, List.getElem?_eq_getElem (by rw [HN.out]; exact hlk)⟩
      have hym := List.mem_of_getElem? hy
      have hEr := HE.out.below hB
      obtain ⟨p0, p1, p2, p3, p4, p5⟩ := hEr.nd hy
      have ix := hEr.idx ndl cN_len k (by rw [HN.out]; exact hlk) c
      rw [HN.out] at ix
      have htk := textL_take (arch := arch) (and := true) (sep := sepA) hy
      have hlen := textL_len (arch := arch) (and := true) (sep := sepA) (by simp [sepA]) (l := ks.take k) (fun z hz => HO.out z (List.mem_of_mem_take hz))
      have hlen2 : cntL (ks.take k) + cntN y ≤ cntL ks := by
        have h1 := cntL_app (ks.take (k + 1)) (ks.drop (k + 1))
        rw [List.take_append_drop] at h1
        have h2 : ks.take (k + 1) = ks.take k ++ [y] := by
          obtain ⟨hlt, rfl⟩ := List.getElem?_eq_some_iff.1 hy
          exact List.take_succ_eq_append_getElem hlt
        rw [h2, cntL_app, cntL_cons, cntL_nil] at h1
        omega
      rw [← HT.out] at hlen htk
      have hA : Below wr.heap.size wr (wr.alloc (mkN y)) := al wr (mkN y)
      have hPA := hP.below hA
      have hBA := hB.trans (hA.mono hB.size)
      have KA := others_trans K (others_below (some b) hA)
      have bA : Blk (wr.alloc (mkN y)) wr.heap.size (cN y) 35 := Blk.new wr _ _
      have hne : wr.heap.size ≠ b := by have := hP.base; omega
      have KD := hid (fun (w1 : World) (l1 : Tx) (hB : Below w0.heap.size w0 w1) (hP : Bld w1 w0.heap.size b prT [.int .i64 arch] l1) (h : l1.length + 10 + 100 * cntN y ≤ 1000000) => condKid arch y (weak true y.kind) (HH.out y hym) (HO.out y hym) w0 w1 b l1 (HI.out y hym) HG.out hB hP h)
      have WK := hid (condWeakA y.kind)
      obtain ⟨wk, hwk⟩ : ∃ wk, weak true y.kind = wk := ⟨_, rfl⟩
      rw [hwk] at KD WK htk
      obtain ⟨s1, hs1⟩ : ∃ s1, inB wk (textN arch y) = s1 := ⟨_, rfl⟩
      rw [hs1] at KD htk
      clear hwk hs1 hEr hym hy hP hB K hA
      by_cases h0 : k = 0
      · subst h0
        rw [if_pos rfl, List.append_nil] at htk
        have HT2 := hid htk.symm
        simp only [Nat.zero_mul, Nat.add_zero, Int.ofNat_zero] at p0 p1 p2 p3 p4 p5 ix
        clear htk HT hk
        go_upto_region 5 with (fail)
        generalize wr.alloc (mkN y) = W1 at *
        have u0 := bA.get 0 _ rfl; have u1 := bA.get 1 _ rfl; have u2 := bA.get 2 _ rfl; have u3 := bA.get 3 _ rfl; have u4 := bA.get 4 _ rfl; have u5 := bA.get 5 _ rfl
        clear p0 p1 p2 p3 p4 p5 ix
        obtain ⟨W2, hW2⟩ : ∃ W2 : World, W2 = W1.drew := ⟨_, rfl⟩
        have dB := below_drewN W1 1
        have hPA : Bld W2 w0.heap.size b prT [.int .i64 arch] (l ++ t) := by rw [hW2]; exact hPA.below dB
        have hBA : Below w0.heap.size w0 W2 := by rw [hW2]; exact hBA.trans (dB.mono hBA.size)
        have KA : Lib.OthersKept u8T (some b) w W2 := by rw [hW2]; exact others_trans KA (others_below (some b) dB)
        have bA : Blk W2 wr.heap.size (cN y) 35 := by rw [hW2]; exact bA.below dB
        subst hW2
        go_region_held3 (fun w' => w'.cell? ⟨wr.heap.size, 0, none⟩ = some (.int .i64 y.kind) ∧ w'.cell? ⟨wr.heap.size, 1, none⟩ = some (.int .i64 y.th.thread) ∧ w'.cell? ⟨wr.heap.size, 2, none⟩ = some (.int .i64 y.th.reg) ∧ w'.cell? ⟨wr.heap.size, 3, none⟩ = some (.string (tx y.th.loc)) ∧ w'.cell? ⟨wr.heap.size, 4, none⟩ = some (.int .i64 y.val) ∧ w'.cell? ⟨wr.heap.size, 5, none⟩ = some (.slice y.a y.kids.length y.c)) (first | exact ⟨by assumption, by assumption, by assumption, by assumption, by assumption, by assumption⟩ | go_keep)
          (first
            | (go_at_call 107; refine (WK.out _).mono ?_; rintro e w5 ⟨rfl, Q⟩; have Q := Q.below; have u0 := (Q.cell (cell?_lt u0)).trans u0; have u1 := (Q.cell (cell?_lt u1)).trans u1; have u2 := (Q.cell (cell?_lt u2)).trans u2; have u3 := (Q.cell (cell?_lt u3)).trans u3; have u4 := (Q.cell (cell?_lt u4)).trans u4; have u5 := (Q.cell (cell?_lt u5)).trans u5; have bA := bA.below Q; have hPA := hPA.below Q; have KA := others_trans KA (others_below (some b) Q); have hBA := hBA.trans (Q.mono hBA.size); clear Q)
            | (go_at_call 109; refine (KD.out _ _ hBA hPA (by simp only [List.length_append]; omega)).mono ?_; rintro e w6 ⟨rfl, hPA, hBA, K6⟩; have KA := others_trans KA K6; have bA := bA.others K6 hne ndT_ne; clear K6; have u0 := bA.get 0 _ rfl; have u1 := bA.get 1 _ rfl; have u2 := bA.get 2 _ rfl; have u3 := bA.get 3 _ rfl; have u4 := bA.get 4 _ rfl; have u5 := bA.get 5 _ rfl))
        clear u0 u1 u2 u3 u4 u5 bA
        go_wp2_with fail
        go_roundw
        case rel => exact ⟨1, t ++ s1, by omega, by go_num, by rw [← List.append_assoc]; assumption, by assumption, by assumption, HT2⟩
        case measure => simp [intOf]; omega
      · have h0' : 0 < k := by omega
        have zk : (0 : Int) < k := by omega
        rw [if_neg h0] at htk
        have HT2 := hid htk.symm
        clear htk HT h0
        go_upto_region 4 with (fail)
        generalize wr.alloc (mkN y) = W0 at *
        have W4 := hid (pWrite sepA hBA hPA (by simp [sepA]; omega))
        clear hPA hBA p0 p1 p2 p3 p4 p5 ix
        go_wp2_with fail
        refine W4.out.mono ?_
        rintro e W1 ⟨rfl, hPA, hBA, K4⟩
        have KA := others_trans KA K4
        have bA := bA.others K4 hne ndT_ne
        have hPA : Bld W1 w0.heap.size b prT [.int .i64 arch] (l ++ (t ++ sepA)) := by rw [← List.append_assoc]; exact hPA
        have hsl : (sepA : Tx).length = 4 := rfl
        clear W4 K4
        go_wp2_with fail
        have u0 := bA.get 0 _ rfl; have u1 := bA.get 1 _ rfl; have u2 := bA.get 2 _ rfl; have u3 := bA.get 3 _ rfl; have u4 := bA.get 4 _ rfl; have u5 := bA.get 5 _ rfl
        obtain ⟨W2, hW2⟩ : ∃ W2 : World, W2 = W1.drew := ⟨_, rfl⟩
        have dB := below_drewN W1 1
        have hPA : Bld W2 w0.heap.size b prT [.int .i64 arch] (l ++ (t ++ sepA)) := by rw [hW2]; exact hPA.below dB
        have hBA : Below w0.heap.size w0 W2 := by rw [hW2]; exact hBA.trans (dB.mono hBA.size)
        have KA : Lib.OthersKept u8T (some b) w W2 := by rw [hW2]; exact others_trans KA (others_below (some b) dB)
        have bA : Blk W2 wr.heap.size (cN y) 35 := by rw [hW2]; exact bA.below dB
        subst hW2
        go_region_held3 (fun w' => w'.cell? ⟨wr.heap.size, 0, none⟩ = some (.int .i64 y.kind) ∧ w'.cell? ⟨wr.heap.size, 1, none⟩ = some (.int .i64 y.th.thread) ∧ w'.cell? ⟨wr.heap.size, 2, none⟩ = some (.int .i64 y.th.reg) ∧ w'.cell? ⟨wr.heap.size, 3, none⟩ = some (.string (tx y.th.loc)) ∧ w'.cell? ⟨wr.heap.size, 4, none⟩ = some (.int .i64 y.val) ∧ w'.cell? ⟨wr.heap.size, 5, none⟩ = some (.slice y.a y.kids.length y.c)) (first | exact ⟨by assumption, by assumption, by assumption, by assumption, by assumption, by assumption⟩ | go_keep)
          (first
            | (go_at_call 107; refine (WK.out _).mono ?_; rintro e w5 ⟨rfl, Q⟩; have Q := Q.below; have u0 := (Q.cell (cell?_lt u0)).trans u0; have u1 := (Q.cell (cell?_lt u1)).trans u1; have u2 := (Q.cell (cell?_lt u2)).trans u2; have u3 := (Q.cell (cell?_lt u3)).trans u3; have u4 := (Q.cell (cell?_lt u4)).trans u4; have u5 := (Q.cell (cell?_lt u5)).trans u5; have bA := bA.below Q; have hPA := hPA.below Q; have KA := others_trans KA (others_below (some b) Q); have hBA := hBA.trans (Q.mono hBA.size); clear Q)
            | (go_at_call 109; refine (KD.out _ _ hBA hPA (by simp only [List.length_append]; omega)).mono ?_; rintro e w6 ⟨rfl, hPA, hBA, K6⟩; have KA := others_trans KA K6; have bA := bA.others K6 hne ndT_ne; clear K6; have u0 := bA.get 0 _ rfl; have u1 := bA.get 1 _ rfl; have u2 := bA.get 2 _ rfl; have u3 := bA.get 3 _ rfl; have u4 := bA.get 4 _ rfl; have u5 := bA.get 5 _ rfl))
        clear u0 u1 u2 u3 u4 u5 bA
        go_wp2_with fail
        go_roundw
        case rel => exact ⟨k + 1, t ++ sepA ++ s1, by omega, by go_num, by rw [← List.append_assoc]; assumption, by assumption, by assumption, HT2⟩
        case measure => simp [intOf]; omega
    · obtain rfl : k = n := by omega
      have HT2 := hid (show textL arch true sepA ks = t by rw [HT.out, ← HN.out, List.take_length])
      clear HT
      go_wp2_with fail
      go_end0
      exact ⟨rfl, by rw [HT2.out]; exact hP, hB, K⟩
set_option maxRecDepth 100000 in
set_option maxHeartbeats 6400000 in
theorem condKidsO (arch : Int) (a : Option Addr) (c : Nat) (ks : List Nd) (ho : ∀ y ∈ ks, OkN arch y) (H : ∀ y ∈ ks, PNode arch y) (w0 w : World) (b : Nat) (l : Tx) (hE : Els cN w0 a ks) (hI : ∀ y ∈ ks, NdIn w0 y) (g : Gl w0) (hB : Below w0.heap.size w0 w) (hP : Bld w w0.heap.size b prT [.int .i64 arch] l) (hl : l.length + 100 * cntL ks ≤ 999900) :
    Calls Tryz.prog 110 #[.pointer (some ⟨b, 0, none⟩), .slice a ks.length c, .string ⟨#[32, 92, 47, 32]⟩, .func (.func 111) #[] #[]] w (RetPr w0 w b arch (l ++ textL arch false sepO ks)) := by
  obtain ⟨n, hn⟩ : ∃ n, ks.length = n := ⟨_, rfl⟩
  have HN := hid hn
  have hnl := hE.len
  rw [hn] at hnl ⊢
  have HO := hid ho; have HH := hid H; have HI := hid hI; have HG := hid g; have HE := hid hE
  have K0 := Lib.OthersKept.refl u8T (some b) w
  clear ho H hI g hE hn
  go_enter Tryz.func110, Tryz.ntmps110
  go_wp2_with fail
  go_loopw [12] (fun i wr => ∃ (k : Nat) (t : Tx), k ≤ n ∧ i = .int .i64 k ∧ Bld wr w0.heap.size b prT [.int .i64 arch] (l ++ t) ∧ Below w0.heap.size w0 wr ∧ Lib.OthersKept u8T (some b) w wr ∧ Hid (t = textL arch false sepO (ks.take k))) (fun i _ => n - (intOf i).toNat)
  case atStart => exact ⟨0, [], Nat.zero_le _, rfl, by rw [List.append_nil]; exact hP, hB, K0, hid (by rw [List.take_zero, textL_nil])⟩
  case round =>
    obtain ⟨k, t, hk, rfl, hP, hB, K, HT⟩ := hrel
    by_cases hlk : k < n
    · obtain ⟨y, hy⟩ : ∃ y, ks[k]? = some y := ⟨_, List.getElem?_eq_getElem (by rw [HN.out]; exact hlk)⟩
      have hym := List.mem_of_getElem? hy
      have hEr := HE.out.below hB
      obtain ⟨p0, p1, p2, p3, p4, p5⟩ := hEr.nd hy
      have ix := hEr.idx ndl cN_len k (by rw [HN.out]; exact hlk) c
      rw [HN.out] at ix
      have htk := textL_take (arch := arch) (and := false) (sep := sepO) hy
      have hlen := textL_len (arch := arch) (and := false) (sep := sepO) (by simp [sepO]) (l := ks.take k) (fun z hz => HO.out z (List.mem_of_mem_take hz))
      have hlen2 : cntL (ks.take k) + cntN y ≤ cntL ks := by
        have h1 := cntL_app (ks.take (k + 1)) (ks.drop (k + 1))
        rw [List.take_append_drop] at h1
        have h2 : ks.take (k + 1) = ks.take k ++ [y] := by
          obtain ⟨hlt, rfl⟩ := List.getElem?_eq_some_iff.1 hy
          exact List.take_succ_eq_append_getElem hlt
        rw [h2, cntL_app, cntL_cons, cntL_nil] at h1
        omega
      rw [← HT.out] at hlen htk
      have hA : Below wr.heap.size wr (wr.alloc (mkN y)) := al wr (mkN y)
      have hPA := hP.below hA
      have hBA := hB.trans (hA.mono hB.size)
      have KA := others_trans K (others_below (some b) hA)
      have bA : Blk (wr.alloc (mkN y)) wr.heap.size (cN y) 35 := Blk.new wr _ _
      have hne : wr.heap.size ≠ b := by have := hP.base; omega
      have KD := hid (fun (w1 : World) (l1 : Tx) (hB : Below w0.heap.size w0 w1) (hP : Bld w1 w0.heap.size b prT [.int .i64 arch] l1) (h : l1.length + 10 + 100 * cntN y ≤ 1000000) => condKid arch y (weak false y.kind) (HH.out y hym) (HO.out y hym) w0 w1 b l1 (HI.out y hym) HG.out hB hP h)
      have WK := hid (condWeakO y.kind)
      obtain ⟨wk, hwk⟩ : ∃ wk, weak false y.kind = wk := ⟨_, rfl⟩
      rw [hwk] at KD WK htk
      obtain ⟨s1, hs1⟩ : ∃ s1, inB wk (textN arch y) = s1 := ⟨_, rfl⟩
      rw [hs1] at KD htk
      clear hwk hs1 hEr hym hy hP hB K hA
      by_cases h0 : k = 0
      · subst h0
        rw [if_pos rfl, List.append_nil] at htk
        have HT2 := hid htk.symm
        simp only [Nat.zero_mul, Nat.add_zero, Int.ofNat_zero] at p0 p1 p2 p3 p4 p5 ix
        clear htk HT hk
        go_upto_region 5 with (fail)
        generalize wr.alloc (mkN y) = W1 at *
        have u0 := bA.get 0 _ rfl; have u1 := bA.get 1 _ rfl; have u2 := bA.get 2 _ rfl; have u3 := bA.get 3 _ rfl; have u4 := bA.get 4 _ rfl; have u5 := bA.get 5 _ rfl
        clear p0 p1 p2 p3 p4 p5 ix
        obtain ⟨W2, hW2⟩ : ∃ W2 : World, W2 = W1.drew := ⟨_, rfl⟩
        have dB := below_drewN W1 1
        have hPA : Bld W2 w0.heap.size b prT [.int .i64 arch] (l ++ t) := by rw [hW2]; exact hPA.below dB
        have hBA : Below w0.heap.size w0 W2 := by rw [hW2]; exact hBA.trans (dB.mono hBA.size)
        have KA : Lib.OthersKept u8T (some b) w W2 := by rw [hW2]; exact others_trans KA (others_below (some b) dB)
        have bA : Blk W2 wr.heap.size (cN y) 35 := by rw [hW2]; exact bA.below dB
        subst hW2
        go_region_held3 (fun w' => w'.cell? ⟨wr.heap.size, 0, none⟩ = some (.int .i64 y.kind) ∧ w'.cell? ⟨wr.heap.size, 1, none⟩ = some (.int .i64 y.th.thread) ∧ w'.cell? ⟨wr.heap.size, 2, none⟩ = some (.int .i64 y.th.reg) ∧ w'.cell? ⟨wr.heap.size, 3, none⟩ = some (.string (tx y.th.loc)) ∧ w'.cell? ⟨wr.heap.size, 4, none⟩ = some (.int .i64 y.val) ∧ w'.cell? ⟨wr.heap.size, 5, none⟩ = some (.slice y.a y.kids.length y.c)) (first | exact ⟨by assumption, by assumption, by assumption, by assumption, by assumption, by assumption⟩ | go_keep)
          (first
            | (go_at_call 111; refine (WK.out _).mono ?_; rintro e w5 ⟨rfl, Q⟩; have Q := Q.below; have u0 := (Q.cell (cell?_lt u0)).trans u0; have u1 := (Q.cell (cell?_lt u1)).trans u1; have u2 := (Q.cell (cell?_lt u2)).trans u2; have u3 := (Q.cell (cell?_lt u3)).trans u3; have u4 := (Q.cell (cell?_lt u4)).trans u4; have u5 := (Q.cell (cell?_lt u5)).trans u5; have bA := bA.below Q; have hPA := hPA.below Q; have KA := others_trans KA (others_below (some b) Q); have hBA := hBA.trans (Q.mono hBA.size); clear Q)
            | (go_at_call 109; refine (KD.out _ _ hBA hPA (by simp only [List.length_append]; omega)).mono ?_; rintro e w6 ⟨rfl, hPA, hBA, K6⟩; have KA := others_trans KA K6; have bA := bA.others K6 hne ndT_ne; clear K6; have u0 := bA.get 0 _ rfl; have u1 := bA.get 1 _ rfl; have u2 := bA.get 2 _ rfl; have u3 := bA.get 3 _ rfl; have u4 := bA.get 4 _ rfl; have u5 := bA.get 5 _ rfl))
        clear u0 u1 u2 u3 u4 u5 bA
        go_wp2_with fail
        go_roundw
        case rel => exact ⟨1, t ++ s1, by omega, by go_num, by rw [← List.append_assoc]; assumption, by assumption, by assumption, HT2⟩
        case measure => simp [intOf]; omega
      · have h0' : 0 < k := by omega
        have zk : (0 : Int) < k := by omega
        rw [if_neg h0] at htk
        have HT2 := hid htk.symm
        clear htk HT h0
        go_upto_region 4 with (fail)
        generalize wr.alloc (mkN y) = W0 at *
        have W4 := hid (pWrite sepO hBA hPA (by simp [sepO]; omega))
        clear hPA hBA p0 p1 p2 p3 p4 p5 ix
        go_wp2_with fail
        refine W4.out.mono ?_
        rintro e W1 ⟨rfl, hPA, hBA, K4⟩
        have KA := others_trans KA K4
        have bA := bA.others K4 hne ndT_ne
        have hPA : Bld W1 w0.heap.size b prT [.int .i64 arch] (l ++ (t ++ sepO)) := by rw [← List.append_assoc]; exact hPA
        have hsl : (sepO : Tx).length = 4 := rfl
        clear W4 K4
        go_wp2_with fail
        have u0 := bA.get 0 _ rfl; have u1 := bA.get 1 _ rfl; have u2 := bA.get 2 _ rfl; have u3 := bA.get 3 _ rfl; have u4 := bA.get 4 _ rfl; have u5 := bA.get 5 _ rfl
        obtain ⟨W2, hW2⟩ : ∃ W2 : World, W2 = W1.drew := ⟨_, rfl⟩
        have dB := below_drewN W1 1
        have hPA : Bld W2 w0.heap.size b prT [.int .i64 arch] (l ++ (t ++ sepO)) := by rw [hW2]; exact hPA.below dB
        have hBA : Below w0.heap.size w0 W2 := by rw [hW2]; exact hBA.trans (dB.mono hBA.size)
        have KA : Lib.OthersKept u8T (some b) w W2 := by rw [hW2]; exact others_trans KA (others_below (some b) dB)
        have bA : Blk W2 wr.heap.size (cN y) 35 := by rw [hW2]; exact bA.below dB
        subst hW2
        go_region_held3 (fun w' => w'.cell? ⟨wr.heap.size, 0, none⟩ = some (.int .i64 y.kind) ∧ w'.cell? ⟨wr.heap.size, 1, none⟩ = some (.int .i64 y.th.thread) ∧ w'.cell? ⟨wr.heap.size, 2, none⟩ = some (.int .i64 y.th.reg) ∧ w'.cell? ⟨wr.heap.size, 3, none⟩ = some (.string (tx y.th.loc)) ∧ w'.cell? ⟨wr.heap.size, 4, none⟩ = some (.int .i64 y.val) ∧ w'.cell? ⟨wr.heap.size, 5, none⟩ = some (.slice y.a y.kids.length y.c)) (first | exact ⟨by assumption, by assumption, by assumption, by assumption, by assumption, by assumption⟩ | go_keep)
          (first
            | (go_at_call 111; refine (WK.out _).mono ?_; rintro e w5 ⟨rfl, Q⟩; have Q := Q.below; have u0 := (Q.cell (cell?_lt u0)).trans u0; have u1 := (Q.cell (cell?_lt u1)).trans u1; have u2 := (Q.cell (cell?_lt u2)).trans u2; have u3 := (Q.cell (cell?_lt u3)).trans u3; have u4 := (Q.cell (cell?_lt u4)).trans u4; have u5 := (Q.cell (cell?_lt u5)).trans u5; have bA := bA.below Q; have hPA := hPA.below Q; have KA := others_trans KA (others_below (some b) Q); have hBA := hBA.trans (Q.mono hBA.size); clear Q)
            | (go_at_call 109; refine (KD.out _ _ hBA hPA (by simp only [List.length_append]; omega)).mono ?_; rintro e w6 ⟨rfl, hPA, hBA, K6⟩; have KA := others_trans KA K6; have bA := bA.others K6 hne ndT_ne; clear K6; have u0 := bA.get 0 _ rfl; have u1 := bA.get 1 _ rfl; have u2 := bA.get 2 _ rfl; have u3 := bA.get 3 _ rfl; have u4 := bA.get 4 _ rfl; have u5 := bA.get 5 _ rfl))
        clear u0 u1 u2 u3 u4 u5 bA
        go_wp2_with fail
        go_roundw
        case rel => exact ⟨k + 1, t ++ sepO ++ s1, by omega, by go_num, by rw [← List.append_assoc]; assumption, by assumption, by assumption, HT2⟩
        case measure => simp [intOf]; omega
    · obtain rfl : k = n := by omega
      have HT2 := hid (show textL arch false sepO ks = t by rw [HT.out, ← HN.out, List.take_length])
      clear HT
      go_wp2_with fail
      go_end0
      exact ⟨rfl, by rw [HT2.out]; exact hP, hB, K⟩
end Go.Proofs.YthaibjefnclkjaaGreatDoor
