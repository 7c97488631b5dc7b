/- Steps towards: PageUnlike: unlike columns have unlike pages, for every type, every leaf and every two columns; no condition beside the row's own (the library's listed variables hold what the program's text lays). -/
import Derived.WideShapes
import Derived.Test.YtkcmkedboflklaaGreatDoorA2
import Derived.Test.YtkcmkedboflklaaGreatDoorA1
import Derived.Test.YtkcmkedboflklaaGreatDoorA7
namespace Go.Proofs.YtkcmkedboflklaaGreatDoor.Q
open Go.RowKit Go.Proofs.YtkcmkedboflklaaGreatDoorW.PrintWords Go.Proofs.YtkcmkedboflklaaGreatDoorW.PrintLast Go.Proofs.YtkcmkedboflklaaGreatDoorW.PrintMore
attribute [local go_sem] max2_int min2_int max_two min_two max_three min_three max_four min_four
set_option linter.unusedVariables false
set_option linter.unusedSimpArgs false
set_option maxHeartbeats 8000000
set_option maxRecDepth 100000

-- GIVEN (*quiver/value.taker).number name=value_taker_number rounds=0 g=1
-- IMPORT Derived.Test.YtkcmkedboflklaaGreatDoorShelf
-- IMPORT Derived.WideShapes
/-! strconv.Atoi by the shelf's contracts; number over it. -/
def atoiV (s : ByteArray) : Int := match Lib.atoiAll s.data.toList with | .ok v => v | .range => Lib.atoiSat s.data.toList | _ => 0
def atoiB (s : ByteArray) : Bool := match Lib.atoiAll s.data.toList with | .ok _ => true | _ => false
theorem Atoi_yes (s : ByteArray) (hl : s.size ≤ 281474976710656) (hb : atoiB s = true) (w : World) :
    Calls Tryz.prog 73 #[.string s] w fun e w' => e = .returned (.tuple #[.int .i64 (atoiV s), .nilIface]) ∧ Below w.heap.size w w' := by
  unfold atoiB at hb; unfold atoiV
  rcases ha : Lib.atoiAll s.data.toList with v | _ | _
  · refine (Go.Proofs.Tryz.strconv_Atoi_ok s (by omega) v ha w).mono ?_
    rintro e w' ⟨rfl, hw⟩
    refine ⟨rfl, ?_⟩
    rcases hw with rfl | ⟨t, rfl⟩
    · exact Below.refl _ _
    · exact Lib.bytesWorld_below _ _ _
  · simp [ha] at hb
  · simp [ha] at hb
theorem Atoi_no (s : ByteArray) (hl : s.size ≤ 281474976710656) (hb : atoiB s = false) (w : World) (hG : GL w) :
    Calls Tryz.prog 73 #[.string s] w fun e w' => (∃ t p, e = .returned (.tuple #[.int .i64 (atoiV s), .iface t p])) ∧ Below w.heap.size w w' := by
  unfold atoiB at hb; unfold atoiV
  obtain ⟨_, _, ⟨t1, p1, h1⟩, ⟨t2, p2, h2⟩⟩ := hG
  rcases ha : Lib.atoiAll s.data.toList with v | _ | _
  · simp [ha] at hb
  · refine (Go.Proofs.Tryz.strconv_Atoi_bad_var s hl (fun v e => by rw [ha] at e; cases e) (fun e => by rw [ha] at e; cases e) t1 p1 w h1).mono ?_
    rintro e w' ⟨N, rfl, _, _, hw⟩
    exact ⟨⟨_, _, rfl⟩, hw⟩
  · refine (Go.Proofs.Tryz.strconv_Atoi_range_var s hl ha t2 p2 w h2).mono ?_
    rintro e w' ⟨N, rfl, _, _, hw⟩
    exact ⟨⟨_, _, rfl⟩, hw⟩
def value_taker_number.f (s0_0 : ByteArray) (s0_1 : Bool) (a1 : ByteArray) : Option (Int × ByteArray × ByteArray × Bool) :=
  (strings_Cut.f s0_0 a1).bind fun c => if c.1.size ≤ 281474976710656 then (if c.2.2 = true ∧ atoiB c.1 = true ∧ strconv_Itoa.f (atoiV c.1) = some c.1 then some (atoiV c.1, c.1, c.2.1, s0_1) else if c.2.2 = true ∧ atoiB c.1 = true ∧ strconv_Itoa.f (atoiV c.1) = none then none else some (atoiV c.1, c.1, c.2.1, true)) else none
theorem toList_inj_ {a b : ByteArray} (h : a.toList = b.toList) : a = b := by
  apply Go.WideShapes.bytes_inj; rw [← ByteArray.toList_eq, ← ByteArray.toList_eq]; exact h
def StT (w0 w : World) (g : Nat) (a : ByteArray) (b : Bool) (W : World) : Prop := IsS140 w0 W g a b ∧ Below w0.heap.size w0 W ∧ KeepBut w W g none
theorem StT.step {w0 w : World} {g : Nat} {a : ByteArray} {b : Bool} {W W' : World} (h : StT w0 w g a b W) (hb : Below W.heap.size W W') : StT w0 w g a b W' :=
  ⟨h.1.below hb, below_step h.2.1 hb, KeepBut.trans h.2.2 (KeepBut.of_below hb g none) (.inl rfl)⟩
theorem StT.bel {w0 w : World} {g : Nat} {a : ByteArray} {b : Bool} {W : World} (h : StT w0 w g a b W) : Below w0.heap.size w0 W := h.2.1
theorem StT.cells {w0 w : World} {g : Nat} {a : ByteArray} {b : Bool} {W : World} (h : StT w0 w g a b W) : W.cell? ⟨g, 0, none⟩ = some (.string a) ∧ W.cell? ⟨g, 1, none⟩ = some (.bool b) ∧ W.frozen? ⟨g, 0, none⟩ = false ∧ W.frozen? ⟨g, 1, none⟩ = false :=
  ⟨cellS140_0 h.1.1, cellS140_1 h.1.1, blk_frozen h.1.1 0, blk_frozen h.1.1 1⟩
theorem StT.set0 {w0 w : World} {g : Nat} {a : ByteArray} {b : Bool} {W : World} (h : StT w0 w g a b W) (x : ByteArray) : StT w0 w g x b (W.setCell ⟨g, 0, none⟩ (.string x)) :=
  ⟨IsS140.set_0 h.1 _, below_set h.2.1 (IsS140.ge h.1), KeepBut.set_ h.2.2 _ _⟩
theorem StT.set1 {w0 w : World} {g : Nat} {a : ByteArray} {b : Bool} {W : World} (h : StT w0 w g a b W) (x : Bool) : StT w0 w g a x (W.setCell ⟨g, 1, none⟩ (.bool x)) :=
  ⟨IsS140.set_1 h.1 _, below_set h.2.1 (IsS140.ge h.1), KeepBut.set_ h.2.2 _ _⟩
theorem value_taker_number.calls (g : Nat) (s0_0 : ByteArray) (s0_1 : Bool) (a1 : ByteArray) (r1 : Int) (r2 r3 : ByteArray) (r4 : Bool) (w0 w : World) (hI : IsS140 w0 w g s0_0 s0_1) (hB : Below w0.heap.size w0 w) (hG : GL w0) (h : value_taker_number.f s0_0 s0_1 a1 = some (r1, r2, r3, r4)) :
    Calls Tryz.prog 133 #[.pointer (some ⟨g, 0, none⟩), .string a1] w fun e w' => e = .returned (.tuple #[.int .i64 r1, .string r2]) ∧ IsS140 w0 w' g r3 r4 ∧ Below w0.heap.size w0 w' ∧ KeepBut w w' g none := by
  have HC := am (hG.below hB)
  have HG0 := am hG
  have HS0 : Aside0 (StT w0 w g s0_0 s0_1 w) := ⟨hI, hB, KeepBut.refl w g none⟩
  clear hI hB hG
  unfold value_taker_number.f at h
  obtain ⟨⟨d, rst, is⟩, hc, h⟩ := Option.bind_eq_some_iff.mp h
  have Hc := am hc
  clear hc
  dsimp only at h
  split at h
  · rename_i hsz
    obtain ⟨q00, q01, q02, q03⟩ := HS0.out.cells
    cases is with
    | false =>
      rw [if_neg (by simp), if_neg (by simp)] at h
      simp only [Option.some.injEq, Prod.mk.injEq] at h
      obtain ⟨rfl, rfl, rfl, rfl⟩ := h
      cases hA : atoiB d with
      | true =>
        have HA := am hA
        clear hA
        go_enter Tryz.func133, Tryz.ntmps133
        go_wp2_with (first | (go_at_call 148; (with_reducible refine (strings_Cut.calls s0_0 a1 d rst false w HC.out Hc.out).mono ?_); rintro e w1 ⟨rfl, hb⟩; have HS1 := am (HS0.out.step hb); have HC1 := am (HC.out.below hb); clear hb; obtain ⟨q10, q11, q12, q13⟩ := HS1.out.cells) | (go_at_call 73; (with_reducible refine (Atoi_yes d hsz HA.out w1).mono ?_); rintro e w2 ⟨rfl, hb⟩; have HS2 := am (HS1.out.step hb); have HC2 := am (HC1.out.below hb); clear hb q10 q11 q12 q13; obtain ⟨q20, q21, q22, q23⟩ := HS2.out.cells))
        go_ret2
        exact ⟨rfl, ((HS2.out.set0 rst).set1 true)⟩
      | false =>
        have HA := am hA
        clear hA
        go_enter Tryz.func133, Tryz.ntmps133
        go_wp2_with (first | (go_at_call 148; (with_reducible refine (strings_Cut.calls s0_0 a1 d rst false w HC.out Hc.out).mono ?_); rintro e w1 ⟨rfl, hb⟩; have HS1 := am (HS0.out.step hb); have HC1 := am (HC.out.below hb); clear hb; obtain ⟨q10, q11, q12, q13⟩ := HS1.out.cells) | (go_at_call 73; (with_reducible refine (Atoi_no d hsz HA.out w1 HC1.out).mono ?_); rintro e w2 ⟨⟨te, pe, rfl⟩, hb⟩; have HS2 := am (HS1.out.step hb); clear hb q10 q11 q12 q13; obtain ⟨q20, q21, q22, q23⟩ := HS2.out.cells))
        go_ret2
        exact ⟨rfl, ((HS2.out.set0 rst).set1 true)⟩
    | true =>
      cases hA : atoiB d with
      | false =>
        rw [if_neg (by simp [hA]), if_neg (by simp [hA])] at h
        simp only [Option.some.injEq, Prod.mk.injEq] at h
        obtain ⟨rfl, rfl, rfl, rfl⟩ := h
        have HA := am hA
        clear hA
        go_enter Tryz.func133, Tryz.ntmps133
        go_wp2_with (first | (go_at_call 148; (with_reducible refine (strings_Cut.calls s0_0 a1 d rst true w HC.out Hc.out).mono ?_); rintro e w1 ⟨rfl, hb⟩; have HS1 := am (HS0.out.step hb); have HC1 := am (HC.out.below hb); clear hb; obtain ⟨q10, q11, q12, q13⟩ := HS1.out.cells) | (go_at_call 73; (with_reducible refine (Atoi_no d hsz HA.out w1 HC1.out).mono ?_); rintro e w2 ⟨⟨te, pe, rfl⟩, hb⟩; have HS2 := am (HS1.out.step hb); clear hb q10 q11 q12 q13; obtain ⟨q20, q21, q22, q23⟩ := HS2.out.cells))
        go_ret2
        exact ⟨rfl, ((HS2.out.set0 rst).set1 true)⟩
      | true =>
        cases ht : strconv_Itoa.f (atoiV d) with
        | none =>
          rw [if_neg (by simp [ht]), if_pos (by simp [ht, hA])] at h
          cases h
        | some t =>
          have HA := am hA
          have Ht := am ht
          by_cases htd : t = d
          · subst htd
            rw [if_pos (by simp [ht, hA])] at h
            simp only [Option.some.injEq, Prod.mk.injEq] at h
            obtain ⟨rfl, rfl, rfl, rfl⟩ := h
            clear hA ht
            go_enter Tryz.func133, Tryz.ntmps133
            go_wp2_with (first | (go_at_call 148; (with_reducible refine (strings_Cut.calls s0_0 a1 t rst true w HC.out Hc.out).mono ?_); rintro e w1 ⟨rfl, hb⟩; have HS1 := am (HS0.out.step hb); have HC1 := am (HC.out.below hb); clear hb; obtain ⟨q10, q11, q12, q13⟩ := HS1.out.cells) | (go_at_call 73; (with_reducible refine (Atoi_yes t hsz HA.out w1).mono ?_); rintro e w2 ⟨rfl, hb⟩; have HS2 := am (HS1.out.step hb); have HC2 := am (HC1.out.below hb); clear hb q10 q11 q12 q13; obtain ⟨q20, q21, q22, q23⟩ := HS2.out.cells) | (go_at_call 114; go_loud ((with_reducible refine (strconv_Itoa.calls (atoiV t) t _ (HG0.out.below (HS2.out.set0 rst).bel) Ht.out).mono ?_); rintro e w3 ⟨rfl, hb⟩; have HS3 := am ((HS2.out.set0 rst).step hb); clear hb q20 q21 q22 q23; obtain ⟨q30, q31, q32, q33⟩ := HS3.out.cells)))
            go_ret2
            exact ⟨rfl, HS3.out⟩
          · rw [if_neg (by simp [ht, hA, htd]), if_neg (by simp [ht, hA])] at h
            simp only [Option.some.injEq, Prod.mk.injEq] at h
            obtain ⟨rfl, rfl, rfl, rfl⟩ := h
            have hl : ¬ (t.toList = d.toList) := fun e => htd (toList_inj_ e)
            have hl2 : (t.toList == d.toList) = false := by simpa using hl
            clear hA ht htd
            go_enter Tryz.func133, Tryz.ntmps133
            go_wp2_with (first | (go_at_call 148; (with_reducible refine (strings_Cut.calls s0_0 a1 d rst true w HC.out Hc.out).mono ?_); rintro e w1 ⟨rfl, hb⟩; have HS1 := am (HS0.out.step hb); have HC1 := am (HC.out.below hb); clear hb; obtain ⟨q10, q11, q12, q13⟩ := HS1.out.cells) | (go_at_call 73; (with_reducible refine (Atoi_yes d hsz HA.out w1).mono ?_); rintro e w2 ⟨rfl, hb⟩; have HS2 := am (HS1.out.step hb); have HC2 := am (HC1.out.below hb); clear hb q10 q11 q12 q13; obtain ⟨q20, q21, q22, q23⟩ := HS2.out.cells) | (go_at_call 114; go_loud ((with_reducible refine (strconv_Itoa.calls (atoiV d) t _ (HG0.out.below (HS2.out.set0 rst).bel) Ht.out).mono ?_); rintro e w3 ⟨rfl, hb⟩; have HS3 := am ((HS2.out.set0 rst).step hb); clear hb q20 q21 q22 q23; obtain ⟨q30, q31, q32, q33⟩ := HS3.out.cells)))
            go_ret2
            exact ⟨rfl, (HS3.out.set1 true)⟩
  · cases h

def value_taker_byte.f (s0_0 : ByteArray) (s0_1 : Bool) : Option (Int × ByteArray × Bool) := if s0_0.toList = ([] : List UInt8) then (some (0, s0_0, true)) else (if 0 < (s0_0.size : Int) then (if 1 ≤ (s0_0.size : Int) then (some (bt s0_0 0, s0_0.extract 1 s0_0.size, s0_1)) else (none)) else (none))
theorem value_taker_byte.calls (g : Nat) (s0_0 : ByteArray) (s0_1 : Bool) (r1 : Int) (r2 : ByteArray) (r3 : Bool) (w0 w : World) (hI : IsS140 w0 w g s0_0 s0_1) (hB : Below w0.heap.size w0 w) (h : value_taker_byte.f s0_0 s0_1 = some (r1, r2, r3)) :
  Calls Tryz.prog 132 #[.pointer (some ⟨g, 0, none⟩)] w fun e w' => e = .returned (.int .u8 r1) ∧ IsS140 w0 w' g r2 r3 ∧ Below w0.heap.size w0 w' ∧ KeepBut w w' g none := by
 have HI0 := am hI
 have HK := am (KeepBut.refl w g none)
 have HL := am hB.size
 clear hI
 have HW0 := am hB.size
 have HB := am hB
 clear hB
 have H : (if s0_0.toList = ([] : List UInt8) then (some (0, s0_0, true)) else (if 0 < (s0_0.size : Int) then (if 1 ≤ (s0_0.size : Int) then (some (bt s0_0 0, s0_0.extract 1 s0_0.size, s0_1)) else (none)) else (none))) = some (r1, r2, r3) := h
 clear h
 by_cases c2 : s0_0.toList = ([] : List UInt8)
 ·
  rw [if_pos c2] at H
  have c2b0 := beq_iff_eq.mpr c2
  have c2b1 := bne_eq_false_iff_eq.mpr c2
  clear c2
  simp only [Option.some.injEq, Prod.mk.injEq] at H
  obtain ⟨rfl, rfl, rfl⟩ := H
  obtain ⟨HGz3, hgz3⟩ := HI0.out
  have hcz3_0 := cellS140_0 HGz3
  have hcz3_1 := cellS140_1 HGz3
  have hfz3_0 := blk_frozen HGz3 0
  have hfz3_1 := blk_frozen HGz3 1
  clear HGz3 hgz3
  go_enter Tryz.func132, Tryz.ntmps132
  go_wp2
  go_ret
  exact ⟨ze, by repeat (first | (with_reducible first | exact HI0.out | apply IsS140.alloc | apply IsS140.drewN | apply IsS140.drew | apply IsS140.set_0 | apply IsS140.set_1) | exact HI0.out), zl1 HB.out (IsS140.ge HI0.out), zk HK.out⟩
 ·
  rw [if_neg c2] at H
  have c2b0 := beq_eq_false_iff_ne.mpr c2
  have c2b1 := bne_iff_ne.mpr c2
  by_cases c4 : 0 < (s0_0.size : Int)
  ·
   rw [if_pos c4] at H
   have c4b0 := decide_eq_true c4
   have c4b1 : decide (0 < s0_0.size) = true := decide_eq_true (by omega)
   clear c4
   by_cases c6 : 1 ≤ (s0_0.size : Int)
   ·
    rw [if_pos c6] at H
    have c6b0 := eq_true c6
    have c6b1 := decide_eq_true c6
    clear c6
    simp only [Option.some.injEq, Prod.mk.injEq] at H
    obtain ⟨rfl, rfl, rfl⟩ := H
    obtain ⟨HGz7, hgz7⟩ := HI0.out
    have hcz7_0 := cellS140_0 HGz7
    have hcz7_1 := cellS140_1 HGz7
    have hfz7_0 := blk_frozen HGz7 0
    have hfz7_1 := blk_frozen HGz7 1
    clear HGz7 hgz7
    have p5 : 0 ≤ (0 : Int) := (by omega)
    have q5 : 0 < s0_0.size := (by have : (0 : Int) < (s0_0.size : Int) := of_decide_eq_true za; omega)
    have hx5 : ∀ h : 0 < s0_0.size, ((s0_0[0]'h).toNat : Int) = bt s0_0 0 := bt_at s0_0 0
    clear p5
    have qi5 : (0 < (s0_0.size : Int)) = True := eq_true (of_decide_eq_true za)
    replace q5 := eq_true q5
    go_enter Tryz.func132, Tryz.ntmps132
    go_wp2
    go_ret
    exact ⟨ze, by repeat (first | (with_reducible first | exact HI0.out | apply IsS140.alloc | apply IsS140.drewN | apply IsS140.drew | apply IsS140.set_0 | apply IsS140.set_1) | exact HI0.out), zl1 HB.out (IsS140.ge HI0.out), zk HK.out⟩
   ·
    rw [if_neg c6] at H
    exact absurd H (by simp)
  ·
   rw [if_neg c4] at H
   exact absurd H (by simp)
def value_taker_bytes.f (s0_0 : ByteArray) (s0_1 : Bool) (a1 : Int) : Option (ByteArray × ByteArray × Bool) := if s0_1 = true then (some ((⟨#[]⟩ : ByteArray), s0_0, true)) else (if a1 < 0 then (some ((⟨#[]⟩ : ByteArray), s0_0, true)) else (if a1 > (s0_0.size : Int) then (some ((⟨#[]⟩ : ByteArray), s0_0, true)) else (if 0 ≤ a1 then (if a1 ≤ (s0_0.size : Int) then (some (s0_0.extract 0 (a1 : Int).toNat, s0_0.extract (a1 : Int).toNat s0_0.size, s0_1)) else (none)) else (none))))
theorem value_taker_bytes.calls (g : Nat) (s0_0 : ByteArray) (s0_1 : Bool) (a1 : Int) (r1 : ByteArray) (r2 : ByteArray) (r3 : Bool) (w0 w : World) (hI : IsS140 w0 w g s0_0 s0_1) (hB : Below w0.heap.size w0 w) (h : value_taker_bytes.f s0_0 s0_1 a1 = some (r1, r2, r3)) :
  Calls Tryz.prog 134 #[.pointer (some ⟨g, 0, none⟩), .int .i64 a1] w fun e w' => e = .returned (.string r1) ∧ IsS140 w0 w' g r2 r3 ∧ Below w0.heap.size w0 w' ∧ KeepBut w w' g none := by
 have HI0 := am hI
 have HK := am (KeepBut.refl w g none)
 have HL := am hB.size
 clear hI
 have HW0 := am hB.size
 have HB := am hB
 clear hB
 have H : (if s0_1 = true then (some ((⟨#[]⟩ : ByteArray), s0_0, true)) else (if a1 < 0 then (some ((⟨#[]⟩ : ByteArray), s0_0, true)) else (if a1 > (s0_0.size : Int) then (some ((⟨#[]⟩ : ByteArray), s0_0, true)) else (if 0 ≤ a1 then (if a1 ≤ (s0_0.size : Int) then (some (s0_0.extract 0 (a1 : Int).toNat, s0_0.extract (a1 : Int).toNat s0_0.size, s0_1)) else (none)) else (none))))) = some (r1, r2, r3) := h
 clear h
 by_cases c3 : s0_1 = true
 ·
  subst c3
  rw [if_pos rfl] at H
  simp only [Option.some.injEq, Prod.mk.injEq] at H
  obtain ⟨rfl, rfl, rfl⟩ := H
  obtain ⟨HGz4, hgz4⟩ := HI0.out
  have hcz4_0 := cellS140_0 HGz4
  have hcz4_1 := cellS140_1 HGz4
  have hfz4_0 := blk_frozen HGz4 0
  have hfz4_1 := blk_frozen HGz4 1
  clear HGz4 hgz4
  go_enter Tryz.func134, Tryz.ntmps134
  go_wp2
  go_ret
  exact ⟨ze, by repeat (first | (with_reducible first | exact HI0.out | apply IsS140.alloc | apply IsS140.drewN | apply IsS140.drew | apply IsS140.set_0 | apply IsS140.set_1) | exact HI0.out), zl1 HB.out (IsS140.ge HI0.out), zk HK.out⟩
 ·
  replace c3 := Bool.eq_false_iff.mpr c3
  subst c3
  rw [if_neg (show ¬ (false = true) by decide)] at H
  by_cases c5 : a1 < 0
  ·
   rw [if_pos c5] at H
   have c5b0 := decide_eq_true c5
   clear c5
   simp only [Option.some.injEq, Prod.mk.injEq] at H
   obtain ⟨rfl, rfl, rfl⟩ := H
   obtain ⟨HGz6, hgz6⟩ := HI0.out
   have hcz6_0 := cellS140_0 HGz6
   have hcz6_1 := cellS140_1 HGz6
   have hfz6_0 := blk_frozen HGz6 0
   have hfz6_1 := blk_frozen HGz6 1
   clear HGz6 hgz6
   go_enter Tryz.func134, Tryz.ntmps134
   go_wp2
   go_ret
   exact ⟨ze, by repeat (first | (with_reducible first | exact HI0.out | apply IsS140.alloc | apply IsS140.drewN | apply IsS140.drew | apply IsS140.set_0 | apply IsS140.set_1) | exact HI0.out), zl1 HB.out (IsS140.ge HI0.out), zk HK.out⟩
  ·
   rw [if_neg c5] at H
   have c5b0 := decide_eq_false c5
   clear c5
   by_cases c7 : a1 > (s0_0.size : Int)
   ·
    rw [if_pos c7] at H
    have c7b0 : decide ((s0_0.size : Int) < a1) = true := decide_eq_true c7
    clear c7
    simp only [Option.some.injEq, Prod.mk.injEq] at H
    obtain ⟨rfl, rfl, rfl⟩ := H
    obtain ⟨HGz8, hgz8⟩ := HI0.out
    have hcz8_0 := cellS140_0 HGz8
    have hcz8_1 := cellS140_1 HGz8
    have hfz8_0 := blk_frozen HGz8 0
    have hfz8_1 := blk_frozen HGz8 1
    clear HGz8 hgz8
    go_enter Tryz.func134, Tryz.ntmps134
    go_wp2
    go_ret
    exact ⟨ze, by repeat (first | (with_reducible first | exact HI0.out | apply IsS140.alloc | apply IsS140.drewN | apply IsS140.drew | apply IsS140.set_0 | apply IsS140.set_1) | exact HI0.out), zl1 HB.out (IsS140.ge HI0.out), zk HK.out⟩
   ·
    rw [if_neg c7] at H
    have c7b0 : decide ((s0_0.size : Int) < a1) = false := decide_eq_false c7
    clear c7
    by_cases c9 : 0 ≤ a1
    ·
     rw [if_pos c9] at H
     have c9b0 := eq_true c9
     have c9b1 := decide_eq_true c9
     clear c9
     by_cases c10 : a1 ≤ (s0_0.size : Int)
     ·
      rw [if_pos c10] at H
      have c10b0 := eq_true c10
      have c10b1 := decide_eq_true c10
      clear c10
      have c11b0 := eq_true (of_decide_eq_true za : 0 ≤ a1)
      have c12b0 := eq_true (of_decide_eq_true za : a1 ≤ (s0_0.size : Int))
      simp only [Option.some.injEq, Prod.mk.injEq] at H
      obtain ⟨rfl, rfl, rfl⟩ := H
      obtain ⟨HGz13, hgz13⟩ := HI0.out
      have hcz13_0 := cellS140_0 HGz13
      have hcz13_1 := cellS140_1 HGz13
      have hfz13_0 := blk_frozen HGz13 0
      have hfz13_1 := blk_frozen HGz13 1
      clear HGz13 hgz13
      go_enter Tryz.func134, Tryz.ntmps134
      go_wp2
      go_ret
      exact ⟨ze, by repeat (first | (with_reducible first | exact HI0.out | apply IsS140.alloc | apply IsS140.drewN | apply IsS140.drew | apply IsS140.set_0 | apply IsS140.set_1) | exact HI0.out), zl1 HB.out (IsS140.ge HI0.out), zk HK.out⟩
     ·
      rw [if_neg c10] at H
      exact absurd H (by simp)
    ·
     rw [if_neg c9] at H
     exact absurd H (by simp)
end Go.Proofs.YtkcmkedboflklaaGreatDoor.Q
