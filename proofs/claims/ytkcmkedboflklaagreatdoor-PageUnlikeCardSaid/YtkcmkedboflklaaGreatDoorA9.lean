/- Steps towards: PageUnlike: unlike columns have unlike pages, for every type, every leaf and every two columns; no condition beside the row's own (the library's listed variables hold what the program's text lays). -/
import Derived.Test.YtkcmkedboflklaaGreatDoorA2
import Derived.Test.YtkcmkedboflklaaGreatDoorA8
import Derived.Test.YtkcmkedboflklaaGreatDoorA7
namespace Go.Proofs.YtkcmkedboflklaaGreatDoor.Q
open Go.RowKit Go.Proofs.YtkcmkedboflklaaGreatDoorW.PrintWords Go.Proofs.YtkcmkedboflklaaGreatDoorW.PrintLast Go.Proofs.YtkcmkedboflklaaGreatDoorW.PrintMore
attribute [local go_sem] max2_int min2_int max_two min_two max_three min_three max_four min_four
set_option linter.unusedVariables false
set_option linter.unusedSimpArgs false
set_option maxHeartbeats 8000000
set_option maxRecDepth 100000


mutual
def value_taker_value.j0 : Nat → Int → Int → Int → Bool → ByteArray → Bool → Option (Int × List ByteArray × ByteArray × Bool)
 | 0, _, _, _, _, _, _ => none
 | k + 1, x1, x6, x19, x31, x1000, x1001 => if x31 = true then (some (1, (([strOfNums (([x6] : List Int))] : List ByteArray)), x1000, x1001)) else (if x19 = 115 then ((value_taker_number.f x1000 x1001 (⟨#[58]⟩ : ByteArray)).bind fun bt233 => ((value_taker_bytes.f bt233.2.2.1 bt233.2.2.2 bt233.1).bind fun bt237 => (some (2, (([bt237.1] : List ByteArray)), bt237.2.1, bt237.2.2)))) else (if x19 = 91 then ((value_taker_row.f k x1000 x1001 93 (wrap64 (x1 + 1))).bind fun bt243 => (some (3, bt243.1, bt243.2.1, bt243.2.2))) else (if x19 = 123 then ((value_taker_row.f k x1000 x1001 125 (wrap64 (x1 + 1))).bind fun bt248 => (some (4, bt248.1, bt248.2.1, bt248.2.2))) else ((value_taker_fail.f x1000 x1001).bind fun bt253 => (some (bt253.1, bt253.2.1, bt253.2.2.1, bt253.2.2.2))))))
def value_taker_value.f : Nat → ByteArray → Bool → Int → Option (Int × List ByteArray × ByteArray × Bool)
 | 0, _, _, _ => none
 | k + 1, s0_0, s0_1, a1 => if a1 > 4 then ((value_taker_fail.f s0_0 s0_1).bind fun bt211 => (some (bt211.1, bt211.2.1, bt211.2.2.1, bt211.2.2.2))) else ((value_taker_byte.f s0_0 s0_1).bind fun bt217 => (if bt217.1 = 110 then (some ((-1), ([] : List ByteArray), bt217.2.1, bt217.2.2)) else (if bt217.1 = 105 then ((value_taker_number.f bt217.2.1 bt217.2.2 (⟨#[59]⟩ : ByteArray)).bind fun bt220 => (some (0, (([bt220.2.1] : List ByteArray)), bt220.2.2.1, bt220.2.2.2))) else (if bt217.1 = 116 then (value_taker_value.j0 k a1 bt217.1 bt217.1 (bt217.1 == 116) bt217.2.1 bt217.2.2) else (value_taker_value.j0 k a1 bt217.1 bt217.1 (bt217.1 == 102) bt217.2.1 bt217.2.2)))))
def value_taker_row.l0 : Nat → Int → Int → List ByteArray → ByteArray → Bool → Option (List ByteArray × ByteArray × Bool)
 | 0, _, _, _, _, _ => none
 | k + 1, x1, x2, x7, x1000, x1001 => if x1001 = true then ((value_taker_byte.f x1000 x1001).bind fun bt259 => (some (x7, bt259.2.1, bt259.2.2))) else (if x1000.toList = ([] : List UInt8) then ((value_taker_byte.f x1000 x1001).bind fun bt262 => (some (x7, bt262.2.1, bt262.2.2))) else (if 0 < (x1000.size : Int) then (if (bt x1000 0) = x1 then ((value_taker_byte.f x1000 x1001).bind fun bt265 => (some (x7, bt265.2.1, bt265.2.2))) else ((value_taker_value.f k x1000 x1001 x2).bind fun bt268 => (if 0 ≤ (wrap64 ((x1000.size : Int) - (bt268.2.2.1.size : Int))) then (if (wrap64 ((x1000.size : Int) - (bt268.2.2.1.size : Int))) ≤ (x1000.size : Int) then (if x7.length < 8796093022208 then (value_taker_row.l0 k x1 x2 (x7 ++ [x1000.extract 0 ((wrap64 ((x1000.size : Int) - (bt268.2.2.1.size : Int))) : Int).toNat]) bt268.2.2.1 bt268.2.2.2) else (none)) else (none)) else (none)))) else (none)))
def value_taker_row.f : Nat → ByteArray → Bool → Int → Int → Option (List ByteArray × ByteArray × Bool)
 | 0, _, _, _, _ => none
 | k + 1, s0_0, s0_1, a1, a2 => value_taker_row.l0 k a1 a2 ([] : List ByteArray) s0_0 s0_1
end
abbrev value_taker_value.Con (k : Nat) : Prop := ∀ (g : Nat) (s0_0 : ByteArray) (s0_1 : Bool) (a1 : Int) (r1 : Int) (r2 : List ByteArray) (r3 : ByteArray) (r4 : Bool) (w0 w : World) (hI : IsS140 w0 w g s0_0 s0_1) (hB : Below w0.heap.size w0 w) (hG : GL w0) (h : value_taker_value.f k s0_0 s0_1 a1 = some (r1, r2, r3, r4)),
  Calls Tryz.prog 107 #[.pointer (some ⟨g, 0, none⟩), .int .i64 a1] w fun e w' => ∃ v1_ : Value, e = .returned (.tuple #[.int .i64 r1, v1_]) ∧ Kd.R Kd.string 9 w' w.heap.size (fun _ => True) v1_ r2 ∧ IsS140 w0 w' g r3 r4 ∧ Below w0.heap.size w0 w' ∧ KeepBut w w' g none
abbrev value_taker_row.Con (k : Nat) : Prop := ∀ (g : Nat) (s0_0 : ByteArray) (s0_1 : Bool) (a1 : Int) (a2 : Int) (r1 : List ByteArray) (r2 : ByteArray) (r3 : Bool) (w0 w : World) (hI : IsS140 w0 w g s0_0 s0_1) (hB : Below w0.heap.size w0 w) (hG : GL w0) (h : value_taker_row.f k s0_0 s0_1 a1 a2 = some (r1, r2, r3)),
  Calls Tryz.prog 135 #[.pointer (some ⟨g, 0, none⟩), .int .u8 a1, .int .i64 a2] w fun e w' => ∃ v0_ : Value, e = .returned (v0_) ∧ Kd.R Kd.string 9 w' w.heap.size (fun _ => True) v0_ r1 ∧ IsS140 w0 w' g r2 r3 ∧ Below w0.heap.size w0 w' ∧ KeepBut w w' g none
theorem value_taker_value.step (k : Nat) (ih_value_taker_value : ∀ k_ < k, value_taker_value.Con k_) (ih_value_taker_row : ∀ k_ < k, value_taker_row.Con k_) : value_taker_value.Con k := by
 intro g s0_0 s0_1 a1 r1 r2 r3 r4 w0 w hI hB hG h
 cases k with
 | zero => exact absurd h (by simp [value_taker_value.f])
 | succ k =>
 simp only [value_taker_value.f] at h
 have HI0 := am hI
 have HK := am (KeepBut.refl w g none)
 have HL := am hB.size
 clear hI
 have HW0 := am hB.size
 have HB := am hB
 clear hB
 have HG := am hG
 clear hG
 have H : (if a1 > 4 then ((value_taker_fail.f s0_0 s0_1).bind fun bt211 => (some (bt211.1, bt211.2.1, bt211.2.2.1, bt211.2.2.2))) else ((value_taker_byte.f s0_0 s0_1).bind fun bt217 => (if bt217.1 = 110 then (some ((-1), ([] : List ByteArray), bt217.2.1, bt217.2.2)) else (if bt217.1 = 105 then ((value_taker_number.f bt217.2.1 bt217.2.2 (⟨#[59]⟩ : ByteArray)).bind fun bt220 => (some (0, (([bt220.2.1] : List ByteArray)), bt220.2.2.1, bt220.2.2.2))) else (if bt217.1 = 116 then (value_taker_value.j0 k a1 bt217.1 bt217.1 (bt217.1 == 116) bt217.2.1 bt217.2.2) else (value_taker_value.j0 k a1 bt217.1 bt217.1 (bt217.1 == 102) bt217.2.1 bt217.2.2)))))) = some (r1, r2, r3, r4) := h
 clear h
 by_cases c3 : a1 > 4
 ·
  rw [if_pos c3] at H
  have c3b0 : decide (4 < a1) = true := decide_eq_true c3
  clear c3
  replace H := zo H
  obtain ⟨⟨t211, t212, t215, t216⟩, A40, H⟩ := H
  (try dsimp only at H)
  have A4 := am A40
  clear A40
  simp only [Option.some.injEq, Prod.mk.injEq] at H
  obtain ⟨rfl, rfl, rfl, rfl⟩ := H
  go_enter Tryz.func107, Tryz.ntmps107
  go_wp2_with (first | ((with_reducible refine gate_callee (f := 131) rfl ?_); refine goesL_ (some 14) rfl rfl Tryz.func131 (by kernel_rfl) rfl #[.pointer (some ⟨g, 0, none⟩)] rfl zm ?_; (with_reducible refine (value_taker_fail.calls g s0_0 s0_1 t211 t212 t215 t216 w0 _ ?side1 ?side2 A4.out).mono ?_); (case side1 => repeat (first | (with_reducible first | exact HI0.out | apply IsS140.alloc | apply IsS140.drewN | apply IsS140.drew | apply IsS140.set_0 | apply IsS140.set_1) | exact HI0.out)); (case side2 => exact zl1 HB.out (IsS140.ge HI0.out)); rintro e w5 ⟨v213, rfl, ho0, hi, hb, hk⟩; refine ⟨_, rfl, ?_⟩; have n0_ := am (Kd.R_lower ho0 (keep_size (w := w) (g := g) (row := none) (zk HK.out))); have n1_ := am (KeepBut.trans (zk HK.out) hk (.inl rfl)); have n2_ := am (hb); have n3_ := am (hi); clear HK HB HI0; have HO214 := n0_; have HK := n1_; have HB := n2_; have HI0 := n3_; clear n0_ n1_ n2_ n3_; (try clear hb); (try clear hb2); (try clear hk); (try clear hi); (try clear ho0)))
  go_ret2
  exact ⟨_, ze, by refine zr ?_; exact HO214.out, by repeat (first | (with_reducible first | exact HI0.out | apply IsS140.alloc | apply IsS140.drewN | apply IsS140.drew | apply IsS140.set_0 | apply IsS140.set_1) | exact HI0.out), zl1 HB.out (IsS140.ge HI0.out), zk HK.out⟩
 ·
  rw [if_neg c3] at H
  have c3b0 : decide (4 < a1) = false := decide_eq_false c3
  clear c3
  replace H := zo H
  obtain ⟨⟨t217, t218, t219⟩, A60, H⟩ := H
  (try dsimp only at H)
  have A6 := am A60
  clear A60
  by_cases c7 : t217 = 110
  ·
   rw [if_pos c7] at H
   have c7b0 := beq_iff_eq.mpr c7
   have c7b1 := bne_eq_false_iff_eq.mpr c7
   clear c7
   simp only [Option.some.injEq, Prod.mk.injEq] at H
   obtain ⟨rfl, rfl, rfl, rfl⟩ := H
   go_enter Tryz.func107, Tryz.ntmps107
   go_wp2_with (first | ((with_reducible refine gate_callee (f := 132) rfl ?_); refine goesL_ (some 18) rfl rfl Tryz.func132 (by kernel_rfl) rfl #[.pointer (some ⟨g, 0, none⟩)] rfl zm ?_; (with_reducible refine (value_taker_byte.calls g s0_0 s0_1 t217 t218 t219 w0 _ ?side1 ?side2 A6.out).mono ?_); (case side1 => repeat (first | (with_reducible first | exact HI0.out | apply IsS140.alloc | apply IsS140.drewN | apply IsS140.drew | apply IsS140.set_0 | apply IsS140.set_1) | exact HI0.out)); (case side2 => exact zl1 HB.out (IsS140.ge HI0.out)); rintro e w8 ⟨rfl, hi, hb, hk⟩; refine ⟨_, rfl, ?_⟩; have n0_ := am (KeepBut.trans (zk HK.out) hk (.inl rfl)); have n1_ := am (hb); have n2_ := am (hi); clear HK HB HI0; have HK := n0_; have HB := n1_; have HI0 := n2_; clear n0_ n1_ n2_; (try clear hb); (try clear hb2); (try clear hk); (try clear hi)))
   go_ret2
   exact ⟨_, ze, by first | exact Kd.R_nil _ _ _ _ _ | exact Kd.N_nil _ _ _ _ _ | exact Kd.V_nil _ _ _ _ _ | exact Kd.Q_nil _ _ _ _ _ | exact Kd.S_nil _ _ _ _ _, by repeat (first | (with_reducible first | exact HI0.out | apply IsS140.alloc | apply IsS140.drewN | apply IsS140.drew | apply IsS140.set_0 | apply IsS140.set_1) | exact HI0.out), zl1 HB.out (IsS140.ge HI0.out), zk HK.out⟩
  ·
   rw [if_neg c7] at H
   have c7b0 := beq_eq_false_iff_ne.mpr c7
   have c7b1 := bne_iff_ne.mpr c7
   by_cases c9 : t217 = 105
   ·
    rw [if_pos c9] at H
    have c9b0 := beq_iff_eq.mpr c9
    have c9b1 := bne_eq_false_iff_eq.mpr c9
    clear c9
    replace H := zo H
    obtain ⟨⟨t220, t221, t222, t223⟩, A100, H⟩ := H
    (try dsimp only at H)
    have A10 := am A100
    clear A100
    obtain ⟨y224, hy224⟩ : ∃ y_ : List ByteArray, y_ = (([t221] : List ByteArray)) := ⟨_, rfl⟩
    replace H : (some (0, y224, t222, t223)) = some (r1, r2, r3, r4) := by first | (rw [hy224]; with_reducible exact H) | (have H2_ := (Option.bind_some _ _).symm.trans H; rw [hy224]; with_reducible exact H2_) | (have H2_ := (Option.bind_some _ _).symm.trans H; with_reducible exact H2_) | with_reducible exact H | (rw [hy224]; exact H) | exact H
    have Ny224 := am hy224
    clear hy224
    simp only [Option.some.injEq, Prod.mk.injEq] at H
    obtain ⟨rfl, rfl, rfl, rfl⟩ := H
    go_enter Tryz.func107, Tryz.ntmps107
    go_wp2_with (first | ((with_reducible refine gate_callee (f := 132) rfl ?_); refine goesL_ (some 18) rfl rfl Tryz.func132 (by kernel_rfl) rfl #[.pointer (some ⟨g, 0, none⟩)] rfl zm ?_; (with_reducible refine (value_taker_byte.calls g s0_0 s0_1 t217 t218 t219 w0 _ ?side1 ?side2 A6.out).mono ?_); (case side1 => repeat (first | (with_reducible first | exact HI0.out | apply IsS140.alloc | apply IsS140.drewN | apply IsS140.drew | apply IsS140.set_0 | apply IsS140.set_1) | exact HI0.out)); (case side2 => exact zl1 HB.out (IsS140.ge HI0.out)); rintro e w11 ⟨rfl, hi, hb, hk⟩; refine ⟨_, rfl, ?_⟩; have n0_ := am (KeepBut.trans (zk HK.out) hk (.inl rfl)); have n1_ := am (hb); have n2_ := am (hi); clear HK HB HI0; have HK := n0_; have HB := n1_; have HI0 := n2_; clear n0_ n1_ n2_; (try clear hb); (try clear hb2); (try clear hk); (try clear hi)) | ((with_reducible refine gate_callee (f := 133) rfl ?_); refine goesL_ (some 26) rfl rfl Tryz.func133 (by kernel_rfl) rfl #[.pointer (some ⟨g, 0, none⟩), .string (⟨#[59]⟩ : ByteArray)] rfl zm ?_; (with_reducible refine (value_taker_number.calls g t218 t219 (⟨#[59]⟩ : ByteArray) t220 t221 t222 t223 w0 _ ?side1 ?side2 ?side3 A10.out).mono ?_); (case side1 => repeat (first | (with_reducible first | exact HI0.out | apply IsS140.alloc | apply IsS140.drewN | apply IsS140.drew | apply IsS140.set_0 | apply IsS140.set_1) | exact HI0.out)); (case side2 => exact zl1 HB.out (IsS140.ge HI0.out)); (case side3 => exact HG.out); rintro e w12 ⟨rfl, hi, hb, hk⟩; refine ⟨_, rfl, ?_⟩; have n0_ := am (KeepBut.trans (zk HK.out) hk (.inl rfl)); have n1_ := am (hb); have n2_ := am (hi); clear HK HB HI0; have HK := n0_; have HB := n1_; have HI0 := n2_; clear n0_ n1_ n2_; (try clear hb); (try clear hb2); (try clear hk); (try clear hi)) | ((with_reducible refine gate_dst (N := 30) rfl ?_); refine Kd.R_lit Kd.string _ 9 ?hg (N := 30) ?hd (xs := ([t221] : List ByteArray)) (inner := [.string t221]) (ok := fun _ => True) (okp := fun _ => True) ?hr ?hp (fun _ hk => hk) trivial (Below.refl _ _) (Nat.le_refl _) (by simp) ?_; (case hd => rfl); (case hg => rfl); (case hr => exact zh); (case hp => exact (Reps.one (show Kd.M Kd.string _ _ _ t221 [.string t221] from rfl) (Reps.none _ _))); intro v225 w13 ho14 hb hg_ hnew_; clear hg_ hnew_; (first | rw [← Ny224.out] at ho14 | (simp only [Int.reduceToNat] at ho14; rw [← Ny224.out] at ho14)); have n0_ := am (Kd.R_lower ho14 (keep_size (w := w) (g := g) (row := none) (zk HK.out))); have n1_ := am (IsS140.below (by repeat (first | (with_reducible first | exact HI0.out | apply IsS140.alloc | apply IsS140.drewN | apply IsS140.drew | apply IsS140.set_0 | apply IsS140.set_1) | exact HI0.out)) hb); have n2_ := am (KeepBut.trans (zk HK.out) (KeepBut.of_below hb g none) (.inl rfl)); have n3_ := am (below_step (zl1 HB.out (IsS140.ge HI0.out)) hb); clear HI0 HK HB; have HO226 := n0_; have HI0 := n1_; have HK := n2_; have HB := n3_; clear n0_ n1_ n2_ n3_; clear hb ho14))
    go_ret2
    exact ⟨_, ze, by refine zr ?_; exact HO226.out, by repeat (first | (with_reducible first | exact HI0.out | apply IsS140.alloc | apply IsS140.drewN | apply IsS140.drew | apply IsS140.set_0 | apply IsS140.set_1) | exact HI0.out), zl1 HB.out (IsS140.ge HI0.out), zk HK.out⟩
   ·
    rw [if_neg c9] at H
    have c9b0 := beq_eq_false_iff_ne.mpr c9
    have c9b1 := bne_iff_ne.mpr c9
    have HC15 := am H
    clear H
    go_enter Tryz.func107, Tryz.ntmps107
    go_upto_if 31 with (first | ((with_reducible refine gate_callee (f := 132) rfl ?_); refine goesL_ (some 18) rfl rfl Tryz.func132 (by kernel_rfl) rfl #[.pointer (some ⟨g, 0, none⟩)] rfl zm ?_; (with_reducible refine (value_taker_byte.calls g s0_0 s0_1 t217 t218 t219 w0 _ ?side1 ?side2 A6.out).mono ?_); (case side1 => repeat (first | (with_reducible first | exact HI0.out | apply IsS140.alloc | apply IsS140.drewN | apply IsS140.drew | apply IsS140.set_0 | apply IsS140.set_1) | exact HI0.out)); (case side2 => exact zl1 HB.out (IsS140.ge HI0.out)); rintro e w16 ⟨rfl, hi, hb, hk⟩; refine ⟨_, rfl, ?_⟩; have n0_ := am (KeepBut.trans (zk HK.out) hk (.inl rfl)); have n1_ := am (hb); have n2_ := am (hi); clear HK HB HI0; have HK := n0_; have HB := n1_; have HI0 := n2_; clear n0_ n1_ n2_; (try clear hb); (try clear hb2); (try clear hk); (try clear hi)))
    (try simp only [Act.put, List.setIfInBounds_toArray, List.set_cons_zero, List.set_cons_succ])
    go_cut [31] (fun v31 wc => ∃ (kq : Nat) (x31_14 : Bool), v31 = .bool x31_14 ∧ Aside0 (value_taker_value.j0 kq a1 t217 t217 x31_14 t218 t219 = some (r1, r2, r3, r4)) ∧ Aside0 (kq ≤ k) ∧ Aside0 (IsS140 w0 wc g t218 t219) ∧ Aside0 (KeepBut w wc g none) ∧ Aside0 (Below w0.heap.size w0 wc))
    case first =>
     have H := HC15.out
     clear HC15
     by_cases c17 : t217 = 116
     ·
      rw [if_pos c17] at H
      have c17b0 := beq_iff_eq.mpr c17
      have c17b1 := bne_eq_false_iff_eq.mpr c17
      clear c17
      (first | rw [c17b0] | (simp only [i64_w, i32_w]; rw [c17b0]) | skip)
      have H' := am H
      clear H
      go_wp2
      go_meet
      case rel => exact ⟨_, ((t217 == 116)), zs, H', ⟨by first | omega | exact Nat.le_refl _⟩, ⟨by repeat (first | (with_reducible first | exact HI0.out | apply IsS140.alloc | apply IsS140.drewN | apply IsS140.drew | apply IsS140.set_0 | apply IsS140.set_1) | exact HI0.out)⟩, ⟨zk HK.out⟩, ⟨zl1 HB.out (IsS140.ge HI0.out)⟩⟩
     ·
      rw [if_neg c17] at H
      have c17b0 := beq_eq_false_iff_ne.mpr c17
      have c17b1 := bne_iff_ne.mpr c17
      (first | rw [c17b0] | (simp only [i64_w, i32_w]; rw [c17b0]) | skip)
      have H' := am H
      clear H
      go_wp2
      go_meet
      case rel => exact ⟨_, ((t217 == 102)), zs, H', ⟨by first | omega | exact Nat.le_refl _⟩, ⟨by repeat (first | (with_reducible first | exact HI0.out | apply IsS140.alloc | apply IsS140.drewN | apply IsS140.drew | apply IsS140.set_0 | apply IsS140.set_1) | exact HI0.out)⟩, ⟨zk HK.out⟩, ⟨zl1 HB.out (IsS140.ge HI0.out)⟩⟩
    case rest =>
     clear HC15
     try clear c1
     try clear p2
     try clear c3
     try clear c3b0
     try clear c7
     try clear c7b0
     try clear c7b1
     try clear c9
     try clear c9b0
     try clear c9b1
     try clear c10
     try clear c13
     try clear c17
     try clear c17b0
     try clear c17b1
     obtain ⟨kq, x31_14, rfl, HA, HJ14, HI0, HK, HB⟩ := hcut
     cases kq with
     | zero => exact absurd HA.out (by simp [value_taker_value.j0])
     | succ kj14 =>
      have H := HA.out
      clear HA
      simp only [value_taker_value.j0] at H
      by_cases c18 : x31_14 = true
      ·
       subst c18
       rw [if_pos rfl] at H
       obtain ⟨y227, hy227⟩ : ∃ y_ : List Int, y_ = (([t217] : List Int)) := ⟨_, rfl⟩
       replace H : (some (1, (([strOfNums y227] : List ByteArray)), t218, t219)) = some (r1, r2, r3, r4) := by first | (rw [hy227]; with_reducible exact H) | (have H2_ := (Option.bind_some _ _).symm.trans H; rw [hy227]; with_reducible exact H2_) | (have H2_ := (Option.bind_some _ _).symm.trans H; with_reducible exact H2_) | with_reducible exact H | (rw [hy227]; exact H) | exact H
       have Ny227 := am hy227
       clear hy227
       obtain ⟨y230, hy230⟩ : ∃ y_ : List ByteArray, y_ = (([strOfNums y227] : List ByteArray)) := ⟨_, rfl⟩
       replace H : (some (1, y230, t218, t219)) = some (r1, r2, r3, r4) := by first | (rw [hy230]; with_reducible exact H) | (have H2_ := (Option.bind_some _ _).symm.trans H; rw [hy230]; with_reducible exact H2_) | (have H2_ := (Option.bind_some _ _).symm.trans H; with_reducible exact H2_) | with_reducible exact H | (rw [hy230]; exact H) | exact H
       have Ny230 := am hy230
       clear hy230
       simp only [Option.some.injEq, Prod.mk.injEq] at H
       obtain ⟨rfl, rfl, rfl, rfl⟩ := H
       try go_wp2
       have n0_ := am (IsS140.drew HI0.out)
       have n1_ := am (keep_drew HK.out)
       have n2_ := am (below_drew1 HB.out)
       clear HI0
       clear HK
       clear HB
       have HI0 := n0_
       have HK := n1_
       have HB := n2_
       clear n0_ n1_ n2_
       refine start_ (n := 6) (S := fun w' => True) (ds := []) #[false, false, false, false, false, false] (by kernel_rfl) rfl rfl trivial (fun hHeld => ?_)
       generalize wc.drew = w19 at HI0 HK HB hHeld ⊢
       refine pure_ (i := 0) (N := some 34) #[true, false, false, false, false, false] rfl rfl (by kernel_rfl) (fun _ _ _ h => h) (Or.inl ⟨by rfl, zpa⟩) zpb ?_
       refine pure_ (i := 4) (N := some 4) #[true, false, false, false, true, false] rfl rfl (by kernel_rfl) (fun _ _ _ h => h) (Or.inl ⟨by rfl, zpa⟩) zpb ?_
       refine one_ (i := 1) (N := some 35) #[true, true, false, false, true, false] rfl rfl (by kernel_rfl) (by decide) (fun K hK => ?_)
       refine Kd.R_lit_step (Kd.int .u8) _ 5 ?hg (N := 35) ?hd (xs := ([t217] : List Int)) (inner := [.int .u8 t217]) (ok := fun _ => True) (okp := fun _ => True) ?hr ?hp (fun _ hk => hk) trivial (Below.refl _ _) (Nat.le_refl _) (by simp) ?_; (case hd => rfl); (case hg => rfl); (case hr => exact zh); (case hp => exact (Reps.one (show Kd.M (Kd.int .u8) _ _ _ t217 [.int .u8 t217] from rfl) (Reps.none _ _)))
       intro v228 w20 ho21 hb hg_ hnew_
       clear hg_ hnew_
       (first | rw [← Ny227.out] at ho21 | (simp only [Int.reduceToNat] at ho21; rw [← Ny227.out] at ho21))
       have n0_ := am (Kd.R_lower ho21 (keep_size (w := w) (g := g) (row := none) (zk HK.out)))
       have n1_ := am (IsS140.below (by repeat (first | (with_reducible first | exact HI0.out | apply IsS140.alloc | apply IsS140.drewN | apply IsS140.drew | apply IsS140.set_0 | apply IsS140.set_1) | exact HI0.out)) hb)
       have n2_ := am (KeepBut.trans (zk HK.out) (KeepBut.of_below hb g none) (.inl rfl))
       have n3_ := am (below_step (zl1 HB.out (IsS140.ge HI0.out)) hb)
       clear HI0
       clear HK
       clear HB
       have HO229 := n0_
       have HI0 := n1_
       have HK := n2_
       have HB := n3_
       clear n0_ n1_ n2_ n3_
       clear hb ho21
       refine hK.out _ _ trivial (fun hHeld => ?_)
       clear hK K
       refine norm_ (a' := ?_) ?_ ?_
       rotate_left
       ·
        show Act.put _ (some 35) _ = _
        simp only [Act.put, List.setIfInBounds_toArray, List.set_cons_zero, List.set_cons_succ, i64_w, i32_w]
        rfl
       refine one_ (i := 2) (N := some 36) #[true, true, true, false, true, false] rfl rfl (by kernel_rfl) (by decide) (fun K hK => ?_)
       have hcv22 := own_string (P := Tryz.prog) Tryz.underlying71 Tryz.underlying5 Tryz.underlying9 (Kd.own_of_R HO229.out)
       refine value_ (w1 := ?_) (v := ?_) (by rfl) rfl ?_ ?_
       rotate_left 2
       ·
        go_simp
        constructor
        ·
         rfl
        ·
         rfl
       clear hcv22
       refine hK.out _ _ trivial (fun hHeld => ?_)
       clear hK K
       refine norm_ (a' := ?_) ?_ ?_
       rotate_left
       ·
        show Act.put _ (some 36) _ = _
        simp only [Act.put, List.setIfInBounds_toArray, List.set_cons_zero, List.set_cons_succ, i64_w, i32_w]
        rfl
       refine one_ (i := 3) (N := some 37) #[true, true, true, true, true, false] rfl rfl (by kernel_rfl) (by decide) (fun K hK => ?_)
       refine Kd.R_lit_step Kd.string _ 9 ?hg (N := 37) ?hd (xs := ([strOfNums y227] : List ByteArray)) (inner := [.string (strOfNums y227)]) (ok := fun _ => True) (okp := fun _ => True) ?hr ?hp (fun _ hk => hk) trivial (Below.refl _ _) (Nat.le_refl _) (by simp) ?_; (case hd => rfl); (case hg => rfl); (case hr => exact zh); (case hp => exact (Reps.one (show Kd.M Kd.string _ _ _ (strOfNums y227) [.string (strOfNums y227)] from rfl) (Reps.none _ _)))
       intro v231 w23 ho24 hb hg_ hnew_
       clear hg_ hnew_
       (first | rw [← Ny230.out] at ho24 | (simp only [Int.reduceToNat] at ho24; rw [← Ny230.out] at ho24))
       have n0_ := am (Kd.R_below (zr HO229.out) hb)
       have n1_ := am (Kd.R_lower ho24 (keep_size (w := w) (g := g) (row := none) (zk HK.out)))
       have n2_ := am (IsS140.below (by repeat (first | (with_reducible first | exact HI0.out | apply IsS140.alloc | apply IsS140.drewN | apply IsS140.drew | apply IsS140.set_0 | apply IsS140.set_1) | exact HI0.out)) hb)
       have n3_ := am (KeepBut.trans (zk HK.out) (KeepBut.of_below hb g none) (.inl rfl))
       have n4_ := am (below_step (zl1 HB.out (IsS140.ge HI0.out)) hb)
       clear HO229
       clear HI0
       clear HK
       clear HB
       have HO229 := n0_
       have HO232 := n1_
       have HI0 := n2_
       have HK := n3_
       have HB := n4_
       clear n0_ n1_ n2_ n3_ n4_
       clear hb ho24
       refine hK.out _ _ trivial (fun hHeld => ?_)
       clear hK K
       refine norm_ (a' := ?_) ?_ ?_
       rotate_left
       ·
        show Act.put _ (some 37) _ = _
        simp only [Act.put, List.setIfInBounds_toArray, List.set_cons_zero, List.set_cons_succ, i64_w, i32_w]
        rfl
       refine pure_ (i := 5) (N := some 5) #[true, true, true, true, true, true] rfl rfl (by kernel_rfl) (fun _ _ _ h => h) (Or.inl ⟨by rfl, zpa⟩) zpb ?_
       refine done_ (by kernel_rfl) ?_
       try go_wp2
       go_ret2
       exact ⟨_, ze, by refine zr ?_; exact HO232.out, by repeat (first | (with_reducible first | exact HI0.out | apply IsS140.alloc | apply IsS140.drewN | apply IsS140.drew | apply IsS140.set_0 | apply IsS140.set_1) | exact HI0.out), zl1 HB.out (IsS140.ge HI0.out), zk HK.out⟩
      ·
       replace c18 := Bool.eq_false_iff.mpr c18
       subst c18
       rw [if_neg (show ¬ (false = true) by decide)] at H
       by_cases c25 : t217 = 115
       ·
        rw [if_pos c25] at H
        have c25b0 := beq_iff_eq.mpr c25
        have c25b1 := bne_eq_false_iff_eq.mpr c25
        clear c25
        replace H := zo H
        obtain ⟨⟨t233, t234, t235, t236⟩, A260, H⟩ := H
        (try dsimp only at H)
        have A26 := am A260
        clear A260
        replace H := zo H
        obtain ⟨⟨t237, t238, t239⟩, A270, H⟩ := H
        (try dsimp only at H)
        have A27 := am A270
        clear A270
        obtain ⟨y240, hy240⟩ : ∃ y_ : List ByteArray, y_ = (([t237] : List ByteArray)) := ⟨_, rfl⟩
        replace H : (some (2, y240, t238, t239)) = some (r1, r2, r3, r4) := by first | (rw [hy240]; with_reducible exact H) | (have H2_ := (Option.bind_some _ _).symm.trans H; rw [hy240]; with_reducible exact H2_) | (have H2_ := (Option.bind_some _ _).symm.trans H; with_reducible exact H2_) | with_reducible exact H | (rw [hy240]; exact H) | exact H
        have Ny240 := am hy240
        clear hy240
        simp only [Option.some.injEq, Prod.mk.injEq] at H
        obtain ⟨rfl, rfl, rfl, rfl⟩ := H
        go_wp2_with (first | ((with_reducible refine gate_callee (f := 133) rfl ?_); refine goesL_ (some 42) rfl rfl Tryz.func133 (by kernel_rfl) rfl #[.pointer (some ⟨g, 0, none⟩), .string (⟨#[58]⟩ : ByteArray)] rfl zm ?_; (with_reducible refine (value_taker_number.calls g t218 t219 (⟨#[58]⟩ : ByteArray) t233 t234 t235 t236 w0 _ ?side1 ?side2 ?side3 A26.out).mono ?_); (case side1 => repeat (first | (with_reducible first | exact HI0.out | apply IsS140.alloc | apply IsS140.drewN | apply IsS140.drew | apply IsS140.set_0 | apply IsS140.set_1) | exact HI0.out)); (case side2 => exact zl1 HB.out (IsS140.ge HI0.out)); (case side3 => exact HG.out); rintro e w28 ⟨rfl, hi, hb, hk⟩; refine ⟨_, rfl, ?_⟩; have n0_ := am (KeepBut.trans (zk HK.out) hk (.inl rfl)); have n1_ := am (hb); have n2_ := am (hi); clear HK HB HI0; have HK := n0_; have HB := n1_; have HI0 := n2_; clear n0_ n1_ n2_; (try clear hb); (try clear hb2); (try clear hk); (try clear hi)) | ((with_reducible refine gate_callee (f := 134) rfl ?_); refine goesL_ (some 47) rfl rfl Tryz.func134 (by kernel_rfl) rfl #[.pointer (some ⟨g, 0, none⟩), .int .i64 t233] rfl zm ?_; (with_reducible refine (value_taker_bytes.calls g t235 t236 t233 t237 t238 t239 w0 _ ?side1 ?side2 A27.out).mono ?_); (case side1 => repeat (first | (with_reducible first | exact HI0.out | apply IsS140.alloc | apply IsS140.drewN | apply IsS140.drew | apply IsS140.set_0 | apply IsS140.set_1) | exact HI0.out)); (case side2 => exact zl1 HB.out (IsS140.ge HI0.out)); rintro e w29 ⟨rfl, hi, hb, hk⟩; refine ⟨_, rfl, ?_⟩; have n0_ := am (KeepBut.trans (zk HK.out) hk (.inl rfl)); have n1_ := am (hb); have n2_ := am (hi); clear HK HB HI0; have HK := n0_; have HB := n1_; have HI0 := n2_; clear n0_ n1_ n2_; (try clear hb); (try clear hb2); (try clear hk); (try clear hi)) | ((with_reducible refine gate_dst (N := 48) rfl ?_); refine Kd.R_lit Kd.string _ 9 ?hg (N := 48) ?hd (xs := ([t237] : List ByteArray)) (inner := [.string t237]) (ok := fun _ => True) (okp := fun _ => True) ?hr ?hp (fun _ hk => hk) trivial (Below.refl _ _) (Nat.le_refl _) (by simp) ?_; (case hd => rfl); (case hg => rfl); (case hr => exact zh); (case hp => exact (Reps.one (show Kd.M Kd.string _ _ _ t237 [.string t237] from rfl) (Reps.none _ _))); intro v241 w30 ho31 hb hg_ hnew_; clear hg_ hnew_; (first | rw [← Ny240.out] at ho31 | (simp only [Int.reduceToNat] at ho31; rw [← Ny240.out] at ho31)); have n0_ := am (Kd.R_lower ho31 (keep_size (w := w) (g := g) (row := none) (zk HK.out))); have n1_ := am (IsS140.below (by repeat (first | (with_reducible first | exact HI0.out | apply IsS140.alloc | apply IsS140.drewN | apply IsS140.drew | apply IsS140.set_0 | apply IsS140.set_1) | exact HI0.out)) hb); have n2_ := am (KeepBut.trans (zk HK.out) (KeepBut.of_below hb g none) (.inl rfl)); have n3_ := am (below_step (zl1 HB.out (IsS140.ge HI0.out)) hb); clear HI0 HK HB; have HO242 := n0_; have HI0 := n1_; have HK := n2_; have HB := n3_; clear n0_ n1_ n2_ n3_; clear hb ho31))
        go_ret2
        exact ⟨_, ze, by refine zr ?_; exact HO242.out, by repeat (first | (with_reducible first | exact HI0.out | apply IsS140.alloc | apply IsS140.drewN | apply IsS140.drew | apply IsS140.set_0 | apply IsS140.set_1) | exact HI0.out), zl1 HB.out (IsS140.ge HI0.out), zk HK.out⟩
       ·
        rw [if_neg c25] at H
        have c25b0 := beq_eq_false_iff_ne.mpr c25
        have c25b1 := bne_iff_ne.mpr c25
        by_cases c32 : t217 = 91
        ·
         rw [if_pos c32] at H
         have c32b0 := beq_iff_eq.mpr c32
         have c32b1 := bne_eq_false_iff_eq.mpr c32
         clear c32
         replace H := zo H
         obtain ⟨⟨t243, t246, t247⟩, A330, H⟩ := H
         (try dsimp only at H)
         have A33 := am A330
         clear A330
         simp only [Option.some.injEq, Prod.mk.injEq] at H
         obtain ⟨rfl, rfl, rfl, rfl⟩ := H
         go_wp2_with (first | ((with_reducible refine gate_callee (f := 135) rfl ?_); refine goesL_ (some 54) rfl rfl Tryz.func135 (by kernel_rfl) rfl #[.pointer (some ⟨g, 0, none⟩), .int .u8 93, .int .i64 (wrap64 (a1 + 1))] rfl zm ?_; (with_reducible refine (ih_value_taker_row kj14 (by have := HJ14.out; omega) g t218 t219 93 (wrap64 (a1 + 1)) t243 t246 t247 w0 _ ?side1 ?side2 ?side3 A33.out).mono ?_); (case side1 => repeat (first | (with_reducible first | exact HI0.out | apply IsS140.alloc | apply IsS140.drewN | apply IsS140.drew | apply IsS140.set_0 | apply IsS140.set_1) | exact HI0.out)); (case side2 => exact zl1 HB.out (IsS140.ge HI0.out)); (case side3 => exact HG.out); rintro e w34 ⟨v244, rfl, ho0, hi, hb, hk⟩; refine ⟨_, rfl, ?_⟩; have n0_ := am (Kd.R_lower ho0 (keep_size (w := w) (g := g) (row := none) (zk HK.out))); have n1_ := am (KeepBut.trans (zk HK.out) hk (.inl rfl)); have n2_ := am (hb); have n3_ := am (hi); clear HK HB HI0; have HO245 := n0_; have HK := n1_; have HB := n2_; have HI0 := n3_; clear n0_ n1_ n2_ n3_; (try clear hb); (try clear hb2); (try clear hk); (try clear hi); (try clear ho0)))
         go_ret2
         exact ⟨_, ze, by refine zr ?_; exact HO245.out, by repeat (first | (with_reducible first | exact HI0.out | apply IsS140.alloc | apply IsS140.drewN | apply IsS140.drew | apply IsS140.set_0 | apply IsS140.set_1) | exact HI0.out), zl1 HB.out (IsS140.ge HI0.out), zk HK.out⟩
        ·
         rw [if_neg c32] at H
         have c32b0 := beq_eq_false_iff_ne.mpr c32
         have c32b1 := bne_iff_ne.mpr c32
         by_cases c35 : t217 = 123
         ·
          rw [if_pos c35] at H
          have c35b0 := beq_iff_eq.mpr c35
          have c35b1 := bne_eq_false_iff_eq.mpr c35
          clear c35
          replace H := zo H
          obtain ⟨⟨t248, t251, t252⟩, A360, H⟩ := H
          (try dsimp only at H)
          have A36 := am A360
          clear A360
          simp only [Option.some.injEq, Prod.mk.injEq] at H
          obtain ⟨rfl, rfl, rfl, rfl⟩ := H
          go_wp2_with (first | ((with_reducible refine gate_callee (f := 135) rfl ?_); refine goesL_ (some 60) rfl rfl Tryz.func135 (by kernel_rfl) rfl #[.pointer (some ⟨g, 0, none⟩), .int .u8 125, .int .i64 (wrap64 (a1 + 1))] rfl zm ?_; (with_reducible refine (ih_value_taker_row kj14 (by have := HJ14.out; omega) g t218 t219 125 (wrap64 (a1 + 1)) t248 t251 t252 w0 _ ?side1 ?side2 ?side3 A36.out).mono ?_); (case side1 => repeat (first | (with_reducible first | exact HI0.out | apply IsS140.alloc | apply IsS140.drewN | apply IsS140.drew | apply IsS140.set_0 | apply IsS140.set_1) | exact HI0.out)); (case side2 => exact zl1 HB.out (IsS140.ge HI0.out)); (case side3 => exact HG.out); rintro e w37 ⟨v249, rfl, ho0, hi, hb, hk⟩; refine ⟨_, rfl, ?_⟩; have n0_ := am (Kd.R_lower ho0 (keep_size (w := w) (g := g) (row := none) (zk HK.out))); have n1_ := am (KeepBut.trans (zk HK.out) hk (.inl rfl)); have n2_ := am (hb); have n3_ := am (hi); clear HK HB HI0; have HO250 := n0_; have HK := n1_; have HB := n2_; have HI0 := n3_; clear n0_ n1_ n2_ n3_; (try clear hb); (try clear hb2); (try clear hk); (try clear hi); (try clear ho0)))
          go_ret2
          exact ⟨_, ze, by refine zr ?_; exact HO250.out, by repeat (first | (with_reducible first | exact HI0.out | apply IsS140.alloc | apply IsS140.drewN | apply IsS140.drew | apply IsS140.set_0 | apply IsS140.set_1) | exact HI0.out), zl1 HB.out (IsS140.ge HI0.out), zk HK.out⟩
         ·
          rw [if_neg c35] at H
          have c35b0 := beq_eq_false_iff_ne.mpr c35
          have c35b1 := bne_iff_ne.mpr c35
          replace H := zo H
          obtain ⟨⟨t253, t254, t257, t258⟩, A380, H⟩ := H
          (try dsimp only at H)
          have A38 := am A380
          clear A380
          simp only [Option.some.injEq, Prod.mk.injEq] at H
          obtain ⟨rfl, rfl, rfl, rfl⟩ := H
          go_wp2_with (first | ((with_reducible refine gate_callee (f := 131) rfl ?_); refine goesL_ (some 62) rfl rfl Tryz.func131 (by kernel_rfl) rfl #[.pointer (some ⟨g, 0, none⟩)] rfl zm ?_; (with_reducible refine (value_taker_fail.calls g t218 t219 t253 t254 t257 t258 w0 _ ?side1 ?side2 A38.out).mono ?_); (case side1 => repeat (first | (with_reducible first | exact HI0.out | apply IsS140.alloc | apply IsS140.drewN | apply IsS140.drew | apply IsS140.set_0 | apply IsS140.set_1) | exact HI0.out)); (case side2 => exact zl1 HB.out (IsS140.ge HI0.out)); rintro e w39 ⟨v255, rfl, ho0, hi, hb, hk⟩; refine ⟨_, rfl, ?_⟩; have n0_ := am (Kd.R_lower ho0 (keep_size (w := w) (g := g) (row := none) (zk HK.out))); have n1_ := am (KeepBut.trans (zk HK.out) hk (.inl rfl)); have n2_ := am (hb); have n3_ := am (hi); clear HK HB HI0; have HO256 := n0_; have HK := n1_; have HB := n2_; have HI0 := n3_; clear n0_ n1_ n2_ n3_; (try clear hb); (try clear hb2); (try clear hk); (try clear hi); (try clear ho0)))
          go_ret2
          exact ⟨_, ze, by refine zr ?_; exact HO256.out, by repeat (first | (with_reducible first | exact HI0.out | apply IsS140.alloc | apply IsS140.drewN | apply IsS140.drew | apply IsS140.set_0 | apply IsS140.set_1) | exact HI0.out), zl1 HB.out (IsS140.ge HI0.out), zk HK.out⟩

theorem value_taker_row.step (k : Nat) (ih_value_taker_value : ∀ k_ < k, value_taker_value.Con k_) (ih_value_taker_row : ∀ k_ < k, value_taker_row.Con k_) : value_taker_row.Con k := by
 intro g s0_0 s0_1 a1 a2 r1 r2 r3 w0 w hI hB hG h
 cases k with
 | zero => exact absurd h (by simp [value_taker_row.f])
 | succ k =>
 simp only [value_taker_row.f] at h
 have HI0 := am hI
 have HK := am (KeepBut.refl w g none)
 have HL := am hB.size
 clear hI
 have HW0 := am hB.size
 have HB := am hB
 clear hB
 have HG := am hG
 clear hG
 have H : (value_taker_row.l0 k a1 a2 ([] : List ByteArray) s0_0 s0_1) = some (r1, r2, r3) := h
 clear h
 have H' := am H
 clear H
 go_enter Tryz.func135, Tryz.ntmps135
 go_wp2
 (try simp only [Act.put, List.setIfInBounds_toArray, List.set_cons_zero, List.set_cons_succ])
 go_loopg [7] k (fun kq v7 w' => ∃ (x7_1 : List ByteArray) (x1000_1 : ByteArray) (x1001_1 : Bool), Aside0 (value_taker_row.l0 kq a1 a2 x7_1 x1000_1 x1001_1 = some (r1, r2, r3)) ∧ Aside0 (kq ≤ k) ∧ Aside0 (Kd.R Kd.string 9 w' w.heap.size (fun _ => True) v7 x7_1) ∧ Aside0 (IsS140 w0 w' g x1000_1 x1001_1) ∧ Aside0 (KeepBut w w' g none) ∧ Aside0 (Below w0.heap.size w0 w'))
 case atStart => exact ⟨(([] : List ByteArray)), (s0_0), (s0_1), H', ⟨Nat.le_refl _⟩, ⟨by first | exact Kd.R_nil _ _ _ _ _ | exact Kd.N_nil _ _ _ _ _ | exact Kd.V_nil _ _ _ _ _ | exact Kd.Q_nil _ _ _ _ _ | exact Kd.S_nil _ _ _ _ _⟩, ⟨by repeat (first | (with_reducible first | exact HI0.out | apply IsS140.alloc | apply IsS140.drewN | apply IsS140.drew | apply IsS140.set_0 | apply IsS140.set_1) | exact HI0.out)⟩, ⟨zk HK.out⟩, ⟨zl1 HB.out (IsS140.ge HI0.out)⟩⟩
 case round =>
  clear H'
  try clear c1
  try clear p2
  obtain ⟨x7_1, x1000_1, x1001_1, HA, HK1, HO_7, HI0, HK, HB⟩ := hrel
  cases gk with
  | zero => exact absurd HA.out (by simp [value_taker_row.l0])
  | succ k1 =>
   have H := HA.out
   clear HA
   simp only [value_taker_row.l0] at H
   by_cases c4 : x1001_1 = true
   ·
    subst c4
    rw [if_pos rfl] at H
    replace H := zo H
    obtain ⟨⟨t259, t260, t261⟩, A50, H⟩ := H
    (try dsimp only at H)
    have A5 := am A50
    clear A50
    simp only [Option.some.injEq, Prod.mk.injEq] at H
    obtain ⟨rfl, rfl, rfl⟩ := H
    obtain ⟨HGz6, hgz6⟩ := HI0.out
    have hcz6_0 := cellS140_0 HGz6
    have hcz6_1 := cellS140_1 HGz6
    have hfz6_0 := blk_frozen HGz6 0
    have hfz6_1 := blk_frozen HGz6 1
    clear HGz6 hgz6
    go_wp2_with (first | ((with_reducible refine gate_callee (f := 132) rfl ?_); refine goesL_ (some 51) rfl rfl Tryz.func132 (by kernel_rfl) rfl #[.pointer (some ⟨g, 0, none⟩)] rfl zm ?_; (with_reducible refine (value_taker_byte.calls g x1000_1 true t259 t260 t261 w0 _ ?side1 ?side2 A5.out).mono ?_); (case side1 => repeat (first | (with_reducible first | exact HI0.out | apply IsS140.alloc | apply IsS140.drewN | apply IsS140.drew | apply IsS140.set_0 | apply IsS140.set_1) | exact HI0.out)); (case side2 => exact zl1 HB.out (IsS140.ge HI0.out)); rintro e w7 ⟨rfl, hi, hb, hk⟩; refine ⟨_, rfl, ?_⟩; have n0_ := am (Kd.R_mono (Kd.R_keep (IsS140.apart (show IsS140 w0 _ g x1000_1 true from by repeat (first | (with_reducible first | exact HI0.out | apply IsS140.alloc | apply IsS140.drewN | apply IsS140.drew | apply IsS140.set_0 | apply IsS140.set_1) | exact HI0.out)) (zr HO_7.out) (by decide)) hk (fun _ h => h.2)) (fun _ h => h.1)); have n1_ := am (KeepBut.trans (zk HK.out) hk (.inl rfl)); have n2_ := am (hb); have n3_ := am (hi); clear HO_7 HK; clear HB HI0; have HO_7 := n0_; have HK := n1_; have HB := n2_; have HI0 := n3_; clear n0_ n1_ n2_ n3_; (try clear hb); (try clear hb2); (try clear hk); (try clear hi)))
    go_ret
    exact ⟨_, ze, by refine zr ?_; exact HO_7.out, by repeat (first | (with_reducible first | exact HI0.out | apply IsS140.alloc | apply IsS140.drewN | apply IsS140.drew | apply IsS140.set_0 | apply IsS140.set_1) | exact HI0.out), zl1 HB.out (IsS140.ge HI0.out), zk HK.out⟩
   ·
    replace c4 := Bool.eq_false_iff.mpr c4
    subst c4
    rw [if_neg (show ¬ (false = true) by decide)] at H
    by_cases c8 : x1000_1.toList = ([] : List UInt8)
    ·
     rw [if_pos c8] at H
     have c8b0 := beq_iff_eq.mpr c8
     have c8b1 := bne_eq_false_iff_eq.mpr c8
     clear c8
     replace H := zo H
     obtain ⟨⟨t262, t263, t264⟩, A90, H⟩ := H
     (try dsimp only at H)
     have A9 := am A90
     clear A90
     simp only [Option.some.injEq, Prod.mk.injEq] at H
     obtain ⟨rfl, rfl, rfl⟩ := H
     obtain ⟨HGz10, hgz10⟩ := HI0.out
     have hcz10_0 := cellS140_0 HGz10
     have hcz10_1 := cellS140_1 HGz10
     have hfz10_0 := blk_frozen HGz10 0
     have hfz10_1 := blk_frozen HGz10 1
     clear HGz10 hgz10
     go_wp2_with (first | ((with_reducible refine gate_callee (f := 132) rfl ?_); refine goesL_ (some 51) rfl rfl Tryz.func132 (by kernel_rfl) rfl #[.pointer (some ⟨g, 0, none⟩)] rfl zm ?_; (with_reducible refine (value_taker_byte.calls g x1000_1 false t262 t263 t264 w0 _ ?side1 ?side2 A9.out).mono ?_); (case side1 => repeat (first | (with_reducible first | exact HI0.out | apply IsS140.alloc | apply IsS140.drewN | apply IsS140.drew | apply IsS140.set_0 | apply IsS140.set_1) | exact HI0.out)); (case side2 => exact zl1 HB.out (IsS140.ge HI0.out)); rintro e w11 ⟨rfl, hi, hb, hk⟩; refine ⟨_, rfl, ?_⟩; have n0_ := am (Kd.R_mono (Kd.R_keep (IsS140.apart (show IsS140 w0 _ g x1000_1 false from by repeat (first | (with_reducible first | exact HI0.out | apply IsS140.alloc | apply IsS140.drewN | apply IsS140.drew | apply IsS140.set_0 | apply IsS140.set_1) | exact HI0.out)) (zr HO_7.out) (by decide)) hk (fun _ h => h.2)) (fun _ h => h.1)); have n1_ := am (KeepBut.trans (zk HK.out) hk (.inl rfl)); have n2_ := am (hb); have n3_ := am (hi); clear HO_7 HK; clear HB HI0; have HO_7 := n0_; have HK := n1_; have HB := n2_; have HI0 := n3_; clear n0_ n1_ n2_ n3_; (try clear hb); (try clear hb2); (try clear hk); (try clear hi)))
     go_ret
     exact ⟨_, ze, by refine zr ?_; exact HO_7.out, by repeat (first | (with_reducible first | exact HI0.out | apply IsS140.alloc | apply IsS140.drewN | apply IsS140.drew | apply IsS140.set_0 | apply IsS140.set_1) | exact HI0.out), zl1 HB.out (IsS140.ge HI0.out), zk HK.out⟩
    ·
     rw [if_neg c8] at H
     have c8b0 := beq_eq_false_iff_ne.mpr c8
     have c8b1 := bne_iff_ne.mpr c8
     by_cases c12 : 0 < (x1000_1.size : Int)
     ·
      rw [if_pos c12] at H
      have c12b0 := decide_eq_true c12
      have c12b1 : decide (0 < x1000_1.size) = true := decide_eq_true (by omega)
      clear c12
      by_cases c14 : (bt x1000_1 0) = a1
      ·
       rw [if_pos c14] at H
       have c14b0 := beq_iff_eq.mpr c14
       have c14b1 := bne_eq_false_iff_eq.mpr c14
       clear c14
       replace H := zo H
       obtain ⟨⟨t265, t266, t267⟩, A150, H⟩ := H
       (try dsimp only at H)
       have A15 := am A150
       clear A150
       simp only [Option.some.injEq, Prod.mk.injEq] at H
       obtain ⟨rfl, rfl, rfl⟩ := H
       obtain ⟨HGz16, hgz16⟩ := HI0.out
       have hcz16_0 := cellS140_0 HGz16
       have hcz16_1 := cellS140_1 HGz16
       have hfz16_0 := blk_frozen HGz16 0
       have hfz16_1 := blk_frozen HGz16 1
       clear HGz16 hgz16
       have p13 : 0 ≤ (0 : Int) := (by omega)
       have q13 : 0 < x1000_1.size := (by have : (0 : Int) < (x1000_1.size : Int) := of_decide_eq_true za; omega)
       have hx13 : ∀ h : 0 < x1000_1.size, ((x1000_1[0]'h).toNat : Int) = bt x1000_1 0 := bt_at x1000_1 0
       clear p13
       have qi13 : (0 < (x1000_1.size : Int)) = True := eq_true (of_decide_eq_true za)
       replace q13 := eq_true q13
       go_wp2_with (first | ((with_reducible refine gate_callee (f := 132) rfl ?_); refine goesL_ (some 51) rfl rfl Tryz.func132 (by kernel_rfl) rfl #[.pointer (some ⟨g, 0, none⟩)] rfl zm ?_; (with_reducible refine (value_taker_byte.calls g x1000_1 false t265 t266 t267 w0 _ ?side1 ?side2 A15.out).mono ?_); (case side1 => repeat (first | (with_reducible first | exact HI0.out | apply IsS140.alloc | apply IsS140.drewN | apply IsS140.drew | apply IsS140.set_0 | apply IsS140.set_1) | exact HI0.out)); (case side2 => exact zl1 HB.out (IsS140.ge HI0.out)); rintro e w17 ⟨rfl, hi, hb, hk⟩; refine ⟨_, rfl, ?_⟩; have n0_ := am (Kd.R_mono (Kd.R_keep (IsS140.apart (show IsS140 w0 _ g x1000_1 false from by repeat (first | (with_reducible first | exact HI0.out | apply IsS140.alloc | apply IsS140.drewN | apply IsS140.drew | apply IsS140.set_0 | apply IsS140.set_1) | exact HI0.out)) (zr HO_7.out) (by decide)) hk (fun _ h => h.2)) (fun _ h => h.1)); have n1_ := am (KeepBut.trans (zk HK.out) hk (.inl rfl)); have n2_ := am (hb); have n3_ := am (hi); clear HO_7 HK; clear HB HI0; have HO_7 := n0_; have HK := n1_; have HB := n2_; have HI0 := n3_; clear n0_ n1_ n2_ n3_; (try clear hb); (try clear hb2); (try clear hk); (try clear hi)))
       go_ret
       exact ⟨_, ze, by refine zr ?_; exact HO_7.out, by repeat (first | (with_reducible first | exact HI0.out | apply IsS140.alloc | apply IsS140.drewN | apply IsS140.drew | apply IsS140.set_0 | apply IsS140.set_1) | exact HI0.out), zl1 HB.out (IsS140.ge HI0.out), zk HK.out⟩
      ·
       rw [if_neg c14] at H
       have c14b0 := beq_eq_false_iff_ne.mpr c14
       have c14b1 := bne_iff_ne.mpr c14
       replace H := zo H
       obtain ⟨⟨t268, t269, t272, t273⟩, A180, H⟩ := H
       (try dsimp only at H)
       have A18 := am A180
       clear A180
       obtain ⟨ji19, hji19⟩ : ∃ j_ : Int, (wrap64 ((x1000_1.size : Int) - (t272.size : Int))) = j_ := ⟨_, rfl⟩
       replace H : (if 0 ≤ (ji19) then (if (ji19) ≤ (x1000_1.size : Int) then (if x7_1.length < 8796093022208 then (value_taker_row.l0 k1 a1 a2 (x7_1 ++ [x1000_1.extract 0 ((ji19) : Int).toNat]) t272 t273) else (none)) else (none)) else (none)) = some (r1, r2, r3) := by first | (rw [hji19] at H; exact H) | (simp only [hji19] at H ⊢; exact H)
       (try rw [hji19] at A18)
       have hji19w : (IntKind.i64.wrap ((x1000_1.size : Int) - (t272.size : Int))) = ji19 := (i64_w _).trans hji19
       by_cases c20 : 0 ≤ (ji19)
       ·
        rw [if_pos c20] at H
        have c20b0 := eq_true c20
        have c20b1 := decide_eq_true c20
        clear c20
        by_cases c21 : (ji19) ≤ (x1000_1.size : Int)
        ·
         rw [if_pos c21] at H
         have c21b0 := eq_true c21
         have c21b1 := decide_eq_true c21
         clear c21
         by_cases c22 : x7_1.length < 8796093022208
         ·
          rw [if_pos c22] at H
          have LMc22 := am c22
          clear c22
          obtain ⟨y274, hy274⟩ : ∃ y_ : List ByteArray, y_ = (x7_1 ++ [x1000_1.extract 0 ((ji19) : Int).toNat]) := ⟨_, rfl⟩
          replace H : (value_taker_row.l0 k1 a1 a2 y274 t272 t273) = some (r1, r2, r3) := by first | (rw [hy274]; with_reducible exact H) | (have H2_ := (Option.bind_some _ _).symm.trans H; rw [hy274]; with_reducible exact H2_) | (have H2_ := (Option.bind_some _ _).symm.trans H; with_reducible exact H2_) | with_reducible exact H | (rw [hy274]; exact H) | exact H
          have Ny274 := am hy274
          clear hy274
          have H' := am H
          clear H
          obtain ⟨HGz23, hgz23⟩ := HI0.out
          have hcz23_0 := cellS140_0 HGz23
          have hcz23_1 := cellS140_1 HGz23
          have hfz23_0 := blk_frozen HGz23 0
          have hfz23_1 := blk_frozen HGz23 1
          clear HGz23 hgz23
          have p13 : 0 ≤ (0 : Int) := (by omega)
          have q13 : 0 < x1000_1.size := (by have : (0 : Int) < (x1000_1.size : Int) := of_decide_eq_true za; omega)
          have hx13 : ∀ h : 0 < x1000_1.size, ((x1000_1[0]'h).toNat : Int) = bt x1000_1 0 := bt_at x1000_1 0
          clear p13
          have qi13 : (0 < (x1000_1.size : Int)) = True := eq_true (of_decide_eq_true za)
          replace q13 := eq_true q13
          go_wp2_with (first | ((with_reducible refine gate_callee (f := 107) rfl ?_); refine goesL_ (some 36) rfl rfl Tryz.func107 (by kernel_rfl) rfl #[.pointer (some ⟨g, 0, none⟩), .int .i64 a2] rfl zm ?_; (with_reducible refine (ih_value_taker_value k1 (by have := HK1.out; omega) g x1000_1 false a2 t268 t269 t272 t273 w0 _ ?side1 ?side2 ?side3 A18.out).mono ?_); (case side1 => repeat (first | (with_reducible first | exact HI0.out | apply IsS140.alloc | apply IsS140.drewN | apply IsS140.drew | apply IsS140.set_0 | apply IsS140.set_1) | exact HI0.out)); (case side2 => exact zl1 HB.out (IsS140.ge HI0.out)); (case side3 => exact HG.out); rintro e w24 ⟨v270, rfl, ho0, hi, hb, hk⟩; refine ⟨_, rfl, ?_⟩; have n0_ := am (Kd.R_mono (Kd.R_told (Kd.R_oldK (IsS140.apart (show IsS140 w0 _ g x1000_1 false from by repeat (first | (with_reducible first | exact HI0.out | apply IsS140.alloc | apply IsS140.drewN | apply IsS140.drew | apply IsS140.set_0 | apply IsS140.set_1) | exact HI0.out)) (zr HO_7.out) (by decide)) hk) (Kd.R_base ho0)) (fun _ h_ => h_.1)); have n1_ := am (Kd.R_lower (Kd.R_new' ho0 (Kd.R_lt (zr HO_7.out))) (keep_size (w := w) (g := g) (row := none) (zk HK.out))); have n2_ := am (KeepBut.trans (zk HK.out) hk (.inl rfl)); have n3_ := am (hb); have n4_ := am (hi); clear HO_7 HK; clear HB HI0; have HO_7 := n0_; have HO271 := n1_; have HK := n2_; have HB := n3_; have HI0 := n4_; clear n0_ n1_ n2_ n3_ n4_; (try clear hb); (try clear hb2); (try clear hk); (try clear hi); (try clear ho0); obtain ⟨HGz25, hgz25⟩ := HI0.out; have hcz25_0 := cellS140_0 HGz25; have hcz25_1 := cellS140_1 HGz25; have hfz25_0 := blk_frozen HGz25 0; have hfz25_1 := blk_frozen HGz25 1; clear HGz25 hgz25) | ((with_reducible refine gate_builtin (b := .append) (xs := #[.tmp 37, .tmp 48]) rfl ?_); at_builtin; refine Kd.R_append Kd.string w.heap.size rfl (.tmp 37) (.tmp 48) 29 9 (.string ⟨#[]⟩) 16 rfl Tryz.underlying29 info9 rfl (by decide) (by omega) u7 x7_1 (x1000_1.extract 0 ((ji19) : Int).toNat) [.string (x1000_1.extract 0 ((ji19) : Int).toNat)] (fun k_ => some k_ ≠ (v270 : Value).ownBlock) (fun _ => False) rfl rfl ?aP (fun _ hk => hk.elim) ?aF ?aO (Below.refl _ _) ?aS ?aL ?_; (case aP => exact rfl); (case aF => exact (fun k_ hk => Kd.fresh' (Kd.R_lt (zr HO271.out)) k_ hk)); (case aO => exact (by refine zr ?_; exact Kd.R_mono HO_7.out (fun _ hk => hk.2))); (case aS => exact (keep_size (w := w) (g := g) (row := none) (zk HK.out))); (case aL => have := LMc22.out; omega); intro v275 w26 ho hb hg hat; rw [← Ny274.out] at ho; have n0_ := am (IsS140.grown (by repeat (first | (with_reducible first | exact HI0.out | apply IsS140.alloc | apply IsS140.drewN | apply IsS140.drew | apply IsS140.set_0 | apply IsS140.set_1) | exact HI0.out)) hg (IsS140.own_ne HI0.out HO_7.out (by decide))); have n1_ := am (Kd.R_after (ok := (fun _ => True)) (zr HO271.out) hg hat); have n2_ := am (below_weaken (zl1 HB.out (IsS140.ge HI0.out)) HL.out hb); have n3_ := am (KeepBut.trans (zk HK.out) (KeepBut.of_grown hg g) (Kd.R_base2 HO_7.out)); have n4_ := am (ho); clear HI0 HO271; clear HB HK HO_7; have HI0 := n0_; have HO271 := n1_; have HB := n2_; have HK := n3_; have HO276 := n4_; clear n0_ n1_ n2_ n3_ n4_; clear ho hb hg hat))
          go_roundg k1
          case measure => have := HK1.out; omega
          case rel => exact ⟨(y274), (t272), (t273), H', ⟨by have := HK1.out; omega⟩, ⟨by refine zr ?_; exact Kd.R_mono HO276.out (fun _ hk => trivial)⟩, ⟨by repeat (first | (with_reducible first | exact HI0.out | apply IsS140.alloc | apply IsS140.drewN | apply IsS140.drew | apply IsS140.set_0 | apply IsS140.set_1) | exact HI0.out)⟩, ⟨zk HK.out⟩, ⟨zl1 HB.out (IsS140.ge HI0.out)⟩⟩
         ·
          rw [if_neg c22] at H
          exact absurd H (by simp)
        ·
         rw [if_neg c21] at H
         exact absurd H (by simp)
       ·
        rw [if_neg c20] at H
        exact absurd H (by simp)
     ·
      rw [if_neg c12] at H
      exact absurd H (by simp)

theorem value_taker_value.all (k : Nat) : value_taker_value.Con k ∧ value_taker_row.Con k := by
 induction k using Nat.strongRecOn with
 | _ k ih => exact ⟨value_taker_value.step k (fun k_ h_ => (ih k_ h_).1) (fun k_ h_ => (ih k_ h_).2), value_taker_row.step k (fun k_ h_ => (ih k_ h_).1) (fun k_ h_ => (ih k_ h_).2)⟩
theorem value_taker_value.calls (k : Nat) : value_taker_value.Con k := (value_taker_value.all k).1
theorem value_taker_row.calls (k : Nat) : value_taker_row.Con k := (value_taker_value.all k).2

def value_Parts.f (k : Nat) (a0 : ByteArray) : Option (Int × List ByteArray × Int) := if (a0.size : Int) > 65536 then (some (0, ([] : List ByteArray), 700)) else ((value_taker_value.f k a0 false 0).bind fun bt278 => (if bt278.2.2.2 = true then (some (0, ([] : List ByteArray), 700)) else (if bt278.2.2.1.toList = ([] : List UInt8) then (some (bt278.1, bt278.2.1, 0)) else (some (0, ([] : List ByteArray), 700)))))
theorem value_Parts.calls (k : Nat) (a0 : ByteArray) (r1 : Int) (r2 : List ByteArray) (r3 : Int) (w : World) (hG : GL w) (h : value_Parts.f k a0 = some (r1, r2, r3)) :
  Calls Tryz.prog 72 #[.string a0] w fun e w' => ∃ v1_ : Value, e = .returned (.tuple #[.int .i64 r1, v1_, .int .i64 r3]) ∧ Kd.R Kd.string 9 w' w.heap.size (fun _ => True) v1_ r2 ∧ Below w.heap.size w w' := by
 have hu140 := Tryz.underlying140
 have HB := am (Below.refl w.heap.size w)
 have HG := am hG
 clear hG
 have H : (if (a0.size : Int) > 65536 then (some (0, ([] : List ByteArray), 700)) else ((value_taker_value.f k a0 false 0).bind fun bt278 => (if bt278.2.2.2 = true then (some (0, ([] : List ByteArray), 700)) else (if bt278.2.2.1.toList = ([] : List UInt8) then (some (bt278.1, bt278.2.1, 0)) else (some (0, ([] : List ByteArray), 700)))))) = some (r1, r2, r3) := h
 clear h
 by_cases c2 : (a0.size : Int) > 65536
 ·
  rw [if_pos c2] at H
  have c2b0 : decide (65536 < (a0.size : Int)) = true := decide_eq_true c2
  have c2b1 : decide (65536 < a0.size) = true := decide_eq_true (by omega)
  clear c2
  simp only [Option.some.injEq, Prod.mk.injEq] at H
  obtain ⟨rfl, rfl, rfl⟩ := H
  go_enter Tryz.func72, Tryz.ntmps72
  go_wp2_with (first | ((with_reducible refine gate_dst (N := 10) rfl ?_); refine box_event ?hg (N := 10) ?hd (cs := #[.string a0, .bool false]) (t := 140) ?hr ?_; (case hd => rfl); (case hg => rfl); (case hr => exact zh); intro gb277 hg w3 hbox hb; have n0_ := am (below_step (zl HB.out) hb); have n1_ := am (hbox); have n2_ := am ((by rw [hg]; exact (below_size (zl HB.out)) : w.heap.size ≤ gb277)); have n3_ := am ((by rw [hg]; exact (below_size (zl HB.out)) : w.heap.size ≤ gb277)); have n4_ := am ((show IsS140 w _ gb277 a0 false from ⟨hbox, (by rw [hg]; exact (below_size (zl HB.out)))⟩)); clear HB; have HB := n0_; have BK277 := n1_; have GW277 := n2_; have GE277 := n3_; have HI277 := n4_; clear n0_ n1_ n2_ n3_ n4_; clear hb hbox hg))
  go_ret3
  exact ⟨_, ze, by first | exact Kd.R_nil _ _ _ _ _ | exact Kd.N_nil _ _ _ _ _ | exact Kd.V_nil _ _ _ _ _ | exact Kd.Q_nil _ _ _ _ _ | exact Kd.S_nil _ _ _ _ _, zl1 HB.out (IsS140.ge HI277.out)⟩
 ·
  rw [if_neg c2] at H
  have c2b0 : decide (65536 < (a0.size : Int)) = false := decide_eq_false c2
  have c2b1 : decide (65536 < a0.size) = false := decide_eq_false (by omega)
  clear c2
  replace H := zo H
  obtain ⟨⟨t278, t279, t282, t283⟩, A40, H⟩ := H
  (try dsimp only at H)
  have A4 := am A40
  clear A40
  by_cases c5 : t283 = true
  ·
   subst c5
   rw [if_pos rfl] at H
   simp only [Option.some.injEq, Prod.mk.injEq] at H
   obtain ⟨rfl, rfl, rfl⟩ := H
   go_enter Tryz.func72, Tryz.ntmps72
   go_wp2_with (first | ((with_reducible refine gate_dst (N := 10) rfl ?_); refine box_event ?hg (N := 10) ?hd (cs := #[.string a0, .bool false]) (t := 140) ?hr ?_; (case hd => rfl); (case hg => rfl); (case hr => exact zh); intro gb277 hg w6 hbox hb; have n0_ := am (below_step (zl HB.out) hb); have n1_ := am (hbox); have n2_ := am ((by rw [hg]; exact (below_size (zl HB.out)) : w.heap.size ≤ gb277)); have n3_ := am ((by rw [hg]; exact (below_size (zl HB.out)) : w.heap.size ≤ gb277)); have n4_ := am ((show IsS140 w _ gb277 a0 false from ⟨hbox, (by rw [hg]; exact (below_size (zl HB.out)))⟩)); clear HB; have HB := n0_; have BK277 := n1_; have GW277 := n2_; have GE277 := n3_; have HI277 := n4_; clear n0_ n1_ n2_ n3_ n4_; clear hb hbox hg) | ((with_reducible refine gate_callee (f := 107) rfl ?_); refine goesL_ (some 16) rfl rfl Tryz.func107 (by kernel_rfl) rfl #[.pointer (some ⟨gb277, 0, none⟩), .int .i64 0] rfl zm ?_; (with_reducible refine (value_taker_value.calls k gb277 a0 false 0 t278 t279 t282 true w _ ?side1 ?side2 ?side3 A4.out).mono ?_); (case side1 => repeat (first | (with_reducible first | exact HI277.out | apply IsS140.alloc | apply IsS140.drewN | apply IsS140.drew | apply IsS140.set_0 | apply IsS140.set_1) | exact HI277.out)); (case side2 => exact zl1 HB.out (IsS140.ge HI277.out)); (case side3 => exact HG.out); rintro e w7 ⟨v280, rfl, ho0, hi, hb, hk⟩; refine ⟨_, rfl, ?_⟩; have n0_ := am (Kd.R_lower ho0 (below_size (zl1 HB.out (IsS140.ge HI277.out)))); have n1_ := am (hb); have n2_ := am (hi); clear HB HI277; have HO281 := n0_; have HB := n1_; have HI277 := n2_; clear n0_ n1_ n2_; (try clear hb); (try clear hb2); (try clear hk); (try clear hi); (try clear ho0); obtain ⟨HGz8, hgz8⟩ := HI277.out; have hcz8_0 := cellS140_0 HGz8; have hcz8_1 := cellS140_1 HGz8; have hfz8_0 := blk_frozen HGz8 0; have hfz8_1 := blk_frozen HGz8 1; clear HGz8 hgz8))
   go_ret3
   exact ⟨_, ze, by first | exact Kd.R_nil _ _ _ _ _ | exact Kd.N_nil _ _ _ _ _ | exact Kd.V_nil _ _ _ _ _ | exact Kd.Q_nil _ _ _ _ _ | exact Kd.S_nil _ _ _ _ _, zl1 HB.out (IsS140.ge HI277.out)⟩
  ·
   replace c5 := Bool.eq_false_iff.mpr c5
   subst c5
   rw [if_neg (show ¬ (false = true) by decide)] at H
   by_cases c9 : t282.toList = ([] : List UInt8)
   ·
    rw [if_pos c9] at H
    have c9b0 := beq_iff_eq.mpr c9
    have c9b1 := bne_eq_false_iff_eq.mpr c9
    clear c9
    simp only [Option.some.injEq, Prod.mk.injEq] at H
    obtain ⟨rfl, rfl, rfl⟩ := H
    go_enter Tryz.func72, Tryz.ntmps72
    go_wp2_with (first | ((with_reducible refine gate_dst (N := 10) rfl ?_); refine box_event ?hg (N := 10) ?hd (cs := #[.string a0, .bool false]) (t := 140) ?hr ?_; (case hd => rfl); (case hg => rfl); (case hr => exact zh); intro gb277 hg w10 hbox hb; have n0_ := am (below_step (zl HB.out) hb); have n1_ := am (hbox); have n2_ := am ((by rw [hg]; exact (below_size (zl HB.out)) : w.heap.size ≤ gb277)); have n3_ := am ((by rw [hg]; exact (below_size (zl HB.out)) : w.heap.size ≤ gb277)); have n4_ := am ((show IsS140 w _ gb277 a0 false from ⟨hbox, (by rw [hg]; exact (below_size (zl HB.out)))⟩)); clear HB; have HB := n0_; have BK277 := n1_; have GW277 := n2_; have GE277 := n3_; have HI277 := n4_; clear n0_ n1_ n2_ n3_ n4_; clear hb hbox hg) | ((with_reducible refine gate_callee (f := 107) rfl ?_); refine goesL_ (some 16) rfl rfl Tryz.func107 (by kernel_rfl) rfl #[.pointer (some ⟨gb277, 0, none⟩), .int .i64 0] rfl zm ?_; (with_reducible refine (value_taker_value.calls k gb277 a0 false 0 t278 t279 t282 false w _ ?side1 ?side2 ?side3 A4.out).mono ?_); (case side1 => repeat (first | (with_reducible first | exact HI277.out | apply IsS140.alloc | apply IsS140.drewN | apply IsS140.drew | apply IsS140.set_0 | apply IsS140.set_1) | exact HI277.out)); (case side2 => exact zl1 HB.out (IsS140.ge HI277.out)); (case side3 => exact HG.out); rintro e w11 ⟨v280, rfl, ho0, hi, hb, hk⟩; refine ⟨_, rfl, ?_⟩; have n0_ := am (Kd.R_lower ho0 (below_size (zl1 HB.out (IsS140.ge HI277.out)))); have n1_ := am (hb); have n2_ := am (hi); clear HB HI277; have HO281 := n0_; have HB := n1_; have HI277 := n2_; clear n0_ n1_ n2_; (try clear hb); (try clear hb2); (try clear hk); (try clear hi); (try clear ho0); obtain ⟨HGz12, hgz12⟩ := HI277.out; have hcz12_0 := cellS140_0 HGz12; have hcz12_1 := cellS140_1 HGz12; have hfz12_0 := blk_frozen HGz12 0; have hfz12_1 := blk_frozen HGz12 1; clear HGz12 hgz12))
    go_ret3
    exact ⟨_, ze, by refine zr ?_; exact HO281.out, zl1 HB.out (IsS140.ge HI277.out)⟩
   ·
    rw [if_neg c9] at H
    have c9b0 := beq_eq_false_iff_ne.mpr c9
    have c9b1 := bne_iff_ne.mpr c9
    simp only [Option.some.injEq, Prod.mk.injEq] at H
    obtain ⟨rfl, rfl, rfl⟩ := H
    go_enter Tryz.func72, Tryz.ntmps72
    go_wp2_with (first | ((with_reducible refine gate_dst (N := 10) rfl ?_); refine box_event ?hg (N := 10) ?hd (cs := #[.string a0, .bool false]) (t := 140) ?hr ?_; (case hd => rfl); (case hg => rfl); (case hr => exact zh); intro gb277 hg w13 hbox hb; have n0_ := am (below_step (zl HB.out) hb); have n1_ := am (hbox); have n2_ := am ((by rw [hg]; exact (below_size (zl HB.out)) : w.heap.size ≤ gb277)); have n3_ := am ((by rw [hg]; exact (below_size (zl HB.out)) : w.heap.size ≤ gb277)); have n4_ := am ((show IsS140 w _ gb277 a0 false from ⟨hbox, (by rw [hg]; exact (below_size (zl HB.out)))⟩)); clear HB; have HB := n0_; have BK277 := n1_; have GW277 := n2_; have GE277 := n3_; have HI277 := n4_; clear n0_ n1_ n2_ n3_ n4_; clear hb hbox hg) | ((with_reducible refine gate_callee (f := 107) rfl ?_); refine goesL_ (some 16) rfl rfl Tryz.func107 (by kernel_rfl) rfl #[.pointer (some ⟨gb277, 0, none⟩), .int .i64 0] rfl zm ?_; (with_reducible refine (value_taker_value.calls k gb277 a0 false 0 t278 t279 t282 false w _ ?side1 ?side2 ?side3 A4.out).mono ?_); (case side1 => repeat (first | (with_reducible first | exact HI277.out | apply IsS140.alloc | apply IsS140.drewN | apply IsS140.drew | apply IsS140.set_0 | apply IsS140.set_1) | exact HI277.out)); (case side2 => exact zl1 HB.out (IsS140.ge HI277.out)); (case side3 => exact HG.out); rintro e w14 ⟨v280, rfl, ho0, hi, hb, hk⟩; refine ⟨_, rfl, ?_⟩; have n0_ := am (Kd.R_lower ho0 (below_size (zl1 HB.out (IsS140.ge HI277.out)))); have n1_ := am (hb); have n2_ := am (hi); clear HB HI277; have HO281 := n0_; have HB := n1_; have HI277 := n2_; clear n0_ n1_ n2_; (try clear hb); (try clear hb2); (try clear hk); (try clear hi); (try clear ho0); obtain ⟨HGz15, hgz15⟩ := HI277.out; have hcz15_0 := cellS140_0 HGz15; have hcz15_1 := cellS140_1 HGz15; have hfz15_0 := blk_frozen HGz15 0; have hfz15_1 := blk_frozen HGz15 1; clear HGz15 hgz15))
    go_ret3
    exact ⟨_, ze, by first | exact Kd.R_nil _ _ _ _ _ | exact Kd.N_nil _ _ _ _ _ | exact Kd.V_nil _ _ _ _ _ | exact Kd.Q_nil _ _ _ _ _ | exact Kd.S_nil _ _ _ _ _, zl1 HB.out (IsS140.ge HI277.out)⟩
end Go.Proofs.YtkcmkedboflklaaGreatDoor.Q
