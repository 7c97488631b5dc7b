/- Steps towards: PageUnlike: unlike columns have unlike pages, for every type, every leaf and every two columns; no condition beside the row's own (the library's listed variables hold what the program's text lays). -/
import Derived.Test.YtkcmkedboflklaaGreatDoorA2
import Derived.Test.YtkcmkedboflklaaGreatDoorA12
import Derived.Test.YtkcmkedboflklaaGreatDoorA16
import Derived.Test.YtkcmkedboflklaaGreatDoorA14
import Derived.Test.YtkcmkedboflklaaGreatDoorA7
import Derived.Test.YtkcmkedboflklaaGreatDoorA15
import Derived.Test.YtkcmkedboflklaaGreatDoorA17
import Derived.Test.YtkcmkedboflklaaGreatDoorA10
namespace Go.Proofs.YtkcmkedboflklaaGreatDoor.Q
open Go.RowKit Go.Proofs.YtkcmkedboflklaaGreatDoorW.PrintWords Go.Proofs.YtkcmkedboflklaaGreatDoorW.PrintLast Go.Proofs.YtkcmkedboflklaaGreatDoorW.PrintMore
attribute [local go_sem] max2_int min2_int max_two min_two max_three min_three max_four min_four
set_option linter.unusedVariables false
set_option linter.unusedSimpArgs false
set_option maxHeartbeats 8000000
set_option maxRecDepth 100000

def page_Get.l0 : Nat → Int → ByteArray → Int → Int → Int → Int → List (S24) → ByteArray → Bool → List Int → List Int → List ByteArray → Option (List Int × List Int × List ByteArray × Int)
 | 0, _, _, _, _, _, _, _, _, _, _, _, _ => none
 | k + 1, x1, x2, x16, x17, x82, x83, x505000, x513000, x513001, x523000, x523001, x523002 => if x83 < x82 then (if x513001 = true then (none) else (if 0 ≤ x1 then (if x1 < (x505000.length : Int) then ((page_Taker_value.f k x513000 x513001 ((rd_T24 x505000 x1).f0)).bind fun bt541 => (if x523002.length < 8796093022208 then (page_Get.l0 k x1 x2 x16 x17 x82 (wrap64 (x83 + 1)) x505000 bt541.2.1 bt541.2.2 x523000 x523001 (x523002 ++ [bt541.1])) else (none))) else (none)) else (none))) else ((page_Put.f k x505000 x1 x523000 x523001 x523002).bind fun bt547 => (if x513001 = true then (none) else (if x16 = 0 then (if x17 = 0 then (if bt547.2 = 0 then (if bt547.1.toList = x2.toList then (some (x523000, x523001, x523002, 0)) else (none)) else (none)) else (none)) else (none))))
def page_Get.f (k : Nat) (l0_0 : List (S24)) (a1 : Int) (a2 : ByteArray) : Option (List Int × List Int × List ByteArray × Int) := (types_Leaf.f k l0_0 a1).bind fun t506 => (if t506 = true then (if (a2.size : Int) < 4 then (some (([] : List Int), ([] : List Int), ([] : List ByteArray), 2200)) else (if 0 ≤ 4 then (if 4 ≤ (a2.size : Int) then ((num_Of.f k (a2.extract 0 4)).bind fun t507 => ((crc_Sum.f k (a2.extract 4 a2.size)).bind fun t508 => (if t507 = t508 then ((types_Levels.f k l0_0 a1).bind fun bt509 => ((page_Taker_Number.f k (a2.extract 4 a2.size) false).bind fun bt513 => ((page_Taker_Number.f k bt513.2.1 bt513.2.2).bind fun bt516 => ((page_Taker_Number.f k bt516.2.1 bt516.2.2).bind fun bt519 => ((page_Taker_Bytes.f bt519.2.1 bt519.2.2 bt516.1).bind fun bt523 => ((bits_Len.f (IntKind.u64.wrap (bt509.1))).bind fun t526 => ((hybrid_Get.f k bt523.1 t526 bt513.1).bind fun bt527 => ((page_Taker_Bytes.f bt523.2.1 bt523.2.2 bt519.1).bind fun bt531 => ((bits_Len.f (IntKind.u64.wrap (bt509.2.1))).bind fun t534 => ((hybrid_Get.f k bt531.1 t534 bt513.1).bind fun bt535 => ((page_there.f k bt535.1 bt509.2.1).bind fun t539 => (page_Get.l0 k a1 a2 bt527.2 bt535.2 t539 0 l0_0 bt531.2.1 bt531.2.2 bt527.1 bt535.1 ([] : List ByteArray))))))))))))) else (some (([] : List Int), ([] : List Int), ([] : List ByteArray), 2201))))) else (none)) else (none))) else (none))
def page_Get.T15 : Bool × List (List Nat × List Nat) := (true, [([], []), ([0], [0]), ([], []), ([], []), ([3], [3]), ([], []), ([4, 5], [4, 5]), ([6], [6]), ([7], [7]), ([2, 8], [2, 8]), ([9], [9]), ([1, 10, 9], [1, 10]), ([0, 1, 2, 3, 4, 5, 6, 7, 8, 9, 10, 11], []), ([12, 11, 11, 0, 1, 2, 3, 4, 5, 6, 7, 8, 9, 10, 11], [11, 12])])
def page_Get.B15 : List Nat := [0, 1, 0, 0, 8, 0, 56, 120, 248, 508, 1020, 2047, 4095, 8191]
theorem page_Get.tab15 : rtab .any (opsOf Tryz.f18 15) = page_Get.T15 := by kernel_rfl
theorem page_Get.bits15 : waitsOk page_Get.T15.2 page_Get.B15 = true := by kernel_rfl
theorem page_Get.calls (k : Nat) (A0_0 : Option Addr) (c0_0 : Nat) (l0_0 : List (S24)) (a1 : Int) (a2 : ByteArray) (r1 : List Int) (r2 : List Int) (r3 : List ByteArray) (r4 : Int) (w : World) (hr0_0 : Kd.C k24 w A0_0 l0_0.length l0_0) (hc0_0 : l0_0.length ≤ c0_0) (hG : GL w) (h : page_Get.f k l0_0 a1 a2 = some (r1, r2, r3, r4)) :
  Calls Tryz.prog 18 #[.agg #[.slice A0_0 l0_0.length c0_0], .int .i64 a1, .string a2] w fun e w' => ∃ v0_ v1_ v2_ : Value, e = .returned (.tuple #[.agg #[v0_, v1_, v2_], .int .i64 r4]) ∧ Kd.R (Kd.int .i64) 3 w' w.heap.size (fun k_ => some k_ ≠ (v1_ : Value).ownBlock) v0_ r1 ∧ Kd.R (Kd.int .i64) 3 w' w.heap.size (fun k_ => some k_ ≠ (v0_ : Value).ownBlock) v1_ r2 ∧ Kd.R Kd.string 9 w' w.heap.size (fun _ => True) v2_ r3 ∧ Below w.heap.size w w' := by
 have hu27 := Tryz.underlying27
 have hu31 := Tryz.underlying31
 have hu84 := Tryz.underlying84
 have HR0_0 := am hr0_0
 have HC0_0 := am hc0_0
 clear hr0_0 hc0_0
 have HB := am (Below.refl w.heap.size w)
 have HG := am hG
 clear hG
 have H : ((types_Leaf.f k l0_0 a1).bind fun t506 => (if t506 = true then (if (a2.size : Int) < 4 then (some (([] : List Int), ([] : List Int), ([] : List ByteArray), 2200)) else (if 0 ≤ 4 then (if 4 ≤ (a2.size : Int) then ((num_Of.f k (a2.extract 0 4)).bind fun t507 => ((crc_Sum.f k (a2.extract 4 a2.size)).bind fun t508 => (if t507 = t508 then ((types_Levels.f k l0_0 a1).bind fun bt509 => ((page_Taker_Number.f k (a2.extract 4 a2.size) false).bind fun bt513 => ((page_Taker_Number.f k bt513.2.1 bt513.2.2).bind fun bt516 => ((page_Taker_Number.f k bt516.2.1 bt516.2.2).bind fun bt519 => ((page_Taker_Bytes.f bt519.2.1 bt519.2.2 bt516.1).bind fun bt523 => ((bits_Len.f (IntKind.u64.wrap (bt509.1))).bind fun t526 => ((hybrid_Get.f k bt523.1 t526 bt513.1).bind fun bt527 => ((page_Taker_Bytes.f bt523.2.1 bt523.2.2 bt519.1).bind fun bt531 => ((bits_Len.f (IntKind.u64.wrap (bt509.2.1))).bind fun t534 => ((hybrid_Get.f k bt531.1 t534 bt513.1).bind fun bt535 => ((page_there.f k bt535.1 bt509.2.1).bind fun t539 => (page_Get.l0 k a1 a2 bt527.2 bt535.2 t539 0 l0_0 bt531.2.1 bt531.2.2 bt527.1 bt535.1 ([] : List ByteArray))))))))))))) else (some (([] : List Int), ([] : List Int), ([] : List ByteArray), 2201))))) else (none)) else (none))) else (none))) = some (r1, r2, r3, r4) := h
 clear h
 replace H := zo H
 obtain ⟨t506, A40, H⟩ := H
 (try dsimp only at H)
 have A4 := am A40
 clear A40
 by_cases c5 : t506 = true
 ·
  subst c5
  rw [if_pos rfl] at H
  by_cases c6 : (a2.size : Int) < 4
  ·
   rw [if_pos c6] at H
   have c6b0 := decide_eq_true c6
   have c6b1 : decide (a2.size < 4) = true := decide_eq_true (by omega)
   clear c6
   simp only [Option.some.injEq, Prod.mk.injEq] at H
   obtain ⟨rfl, rfl, rfl, rfl⟩ := H
   go_enter Tryz.func18, Tryz.ntmps18
   go_wp2_with (first | ((with_reducible refine gate_dst (N := 3) rfl ?_); refine box_event ?hg (N := 3) ?hd (cs := #[.slice A0_0 l0_0.length c0_0]) (t := 27) ?hr ?_; (case hd => rfl); (case hg => rfl); (case hr => exact zh); intro gb504 hg w7 hbox hb; have n0_ := am (below_step (zl HB.out) hb); have n1_ := am (hbox); have n2_ := am ((by rw [hg]; exact (below_size (zl HB.out)) : w.heap.size ≤ gb504)); have n3_ := am ((by rw [hg]; exact (below_size (zl HB.out)) : w.heap.size ≤ gb504)); clear HB; have HB := n0_; have BK504 := n1_; have GW504 := n2_; have GE504 := n3_; clear n0_ n1_ n2_ n3_; clear hb hbox hg) | ((with_reducible refine gate_dst (N := 6) rfl ?_); refine box_event ?hg (N := 6) ?hd (cs := #[.slice none 0 0, .slice none 0 0, .slice none 0 0]) (t := 31) ?hr ?_; (case hd => rfl); (case hg => rfl); (case hr => exact zh); intro gb505 hg w8 hbox hb; have n0_ := am (zbb BK504.out hb); have n1_ := am (below_step (zl1 HB.out GE504.out) hb); have n2_ := am (hbox); have n3_ := am ((by rw [hg]; exact (below_size (zl1 HB.out GE504.out)) : w.heap.size ≤ gb505)); have n4_ := am ((by rw [hg]; exact (below_size (zl1 HB.out GE504.out)) : w.heap.size ≤ gb505)); have n5_ := am ((by rw [hg]; exact Nat.ne_of_lt (blk_lt (g := gb504) (o := .cells #[.slice A0_0 l0_0.length c0_0] 27 (0, 0)) (zb BK504.out)) : gb504 ≠ gb505)); have n6_ := am ((by rw [hg]; exact Nat.ne_of_gt (blk_lt (g := gb504) (o := .cells #[.slice A0_0 l0_0.length c0_0] 27 (0, 0)) (zb BK504.out)) : gb505 ≠ gb504)); clear BK504 HB; have BK504 := n0_; have HB := n1_; have BK505 := n2_; have GW505 := n3_; have GE505 := n4_; have NB504_505 := n5_; have NB505_504 := n6_; clear n0_ n1_ n2_ n3_ n4_ n5_ n6_; clear hb hbox hg; have hnb9 := NB504_505.out; have hnc9 := NB505_504.out; have hcz10_0 : w8.cell? ⟨gb504, 0, none⟩ = some (.slice A0_0 l0_0.length c0_0) := (blk_cell BK504.out 0).trans rfl; have hfz10_0 := blk_frozen BK504.out 0) | ((with_reducible refine gate_callee (f := 42) rfl ?_); refine goesL_ (some 22) rfl rfl Tryz.func42 (by kernel_rfl) rfl #[.agg #[.slice A0_0 l0_0.length c0_0], .int .i64 a1] rfl zm ?_; (with_reducible refine (types_Leaf.calls k _ _ l0_0 a1 true _ ?side1 ?side2 A4.out).mono ?_); (case side1 => exact zc (Kd.C_below HR0_0.out HB.out)); (case side2 => exact HC0_0.out); rintro e w11 ⟨rfl, hb⟩; refine ⟨_, rfl, ?_⟩; have n0_ := am (zbb BK504.out hb); have n1_ := am (zbb BK505.out hb); have n2_ := am (below_step (zl2 HB.out GE504.out GE505.out) hb); clear BK504 BK505 HB; have BK504 := n0_; have BK505 := n1_; have HB := n2_; clear n0_ n1_ n2_; (try clear hb); (try clear hb2); (try clear hk); (try clear hi); have hcz12_0 : w11.cell? ⟨gb505, 0, none⟩ = some (.slice none 0 0) := (blk_cell BK505.out 0).trans rfl; have hcz12_1 : w11.cell? ⟨gb505, 1, none⟩ = some (.slice none 0 0) := (blk_cell BK505.out 1).trans rfl; have hcz12_2 : w11.cell? ⟨gb505, 2, none⟩ = some (.slice none 0 0) := (blk_cell BK505.out 2).trans rfl; have hfz12_0 := blk_frozen BK505.out 0; have hfz12_1 := blk_frozen BK505.out 1; have hfz12_2 := blk_frozen BK505.out 2))
   refine bodyPost_ret (results_ct rfl _ _ gb505 31 #[.slice none 0 0, .slice none 0 0, .slice none 0 0] (0, 0) _ rfl (by refine zb ?_; refine blk_put (cs := #[.slice none 0 0, .slice none 0 0, .slice none 0 0]) ?_ 2 _ rfl; refine zb ?_; refine blk_put (cs := #[.slice none 0 0, .slice none 0 0, .slice none 0 0]) ?_ 1 _ rfl; refine zb ?_; refine blk_put (cs := #[.slice none 0 0, .slice none 0 0, .slice none 0 0]) ?_ 0 _ rfl; refine zb ?_; exact BK505.out) Tryz.underlying31 rfl (by kernel_rfl)) rfl ?_
   exact ⟨_, _, _, ze, by first | exact Kd.R_nil _ _ _ _ _ | exact Kd.N_nil _ _ _ _ _ | exact Kd.V_nil _ _ _ _ _ | exact Kd.Q_nil _ _ _ _ _ | exact Kd.S_nil _ _ _ _ _, by first | exact Kd.R_nil _ _ _ _ _ | exact Kd.N_nil _ _ _ _ _ | exact Kd.V_nil _ _ _ _ _ | exact Kd.Q_nil _ _ _ _ _ | exact Kd.S_nil _ _ _ _ _, by first | exact Kd.R_nil _ _ _ _ _ | exact Kd.N_nil _ _ _ _ _ | exact Kd.V_nil _ _ _ _ _ | exact Kd.Q_nil _ _ _ _ _ | exact Kd.S_nil _ _ _ _ _, zl2 HB.out GE504.out GE505.out⟩
  ·
   rw [if_neg c6] at H
   have c6b0 := decide_eq_false c6
   have c6b1 : decide (a2.size < 4) = false := decide_eq_false (by omega)
   clear c6
   by_cases c13 : 0 ≤ 4
   ·
    rw [if_pos c13] at H
    have c13b0 := eq_true c13
    have c13b1 := decide_eq_true c13
    clear c13
    by_cases c14 : 4 ≤ (a2.size : Int)
    ·
     rw [if_pos c14] at H
     have c14b0 := eq_true c14
     have c14b1 := decide_eq_true c14
     clear c14
     replace H := zo H
     obtain ⟨t507, A150, H⟩ := H
     (try dsimp only at H)
     have A15 := am A150
     clear A150
     have c16b0 := eq_true (of_decide_eq_true za : 4 ≤ (a2.size : Int))
     replace H := zo H
     obtain ⟨t508, A170, H⟩ := H
     (try dsimp only at H)
     have A17 := am A170
     clear A170
     by_cases c18 : t507 = t508
     ·
      rw [if_pos c18] at H
      have c18b0 := beq_iff_eq.mpr c18
      have c18b1 := bne_eq_false_iff_eq.mpr c18
      clear c18
      replace H := zo H
      obtain ⟨⟨t509, t510, t511⟩, A190, H⟩ := H
      (try dsimp only at H)
      have A19 := am A190
      clear A190
      have c20b0 := eq_true (of_decide_eq_true za : 4 ≤ (a2.size : Int))
      replace H := zo H
      obtain ⟨⟨t513, t514, t515⟩, A210, H⟩ := H
      (try dsimp only at H)
      have A21 := am A210
      clear A210
      replace H := zo H
      obtain ⟨⟨t516, t517, t518⟩, A220, H⟩ := H
      (try dsimp only at H)
      have A22 := am A220
      clear A220
      replace H := zo H
      obtain ⟨⟨t519, t520, t521⟩, A230, H⟩ := H
      (try dsimp only at H)
      have A23 := am A230
      clear A230
      replace H := zo H
      obtain ⟨⟨t523, t524, t525⟩, A240, H⟩ := H
      (try dsimp only at H)
      have A24 := am A240
      clear A240
      replace H := zo H
      obtain ⟨t526, A250, H⟩ := H
      (try dsimp only at H)
      have A25 := am A250
      clear A250
      replace H := zo H
      obtain ⟨⟨t527, t528⟩, A260, H⟩ := H
      (try dsimp only at H)
      have A26 := am A260
      clear A260
      replace H := zo H
      obtain ⟨⟨t531, t532, t533⟩, A270, H⟩ := H
      (try dsimp only at H)
      have A27 := am A270
      clear A270
      replace H := zo H
      obtain ⟨t534, A280, H⟩ := H
      (try dsimp only at H)
      have A28 := am A280
      clear A280
      replace H := zo H
      obtain ⟨⟨t535, t536⟩, A290, H⟩ := H
      (try dsimp only at H)
      have A29 := am A290
      clear A290
      replace H := zo H
      obtain ⟨t539, A300, H⟩ := H
      (try dsimp only at H)
      have A30 := am A300
      clear A300
      have H' := am H
      clear H
      go_enter Tryz.func18, Tryz.ntmps18
      try go_wp2_with (first | ((with_reducible refine gate_dst (N := 3) rfl ?_); refine box_event ?hg (N := 3) ?hd (cs := #[.slice A0_0 l0_0.length c0_0]) (t := 27) ?hr ?_; (case hd => rfl); (case hg => rfl); (case hr => exact zh); intro gb504 hg w31 hbox hb; have n0_ := am (below_step (zl HB.out) hb); have n1_ := am (hbox); have n2_ := am ((by rw [hg]; exact (below_size (zl HB.out)) : w.heap.size ≤ gb504)); have n3_ := am ((by rw [hg]; exact (below_size (zl HB.out)) : w.heap.size ≤ gb504)); clear HB; have HB := n0_; have BK504 := n1_; have GW504 := n2_; have GE504 := n3_; clear n0_ n1_ n2_ n3_; clear hb hbox hg) | ((with_reducible refine gate_dst (N := 6) rfl ?_); refine box_event ?hg (N := 6) ?hd (cs := #[.slice none 0 0, .slice none 0 0, .slice none 0 0]) (t := 31) ?hr ?_; (case hd => rfl); (case hg => rfl); (case hr => exact zh); intro gb505 hg w32 hbox hb; have n0_ := am (zbb BK504.out hb); have n1_ := am (below_step (zl1 HB.out GE504.out) hb); have n2_ := am (hbox); have n3_ := am ((by rw [hg]; exact (below_size (zl1 HB.out GE504.out)) : w.heap.size ≤ gb505)); have n4_ := am ((by rw [hg]; exact (below_size (zl1 HB.out GE504.out)) : w.heap.size ≤ gb505)); have n5_ := am ((by rw [hg]; exact Nat.ne_of_lt (blk_lt (g := gb504) (o := .cells #[.slice A0_0 l0_0.length c0_0] 27 (0, 0)) (zb BK504.out)) : gb504 ≠ gb505)); have n6_ := am ((by rw [hg]; exact Nat.ne_of_gt (blk_lt (g := gb504) (o := .cells #[.slice A0_0 l0_0.length c0_0] 27 (0, 0)) (zb BK504.out)) : gb505 ≠ gb504)); clear BK504 HB; have BK504 := n0_; have HB := n1_; have BK505 := n2_; have GW505 := n3_; have GE505 := n4_; have NB504_505 := n5_; have NB505_504 := n6_; clear n0_ n1_ n2_ n3_ n4_ n5_ n6_; clear hb hbox hg; have hnb33 := NB504_505.out; have hnc33 := NB505_504.out; have hcz34_0 : w32.cell? ⟨gb504, 0, none⟩ = some (.slice A0_0 l0_0.length c0_0) := (blk_cell BK504.out 0).trans rfl; have hfz34_0 := blk_frozen BK504.out 0) | ((with_reducible refine gate_callee (f := 42) rfl ?_); refine goesL_ (some 22) rfl rfl Tryz.func42 (by kernel_rfl) rfl #[.agg #[.slice A0_0 l0_0.length c0_0], .int .i64 a1] rfl zm ?_; (with_reducible refine (types_Leaf.calls k _ _ l0_0 a1 true _ ?side1 ?side2 A4.out).mono ?_); (case side1 => exact zc (Kd.C_below HR0_0.out HB.out)); (case side2 => exact HC0_0.out); rintro e w35 ⟨rfl, hb⟩; refine ⟨_, rfl, ?_⟩; have n0_ := am (zbb BK504.out hb); have n1_ := am (zbb BK505.out hb); have n2_ := am (below_step (zl2 HB.out GE504.out GE505.out) hb); clear BK504 BK505 HB; have BK504 := n0_; have BK505 := n1_; have HB := n2_; clear n0_ n1_ n2_; (try clear hb); (try clear hb2); (try clear hk); (try clear hi)))
      have n0_ := am (blk_drew BK504.out)
      have n1_ := am (blk_drew BK505.out)
      have n2_ := am (below_drew1 HB.out)
      clear BK504
      clear BK505
      clear HB
      have BK504 := n0_
      have BK505 := n1_
      have HB := n2_
      clear n0_ n1_ n2_
      refine start_ (n := 7) (S := fun w' => True) (ds := []) #[false, false, false, false, false, false, false] (by kernel_rfl) rfl rfl trivial (fun hHeld => ?_)
      generalize w35.drew = w36 at BK504 BK505 HB hHeld ⊢
      refine pure_ (i := 0) (N := some 30) (v := ?_) (a' := ?_) #[true, false, false, false, false, false, false] rfl rfl (by kernel_rfl) (fun _ _ _ h => h) (Or.inl ⟨by rfl, ?_⟩) ?_ ?_
      rotate_left
      ·
       intro w'
       go_simp
       first | (with_reducible rfl) | (rw [if_neg (by omega)])
      rotate_left
      ·
       simp only [Act.put, List.setIfInBounds_toArray, List.set_cons_zero, List.set_cons_succ, i64_w, i32_w]
       rfl
      refine pure_ (i := 1) (N := some 31) (v := ?_) (a' := ?_) #[true, true, false, false, false, false, false] rfl rfl (by kernel_rfl) (fun _ _ _ h => h) (Or.inl ⟨by rfl, ?_⟩) ?_ ?_
      rotate_left
      ·
       intro w'
       go_simp
       first | (with_reducible rfl) | (rw [if_neg (by omega)])
      rotate_left
      ·
       simp only [Act.put, List.setIfInBounds_toArray, List.set_cons_zero, List.set_cons_succ, i64_w, i32_w]
       rfl
      refine pure_ (i := 3) (N := some 33) (v := ?_) (a' := ?_) #[true, true, false, true, false, false, false] rfl rfl (by kernel_rfl) (fun _ _ _ h => h) (Or.inl ⟨by rfl, ?_⟩) ?_ ?_
      rotate_left
      ·
       intro w'
       go_simp
       first | (with_reducible rfl) | (rw [if_neg (by omega)])
      rotate_left
      ·
       simp only [Act.put, List.setIfInBounds_toArray, List.set_cons_zero, List.set_cons_succ, i64_w, i32_w]
       rfl
      refine pure_ (i := 4) (N := some 34) (v := ?_) (a' := ?_) #[true, true, false, true, true, false, false] rfl rfl (by kernel_rfl) (fun _ _ _ h => h) (Or.inl ⟨by rfl, ?_⟩) ?_ ?_
      rotate_left
      ·
       intro w'
       go_simp
       first | (with_reducible rfl) | (rw [if_neg (by omega)])
      rotate_left
      ·
       simp only [Act.put, List.setIfInBounds_toArray, List.set_cons_zero, List.set_cons_succ, i64_w, i32_w]
       rfl
      refine one_ (i := 2) (N := some 32) #[true, true, true, true, true, false, false] rfl rfl (by kernel_rfl) (by decide) (fun K hK => ?_)
      refine goes_ Tryz.func43 (by kernel_rfl) rfl #[.string (a2.extract 0 4)] (by rfl) rfl rfl zm ?_
      with_reducible refine (num_Of.calls k (a2.extract 0 4) t507 _ A15.out).mono ?_
      rintro e w' ⟨rfl, ⟨nd, rfl⟩⟩
      refine ⟨_, rfl, ?_⟩
      refine hK.out _ _ trivial (fun hHeld => ?_)
      clear hK K
      refine norm_ (a' := ?_) ?_ ?_
      rotate_left
      ·
       show Act.put _ (some 32) _ = _
       simp only [Act.put, List.setIfInBounds_toArray, List.set_cons_zero, List.set_cons_succ, i64_w, i32_w]
       rfl
      refine one_ (i := 5) (N := some 35) #[true, true, true, true, true, true, false] rfl rfl (by kernel_rfl) (by decide) (fun K hK => ?_)
      refine goes_ Tryz.func40 (by kernel_rfl) rfl #[.string (a2.extract 4 a2.size)] (by rfl) rfl rfl zm ?_
      with_reducible refine (crc_Sum.calls k (a2.extract 4 a2.size) t508 _ A17.out).mono ?_
      rintro e w' ⟨rfl, ⟨nd, rfl⟩⟩
      refine ⟨_, rfl, ?_⟩
      refine hK.out _ _ trivial (fun hHeld => ?_)
      clear hK K
      refine norm_ (a' := ?_) ?_ ?_
      rotate_left
      ·
       show Act.put _ (some 35) _ = _
       simp only [Act.put, List.setIfInBounds_toArray, List.set_cons_zero, List.set_cons_succ, i64_w, i32_w]
       rfl
      refine pure_ (i := 6) (N := some 36) (v := ?_) (a' := ?_) #[true, true, true, true, true, true, true] rfl rfl (by kernel_rfl) (fun _ _ _ h => h) (Or.inl ⟨by rfl, ?_⟩) ?_ ?_
      rotate_left
      ·
       intro w'
       go_simp
       first | (with_reducible rfl) | (rw [if_neg (by omega)])
      rotate_left
      ·
       simp only [Act.put, List.setIfInBounds_toArray, List.set_cons_zero, List.set_cons_succ, i64_w, i32_w]
       rfl
      refine done_ (by kernel_rfl) ?_
      have hcz37_0 : w36.cell? ⟨gb504, 0, none⟩ = some (.slice A0_0 l0_0.length c0_0) := (blk_cell BK504.out 0).trans rfl
      have hfz37_0 := blk_frozen BK504.out 0
      try go_wp2_with (first | ((with_reducible refine gate_callee (f := 35) rfl ?_); refine goesL_ (some 41) rfl rfl Tryz.func35 (by kernel_rfl) rfl #[.agg #[.slice A0_0 l0_0.length c0_0], .int .i64 a1] rfl zm ?_; (with_reducible refine (types_Levels.calls k _ _ l0_0 a1 t509 t510 t511 _ ?side1 ?side2 A19.out).mono ?_); (case side1 => exact zc (Kd.C_below HR0_0.out (zl2 HB.out GE504.out GE505.out))); (case side2 => exact HC0_0.out); rintro e w38 ⟨rfl, hb⟩; refine ⟨_, rfl, ?_⟩; have n0_ := am (zbb BK504.out hb); have n1_ := am (zbb BK505.out hb); have n2_ := am (below_step (zl2 HB.out GE504.out GE505.out) hb); clear BK504 BK505 HB; have BK504 := n0_; have BK505 := n1_; have HB := n2_; clear n0_ n1_ n2_; (try clear hb); (try clear hb2); (try clear hk); (try clear hi)) | ((with_reducible refine gate_dst (N := 48) rfl ?_); refine box_event ?hg (N := 48) ?hd (cs := #[.string (a2.extract 4 a2.size), .bool false]) (t := 84) ?hr ?_; (case hd => rfl); (case hg => rfl); (case hr => exact zh); intro gb512 hg w39 hbox hb; have n0_ := am (zbb BK504.out hb); have n1_ := am (zbb BK505.out hb); have n2_ := am (below_step (zl2 HB.out GE504.out GE505.out) hb); have n3_ := am (hbox); have n4_ := am ((by rw [hg]; exact (below_size (zl2 HB.out GE504.out GE505.out)) : w.heap.size ≤ gb512)); have n5_ := am ((by rw [hg]; exact (below_size (zl2 HB.out GE504.out GE505.out)) : w.heap.size ≤ gb512)); have n6_ := am ((show IsS84 w _ gb512 (a2.extract 4 a2.size) false from ⟨hbox, (by rw [hg]; exact (below_size (zl2 HB.out GE504.out GE505.out)))⟩)); have n7_ := am ((by rw [hg]; exact Nat.ne_of_lt (blk_lt (g := gb504) (o := .cells #[.slice A0_0 l0_0.length c0_0] 27 (0, 0)) (zb BK504.out)) : gb504 ≠ gb512)); have n8_ := am ((by rw [hg]; exact Nat.ne_of_gt (blk_lt (g := gb504) (o := .cells #[.slice A0_0 l0_0.length c0_0] 27 (0, 0)) (zb BK504.out)) : gb512 ≠ gb504)); have n9_ := am ((by rw [hg]; exact Nat.ne_of_lt (blk_lt (g := gb505) (o := .cells #[.slice none 0 0, .slice none 0 0, .slice none 0 0] 31 (0, 0)) (zb BK505.out)) : gb505 ≠ gb512)); have n10_ := am ((by rw [hg]; exact Nat.ne_of_gt (blk_lt (g := gb505) (o := .cells #[.slice none 0 0, .slice none 0 0, .slice none 0 0] 31 (0, 0)) (zb BK505.out)) : gb512 ≠ gb505)); clear BK504 BK505 HB; have BK504 := n0_; have BK505 := n1_; have HB := n2_; have BK512 := n3_; have GW512 := n4_; have GE512 := n5_; have HI512 := n6_; have NB504_512 := n7_; have NB512_504 := n8_; have NB505_512 := n9_; have NB512_505 := n10_; clear n0_ n1_ n2_ n3_ n4_ n5_ n6_ n7_ n8_ n9_ n10_; clear hb hbox hg) | ((with_reducible refine gate_callee (f := 44) rfl ?_); refine goesL_ (some 50) rfl rfl Tryz.func44 (by kernel_rfl) rfl #[.pointer (some ⟨gb512, 0, none⟩)] rfl zm ?_; (with_reducible refine (page_Taker_Number.calls k gb512 (a2.extract 4 a2.size) false t513 t514 t515 w _ ?side1 ?side2 A21.out).mono ?_); (case side1 => repeat (first | (with_reducible first | exact HI512.out | apply IsS84.alloc | apply IsS84.drewN | apply IsS84.drew | apply IsS84.set_0 | apply IsS84.set_1 | refine IsS84.far ?_ NB512_504.out _ | refine IsS84.far ?_ NB512_505.out _) | exact HI512.out)); (case side2 => exact zl3 HB.out (IsS84.ge HI512.out) GE504.out GE505.out); rintro e w40 ⟨rfl, hi, hb, hk⟩; refine ⟨_, rfl, ?_⟩; have n0_ := am (KeepBut.blk hk (g' := gb504) (o := .cells #[.slice A0_0 l0_0.length c0_0] 27 (0, 0)) (zb BK504.out) NB504_512.out (by simp)); have n1_ := am (KeepBut.blk hk (g' := gb505) (o := .cells #[.slice none 0 0, .slice none 0 0, .slice none 0 0] 31 (0, 0)) (zb BK505.out) NB505_512.out (by simp)); have n2_ := am (hb); have n3_ := am (hi); clear BK504 BK505; clear HB HI512; have BK504 := n0_; have BK505 := n1_; have HB := n2_; have HI512 := n3_; clear n0_ n1_ n2_ n3_; (try clear hb); (try clear hb2); (try clear hk); (try clear hi)) | ((with_reducible refine gate_callee (f := 44) rfl ?_); refine goesL_ (some 52) rfl rfl Tryz.func44 (by kernel_rfl) rfl #[.pointer (some ⟨gb512, 0, none⟩)] rfl zm ?_; (with_reducible refine (page_Taker_Number.calls k gb512 t514 t515 t516 t517 t518 w _ ?side1 ?side2 A22.out).mono ?_); (case side1 => repeat (first | (with_reducible first | exact HI512.out | apply IsS84.alloc | apply IsS84.drewN | apply IsS84.drew | apply IsS84.set_0 | apply IsS84.set_1 | refine IsS84.far ?_ NB512_504.out _ | refine IsS84.far ?_ NB512_505.out _) | exact HI512.out)); (case side2 => exact zl3 HB.out (IsS84.ge HI512.out) GE504.out GE505.out); rintro e w41 ⟨rfl, hi, hb, hk⟩; refine ⟨_, rfl, ?_⟩; have n0_ := am (KeepBut.blk hk (g' := gb504) (o := .cells #[.slice A0_0 l0_0.length c0_0] 27 (0, 0)) (zb BK504.out) NB504_512.out (by simp)); have n1_ := am (KeepBut.blk hk (g' := gb505) (o := .cells #[.slice none 0 0, .slice none 0 0, .slice none 0 0] 31 (0, 0)) (zb BK505.out) NB505_512.out (by simp)); have n2_ := am (hb); have n3_ := am (hi); clear BK504 BK505; clear HB HI512; have BK504 := n0_; have BK505 := n1_; have HB := n2_; have HI512 := n3_; clear n0_ n1_ n2_ n3_; (try clear hb); (try clear hb2); (try clear hk); (try clear hi)) | ((with_reducible refine gate_callee (f := 44) rfl ?_); refine goesL_ (some 54) rfl rfl Tryz.func44 (by kernel_rfl) rfl #[.pointer (some ⟨gb512, 0, none⟩)] rfl zm ?_; (with_reducible refine (page_Taker_Number.calls k gb512 t517 t518 t519 t520 t521 w _ ?side1 ?side2 A23.out).mono ?_); (case side1 => repeat (first | (with_reducible first | exact HI512.out | apply IsS84.alloc | apply IsS84.drewN | apply IsS84.drew | apply IsS84.set_0 | apply IsS84.set_1 | refine IsS84.far ?_ NB512_504.out _ | refine IsS84.far ?_ NB512_505.out _) | exact HI512.out)); (case side2 => exact zl3 HB.out (IsS84.ge HI512.out) GE504.out GE505.out); rintro e w42 ⟨rfl, hi, hb, hk⟩; refine ⟨_, rfl, ?_⟩; have n0_ := am (KeepBut.blk hk (g' := gb504) (o := .cells #[.slice A0_0 l0_0.length c0_0] 27 (0, 0)) (zb BK504.out) NB504_512.out (by simp)); have n1_ := am (KeepBut.blk hk (g' := gb505) (o := .cells #[.slice none 0 0, .slice none 0 0, .slice none 0 0] 31 (0, 0)) (zb BK505.out) NB505_512.out (by simp)); have n2_ := am (hb); have n3_ := am (hi); clear BK504 BK505; clear HB HI512; have BK504 := n0_; have BK505 := n1_; have HB := n2_; have HI512 := n3_; clear n0_ n1_ n2_ n3_; (try clear hb); (try clear hb2); (try clear hk); (try clear hi)) | ((with_reducible refine gate_dst (N := 15) rfl ?_); refine box_event ?hg (N := 15) ?hd (cs := #[.slice none 0 0, .slice none 0 0, .slice none 0 0]) (t := 31) ?hr ?_; (case hd => rfl); (case hg => rfl); (case hr => exact zh); intro gb522 hg w43 hbox hb; have n0_ := am (zbb BK504.out hb); have n1_ := am (zbb BK505.out hb); have n2_ := am (IsS84.below (by repeat (first | (with_reducible first | exact HI512.out | apply IsS84.alloc | apply IsS84.drewN | apply IsS84.drew | apply IsS84.set_0 | apply IsS84.set_1 | refine IsS84.far ?_ NB512_504.out _ | refine IsS84.far ?_ NB512_505.out _) | exact HI512.out)) hb); have n3_ := am (below_step (zl3 HB.out (IsS84.ge HI512.out) GE504.out GE505.out) hb); have n4_ := am (hbox); have n5_ := am ((by rw [hg]; exact (below_size (zl3 HB.out (IsS84.ge HI512.out) GE504.out GE505.out)) : w.heap.size ≤ gb522)); have n6_ := am ((by rw [hg]; exact (below_size (zl3 HB.out (IsS84.ge HI512.out) GE504.out GE505.out)) : w.heap.size ≤ gb522)); have n7_ := am ((by rw [hg]; exact Nat.ne_of_lt (blk_lt (g := gb504) (o := .cells #[.slice A0_0 l0_0.length c0_0] 27 (0, 0)) (zb BK504.out)) : gb504 ≠ gb522)); have n8_ := am ((by rw [hg]; exact Nat.ne_of_gt (blk_lt (g := gb504) (o := .cells #[.slice A0_0 l0_0.length c0_0] 27 (0, 0)) (zb BK504.out)) : gb522 ≠ gb504)); have n9_ := am ((by rw [hg]; exact Nat.ne_of_lt (blk_lt (g := gb505) (o := .cells #[.slice none 0 0, .slice none 0 0, .slice none 0 0] 31 (0, 0)) (zb BK505.out)) : gb505 ≠ gb522)); have n10_ := am ((by rw [hg]; exact Nat.ne_of_gt (blk_lt (g := gb505) (o := .cells #[.slice none 0 0, .slice none 0 0, .slice none 0 0] 31 (0, 0)) (zb BK505.out)) : gb522 ≠ gb505)); have n11_ := am ((by rw [hg]; exact Nat.ne_of_lt (IsS84.lt (show IsS84 w _ gb512 t520 t521 from by repeat (first | (with_reducible first | exact HI512.out | apply IsS84.alloc | apply IsS84.drewN | apply IsS84.drew | apply IsS84.set_0 | apply IsS84.set_1 | refine IsS84.far ?_ NB512_504.out _ | refine IsS84.far ?_ NB512_505.out _) | exact HI512.out))) : gb512 ≠ gb522)); have n12_ := am ((by rw [hg]; exact Nat.ne_of_gt (IsS84.lt (show IsS84 w _ gb512 t520 t521 from by repeat (first | (with_reducible first | exact HI512.out | apply IsS84.alloc | apply IsS84.drewN | apply IsS84.drew | apply IsS84.set_0 | apply IsS84.set_1 | refine IsS84.far ?_ NB512_504.out _ | refine IsS84.far ?_ NB512_505.out _) | exact HI512.out))) : gb522 ≠ gb512)); clear BK504 BK505; clear HI512 HB; have BK504 := n0_; have BK505 := n1_; have HI512 := n2_; have HB := n3_; have BK522 := n4_; have GW522 := n5_; have GE522 := n6_; have NB504_522 := n7_; have NB522_504 := n8_; have NB505_522 := n9_; have NB522_505 := n10_; have NB512_522 := n11_; have NB522_512 := n12_; clear n0_ n1_ n2_ n3_ n4_ n5_ n6_ n7_ n8_ n9_ n10_ n11_ n12_; clear hb hbox hg) | ((with_reducible refine gate_callee (f := 46) rfl ?_); refine goesL_ (some 58) rfl rfl Tryz.func46 (by kernel_rfl) rfl #[.pointer (some ⟨gb512, 0, none⟩), .int .i64 t516] rfl zm ?_; (with_reducible refine (page_Taker_Bytes.calls gb512 t520 t521 t516 t523 t524 t525 w _ ?side1 ?side2 A24.out).mono ?_); (case side1 => repeat (first | (with_reducible first | exact HI512.out | apply IsS84.alloc | apply IsS84.drewN | apply IsS84.drew | apply IsS84.set_0 | apply IsS84.set_1 | refine IsS84.far ?_ NB512_504.out _ | refine IsS84.far ?_ NB512_505.out _ | refine IsS84.far ?_ NB512_522.out _) | exact HI512.out)); (case side2 => exact zl4 HB.out (IsS84.ge HI512.out) GE504.out GE505.out GE522.out); rintro e w44 ⟨rfl, hi, hb, hk⟩; refine ⟨_, rfl, ?_⟩; have n0_ := am (KeepBut.blk hk (g' := gb504) (o := .cells #[.slice A0_0 l0_0.length c0_0] 27 (0, 0)) (zb BK504.out) NB504_512.out (by simp)); have n1_ := am (KeepBut.blk hk (g' := gb505) (o := .cells #[.slice none 0 0, .slice none 0 0, .slice none 0 0] 31 (0, 0)) (zb BK505.out) NB505_512.out (by simp)); have n2_ := am (KeepBut.blk hk (g' := gb522) (o := .cells #[.slice none 0 0, .slice none 0 0, .slice none 0 0] 31 (0, 0)) (zb BK522.out) NB522_512.out (by simp)); have n3_ := am (hb); have n4_ := am (hi); clear BK504 BK505; clear BK522 HB HI512; have BK504 := n0_; have BK505 := n1_; have BK522 := n2_; have HB := n3_; have HI512 := n4_; clear n0_ n1_ n2_ n3_ n4_; (try clear hb); (try clear hb2); (try clear hk); (try clear hi)) | ((with_reducible refine gate_callee (f := 47) rfl ?_); refine goesL_ (some 61) rfl rfl Tryz.func47 (by kernel_rfl) rfl #[.int .u64 (IntKind.u64.wrap (t509))] rfl zm ?_; (with_reducible refine (bits_Len.calls (IntKind.u64.wrap (t509)) t526 _ A25.out).mono ?_); rintro e w45 ⟨rfl, hb⟩; refine ⟨_, rfl, ?_⟩; have n0_ := am (zbb BK504.out hb); have n1_ := am (zbb BK505.out hb); have n2_ := am (IsS84.below (by repeat (first | (with_reducible first | exact HI512.out | apply IsS84.alloc | apply IsS84.drewN | apply IsS84.drew | apply IsS84.set_0 | apply IsS84.set_1 | refine IsS84.far ?_ NB512_504.out _ | refine IsS84.far ?_ NB512_505.out _ | refine IsS84.far ?_ NB512_522.out _) | exact HI512.out)) hb); have n3_ := am (zbb BK522.out hb); have n4_ := am (below_step (zl4 HB.out (IsS84.ge HI512.out) GE504.out GE505.out GE522.out) hb); clear BK504 BK505; clear HI512 BK522 HB; have BK504 := n0_; have BK505 := n1_; have HI512 := n2_; have BK522 := n3_; have HB := n4_; clear n0_ n1_ n2_ n3_ n4_; (try clear hb); (try clear hb2); (try clear hk); (try clear hi)) | ((with_reducible refine gate_callee (f := 45) rfl ?_); refine goesL_ (some 63) rfl rfl Tryz.func45 (by kernel_rfl) rfl #[.string t523, .int .i64 t526, .int .i64 t513] rfl zm ?_; (with_reducible refine (hybrid_Get.calls k t523 t526 t513 t527 t528 _ A26.out).mono ?_); rintro e w46 ⟨v529, rfl, ho0, hb⟩; refine ⟨_, rfl, ?_⟩; have n0_ := am (Kd.R_lower ho0 (below_size (zl4 HB.out (IsS84.ge HI512.out) GE504.out GE505.out GE522.out))); have n1_ := am (zbb BK504.out hb); have n2_ := am (zbb BK505.out hb); have n3_ := am (IsS84.below (by repeat (first | (with_reducible first | exact HI512.out | apply IsS84.alloc | apply IsS84.drewN | apply IsS84.drew | apply IsS84.set_0 | apply IsS84.set_1 | refine IsS84.far ?_ NB512_504.out _ | refine IsS84.far ?_ NB512_505.out _ | refine IsS84.far ?_ NB512_522.out _) | exact HI512.out)) hb); have n4_ := am (zbb BK522.out hb); have n5_ := am (below_step (zl4 HB.out (IsS84.ge HI512.out) GE504.out GE505.out GE522.out) hb); clear BK504 BK505; clear HI512 BK522 HB; have HO530 := n0_; have BK504 := n1_; have BK505 := n2_; have HI512 := n3_; have BK522 := n4_; have HB := n5_; clear n0_ n1_ n2_ n3_ n4_ n5_; (try clear hb); (try clear hb2); (try clear hk); (try clear hi); (try clear ho0); obtain ⟨Ao47, co47, eo47⟩ := Kd.R_slice HO530.out; subst eo47; have hnb48 := NB522_504.out; have hnc48 := NB504_522.out; have hnb49 := NB522_505.out; have hnc49 := NB505_522.out; have hnb50 := NB522_512.out; have hnc50 := NB512_522.out; have hcz51_0 : w46.cell? ⟨gb522, 0, none⟩ = some (.slice none 0 0) := (blk_cell BK522.out 0).trans rfl; have hcz51_1 : w46.cell? ⟨gb522, 1, none⟩ = some (.slice none 0 0) := (blk_cell BK522.out 1).trans rfl; have hcz51_2 : w46.cell? ⟨gb522, 2, none⟩ = some (.slice none 0 0) := (blk_cell BK522.out 2).trans rfl; have hfz51_0 := blk_frozen BK522.out 0; have hfz51_1 := blk_frozen BK522.out 1; have hfz51_2 := blk_frozen BK522.out 2) | ((with_reducible refine gate_callee (f := 46) rfl ?_); refine goesL_ (some 70) rfl rfl Tryz.func46 (by kernel_rfl) rfl #[.pointer (some ⟨gb512, 0, none⟩), .int .i64 t519] rfl zm ?_; (with_reducible refine (page_Taker_Bytes.calls gb512 t524 t525 t519 t531 t532 t533 w _ ?side1 ?side2 A27.out).mono ?_); (case side1 => repeat (first | (with_reducible first | exact HI512.out | apply IsS84.alloc | apply IsS84.drewN | apply IsS84.drew | apply IsS84.set_0 | apply IsS84.set_1 | refine IsS84.far ?_ NB512_504.out _ | refine IsS84.far ?_ NB512_505.out _ | refine IsS84.far ?_ NB512_522.out _) | exact HI512.out)); (case side2 => exact zl4 HB.out (IsS84.ge HI512.out) GE504.out GE505.out GE522.out); rintro e w52 ⟨rfl, hi, hb, hk⟩; refine ⟨_, rfl, ?_⟩; have n0_ := am (KeepBut.blk hk (g' := gb504) (o := .cells #[.slice A0_0 l0_0.length c0_0] 27 (0, 0)) (by refine zb ?_; refine blk_far ?_ NB504_522.out _; refine zb ?_; exact BK504.out) NB504_512.out (by simp)); have n1_ := am (KeepBut.blk hk (g' := gb505) (o := .cells #[.slice none 0 0, .slice none 0 0, .slice none 0 0] 31 (0, 0)) (by refine zb ?_; refine blk_far ?_ NB505_522.out _; refine zb ?_; exact BK505.out) NB505_512.out (by simp)); have n2_ := am (KeepBut.blk hk (g' := gb522) (o := .cells #[.slice Ao47 t527.length co47, .slice none 0 0, .slice none 0 0] 31 (0, 0)) (by refine zb ?_; refine blk_put (cs := #[.slice none 0 0, .slice none 0 0, .slice none 0 0]) ?_ 0 _ rfl; refine zb ?_; exact BK522.out) NB522_512.out (by simp)); have n3_ := am (Kd.R_mono (Kd.R_keep (IsS84.apart (show IsS84 w _ gb512 t524 t525 from by repeat (first | (with_reducible first | exact HI512.out | apply IsS84.alloc | apply IsS84.drewN | apply IsS84.drew | apply IsS84.set_0 | apply IsS84.set_1 | refine IsS84.far ?_ NB512_504.out _ | refine IsS84.far ?_ NB512_505.out _ | refine IsS84.far ?_ NB512_522.out _) | exact HI512.out)) (zy1 HO530.out BK522.out) (by decide)) hk (fun _ h => h.2)) (fun _ h => h.1)); have n4_ := am (hb); have n5_ := am (hi); clear BK504 BK505; clear BK522 HO530; clear HB HI512; have BK504 := n0_; have BK505 := n1_; have BK522 := n2_; have HO530 := n3_; have HB := n4_; have HI512 := n5_; clear n0_ n1_ n2_ n3_ n4_ n5_; (try clear hb); (try clear hb2); (try clear hk); (try clear hi)) | ((with_reducible refine gate_callee (f := 47) rfl ?_); refine goesL_ (some 73) rfl rfl Tryz.func47 (by kernel_rfl) rfl #[.int .u64 (IntKind.u64.wrap (t510))] rfl zm ?_; (with_reducible refine (bits_Len.calls (IntKind.u64.wrap (t510)) t534 _ A28.out).mono ?_); rintro e w53 ⟨rfl, hb⟩; refine ⟨_, rfl, ?_⟩; have n0_ := am (Kd.R_below (zr HO530.out) hb); have n1_ := am (zbb BK504.out hb); have n2_ := am (zbb BK505.out hb); have n3_ := am (IsS84.below (by repeat (first | (with_reducible first | exact HI512.out | apply IsS84.alloc | apply IsS84.drewN | apply IsS84.drew | apply IsS84.set_0 | apply IsS84.set_1 | refine IsS84.far ?_ NB512_504.out _ | refine IsS84.far ?_ NB512_505.out _ | refine IsS84.far ?_ NB512_522.out _) | exact HI512.out)) hb); have n4_ := am (zbb BK522.out hb); have n5_ := am (below_step (zl4 HB.out (IsS84.ge HI512.out) GE504.out GE505.out GE522.out) hb); clear HO530 BK504; clear BK505 HI512; clear BK522 HB; have HO530 := n0_; have BK504 := n1_; have BK505 := n2_; have HI512 := n3_; have BK522 := n4_; have HB := n5_; clear n0_ n1_ n2_ n3_ n4_ n5_; (try clear hb); (try clear hb2); (try clear hk); (try clear hi)) | ((with_reducible refine gate_callee (f := 45) rfl ?_); refine goesL_ (some 75) rfl rfl Tryz.func45 (by kernel_rfl) rfl #[.string t531, .int .i64 t534, .int .i64 t513] rfl zm ?_; (with_reducible refine (hybrid_Get.calls k t531 t534 t513 t535 t536 _ A29.out).mono ?_); rintro e w54 ⟨v537, rfl, ho0, hb⟩; refine ⟨_, rfl, ?_⟩; have n0_ := am (Kd.R_elder' (zr HO530.out) (Kd.R_base ho0) hb); have n1_ := am (Kd.R_lower (Kd.R_new' ho0 (Kd.R_lt (zr HO530.out))) (below_size (zl4 HB.out (IsS84.ge HI512.out) GE504.out GE505.out GE522.out))); have n2_ := am (zbb BK504.out hb); have n3_ := am (zbb BK505.out hb); have n4_ := am (IsS84.below (by repeat (first | (with_reducible first | exact HI512.out | apply IsS84.alloc | apply IsS84.drewN | apply IsS84.drew | apply IsS84.set_0 | apply IsS84.set_1 | refine IsS84.far ?_ NB512_504.out _ | refine IsS84.far ?_ NB512_505.out _ | refine IsS84.far ?_ NB512_522.out _) | exact HI512.out)) hb); have n5_ := am (zbb BK522.out hb); have n6_ := am (below_step (zl4 HB.out (IsS84.ge HI512.out) GE504.out GE505.out GE522.out) hb); clear HO530 BK504; clear BK505 HI512; clear BK522 HB; have HO530 := n0_; have HO538 := n1_; have BK504 := n2_; have BK505 := n3_; have HI512 := n4_; have BK522 := n5_; have HB := n6_; clear n0_ n1_ n2_ n3_ n4_ n5_ n6_; (try clear hb); (try clear hb2); (try clear hk); (try clear hi); (try clear ho0); obtain ⟨Ao55, co55, eo55⟩ := Kd.R_slice HO538.out; subst eo55; have hcz56_0 : w54.cell? ⟨gb522, 0, none⟩ = some (.slice Ao47 t527.length co47) := (blk_cell BK522.out 0).trans rfl; have hcz56_1 : w54.cell? ⟨gb522, 1, none⟩ = some (.slice none 0 0) := (blk_cell BK522.out 1).trans rfl; have hcz56_2 : w54.cell? ⟨gb522, 2, none⟩ = some (.slice none 0 0) := (blk_cell BK522.out 2).trans rfl; have hfz56_0 := blk_frozen BK522.out 0; have hfz56_1 := blk_frozen BK522.out 1; have hfz56_2 := blk_frozen BK522.out 2) | ((with_reducible refine gate_callee (f := 48) rfl ?_); refine goesL_ (some 82) rfl rfl Tryz.func48 (by kernel_rfl) rfl #[.slice Ao55 t535.length co55, .int .i64 t510] rfl zm ?_; (with_reducible refine (page_there.calls k _ _ t535 t510 t539 _ ?side1 ?side2 A30.out).mono ?_); (case side1 => refine (Kd.R_reads' (e := 3) (base := w.heap.size) (ok := fun k_ => (True ∧ some k_ ≠ (.slice Ao47 t527.length co47 : Value).ownBlock)) (n := t535.length) (c := co55) ?_).2.2; exact (zy1 HO538.out BK522.out)); (case side2 => exact (Kd.R_reads' HO538.out).2.1); rintro e w' ⟨rfl, ⟨nd, rfl⟩⟩; refine ⟨_, rfl, ?_⟩))
      (try simp only [Act.put, List.setIfInBounds_toArray, List.set_cons_zero, List.set_cons_succ])
      go_loopg [83] k (fun kq v83 w' => ∃ (x83_1 : Int) (x513000_1 : ByteArray) (x513001_1 : Bool) (x523002_1 : List ByteArray) (u523002 : Value), v83 = .int .i64 x83_1 ∧ Aside0 (page_Get.l0 kq a1 a2 t528 t536 t539 x83_1 l0_0 x513000_1 x513001_1 t527 t535 x523002_1 = some (r1, r2, r3, r4)) ∧ Aside0 (kq ≤ k) ∧ Aside0 (Kd.R (Kd.int .i64) 3 w' w.heap.size (fun k_ => some k_ ≠ ((.slice Ao55 t535.length co55) : Value).ownBlock) (.slice Ao47 t527.length co47) t527) ∧ Aside0 (Kd.R (Kd.int .i64) 3 w' w.heap.size (fun k_ => some k_ ≠ ((.slice Ao47 t527.length co47) : Value).ownBlock) (.slice Ao55 t535.length co55) t535) ∧ Aside0 (Kd.R Kd.string 9 w' w.heap.size (fun _ => True) u523002 x523002_1) ∧ Aside0 (w'.heap[gb504]? = some (.cells #[(.slice A0_0 l0_0.length c0_0)] 27 (0, 0))) ∧ Aside0 (w'.heap[gb505]? = some (.cells #[(.slice none 0 0), (.slice none 0 0), (.slice none 0 0)] 31 (0, 0))) ∧ Aside0 (w'.heap[gb522]? = some (.cells #[(.slice Ao47 t527.length co47), (.slice Ao55 t535.length co55), u523002] 31 (0, 0))) ∧ Aside0 (IsS84 w w' gb512 x513000_1 x513001_1) ∧ Aside0 (Below w.heap.size w w'))
      case atStart => exact ⟨(0), (t532), (t533), (([] : List ByteArray)), (.slice none 0 0), zs, H', ⟨Nat.le_refl _⟩, ⟨by refine zr ?_; exact Kd.R_mono (zf1 _ HO530.out BK522.out) (fun _ hk => hk.1.2)⟩, ⟨by refine zr ?_; exact Kd.R_mono (zf1 _ HO538.out BK522.out) (fun _ hk => hk.1.2)⟩, ⟨by first | exact Kd.R_nil _ _ _ _ _ | exact Kd.N_nil _ _ _ _ _ | exact Kd.V_nil _ _ _ _ _ | exact Kd.Q_nil _ _ _ _ _ | exact Kd.S_nil _ _ _ _ _⟩, ⟨by refine zb ?_; refine blk_far ?_ NB504_522.out _; refine zb ?_; exact BK504.out⟩, ⟨by refine zb ?_; refine blk_far ?_ NB505_522.out _; refine zb ?_; exact BK505.out⟩, ⟨by refine zb ?_; refine blk_put (cs := #[.slice Ao47 t527.length co47, .slice none 0 0, .slice none 0 0]) ?_ 1 _ rfl; refine zb ?_; exact BK522.out⟩, ⟨by repeat (first | (with_reducible first | exact HI512.out | apply IsS84.alloc | apply IsS84.drewN | apply IsS84.drew | apply IsS84.set_0 | apply IsS84.set_1 | refine IsS84.far ?_ NB512_504.out _ | refine IsS84.far ?_ NB512_505.out _ | refine IsS84.far ?_ NB512_522.out _) | exact HI512.out)⟩, ⟨zl4 HB.out (IsS84.ge HI512.out) GE504.out GE505.out GE522.out⟩⟩
      case round =>
       clear H'
       try clear c1
       try clear c2
       try clear p2
       try clear c3
       try clear c4
       try clear c5
       try clear c6
       try clear c6b0
       try clear c6b1
       try clear c9
       try clear c13
       try clear c13b0
       try clear c13b1
       try clear c14
       try clear c14b0
       try clear c14b1
       try clear c16
       try clear c16b0
       try clear c18
       try clear c18b0
       try clear c18b1
       try clear c20
       try clear c20b0
       try clear c33
       try clear c35
       try clear c40
       try clear c42
       try clear c43
       try clear c44
       try clear c45
       try clear c46
       try clear c47
       try clear c48
       try clear c49
       try clear c50
       try clear hcz10_0
       try clear hcz12_0
       try clear hcz12_1
       try clear hcz12_2
       try clear hcz34_0
       try clear hcz37_0
       try clear hcz51_0
       try clear hcz51_1
       try clear hcz51_2
       try clear hcz56_0
       try clear hcz56_1
       try clear hcz56_2
       try clear hfz10_0
       try clear hfz12_0
       try clear hfz12_1
       try clear hfz12_2
       try clear hfz34_0
       try clear hfz37_0
       try clear hfz51_0
       try clear hfz51_1
       try clear hfz51_2
       try clear hfz56_0
       try clear hfz56_1
       try clear hfz56_2
       obtain ⟨x83_1, x513000_1, x513001_1, x523002_1, u523002, rfl, HA, HK1, HO_523000, HO_523001, HO_523002, BK504, BK505, BK522, HI512, HB⟩ := hrel
       cases gk with
       | zero => exact absurd HA.out (by simp [page_Get.l0])
       | succ k1 =>
        have H := HA.out
        clear HA
        simp only [page_Get.l0] at H
        by_cases c57 : x83_1 < t539
        ·
         rw [if_pos c57] at H
         have c57b0 := decide_eq_true c57
         clear c57
         by_cases c58 : x513001_1 = true
         ·
          subst c58
          rw [if_pos rfl] at H
          exact absurd H (by simp)
         ·
          replace c58 := Bool.eq_false_iff.mpr c58
          subst c58
          rw [if_neg (show ¬ (false = true) by decide)] at H
          by_cases c59 : 0 ≤ a1
          ·
           rw [if_pos c59] at H
           have c59b0 := decide_eq_true c59
           clear c59
           by_cases c60 : a1 < (l0_0.length : Int)
           ·
            rw [if_pos c60] at H
            have c60b0 := decide_eq_true c60
            clear c60
            replace H := zo H
            obtain ⟨⟨t541, t542, t543⟩, A610, H⟩ := H
            (try dsimp only at H)
            have A61 := am A610
            clear A610
            by_cases c62 : x523002_1.length < 8796093022208
            ·
             rw [if_pos c62] at H
             have LMc62 := am c62
             clear c62
             obtain ⟨y544, hy544⟩ : ∃ y_ : List ByteArray, y_ = (x523002_1 ++ [t541]) := ⟨_, rfl⟩
             replace H : (page_Get.l0 k1 a1 a2 t528 t536 t539 (wrap64 (x83_1 + 1)) l0_0 t542 t543 t527 t535 y544) = some (r1, r2, r3, r4) := by first | (rw [hy544]; with_reducible exact H) | (have H2_ := (Option.bind_some _ _).symm.trans H; rw [hy544]; with_reducible exact H2_) | (have H2_ := (Option.bind_some _ _).symm.trans H; with_reducible exact H2_) | with_reducible exact H | (rw [hy544]; exact H) | exact H
             have Ny544 := am hy544
             clear hy544
             have H' := am H
             clear H
             obtain ⟨HGz63, hgz63⟩ := HI512.out
             have hcz63_0 := cellS84_0 HGz63
             have hcz63_1 := cellS84_1 HGz63
             have hfz63_0 := blk_frozen HGz63 0
             have hfz63_1 := blk_frozen HGz63 1
             clear HGz63 hgz63
             try go_wp2
             have n0_ := am (Kd.R_drew HO_523000.out)
             have n1_ := am (Kd.R_drew HO_523001.out)
             have n2_ := am (Kd.R_drew HO_523002.out)
             have n3_ := am (blk_drew BK504.out)
             have n4_ := am (blk_drew BK505.out)
             have n5_ := am (blk_drew BK522.out)
             have n6_ := am (IsS84.drew HI512.out)
             have n7_ := am (below_drew1 HB.out)
             clear HO_523000
             clear HO_523001
             clear HO_523002
             clear BK504
             clear BK505
             clear BK522
             clear HI512
             clear HB
             have HO_523000 := n0_
             have HO_523001 := n1_
             have HO_523002 := n2_
             have BK504 := n3_
             have BK505 := n4_
             have BK522 := n5_
             have HI512 := n6_
             have HB := n7_
             clear n0_ n1_ n2_ n3_ n4_ n5_ n6_ n7_
             have p540 : 0 ≤ (a1 : Int) := of_decide_eq_true za
             have q540 : a1 < (l0_0.length : Int) := of_decide_eq_true za
             obtain ⟨ad540, e540, hx540_0, hx540_1, hx540_2⟩ := at_T24 HR0_0.out a1 p540 q540
             have hw540_2 := hx540_2
             have hw540_1 := hx540_1
             have hw540_0 := hx540_0
             cases e540
             replace hx540_0 := zq HB.out hx540_0
             replace hx540_1 := zq HB.out hx540_1
             replace hx540_2 := zq HB.out hx540_2
             replace p540 := eq_true p540
             replace q540 := eq_true q540
             refine start_ (n := 14) (S := fun w' => w'.cell? ⟨gb522, 0, none⟩ = some (.slice Ao47 t527.length co47) ∧ w'.cell? ⟨gb522, 1, none⟩ = some (.slice Ao55 t535.length co55) ∧ w'.cell? ⟨gb522, 2, none⟩ = some (u523002) ∧ w'.cell? ⟨gb504, 0, none⟩ = some (.slice (some ad540) l0_0.length c0_0) ∧ w'.cell? (ad540.add ((a1).toNat * 3)) = some (.int .i64 ((rd_T24 l0_0 a1).f0)) ∧ w'.cell? ⟨(ad540.add ((a1).toNat * 3)).block, (ad540.add ((a1).toNat * 3)).off + 1, none⟩ = some (.int .i64 ((rd_T24 l0_0 a1).f1)) ∧ w'.cell? ⟨(ad540.add ((a1).toNat * 3)).block, (ad540.add ((a1).toNat * 3)).off + 2, none⟩ = some (.bool ((rd_T24 l0_0 a1).f2))) (ds := [13]) #[false, false, false, false, false, false, false, false, false, false, false, false, false, false] (by kernel_rfl) rfl rfl ⟨(blk_cell BK522.out 0).trans rfl, (blk_cell BK522.out 1).trans rfl, (blk_cell BK522.out 2).trans rfl, (blk_cell BK504.out 0).trans rfl, ((HB.out.cell (World.block_lt_of_cell? w _ hw540_0)).trans hw540_0), ((HB.out.cell (World.block_lt_of_cell? w _ hw540_1)).trans hw540_1), ((HB.out.cell (World.block_lt_of_cell? w _ hw540_2)).trans hw540_2)⟩ (fun hHeld => ?_); refine with_tabW page_Get.tab15 page_Get.bits15 (fun HT_ HW_ => ?_)
             generalize wr.drew = w64 at HO_523000 HO_523001 HO_523002 BK504 BK505 BK522 HI512 HB hx540_0 hx540_1 hx540_2 hHeld ⊢
             refine pure_ (i := 0) (N := some 90) (v := ?_) (a' := ?_) #[true, false, false, false, false, false, false, false, false, false, false, false, false, false] rfl rfl (any_of HT_.out (by kernel_rfl)) (fun _ _ _ h => h) (Or.inl ⟨by rfl, ?_⟩) ?_ ?_
             rotate_left
             ·
              intro w'
              go_simp
              first | (with_reducible rfl) | (rw [if_neg (by omega)])
             rotate_left
             ·
              simp only [Act.put, List.setIfInBounds_toArray, List.set_cons_zero, List.set_cons_succ, i64_w, i32_w]
              rfl
             refine pure_ (i := 2) (N := some 92) (v := ?_) (a' := ?_) #[true, false, true, false, false, false, false, false, false, false, false, false, false, false] rfl rfl (any_of HT_.out (by kernel_rfl)) (fun _ _ _ h => h) (Or.inl ⟨by rfl, ?_⟩) ?_ ?_
             rotate_left
             ·
              intro w'
              go_simp
              first | (with_reducible rfl) | (rw [if_neg (by omega)])
             rotate_left
             ·
              simp only [Act.put, List.setIfInBounds_toArray, List.set_cons_zero, List.set_cons_succ, i64_w, i32_w]
              rfl
             refine pure_ (i := 3) (N := some 93) (v := ?_) (a' := ?_) #[true, false, true, true, false, false, false, false, false, false, false, false, false, false] rfl rfl (any_of HT_.out (by kernel_rfl)) (fun _ _ _ h => h) (Or.inl ⟨by rfl, ?_⟩) ?_ ?_
             rotate_left
             ·
              intro w'
              go_simp
              first | (with_reducible rfl) | (rw [if_neg (by omega)])
             rotate_left
             ·
              simp only [Act.put, List.setIfInBounds_toArray, List.set_cons_zero, List.set_cons_succ, i64_w, i32_w]
              rfl
             refine pure_ (i := 5) (N := some 95) (v := ?_) (a' := ?_) #[true, false, true, true, false, true, false, false, false, false, false, false, false, false] rfl rfl (any_of HT_.out (by kernel_rfl)) (fun _ _ _ h => h) (Or.inl ⟨by rfl, ?_⟩) ?_ ?_
             rotate_left
             ·
              intro w'
              go_simp
              first | (with_reducible rfl) | (rw [if_neg (by omega)])
             rotate_left
             ·
              simp only [Act.put, List.setIfInBounds_toArray, List.set_cons_zero, List.set_cons_succ, i64_w, i32_w]
              rfl
             refine take_ (i := 1) (N := some 91) (v := ?_) (a' := ?_) #[true, true, true, true, false, true, false, false, false, false, false, false, false, false] rfl rfl (take_ofW HT_.out HW_.out (by kernel_rfl)) (fun _ _ _ h => h) (Or.inl ⟨by rfl, ?_⟩) hHeld ?_ ?_
             rotate_left
             ·
              rintro w' ⟨s0, s1, s2, s3, s4, s5, s6⟩
              go_simp
              first | (with_reducible rfl) | (rw [if_neg (by omega)])
             rotate_left
             ·
              simp only [Act.put, List.setIfInBounds_toArray, List.set_cons_zero, List.set_cons_succ, i64_w, i32_w]
              rfl
             refine take_ (i := 4) (N := some 94) (v := ?_) (a' := ?_) #[true, true, true, true, true, true, false, false, false, false, false, false, false, false] rfl rfl (take_ofW HT_.out HW_.out (by kernel_rfl)) (fun _ _ _ h => h) (Or.inl ⟨by rfl, ?_⟩) hHeld ?_ ?_
             rotate_left
             ·
              rintro w' ⟨s0, s1, s2, s3, s4, s5, s6⟩
              go_simp
              first | (with_reducible rfl) | (rw [if_neg (by omega)])
             rotate_left
             ·
              simp only [Act.put, List.setIfInBounds_toArray, List.set_cons_zero, List.set_cons_succ, i64_w, i32_w]
              rfl
             refine pure_ (i := 6) (N := some 96) (v := ?_) (a' := ?_) #[true, true, true, true, true, true, true, false, false, false, false, false, false, false] rfl rfl (any_of HT_.out (by kernel_rfl)) (fun _ _ _ h => h) (Or.inl ⟨by rfl, ?_⟩) ?_ ?_
             rotate_left
             ·
              intro w'
              go_simp
              first | (with_reducible rfl) | (rw [if_neg (by omega)])
             rotate_left
             ·
              simp only [Act.put, List.setIfInBounds_toArray, List.set_cons_zero, List.set_cons_succ, i64_w, i32_w]
              rfl
             refine pure_ (i := 7) (N := some 97) (v := ?_) (a' := ?_) #[true, true, true, true, true, true, true, true, false, false, false, false, false, false] rfl rfl (any_of HT_.out (by kernel_rfl)) (fun _ _ _ h => h) (Or.inl ⟨by rfl, ?_⟩) ?_ ?_
             rotate_left
             ·
              intro w'
              go_simp
              first | (with_reducible rfl) | (rw [if_neg (by omega)])
             rotate_left
             ·
              simp only [Act.put, List.setIfInBounds_toArray, List.set_cons_zero, List.set_cons_succ, i64_w, i32_w]
              rfl
             refine take_ (i := 8) (N := some 98) (v := ?_) (a' := ?_) #[true, true, true, true, true, true, true, true, true, false, false, false, false, false] rfl rfl (take_ofW HT_.out HW_.out (by kernel_rfl)) (fun _ _ _ h => h) (Or.inl ⟨by rfl, ?_⟩) hHeld ?_ ?_
             rotate_left
             ·
              rintro w' ⟨s0, s1, s2, s3, s4, s5, s6⟩
              go_simp
              first | (with_reducible rfl) | (rw [if_neg (by omega)])
             rotate_left
             ·
              simp only [Act.put, List.setIfInBounds_toArray, List.set_cons_zero, List.set_cons_succ, i64_w, i32_w]
              rfl
             refine one_ (i := 9) (N := some 99) #[true, true, true, true, true, true, true, true, true, true, false, false, false, false] rfl rfl (one_of HT_.out (by kernel_rfl)) (by decide) (fun K hK => ?_)
             refine goes_ Tryz.func49 (by kernel_rfl) rfl #[.pointer (some ⟨gb512, 0, none⟩), .int .i64 ((rd_T24 l0_0 a1).f0)] (by rfl) rfl rfl zm ?_
             with_reducible refine (page_Taker_value.calls k1 gb512 x513000_1 false ((rd_T24 l0_0 a1).f0) t541 t542 t543 w _ ?side1 ?side2 ?side3 A61.out).mono ?_
             (case side1 => repeat (first | (with_reducible first | exact HI512.out | apply IsS84.alloc | apply IsS84.drewN | apply IsS84.drew | apply IsS84.set_0 | apply IsS84.set_1 | refine IsS84.far ?_ NB512_504.out _ | refine IsS84.far ?_ NB512_505.out _ | refine IsS84.far ?_ NB512_522.out _) | exact HI512.out))
             (case side2 => exact zl4 HB.out (IsS84.ge HI512.out) GE504.out GE505.out GE522.out)
             (case side3 => exact HG.out)
             rintro e w65 ⟨rfl, hi, hb, hk⟩
             refine ⟨_, rfl, ?_⟩
             have n0_ := am (Kd.R_mono (Kd.R_keep (IsS84.apart (show IsS84 w _ gb512 x513000_1 false from by repeat (first | (with_reducible first | exact HI512.out | apply IsS84.alloc | apply IsS84.drewN | apply IsS84.drew | apply IsS84.set_0 | apply IsS84.set_1 | refine IsS84.far ?_ NB512_504.out _ | refine IsS84.far ?_ NB512_505.out _ | refine IsS84.far ?_ NB512_522.out _) | exact HI512.out)) (zr HO_523000.out) (by decide)) hk (fun _ h => h.2)) (fun _ h => h.1))
             have n1_ := am (Kd.R_mono (Kd.R_keep (IsS84.apart (show IsS84 w _ gb512 x513000_1 false from by repeat (first | (with_reducible first | exact HI512.out | apply IsS84.alloc | apply IsS84.drewN | apply IsS84.drew | apply IsS84.set_0 | apply IsS84.set_1 | refine IsS84.far ?_ NB512_504.out _ | refine IsS84.far ?_ NB512_505.out _ | refine IsS84.far ?_ NB512_522.out _) | exact HI512.out)) (zr HO_523001.out) (by decide)) hk (fun _ h => h.2)) (fun _ h => h.1))
             have n2_ := am (Kd.R_mono (Kd.R_keep (IsS84.apart (show IsS84 w _ gb512 x513000_1 false from by repeat (first | (with_reducible first | exact HI512.out | apply IsS84.alloc | apply IsS84.drewN | apply IsS84.drew | apply IsS84.set_0 | apply IsS84.set_1 | refine IsS84.far ?_ NB512_504.out _ | refine IsS84.far ?_ NB512_505.out _ | refine IsS84.far ?_ NB512_522.out _) | exact HI512.out)) (zr HO_523002.out) (by decide)) hk (fun _ h => h.2)) (fun _ h => h.1))
             have n3_ := am (KeepBut.blk hk (g' := gb504) (o := .cells #[.slice (some ad540) l0_0.length c0_0] 27 (0, 0)) (zb BK504.out) NB504_512.out (by simp))
             have n4_ := am (KeepBut.blk hk (g' := gb505) (o := .cells #[.slice none 0 0, .slice none 0 0, .slice none 0 0] 31 (0, 0)) (zb BK505.out) NB505_512.out (by simp))
             have n5_ := am (KeepBut.blk hk (g' := gb522) (o := .cells #[.slice Ao47 t527.length co47, .slice Ao55 t535.length co55, u523002] 31 (0, 0)) (zb BK522.out) NB522_512.out (by simp))
             have n6_ := am (hb)
             have n7_ := am (hi)
             clear HO_523000
             clear HO_523001
             clear HO_523002
             clear BK504
             clear BK505
             clear BK522
             clear HB
             clear HI512
             have HO_523000 := n0_
             have HO_523001 := n1_
             have HO_523002 := n2_
             have BK504 := n3_
             have BK505 := n4_
             have BK522 := n5_
             have HB := n6_
             have HI512 := n7_
             clear n0_ n1_ n2_ n3_ n4_ n5_ n6_ n7_
             (try clear hb)
             (try clear hb2)
             (try clear hk)
             (try clear hi)
             refine hK.out _ _ ⟨(blk_cell BK522.out 0).trans rfl, (blk_cell BK522.out 1).trans rfl, (blk_cell BK522.out 2).trans rfl, (blk_cell BK504.out 0).trans rfl, ((HB.out.cell (World.block_lt_of_cell? w _ hw540_0)).trans hw540_0), ((HB.out.cell (World.block_lt_of_cell? w _ hw540_1)).trans hw540_1), ((HB.out.cell (World.block_lt_of_cell? w _ hw540_2)).trans hw540_2)⟩ (fun hHeld => ?_)
             clear hK K
             refine norm_ (a' := ?_) ?_ ?_
             rotate_left
             ·
              show Act.put _ (some 99) _ = _
              simp only [Act.put, List.setIfInBounds_toArray, List.set_cons_zero, List.set_cons_succ, i64_w, i32_w]
              rfl
             refine one_ (i := 10) (N := some 100) #[true, true, true, true, true, true, true, true, true, true, true, false, false, false] rfl rfl (one_of HT_.out (by kernel_rfl)) (by decide) (fun K hK => ?_)
             refine value_ (w1 := ?_) (v := ?_) (by rfl) rfl ?_ ?_
             rotate_left 2
             ·
              go_simp
              constructor
              ·
               rfl
              ·
               rfl
             refine hK.out _ _ ⟨(blk_cell (blk_alloc BK522.out _) 0).trans rfl, (blk_cell (blk_alloc BK522.out _) 1).trans rfl, (blk_cell (blk_alloc BK522.out _) 2).trans rfl, (blk_cell (blk_alloc BK504.out _) 0).trans rfl, (World.cell?_alloc_lt _ _ _ (World.block_lt_of_cell? _ _ (((HB.out.cell (World.block_lt_of_cell? w _ hw540_0)).trans hw540_0)))).trans (((HB.out.cell (World.block_lt_of_cell? w _ hw540_0)).trans hw540_0)), (World.cell?_alloc_lt _ _ _ (World.block_lt_of_cell? _ _ (((HB.out.cell (World.block_lt_of_cell? w _ hw540_1)).trans hw540_1)))).trans (((HB.out.cell (World.block_lt_of_cell? w _ hw540_1)).trans hw540_1)), (World.cell?_alloc_lt _ _ _ (World.block_lt_of_cell? _ _ (((HB.out.cell (World.block_lt_of_cell? w _ hw540_2)).trans hw540_2)))).trans (((HB.out.cell (World.block_lt_of_cell? w _ hw540_2)).trans hw540_2))⟩ (fun hHeld => ?_)
             clear hK K
             refine norm_ (a' := ?_) ?_ ?_
             rotate_left
             ·
              show Act.put _ (some 100) _ = _
              simp only [Act.put, List.setIfInBounds_toArray, List.set_cons_zero, List.set_cons_succ, i64_w, i32_w]
              rfl
             refine one_ (i := 11) (N := some 101) #[true, true, true, true, true, true, true, true, true, true, true, true, false, false] rfl rfl (one_of HT_.out (by kernel_rfl)) (by decide) (fun K hK => ?_)
             refine Kd.R_append_step Kd.string (w0 := w) w.heap.size (by rfl) (.tmp 91) (.tmp 100) 29 9 (.string ⟨#[]⟩) 16 rfl Tryz.underlying29 info9 rfl (by decide) (by omega) u523002 x523002_1 t541 [.string t541] (fun _ => True) (fun _ => False) rfl rfl ?aP (fun _ hk => hk.elim) ?aF ?aO ?aB ?aS ?aL ?_
             (case aP => exact rfl)
             (case aB => exact (zl4 HB.out (IsS84.ge HI512.out) GE504.out GE505.out GE522.out))
             (case aF => exact (fun _ _ => trivial))
             (case aO => exact (zr HO_523002.out))
             (case aS => exact (below_size (zl4 HB.out (IsS84.ge HI512.out) GE504.out GE505.out GE522.out)))
             (case aL => have := LMc62.out; omega)
             intro v545 w66 ho hb hg hat
             rw [← Ny544.out] at ho
             have n0_ := am (Kd.R_over' (zr HO_523000.out) (Kd.R_typed (zr HO_523002.out)) (by decide) hg)
             have n1_ := am (Kd.R_over' (zr HO_523001.out) (Kd.R_typed (zr HO_523002.out)) (by decide) hg)
             have n2_ := am (blk_grown (g := gb504) (o := .cells #[.slice (some ad540) l0_0.length c0_0] 27 (0, 0)) (zb BK504.out) hg (Kd.R_ne HO_523002.out BK504.out (by decide)))
             have n3_ := am (blk_grown (g := gb505) (o := .cells #[.slice none 0 0, .slice none 0 0, .slice none 0 0] 31 (0, 0)) (zb BK505.out) hg (Kd.R_ne HO_523002.out BK505.out (by decide)))
             have n4_ := am (blk_grown (g := gb522) (o := .cells #[.slice Ao47 t527.length co47, .slice Ao55 t535.length co55, u523002] 31 (0, 0)) (zb BK522.out) hg (Kd.R_ne HO_523002.out BK522.out (by decide)))
             have n5_ := am (IsS84.grown (by repeat (first | (with_reducible first | exact HI512.out | apply IsS84.alloc | apply IsS84.drewN | apply IsS84.drew | apply IsS84.set_0 | apply IsS84.set_1 | refine IsS84.far ?_ NB512_504.out _ | refine IsS84.far ?_ NB512_505.out _ | refine IsS84.far ?_ NB512_522.out _) | exact HI512.out)) hg (IsS84.own_ne HI512.out HO_523002.out (by decide)))
             have n6_ := am (hb)
             have n7_ := am (ho)
             clear HO_523000
             clear HO_523001
             clear BK504
             clear BK505
             clear BK522
             clear HI512
             clear HB
             clear HO_523002
             have HO_523000 := n0_
             have HO_523001 := n1_
             have BK504 := n2_
             have BK505 := n3_
             have BK522 := n4_
             have HI512 := n5_
             have HB := n6_
             have HO546 := n7_
             clear n0_ n1_ n2_ n3_ n4_ n5_ n6_ n7_
             clear ho hb hg hat
             obtain ⟨Ao67, co67, eo67⟩ := Kd.R_slice HO546.out
             (first | subst eo67 | (injection eo67 with f1_ f2_ f3_; have f4_ := f1_.symm; have f5_ := f3_.symm; clear f1_ f2_ f3_; subst f4_; subst f5_))
             refine hK.out _ _ ⟨(blk_cell BK522.out 0).trans rfl, (blk_cell BK522.out 1).trans rfl, (blk_cell BK522.out 2).trans rfl, (blk_cell BK504.out 0).trans rfl, ((HB.out.cell (World.block_lt_of_cell? w _ hw540_0)).trans hw540_0), ((HB.out.cell (World.block_lt_of_cell? w _ hw540_1)).trans hw540_1), ((HB.out.cell (World.block_lt_of_cell? w _ hw540_2)).trans hw540_2)⟩ (fun hHeld => ?_)
             clear hK K
             refine norm_ (a' := ?_) ?_ ?_
             rotate_left
             ·
              show Act.put _ (some 101) _ = _
              simp only [Act.put, List.setIfInBounds_toArray, List.set_cons_zero, List.set_cons_succ, i64_w, i32_w]
              rfl
             refine pure_ (i := 12) (N := some 102) (v := ?_) (a' := ?_) #[true, true, true, true, true, true, true, true, true, true, true, true, true, false] rfl rfl (any_of HT_.out (by kernel_rfl)) (fun _ _ _ h => h) (Or.inl ⟨by rfl, ?_⟩) ?_ ?_
             rotate_left
             ·
              intro w'
              go_simp
              first | (with_reducible rfl) | (rw [if_neg (by omega)])
             rotate_left
             ·
              simp only [Act.put, List.setIfInBounds_toArray, List.set_cons_zero, List.set_cons_succ, i64_w, i32_w]
              rfl
             refine last_ (i := 13) (N := none) #[true, true, true, true, true, true, true, true, true, true, true, true, true, true] rfl rfl (one_of HT_.out (by kernel_rfl)) (by decide) (fun K hK => ?_)
             have hs68 : w66.cell? ⟨gb522, 2, none⟩ = some (u523002) := (blk_cell BK522.out 2).trans rfl
             have hfs68 := blk_frozen BK522.out 2
             have hns68_0 := NB504_522.out
             have hns68_1 := NB505_522.out
             have hms68_0 := NB522_504.out
             have hms68_1 := NB522_505.out
             refine skip_ (w1 := ?_) (by rfl) rfl ?_ ?_
             rotate_left
             ·
              go_simp
              rfl
             refine hK.out _ _ ?_
             clear hK K
             refine done_ (done_of HT_.out (by kernel_rfl)) ?_
             try go_wp2
             go_roundg k1
             case measure => have := HK1.out; omega
             case rel => exact ⟨(wrap64 (x83_1 + 1)), (t542), (t543), (y544), (.slice Ao67 y544.length co67), zs, H', ⟨by have := HK1.out; omega⟩, ⟨by refine zr ?_; exact Kd.R_mono (zf1 _ HO_523000.out BK522.out) (fun _ hk => hk.1)⟩, ⟨by refine zr ?_; exact Kd.R_mono (zf1 _ HO_523001.out BK522.out) (fun _ hk => hk.1)⟩, ⟨by refine zr ?_; exact Kd.R_mono (zf1 _ HO546.out BK522.out) (fun _ hk => trivial)⟩, ⟨by refine zb ?_; refine blk_far ?_ NB504_522.out _; refine zb ?_; exact BK504.out⟩, ⟨by refine zb ?_; refine blk_far ?_ NB505_522.out _; refine zb ?_; exact BK505.out⟩, ⟨by refine zb ?_; refine blk_put (cs := #[.slice Ao47 t527.length co47, .slice Ao55 t535.length co55, u523002]) ?_ 2 _ rfl; refine zb ?_; exact BK522.out⟩, ⟨by repeat (first | (with_reducible first | exact HI512.out | apply IsS84.alloc | apply IsS84.drewN | apply IsS84.drew | apply IsS84.set_0 | apply IsS84.set_1 | refine IsS84.far ?_ NB512_504.out _ | refine IsS84.far ?_ NB512_505.out _ | refine IsS84.far ?_ NB512_522.out _) | exact HI512.out)⟩, ⟨zl4 HB.out (IsS84.ge HI512.out) GE504.out GE505.out GE522.out⟩⟩
            ·
             rw [if_neg c62] at H
             exact absurd H (by simp)
           ·
            rw [if_neg c60] at H
            exact absurd H (by simp)
          ·
           rw [if_neg c59] at H
           exact absurd H (by simp)
        ·
         rw [if_neg c57] at H
         have c57b0 := decide_eq_false c57
         clear c57
         replace H := zo H
         obtain ⟨⟨t547, t548⟩, A690, H⟩ := H
         (try dsimp only at H)
         have A69 := am A690
         clear A690
         by_cases c70 : x513001_1 = true
         ·
          subst c70
          rw [if_pos rfl] at H
          exact absurd H (by simp)
         ·
          replace c70 := Bool.eq_false_iff.mpr c70
          subst c70
          rw [if_neg (show ¬ (false = true) by decide)] at H
          by_cases c71 : t528 = 0
          ·
           rw [if_pos c71] at H
           have c71b0 := beq_iff_eq.mpr c71
           have c71b1 := bne_eq_false_iff_eq.mpr c71
           clear c71
           by_cases c72 : t536 = 0
           ·
            rw [if_pos c72] at H
            have c72b0 := beq_iff_eq.mpr c72
            have c72b1 := bne_eq_false_iff_eq.mpr c72
            clear c72
            by_cases c73 : t548 = 0
            ·
             rw [if_pos c73] at H
             have c73b0 := beq_iff_eq.mpr c73
             have c73b1 := bne_eq_false_iff_eq.mpr c73
             clear c73
             by_cases c74 : t547.toList = a2.toList
             ·
              rw [if_pos c74] at H
              have c74b0 := beq_iff_eq.mpr c74
              have c74b1 := bne_eq_false_iff_eq.mpr c74
              clear c74
              simp only [Option.some.injEq, Prod.mk.injEq] at H
              obtain ⟨rfl, rfl, rfl, rfl⟩ := H
              have hnb75 := NB504_505.out
              have hnc75 := NB505_504.out
              have hnb76 := NB504_522.out
              have hnc76 := NB522_504.out
              have hnb77 := NB504_512.out
              have hnc77 := NB512_504.out
              have hcz78_0 : wr.cell? ⟨gb504, 0, none⟩ = some (.slice A0_0 l0_0.length c0_0) := (blk_cell BK504.out 0).trans rfl
              have hfz78_0 := blk_frozen BK504.out 0
              have hnb79 := NB522_505.out
              have hnc79 := NB505_522.out
              have hnb80 := NB522_512.out
              have hnc80 := NB512_522.out
              have hcz81_0 : wr.cell? ⟨gb522, 0, none⟩ = some (.slice Ao47 t527.length co47) := (blk_cell BK522.out 0).trans rfl
              have hcz81_1 : wr.cell? ⟨gb522, 1, none⟩ = some (.slice Ao55 t535.length co55) := (blk_cell BK522.out 1).trans rfl
              have hcz81_2 : wr.cell? ⟨gb522, 2, none⟩ = some (u523002) := (blk_cell BK522.out 2).trans rfl
              have hfz81_0 := blk_frozen BK522.out 0
              have hfz81_1 := blk_frozen BK522.out 1
              have hfz81_2 := blk_frozen BK522.out 2
              obtain ⟨Ao82, co82, eo82⟩ := Kd.R_slice HO_523002.out
              subst eo82
              go_wp2_with (first | ((with_reducible refine gate_callee (f := 14) rfl ?_); refine goesL_ (some 108) rfl rfl Tryz.func14 (by kernel_rfl) rfl #[.agg #[.slice A0_0 l0_0.length c0_0], .int .i64 a1, .agg #[.slice Ao47 t527.length co47, .slice Ao55 t535.length co55, .slice Ao82 x523002_1.length co82]] rfl zm ?_; (with_reducible refine (page_Put.calls k1 _ _ l0_0 a1 _ _ t527 _ _ t535 _ _ x523002_1 t547 t548 _ ?side1 ?side2 ?side3 ?side4 ?side5 ?side6 ?side7 ?side8 ?side9 A69.out).mono ?_); (case side1 => exact zc (Kd.C_below HR0_0.out HB.out)); (case side2 => exact HC0_0.out); (case side3 => exact zc (Kd.R_reads' HO_523000.out).2.2); (case side4 => exact (Kd.R_reads' HO_523000.out).2.1); (case side5 => exact zc (Kd.R_reads' HO_523001.out).2.2); (case side6 => exact (Kd.R_reads' HO_523001.out).2.1); (case side7 => exact zc (Kd.R_reads' HO_523002.out).2.2); (case side8 => exact (Kd.R_reads' HO_523002.out).2.1); (case side9 => exact GL.below HG.out (zl4 HB.out (IsS84.ge HI512.out) GE504.out GE505.out GE522.out)); rintro e w83 ⟨rfl, hb⟩; refine ⟨_, rfl, ?_⟩; have n0_ := am (Kd.R_below (zr HO_523000.out) hb); have n1_ := am (Kd.R_below (zr HO_523001.out) hb); have n2_ := am (Kd.R_below (zr HO_523002.out) hb); have n3_ := am (zbb BK504.out hb); have n4_ := am (zbb BK505.out hb); have n5_ := am (zbb BK522.out hb); have n6_ := am (IsS84.below (by repeat (first | (with_reducible first | exact HI512.out | apply IsS84.alloc | apply IsS84.drewN | apply IsS84.drew | apply IsS84.set_0 | apply IsS84.set_1 | refine IsS84.far ?_ NB512_504.out _ | refine IsS84.far ?_ NB512_505.out _ | refine IsS84.far ?_ NB512_522.out _) | exact HI512.out)) hb); have n7_ := am (below_step (zl4 HB.out (IsS84.ge HI512.out) GE504.out GE505.out GE522.out) hb); clear HO_523000 HO_523001; clear HO_523002 BK504; clear BK505 BK522; clear HI512 HB; have HO_523000 := n0_; have HO_523001 := n1_; have HO_523002 := n2_; have BK504 := n3_; have BK505 := n4_; have BK522 := n5_; have HI512 := n6_; have HB := n7_; clear n0_ n1_ n2_ n3_ n4_ n5_ n6_ n7_; (try clear hb); (try clear hb2); (try clear hk); (try clear hi); obtain ⟨HGz84, hgz84⟩ := HI512.out; have hcz84_0 := cellS84_0 HGz84; have hcz84_1 := cellS84_1 HGz84; have hfz84_0 := blk_frozen HGz84 0; have hfz84_1 := blk_frozen HGz84 1; clear HGz84 hgz84; have hcz85_0 : w83.cell? ⟨gb522, 0, none⟩ = some (.slice Ao47 t527.length co47) := (blk_cell BK522.out 0).trans rfl; have hcz85_1 : w83.cell? ⟨gb522, 1, none⟩ = some (.slice Ao55 t535.length co55) := (blk_cell BK522.out 1).trans rfl; have hcz85_2 : w83.cell? ⟨gb522, 2, none⟩ = some (.slice Ao82 x523002_1.length co82) := (blk_cell BK522.out 2).trans rfl; have hfz85_0 := blk_frozen BK522.out 0; have hfz85_1 := blk_frozen BK522.out 1; have hfz85_2 := blk_frozen BK522.out 2; have hnb86 := NB505_512.out; have hnc86 := NB512_505.out; have hcz87_0 : w83.cell? ⟨gb505, 0, none⟩ = some (.slice none 0 0) := (blk_cell BK505.out 0).trans rfl; have hcz87_1 : w83.cell? ⟨gb505, 1, none⟩ = some (.slice none 0 0) := (blk_cell BK505.out 1).trans rfl; have hcz87_2 : w83.cell? ⟨gb505, 2, none⟩ = some (.slice none 0 0) := (blk_cell BK505.out 2).trans rfl; have hfz87_0 := blk_frozen BK505.out 0; have hfz87_1 := blk_frozen BK505.out 1; have hfz87_2 := blk_frozen BK505.out 2))
              refine bodyPost_ret (results_ct rfl _ _ gb505 31 #[.slice Ao47 t527.length co47, .slice Ao55 t535.length co55, .slice Ao82 x523002_1.length co82] (0, 0) _ rfl (by refine zb ?_; refine blk_put (cs := #[.slice Ao47 t527.length co47, .slice Ao55 t535.length co55, .slice none 0 0]) ?_ 2 _ rfl; refine zb ?_; refine blk_put (cs := #[.slice Ao47 t527.length co47, .slice none 0 0, .slice none 0 0]) ?_ 1 _ rfl; refine zb ?_; refine blk_put (cs := #[.slice none 0 0, .slice none 0 0, .slice none 0 0]) ?_ 0 _ rfl; refine zb ?_; exact BK505.out) Tryz.underlying31 rfl (by kernel_rfl)) rfl ?_
              exact ⟨_, _, _, ze, by refine zr ?_; exact Kd.R_mono (zf3 _ _ _ HO_523000.out BK505.out) (fun _ hk => hk.1), by refine zr ?_; exact Kd.R_mono (zf3 _ _ _ HO_523001.out BK505.out) (fun _ hk => hk.1), by refine zr ?_; exact Kd.R_mono (zf3 _ _ _ HO_523002.out BK505.out) (fun _ hk => trivial), zl4 HB.out (IsS84.ge HI512.out) GE504.out GE505.out GE522.out⟩
             ·
              rw [if_neg c74] at H
              exact absurd H (by simp)
            ·
             rw [if_neg c73] at H
             exact absurd H (by simp)
           ·
            rw [if_neg c72] at H
            exact absurd H (by simp)
          ·
           rw [if_neg c71] at H
           exact absurd H (by simp)
     ·
      rw [if_neg c18] at H
      have c18b0 := beq_eq_false_iff_ne.mpr c18
      have c18b1 := bne_iff_ne.mpr c18
      simp only [Option.some.injEq, Prod.mk.injEq] at H
      obtain ⟨rfl, rfl, rfl, rfl⟩ := H
      go_enter Tryz.func18, Tryz.ntmps18
      try go_wp2_with (first | ((with_reducible refine gate_dst (N := 3) rfl ?_); refine box_event ?hg (N := 3) ?hd (cs := #[.slice A0_0 l0_0.length c0_0]) (t := 27) ?hr ?_; (case hd => rfl); (case hg => rfl); (case hr => exact zh); intro gb504 hg w88 hbox hb; have n0_ := am (below_step (zl HB.out) hb); have n1_ := am (hbox); have n2_ := am ((by rw [hg]; exact (below_size (zl HB.out)) : w.heap.size ≤ gb504)); have n3_ := am ((by rw [hg]; exact (below_size (zl HB.out)) : w.heap.size ≤ gb504)); clear HB; have HB := n0_; have BK504 := n1_; have GW504 := n2_; have GE504 := n3_; clear n0_ n1_ n2_ n3_; clear hb hbox hg) | ((with_reducible refine gate_dst (N := 6) rfl ?_); refine box_event ?hg (N := 6) ?hd (cs := #[.slice none 0 0, .slice none 0 0, .slice none 0 0]) (t := 31) ?hr ?_; (case hd => rfl); (case hg => rfl); (case hr => exact zh); intro gb505 hg w89 hbox hb; have n0_ := am (zbb BK504.out hb); have n1_ := am (below_step (zl1 HB.out GE504.out) hb); have n2_ := am (hbox); have n3_ := am ((by rw [hg]; exact (below_size (zl1 HB.out GE504.out)) : w.heap.size ≤ gb505)); have n4_ := am ((by rw [hg]; exact (below_size (zl1 HB.out GE504.out)) : w.heap.size ≤ gb505)); have n5_ := am ((by rw [hg]; exact Nat.ne_of_lt (blk_lt (g := gb504) (o := .cells #[.slice A0_0 l0_0.length c0_0] 27 (0, 0)) (zb BK504.out)) : gb504 ≠ gb505)); have n6_ := am ((by rw [hg]; exact Nat.ne_of_gt (blk_lt (g := gb504) (o := .cells #[.slice A0_0 l0_0.length c0_0] 27 (0, 0)) (zb BK504.out)) : gb505 ≠ gb504)); clear BK504 HB; have BK504 := n0_; have HB := n1_; have BK505 := n2_; have GW505 := n3_; have GE505 := n4_; have NB504_505 := n5_; have NB505_504 := n6_; clear n0_ n1_ n2_ n3_ n4_ n5_ n6_; clear hb hbox hg; have hnb90 := NB504_505.out; have hnc90 := NB505_504.out; have hcz91_0 : w89.cell? ⟨gb504, 0, none⟩ = some (.slice A0_0 l0_0.length c0_0) := (blk_cell BK504.out 0).trans rfl; have hfz91_0 := blk_frozen BK504.out 0) | ((with_reducible refine gate_callee (f := 42) rfl ?_); refine goesL_ (some 22) rfl rfl Tryz.func42 (by kernel_rfl) rfl #[.agg #[.slice A0_0 l0_0.length c0_0], .int .i64 a1] rfl zm ?_; (with_reducible refine (types_Leaf.calls k _ _ l0_0 a1 true _ ?side1 ?side2 A4.out).mono ?_); (case side1 => exact zc (Kd.C_below HR0_0.out HB.out)); (case side2 => exact HC0_0.out); rintro e w92 ⟨rfl, hb⟩; refine ⟨_, rfl, ?_⟩; have n0_ := am (zbb BK504.out hb); have n1_ := am (zbb BK505.out hb); have n2_ := am (below_step (zl2 HB.out GE504.out GE505.out) hb); clear BK504 BK505 HB; have BK504 := n0_; have BK505 := n1_; have HB := n2_; clear n0_ n1_ n2_; (try clear hb); (try clear hb2); (try clear hk); (try clear hi)))
      have n0_ := am (blk_drew BK504.out)
      have n1_ := am (blk_drew BK505.out)
      have n2_ := am (below_drew1 HB.out)
      clear BK504
      clear BK505
      clear HB
      have BK504 := n0_
      have BK505 := n1_
      have HB := n2_
      clear n0_ n1_ n2_
      refine start_ (n := 7) (S := fun w' => True) (ds := []) #[false, false, false, false, false, false, false] (by kernel_rfl) rfl rfl trivial (fun hHeld => ?_)
      generalize w92.drew = w93 at BK504 BK505 HB hHeld ⊢
      refine pure_ (i := 0) (N := some 30) (v := ?_) (a' := ?_) #[true, false, false, false, false, false, false] rfl rfl (by kernel_rfl) (fun _ _ _ h => h) (Or.inl ⟨by rfl, ?_⟩) ?_ ?_
      rotate_left
      ·
       intro w'
       go_simp
       first | (with_reducible rfl) | (rw [if_neg (by omega)])
      rotate_left
      ·
       simp only [Act.put, List.setIfInBounds_toArray, List.set_cons_zero, List.set_cons_succ, i64_w, i32_w]
       rfl
      refine pure_ (i := 1) (N := some 31) (v := ?_) (a' := ?_) #[true, true, false, false, false, false, false] rfl rfl (by kernel_rfl) (fun _ _ _ h => h) (Or.inl ⟨by rfl, ?_⟩) ?_ ?_
      rotate_left
      ·
       intro w'
       go_simp
       first | (with_reducible rfl) | (rw [if_neg (by omega)])
      rotate_left
      ·
       simp only [Act.put, List.setIfInBounds_toArray, List.set_cons_zero, List.set_cons_succ, i64_w, i32_w]
       rfl
      refine pure_ (i := 3) (N := some 33) (v := ?_) (a' := ?_) #[true, true, false, true, false, false, false] rfl rfl (by kernel_rfl) (fun _ _ _ h => h) (Or.inl ⟨by rfl, ?_⟩) ?_ ?_
      rotate_left
      ·
       intro w'
       go_simp
       first | (with_reducible rfl) | (rw [if_neg (by omega)])
      rotate_left
      ·
       simp only [Act.put, List.setIfInBounds_toArray, List.set_cons_zero, List.set_cons_succ, i64_w, i32_w]
       rfl
      refine pure_ (i := 4) (N := some 34) (v := ?_) (a' := ?_) #[true, true, false, true, true, false, false] rfl rfl (by kernel_rfl) (fun _ _ _ h => h) (Or.inl ⟨by rfl, ?_⟩) ?_ ?_
      rotate_left
      ·
       intro w'
       go_simp
       first | (with_reducible rfl) | (rw [if_neg (by omega)])
      rotate_left
      ·
       simp only [Act.put, List.setIfInBounds_toArray, List.set_cons_zero, List.set_cons_succ, i64_w, i32_w]
       rfl
      refine one_ (i := 2) (N := some 32) #[true, true, true, true, true, false, false] rfl rfl (by kernel_rfl) (by decide) (fun K hK => ?_)
      refine goes_ Tryz.func43 (by kernel_rfl) rfl #[.string (a2.extract 0 4)] (by rfl) rfl rfl zm ?_
      with_reducible refine (num_Of.calls k (a2.extract 0 4) t507 _ A15.out).mono ?_
      rintro e w' ⟨rfl, ⟨nd, rfl⟩⟩
      refine ⟨_, rfl, ?_⟩
      refine hK.out _ _ trivial (fun hHeld => ?_)
      clear hK K
      refine norm_ (a' := ?_) ?_ ?_
      rotate_left
      ·
       show Act.put _ (some 32) _ = _
       simp only [Act.put, List.setIfInBounds_toArray, List.set_cons_zero, List.set_cons_succ, i64_w, i32_w]
       rfl
      refine one_ (i := 5) (N := some 35) #[true, true, true, true, true, true, false] rfl rfl (by kernel_rfl) (by decide) (fun K hK => ?_)
      refine goes_ Tryz.func40 (by kernel_rfl) rfl #[.string (a2.extract 4 a2.size)] (by rfl) rfl rfl zm ?_
      with_reducible refine (crc_Sum.calls k (a2.extract 4 a2.size) t508 _ A17.out).mono ?_
      rintro e w' ⟨rfl, ⟨nd, rfl⟩⟩
      refine ⟨_, rfl, ?_⟩
      refine hK.out _ _ trivial (fun hHeld => ?_)
      clear hK K
      refine norm_ (a' := ?_) ?_ ?_
      rotate_left
      ·
       show Act.put _ (some 35) _ = _
       simp only [Act.put, List.setIfInBounds_toArray, List.set_cons_zero, List.set_cons_succ, i64_w, i32_w]
       rfl
      refine pure_ (i := 6) (N := some 36) (v := ?_) (a' := ?_) #[true, true, true, true, true, true, true] rfl rfl (by kernel_rfl) (fun _ _ _ h => h) (Or.inl ⟨by rfl, ?_⟩) ?_ ?_
      rotate_left
      ·
       intro w'
       go_simp
       first | (with_reducible rfl) | (rw [if_neg (by omega)])
      rotate_left
      ·
       simp only [Act.put, List.setIfInBounds_toArray, List.set_cons_zero, List.set_cons_succ, i64_w, i32_w]
       rfl
      refine done_ (by kernel_rfl) ?_
      have hcz94_0 : w93.cell? ⟨gb505, 0, none⟩ = some (.slice none 0 0) := (blk_cell BK505.out 0).trans rfl
      have hcz94_1 : w93.cell? ⟨gb505, 1, none⟩ = some (.slice none 0 0) := (blk_cell BK505.out 1).trans rfl
      have hcz94_2 : w93.cell? ⟨gb505, 2, none⟩ = some (.slice none 0 0) := (blk_cell BK505.out 2).trans rfl
      have hfz94_0 := blk_frozen BK505.out 0
      have hfz94_1 := blk_frozen BK505.out 1
      have hfz94_2 := blk_frozen BK505.out 2
      try go_wp2
      refine bodyPost_ret (results_ct rfl _ _ gb505 31 #[.slice none 0 0, .slice none 0 0, .slice none 0 0] (0, 0) _ rfl (by refine zb ?_; refine blk_put (cs := #[.slice none 0 0, .slice none 0 0, .slice none 0 0]) ?_ 2 _ rfl; refine zb ?_; refine blk_put (cs := #[.slice none 0 0, .slice none 0 0, .slice none 0 0]) ?_ 1 _ rfl; refine zb ?_; refine blk_put (cs := #[.slice none 0 0, .slice none 0 0, .slice none 0 0]) ?_ 0 _ rfl; refine zb ?_; exact BK505.out) Tryz.underlying31 rfl (by kernel_rfl)) rfl ?_
      exact ⟨_, _, _, ze, by first | exact Kd.R_nil _ _ _ _ _ | exact Kd.N_nil _ _ _ _ _ | exact Kd.V_nil _ _ _ _ _ | exact Kd.Q_nil _ _ _ _ _ | exact Kd.S_nil _ _ _ _ _, by first | exact Kd.R_nil _ _ _ _ _ | exact Kd.N_nil _ _ _ _ _ | exact Kd.V_nil _ _ _ _ _ | exact Kd.Q_nil _ _ _ _ _ | exact Kd.S_nil _ _ _ _ _, by first | exact Kd.R_nil _ _ _ _ _ | exact Kd.N_nil _ _ _ _ _ | exact Kd.V_nil _ _ _ _ _ | exact Kd.Q_nil _ _ _ _ _ | exact Kd.S_nil _ _ _ _ _, zl2 HB.out GE504.out GE505.out⟩
    ·
     rw [if_neg c14] at H
     exact absurd H (by simp)
   ·
    rw [if_neg c13] at H
    exact absurd H (by simp)
 ·
  replace c5 := Bool.eq_false_iff.mpr c5
  subst c5
  rw [if_neg (show ¬ (false = true) by decide)] at H
  exact absurd H (by simp)

end Go.Proofs.YtkcmkedboflklaaGreatDoor.Q
