/- Steps towards: PageUnlike: unlike columns have unlike pages, for every type, every leaf and every two columns; no condition beside the row's own (the library's listed variables hold what the program's text lays). -/
import Derived.Test.YtkcmkedboflklaaGreatDoorA2
import Derived.Test.YtkcmkedboflklaaGreatDoorA14
import Derived.Test.YtkcmkedboflklaaGreatDoorA18
import Derived.Test.YtkcmkedboflklaaGreatDoorA19
namespace Go.Proofs.YtkcmkedboflklaaGreatDoor.Q
open Go.RowKit Go.Proofs.YtkcmkedboflklaaGreatDoorW.PrintWords Go.Proofs.YtkcmkedboflklaaGreatDoorW.PrintLast Go.Proofs.YtkcmkedboflklaaGreatDoorW.PrintMore
attribute [local go_sem] max2_int min2_int max_two min_two max_three min_three max_four min_four
set_option linter.unusedVariables false
set_option linter.unusedSimpArgs false
set_option maxHeartbeats 8000000
set_option maxRecDepth 100000

def quiverlaw22_awake.f (k : Nat)  : Option (Bool) := (some (([0, 0] : List Int) : List Int)).bind fun y575 => ((some (([1, 0] : List Int) : List Int)).bind fun y578 => ((some (([(⟨#[105, 50, 53, 56, 59]⟩ : ByteArray)] : List ByteArray) : List ByteArray)).bind fun y581 => ((quiverlaw22_ints.f).bind fun t585 => ((page_Put.f k t585 0 y575 y578 y581).bind fun bt588 => ((quiverlaw22_ints.f).bind fun t590 => ((page_Get.f k t590 0 bt588.1).bind fun bt593 => (if (bt588.1.size : Int) = 27 then ((quiverlaw22_ints.f).bind fun t604 => (if 0 ≤ 26 then (if 26 ≤ (bt588.1.size : Int) then (if (bt588.1.extract 0 26).size + 1 ≤ 9223372036854775807 then ((page_Get.f k t604 0 ((bt588.1.extract 0 26) ++ (⟨#[1]⟩ : ByteArray))).bind fun bt607 => ((quiverlaw22_ints.f).bind fun t618 => ((page_Get.f k t618 0 (⟨#[]⟩ : ByteArray)).bind fun bt621 => ((quiverlaw22_ints.f).bind fun t632 => ((page_Put.f k t632 1 y575 y578 y581).bind fun bt635 => (if 4 ≤ 16 then (if 16 ≤ (bt588.1.size : Int) then (if (bt588.1.extract 4 16).toList = ([2, 0, 0, 0, 1, 0, 0, 0, 2, 0, 0, 0] : List UInt8) then ((quiverlaw0_Num.f bt588.2).bind fun t637 => (if t637 = 0 then ((quiverlaw0_SameColumn.f k y575 y578 y581 bt593.1 bt593.2.1 bt593.2.2.1).bind fun t638 => (if t638 = true then ((quiverlaw0_Num.f bt593.2.2.2).bind fun t639 => (if t639 = 0 then ((quiverlaw0_Num.f bt607.2.2.2).bind fun t640 => (if t640 = 2201 then ((quiverlaw0_Num.f bt621.2.2.2).bind fun t641 => (if t641 = 2200 then ((quiverlaw0_Num.f bt635.2).bind fun t642 => (if t642 = 2200 then ((quiverlaw22_ints.f).bind fun t643 => ((quiverref1_TypeMay.f k t643).bind fun t646 => (some t646))) else (none))) else (none))) else (none))) else (none))) else (none))) else (none))) else (none)) else (none)) else (none))))))) else (none)) else (none)) else (none))) else (none))))))))
def quiverlaw22_awake.T2 : Bool × List (List Nat × List Nat) := (true, [([], []), ([], []), ([0, 1, 0], [0, 1]), ([2], [2]), ([3], [3]), ([3], [3]), ([4, 2, 0, 1, 2, 3, 4], [4]), ([5, 6, 0, 1, 2, 3, 4, 5, 6], [5])])
def quiverlaw22_awake.B2 : List Nat := [0, 0, 3, 7, 15, 15, 31, 127]
theorem quiverlaw22_awake.tab2 : rtab .any (opsOf Tryz.f12 2) = quiverlaw22_awake.T2 := by kernel_rfl
theorem quiverlaw22_awake.bits2 : waitsOk quiverlaw22_awake.T2.2 quiverlaw22_awake.B2 = true := by kernel_rfl
def quiverlaw22_awake.T6 : Bool × List (List Nat × List Nat) := (true, [([], []), ([], []), ([1], [1]), ([2], [2]), ([0, 3, 0], [0, 3]), ([4], [4]), ([5], [5]), ([5], [5]), ([], []), ([8, 6, 4, 0, 1, 2, 3, 4, 5, 6, 8], [6, 8]), ([7, 9, 0, 1, 2, 3, 4, 5, 6, 7, 8, 9], [7])])
def quiverlaw22_awake.B6 : List Nat := [0, 0, 2, 6, 15, 31, 63, 63, 0, 383, 1023]
theorem quiverlaw22_awake.tab6 : rtab .any (opsOf Tryz.f12 6) = quiverlaw22_awake.T6 := by kernel_rfl
theorem quiverlaw22_awake.bits6 : waitsOk quiverlaw22_awake.T6.2 quiverlaw22_awake.B6 = true := by kernel_rfl
def quiverlaw22_awake.T8 : Bool × List (List Nat × List Nat) := (true, [([], []), ([], []), ([0, 1, 0], [0, 1]), ([2], [2]), ([3], [3]), ([3], [3]), ([4, 2, 0, 1, 2, 3, 4], [4]), ([5, 6, 0, 1, 2, 3, 4, 5, 6], [5])])
def quiverlaw22_awake.B8 : List Nat := [0, 0, 3, 7, 15, 15, 31, 127]
theorem quiverlaw22_awake.tab8 : rtab .any (opsOf Tryz.f12 8) = quiverlaw22_awake.T8 := by kernel_rfl
theorem quiverlaw22_awake.bits8 : waitsOk quiverlaw22_awake.T8.2 quiverlaw22_awake.B8 = true := by kernel_rfl
theorem quiverlaw22_awake.calls (k : Nat)  (r : Bool) (w : World) (hG : GL w) (h : quiverlaw22_awake.f k  = some r) :
  Calls Tryz.prog 12 #[] w fun e w' => e = .returned (.bool r) ∧ Below w.heap.size w w' := by
 have hu31 := Tryz.underlying31
 have HB := am (Below.refl w.heap.size w)
 have HG := am hG
 clear hG
 have H : ((some (([0, 0] : List Int) : List Int)).bind fun y575 => ((some (([1, 0] : List Int) : List Int)).bind fun y578 => ((some (([(⟨#[105, 50, 53, 56, 59]⟩ : ByteArray)] : List ByteArray) : List ByteArray)).bind fun y581 => ((quiverlaw22_ints.f).bind fun t585 => ((page_Put.f k t585 0 y575 y578 y581).bind fun bt588 => ((quiverlaw22_ints.f).bind fun t590 => ((page_Get.f k t590 0 bt588.1).bind fun bt593 => (if (bt588.1.size : Int) = 27 then ((quiverlaw22_ints.f).bind fun t604 => (if 0 ≤ 26 then (if 26 ≤ (bt588.1.size : Int) then (if (bt588.1.extract 0 26).size + 1 ≤ 9223372036854775807 then ((page_Get.f k t604 0 ((bt588.1.extract 0 26) ++ (⟨#[1]⟩ : ByteArray))).bind fun bt607 => ((quiverlaw22_ints.f).bind fun t618 => ((page_Get.f k t618 0 (⟨#[]⟩ : ByteArray)).bind fun bt621 => ((quiverlaw22_ints.f).bind fun t632 => ((page_Put.f k t632 1 y575 y578 y581).bind fun bt635 => (if 4 ≤ 16 then (if 16 ≤ (bt588.1.size : Int) then (if (bt588.1.extract 4 16).toList = ([2, 0, 0, 0, 1, 0, 0, 0, 2, 0, 0, 0] : List UInt8) then ((quiverlaw0_Num.f bt588.2).bind fun t637 => (if t637 = 0 then ((quiverlaw0_SameColumn.f k y575 y578 y581 bt593.1 bt593.2.1 bt593.2.2.1).bind fun t638 => (if t638 = true then ((quiverlaw0_Num.f bt593.2.2.2).bind fun t639 => (if t639 = 0 then ((quiverlaw0_Num.f bt607.2.2.2).bind fun t640 => (if t640 = 2201 then ((quiverlaw0_Num.f bt621.2.2.2).bind fun t641 => (if t641 = 2200 then ((quiverlaw0_Num.f bt635.2).bind fun t642 => (if t642 = 2200 then ((quiverlaw22_ints.f).bind fun t643 => ((quiverref1_TypeMay.f k t643).bind fun t646 => (some t646))) else (none))) else (none))) else (none))) else (none))) else (none))) else (none))) else (none)) else (none)) else (none))))))) else (none)) else (none)) else (none))) else (none))))))))) = some r := h
 clear h
 obtain ⟨y575, hy575⟩ : ∃ y_ : List Int, y_ = (([0, 0] : List Int)) := ⟨_, rfl⟩
 replace H : ((some (([1, 0] : List Int) : List Int)).bind fun y578 => ((some (([(⟨#[105, 50, 53, 56, 59]⟩ : ByteArray)] : List ByteArray) : List ByteArray)).bind fun y581 => ((quiverlaw22_ints.f).bind fun t585 => ((page_Put.f k t585 0 y575 y578 y581).bind fun bt588 => ((quiverlaw22_ints.f).bind fun t590 => ((page_Get.f k t590 0 bt588.1).bind fun bt593 => (if (bt588.1.size : Int) = 27 then ((quiverlaw22_ints.f).bind fun t604 => (if 0 ≤ 26 then (if 26 ≤ (bt588.1.size : Int) then (if (bt588.1.extract 0 26).size + 1 ≤ 9223372036854775807 then ((page_Get.f k t604 0 ((bt588.1.extract 0 26) ++ (⟨#[1]⟩ : ByteArray))).bind fun bt607 => ((quiverlaw22_ints.f).bind fun t618 => ((page_Get.f k t618 0 (⟨#[]⟩ : ByteArray)).bind fun bt621 => ((quiverlaw22_ints.f).bind fun t632 => ((page_Put.f k t632 1 y575 y578 y581).bind fun bt635 => (if 4 ≤ 16 then (if 16 ≤ (bt588.1.size : Int) then (if (bt588.1.extract 4 16).toList = ([2, 0, 0, 0, 1, 0, 0, 0, 2, 0, 0, 0] : List UInt8) then ((quiverlaw0_Num.f bt588.2).bind fun t637 => (if t637 = 0 then ((quiverlaw0_SameColumn.f k y575 y578 y581 bt593.1 bt593.2.1 bt593.2.2.1).bind fun t638 => (if t638 = true then ((quiverlaw0_Num.f bt593.2.2.2).bind fun t639 => (if t639 = 0 then ((quiverlaw0_Num.f bt607.2.2.2).bind fun t640 => (if t640 = 2201 then ((quiverlaw0_Num.f bt621.2.2.2).bind fun t641 => (if t641 = 2200 then ((quiverlaw0_Num.f bt635.2).bind fun t642 => (if t642 = 2200 then ((quiverlaw22_ints.f).bind fun t643 => ((quiverref1_TypeMay.f k t643).bind fun t646 => (some t646))) else (none))) else (none))) else (none))) else (none))) else (none))) else (none))) else (none)) else (none)) else (none))))))) else (none)) else (none)) else (none))) else (none)))))))) = some r := by first | (rw [hy575]; with_reducible exact H) | (have H2_ := (Option.bind_some _ _).symm.trans H; rw [hy575]; with_reducible exact H2_) | (have H2_ := (Option.bind_some _ _).symm.trans H; with_reducible exact H2_) | with_reducible exact H | (rw [hy575]; exact H) | exact H
 have Ny575 := am hy575
 clear hy575
 obtain ⟨y578, hy578⟩ : ∃ y_ : List Int, y_ = (([1, 0] : List Int)) := ⟨_, rfl⟩
 replace H : ((some (([(⟨#[105, 50, 53, 56, 59]⟩ : ByteArray)] : List ByteArray) : List ByteArray)).bind fun y581 => ((quiverlaw22_ints.f).bind fun t585 => ((page_Put.f k t585 0 y575 y578 y581).bind fun bt588 => ((quiverlaw22_ints.f).bind fun t590 => ((page_Get.f k t590 0 bt588.1).bind fun bt593 => (if (bt588.1.size : Int) = 27 then ((quiverlaw22_ints.f).bind fun t604 => (if 0 ≤ 26 then (if 26 ≤ (bt588.1.size : Int) then (if (bt588.1.extract 0 26).size + 1 ≤ 9223372036854775807 then ((page_Get.f k t604 0 ((bt588.1.extract 0 26) ++ (⟨#[1]⟩ : ByteArray))).bind fun bt607 => ((quiverlaw22_ints.f).bind fun t618 => ((page_Get.f k t618 0 (⟨#[]⟩ : ByteArray)).bind fun bt621 => ((quiverlaw22_ints.f).bind fun t632 => ((page_Put.f k t632 1 y575 y578 y581).bind fun bt635 => (if 4 ≤ 16 then (if 16 ≤ (bt588.1.size : Int) then (if (bt588.1.extract 4 16).toList = ([2, 0, 0, 0, 1, 0, 0, 0, 2, 0, 0, 0] : List UInt8) then ((quiverlaw0_Num.f bt588.2).bind fun t637 => (if t637 = 0 then ((quiverlaw0_SameColumn.f k y575 y578 y581 bt593.1 bt593.2.1 bt593.2.2.1).bind fun t638 => (if t638 = true then ((quiverlaw0_Num.f bt593.2.2.2).bind fun t639 => (if t639 = 0 then ((quiverlaw0_Num.f bt607.2.2.2).bind fun t640 => (if t640 = 2201 then ((quiverlaw0_Num.f bt621.2.2.2).bind fun t641 => (if t641 = 2200 then ((quiverlaw0_Num.f bt635.2).bind fun t642 => (if t642 = 2200 then ((quiverlaw22_ints.f).bind fun t643 => ((quiverref1_TypeMay.f k t643).bind fun t646 => (some t646))) else (none))) else (none))) else (none))) else (none))) else (none))) else (none))) else (none)) else (none)) else (none))))))) else (none)) else (none)) else (none))) else (none))))))) = some r := by first | (rw [hy578]; with_reducible exact H) | (have H2_ := (Option.bind_some _ _).symm.trans H; rw [hy578]; with_reducible exact H2_) | (have H2_ := (Option.bind_some _ _).symm.trans H; with_reducible exact H2_) | with_reducible exact H | (rw [hy578]; exact H) | exact H
 have Ny578 := am hy578
 clear hy578
 obtain ⟨y581, hy581⟩ : ∃ y_ : List ByteArray, y_ = (([(⟨#[105, 50, 53, 56, 59]⟩ : ByteArray)] : List ByteArray)) := ⟨_, rfl⟩
 replace H : ((quiverlaw22_ints.f).bind fun t585 => ((page_Put.f k t585 0 y575 y578 y581).bind fun bt588 => ((quiverlaw22_ints.f).bind fun t590 => ((page_Get.f k t590 0 bt588.1).bind fun bt593 => (if (bt588.1.size : Int) = 27 then ((quiverlaw22_ints.f).bind fun t604 => (if 0 ≤ 26 then (if 26 ≤ (bt588.1.size : Int) then (if (bt588.1.extract 0 26).size + 1 ≤ 9223372036854775807 then ((page_Get.f k t604 0 ((bt588.1.extract 0 26) ++ (⟨#[1]⟩ : ByteArray))).bind fun bt607 => ((quiverlaw22_ints.f).bind fun t618 => ((page_Get.f k t618 0 (⟨#[]⟩ : ByteArray)).bind fun bt621 => ((quiverlaw22_ints.f).bind fun t632 => ((page_Put.f k t632 1 y575 y578 y581).bind fun bt635 => (if 4 ≤ 16 then (if 16 ≤ (bt588.1.size : Int) then (if (bt588.1.extract 4 16).toList = ([2, 0, 0, 0, 1, 0, 0, 0, 2, 0, 0, 0] : List UInt8) then ((quiverlaw0_Num.f bt588.2).bind fun t637 => (if t637 = 0 then ((quiverlaw0_SameColumn.f k y575 y578 y581 bt593.1 bt593.2.1 bt593.2.2.1).bind fun t638 => (if t638 = true then ((quiverlaw0_Num.f bt593.2.2.2).bind fun t639 => (if t639 = 0 then ((quiverlaw0_Num.f bt607.2.2.2).bind fun t640 => (if t640 = 2201 then ((quiverlaw0_Num.f bt621.2.2.2).bind fun t641 => (if t641 = 2200 then ((quiverlaw0_Num.f bt635.2).bind fun t642 => (if t642 = 2200 then ((quiverlaw22_ints.f).bind fun t643 => ((quiverref1_TypeMay.f k t643).bind fun t646 => (some t646))) else (none))) else (none))) else (none))) else (none))) else (none))) else (none))) else (none)) else (none)) else (none))))))) else (none)) else (none)) else (none))) else (none)))))) = some r := by first | (rw [hy581]; with_reducible exact H) | (have H2_ := (Option.bind_some _ _).symm.trans H; rw [hy581]; with_reducible exact H2_) | (have H2_ := (Option.bind_some _ _).symm.trans H; with_reducible exact H2_) | with_reducible exact H | (rw [hy581]; exact H) | exact H
 have Ny581 := am hy581
 clear hy581
 replace H := zo H
 obtain ⟨t585, A10, H⟩ := H
 (try dsimp only at H)
 have A1 := am A10
 clear A10
 replace H := zo H
 obtain ⟨⟨t588, t589⟩, A20, H⟩ := H
 (try dsimp only at H)
 have A2 := am A20
 clear A20
 replace H := zo H
 obtain ⟨t590, A30, H⟩ := H
 (try dsimp only at H)
 have A3 := am A30
 clear A30
 replace H := zo H
 obtain ⟨⟨t593, t596, t599, t602⟩, A40, H⟩ := H
 (try dsimp only at H)
 have A4 := am A40
 clear A40
 by_cases c5 : (t588.size : Int) = 27
 ·
  rw [if_pos c5] at H
  have c5b0 := beq_iff_eq.mpr c5
  have c5b1 := bne_eq_false_iff_eq.mpr c5
  clear c5
  replace H := zo H
  obtain ⟨t604, A60, H⟩ := H
  (try dsimp only at H)
  have A6 := am A60
  clear A60
  by_cases c7 : 0 ≤ 26
  ·
   rw [if_pos c7] at H
   have c7b0 := eq_true c7
   have c7b1 := decide_eq_true c7
   clear c7
   by_cases c8 : 26 ≤ (t588.size : Int)
   ·
    rw [if_pos c8] at H
    have c8b0 := eq_true c8
    have c8b1 := decide_eq_true c8
    clear c8
    by_cases c9 : (t588.extract 0 26).size + 1 ≤ 9223372036854775807
    ·
     rw [if_pos c9] at H
     have c9b0 := eq_true c9
     have c9b1 := decide_eq_true c9
     try have c9b2 : (9223372036854775807 < (t588.extract 0 26).size + 1) = False := eq_false (Nat.not_lt.2 c9)
     replace H := zo H
     obtain ⟨⟨t607, t610, t613, t616⟩, A100, H⟩ := H
     (try dsimp only at H)
     have A10 := am A100
     clear A100
     replace H := zo H
     obtain ⟨t618, A110, H⟩ := H
     (try dsimp only at H)
     have A11 := am A110
     clear A110
     replace H := zo H
     obtain ⟨⟨t621, t624, t627, t630⟩, A120, H⟩ := H
     (try dsimp only at H)
     have A12 := am A120
     clear A120
     replace H := zo H
     obtain ⟨t632, A130, H⟩ := H
     (try dsimp only at H)
     have A13 := am A130
     clear A130
     replace H := zo H
     obtain ⟨⟨t635, t636⟩, A140, H⟩ := H
     (try dsimp only at H)
     have A14 := am A140
     clear A140
     by_cases c15 : 4 ≤ 16
     ·
      rw [if_pos c15] at H
      have c15b0 := eq_true c15
      have c15b1 := decide_eq_true c15
      clear c15
      by_cases c16 : 16 ≤ (t588.size : Int)
      ·
       rw [if_pos c16] at H
       have c16b0 := eq_true c16
       have c16b1 := decide_eq_true c16
       clear c16
       by_cases c17 : (t588.extract 4 16).toList = ([2, 0, 0, 0, 1, 0, 0, 0, 2, 0, 0, 0] : List UInt8)
       ·
        rw [if_pos c17] at H
        have c17b0 := beq_iff_eq.mpr c17
        have c17b1 := bne_eq_false_iff_eq.mpr c17
        clear c17
        replace H := zo H
        obtain ⟨t637, A180, H⟩ := H
        (try dsimp only at H)
        have A18 := am A180
        clear A180
        by_cases c19 : t637 = 0
        ·
         rw [if_pos c19] at H
         have c19b0 := beq_iff_eq.mpr c19
         have c19b1 := bne_eq_false_iff_eq.mpr c19
         clear c19
         replace H := zo H
         obtain ⟨t638, A200, H⟩ := H
         (try dsimp only at H)
         have A20 := am A200
         clear A200
         by_cases c21 : t638 = true
         ·
          subst c21
          rw [if_pos rfl] at H
          replace H := zo H
          obtain ⟨t639, A220, H⟩ := H
          (try dsimp only at H)
          have A22 := am A220
          clear A220
          by_cases c23 : t639 = 0
          ·
           rw [if_pos c23] at H
           have c23b0 := beq_iff_eq.mpr c23
           have c23b1 := bne_eq_false_iff_eq.mpr c23
           clear c23
           replace H := zo H
           obtain ⟨t640, A240, H⟩ := H
           (try dsimp only at H)
           have A24 := am A240
           clear A240
           by_cases c25 : t640 = 2201
           ·
            rw [if_pos c25] at H
            have c25b0 := beq_iff_eq.mpr c25
            have c25b1 := bne_eq_false_iff_eq.mpr c25
            clear c25
            replace H := zo H
            obtain ⟨t641, A260, H⟩ := H
            (try dsimp only at H)
            have A26 := am A260
            clear A260
            by_cases c27 : t641 = 2200
            ·
             rw [if_pos c27] at H
             have c27b0 := beq_iff_eq.mpr c27
             have c27b1 := bne_eq_false_iff_eq.mpr c27
             clear c27
             replace H := zo H
             obtain ⟨t642, A280, H⟩ := H
             (try dsimp only at H)
             have A28 := am A280
             clear A280
             by_cases c29 : t642 = 2200
             ·
              rw [if_pos c29] at H
              have c29b0 := beq_iff_eq.mpr c29
              have c29b1 := bne_eq_false_iff_eq.mpr c29
              clear c29
              replace H := zo H
              obtain ⟨t643, A300, H⟩ := H
              (try dsimp only at H)
              have A30 := am A300
              clear A300
              replace H := zo H
              obtain ⟨t646, A310, H⟩ := H
              (try dsimp only at H)
              have A31 := am A310
              clear A310
              obtain rfl := Option.some.inj H
              go_enter Tryz.func12, Tryz.ntmps12
              try go_wp2_with (first | ((with_reducible refine gate_dst (N := 12) rfl ?_); refine Kd.R_lit (Kd.int .i64) _ 3 ?hg (N := 12) ?hd (xs := ([0, 0] : List Int)) (inner := [.int .i64 0, .int .i64 0]) (ok := fun _ => True) (okp := fun _ => True) ?hr ?hp (fun _ hk => hk) trivial (Below.refl _ _) (Nat.le_refl _) (by simp) ?_; (case hd => rfl); (case hg => rfl); (case hr => exact zh); (case hp => exact (Reps.one (show Kd.M (Kd.int .i64) _ _ _ 0 [.int .i64 0] from rfl) (Reps.one (show Kd.M (Kd.int .i64) _ _ _ 0 [.int .i64 0] from rfl) (Reps.none _ _)))); intro v576 w32 ho33 hb hg_ hnew_; clear hg_ hnew_; (first | rw [← Ny575.out] at ho33 | (simp only [Int.reduceToNat] at ho33; rw [← Ny575.out] at ho33)); have n0_ := am (Kd.R_lower ho33 (below_size (zl HB.out))); have n1_ := am (below_step (zl HB.out) hb); clear HB; have HO577 := n0_; have HB := n1_; clear n0_ n1_; clear hb ho33) | ((with_reducible refine gate_dst (N := 13) rfl ?_); refine Kd.R_lit (Kd.int .i64) _ 3 ?hg (N := 13) ?hd (xs := ([1, 0] : List Int)) (inner := [.int .i64 1, .int .i64 0]) (ok := fun _ => True) (okp := fun _ => True) ?hr ?hp (fun _ hk => hk) trivial (Below.refl _ _) (Nat.le_refl _) (by simp) ?_; (case hd => rfl); (case hg => rfl); (case hr => exact zh); (case hp => exact (Reps.one (show Kd.M (Kd.int .i64) _ _ _ 1 [.int .i64 1] from rfl) (Reps.one (show Kd.M (Kd.int .i64) _ _ _ 0 [.int .i64 0] from rfl) (Reps.none _ _)))); intro v579 w34 ho35 hb hg_ hnew_; clear hg_ hnew_; (first | rw [← Ny578.out] at ho35 | (simp only [Int.reduceToNat] at ho35; rw [← Ny578.out] at ho35)); have n0_ := am (Kd.R_elder' (zr HO577.out) (Kd.R_base ho35) hb); have n1_ := am (Kd.R_lower (Kd.R_new' ho35 (Kd.R_lt (zr HO577.out))) (below_size (zl HB.out))); have n2_ := am (below_step (zl HB.out) hb); clear HO577 HB; have HO577 := n0_; have HO580 := n1_; have HB := n2_; clear n0_ n1_ n2_; clear hb ho35) | ((with_reducible refine gate_dst (N := 14) rfl ?_); refine Kd.R_lit Kd.string _ 9 ?hg (N := 14) ?hd (xs := ([(⟨#[105, 50, 53, 56, 59]⟩ : ByteArray)] : List ByteArray)) (inner := [.string (⟨#[105, 50, 53, 56, 59]⟩ : ByteArray)]) (ok := fun _ => True) (okp := fun _ => True) ?hr ?hp (fun _ hk => hk) trivial (Below.refl _ _) (Nat.le_refl _) (by simp) ?_; (case hd => rfl); (case hg => rfl); (case hr => exact zh); (case hp => exact (Reps.one (show Kd.M Kd.string _ _ _ (⟨#[105, 50, 53, 56, 59]⟩ : ByteArray) [.string (⟨#[105, 50, 53, 56, 59]⟩ : ByteArray)] from rfl) (Reps.none _ _))); intro v582 w36 ho37 hb hg_ hnew_; clear hg_ hnew_; (first | rw [← Ny581.out] at ho37 | (simp only [Int.reduceToNat] at ho37; rw [← Ny581.out] at ho37)); have n0_ := am (Kd.R_below (zr HO577.out) hb); have n1_ := am (Kd.R_below (zr HO580.out) hb); have n2_ := am (Kd.R_lower ho37 (below_size (zl HB.out))); have n3_ := am (below_step (zl HB.out) hb); clear HO577 HO580 HB; have HO577 := n0_; have HO580 := n1_; have HO583 := n2_; have HB := n3_; clear n0_ n1_ n2_ n3_; clear hb ho37; obtain ⟨Ao38, co38, eo38⟩ := Kd.R_slice HO583.out; subst eo38; obtain ⟨Ao39, co39, eo39⟩ := Kd.R_slice HO580.out; subst eo39; obtain ⟨Ao40, co40, eo40⟩ := Kd.R_slice HO577.out; subst eo40) | ((with_reducible refine gate_dst (N := 1) rfl ?_); refine box_event ?hg (N := 1) ?hd (cs := #[.slice none 0 0, .slice none 0 0, .slice none 0 0]) (t := 31) ?hr ?_; (case hd => rfl); (case hg => rfl); (case hr => exact zh); intro gb584 hg w41 hbox hb; have n0_ := am (Kd.R_below (zr HO577.out) hb); have n1_ := am (Kd.R_below (zr HO580.out) hb); have n2_ := am (Kd.R_below (zr HO583.out) hb); have n3_ := am (below_step (zl HB.out) hb); have n4_ := am (hbox); have n5_ := am ((by rw [hg]; exact (below_size (zl HB.out)) : w.heap.size ≤ gb584)); have n6_ := am ((by rw [hg]; exact (below_size (zl HB.out)) : w.heap.size ≤ gb584)); clear HO577 HO580; clear HO583 HB; have HO577 := n0_; have HO580 := n1_; have HO583 := n2_; have HB := n3_; have BK584 := n4_; have GW584 := n5_; have GE584 := n6_; clear n0_ n1_ n2_ n3_ n4_ n5_ n6_; clear hb hbox hg; have hcz42_0 : w41.cell? ⟨gb584, 0, none⟩ = some (.slice none 0 0) := (blk_cell BK584.out 0).trans rfl; have hcz42_1 : w41.cell? ⟨gb584, 1, none⟩ = some (.slice none 0 0) := (blk_cell BK584.out 1).trans rfl; have hcz42_2 : w41.cell? ⟨gb584, 2, none⟩ = some (.slice none 0 0) := (blk_cell BK584.out 2).trans rfl; have hfz42_0 := blk_frozen BK584.out 0; have hfz42_1 := blk_frozen BK584.out 1; have hfz42_2 := blk_frozen BK584.out 2))
              have n0_ : Aside0 (Kd.R (Kd.int .i64) 3 (((w41.setCell ⟨gb584, 0, none⟩ (.slice Ao40 y575.length co40)).setCell ⟨gb584, 1, none⟩ (.slice Ao39 y578.length co39)).setCell ⟨gb584, 2, none⟩ (.slice Ao38 y581.length co38)) w.heap.size (fun k_ => some k_ ≠ (.slice Ao39 y578.length co39 : Value).ownBlock) (.slice Ao40 y575.length co40) y575) := ⟨by refine zr ?_; exact Kd.R_mono (zf3 _ _ _ HO577.out BK584.out) (fun _ hk => hk.1.2)⟩
              have n1_ : Aside0 (Kd.R (Kd.int .i64) 3 (((w41.setCell ⟨gb584, 0, none⟩ (.slice Ao40 y575.length co40)).setCell ⟨gb584, 1, none⟩ (.slice Ao39 y578.length co39)).setCell ⟨gb584, 2, none⟩ (.slice Ao38 y581.length co38)) w.heap.size (fun k_ => some k_ ≠ (.slice Ao40 y575.length co40 : Value).ownBlock) (.slice Ao39 y578.length co39) y578) := ⟨by refine zr ?_; exact Kd.R_mono (zf3 _ _ _ HO580.out BK584.out) (fun _ hk => hk.1.2)⟩
              have n2_ : Aside0 (Kd.R Kd.string 9 (((w41.setCell ⟨gb584, 0, none⟩ (.slice Ao40 y575.length co40)).setCell ⟨gb584, 1, none⟩ (.slice Ao39 y578.length co39)).setCell ⟨gb584, 2, none⟩ (.slice Ao38 y581.length co38)) w.heap.size (fun _ => True) (.slice Ao38 y581.length co38) y581) := ⟨by refine zr ?_; exact Kd.R_mono (zf3 _ _ _ HO583.out BK584.out) (fun _ hk => trivial)⟩
              have n3_ : Aside0 ((((w41.setCell ⟨gb584, 0, none⟩ (.slice Ao40 y575.length co40)).setCell ⟨gb584, 1, none⟩ (.slice Ao39 y578.length co39)).setCell ⟨gb584, 2, none⟩ (.slice Ao38 y581.length co38)).heap[gb584]? = some (.cells #[.slice Ao40 y575.length co40, .slice Ao39 y578.length co39, .slice Ao38 y581.length co38] 31 (0, 0))) := ⟨by refine zb ?_; refine blk_put (cs := #[.slice Ao40 y575.length co40, .slice Ao39 y578.length co39, .slice none 0 0]) ?_ 2 _ rfl; refine zb ?_; refine blk_put (cs := #[.slice Ao40 y575.length co40, .slice none 0 0, .slice none 0 0]) ?_ 1 _ rfl; refine zb ?_; refine blk_put (cs := #[.slice none 0 0, .slice none 0 0, .slice none 0 0]) ?_ 0 _ rfl; refine zb ?_; exact BK584.out⟩
              have n4_ : Aside0 (Below w.heap.size w (((w41.setCell ⟨gb584, 0, none⟩ (.slice Ao40 y575.length co40)).setCell ⟨gb584, 1, none⟩ (.slice Ao39 y578.length co39)).setCell ⟨gb584, 2, none⟩ (.slice Ao38 y581.length co38))) := ⟨zl1 HB.out GE584.out⟩
              (try clear HO577)
              (try clear HO580)
              (try clear HO583)
              (try clear BK584)
              (try clear HB)
              generalize (((w41.setCell ⟨gb584, 0, none⟩ (.slice Ao40 y575.length co40)).setCell ⟨gb584, 1, none⟩ (.slice Ao39 y578.length co39)).setCell ⟨gb584, 2, none⟩ (.slice Ao38 y581.length co38)) = w43 at n0_ n1_ n2_ n3_ n4_ ⊢
              have HO577 := n0_
              have HO580 := n1_
              have HO583 := n2_
              have BK584 := n3_
              have HB := n4_
              clear n0_ n1_ n2_ n3_ n4_
              have n0_ := am (Kd.R_drew HO577.out)
              have n1_ := am (Kd.R_drew HO580.out)
              have n2_ := am (Kd.R_drew HO583.out)
              have n3_ := am (blk_drew BK584.out)
              have n4_ := am (below_drew1 HB.out)
              clear HO577
              clear HO580
              clear HO583
              clear BK584
              clear HB
              have HO577 := n0_
              have HO580 := n1_
              have HO583 := n2_
              have BK584 := n3_
              have HB := n4_
              clear n0_ n1_ n2_ n3_ n4_
              refine start_ (n := 8) (S := fun w' => w'.cell? ⟨gb584, 0, none⟩ = some (.slice Ao40 y575.length co40) ∧ w'.cell? ⟨gb584, 1, none⟩ = some (.slice Ao39 y578.length co39) ∧ w'.cell? ⟨gb584, 2, none⟩ = some (.slice Ao38 y581.length co38)) (ds := []) #[false, false, false, false, false, false, false, false] (by kernel_rfl) rfl rfl ⟨(blk_cell BK584.out 0).trans rfl, (blk_cell BK584.out 1).trans rfl, (blk_cell BK584.out 2).trans rfl⟩ (fun hHeld => ?_); refine with_tabW quiverlaw22_awake.tab2 quiverlaw22_awake.bits2 (fun HT_ HW_ => ?_)
              generalize w43.drew = w44 at HO577 HO580 HO583 BK584 HB hHeld ⊢
              refine take_ (i := 1) (N := some 18) (v := ?_) (a' := ?_) #[false, true, false, false, false, false, false, false] rfl rfl (take_ofW HT_.out HW_.out (by kernel_rfl)) (fun _ _ _ h => h) (Or.inl ⟨by rfl, ?_⟩) hHeld ?_ ?_
              rotate_left
              ·
               rintro w' ⟨s0, s1, s2⟩
               go_simp
               first | (with_reducible rfl) | (rw [if_neg (by omega)])
              rotate_left
              ·
               simp only [Act.put, List.setIfInBounds_toArray, List.set_cons_zero, List.set_cons_succ, i64_w, i32_w]
               rfl
              refine one_ (i := 0) (N := some 17) #[true, true, false, false, false, false, false, false] rfl rfl (one_of HT_.out (by kernel_rfl)) (by decide) (fun K hK => ?_)
              refine goes_ Tryz.func16 (by kernel_rfl) rfl #[] (by rfl) rfl rfl zm ?_
              with_reducible refine (quiverlaw22_ints.calls  t585 _ A1.out).mono ?_
              rintro e w45 ⟨v586, rfl, ho0, hb⟩
              refine ⟨_, rfl, ?_⟩
              have n0_ := am (Kd.R_below (zr HO577.out) hb)
              have n1_ := am (Kd.R_below (zr HO580.out) hb)
              have n2_ := am (Kd.R_below (zr HO583.out) hb)
              have n3_ := am (Kd.R_lower ho0 (below_size (zl1 HB.out GE584.out)))
              have n4_ := am (zbb BK584.out hb)
              have n5_ := am (below_step (zl1 HB.out GE584.out) hb)
              clear HO577
              clear HO580
              clear HO583
              clear BK584
              clear HB
              have HO577 := n0_
              have HO580 := n1_
              have HO583 := n2_
              have HO587 := n3_
              have BK584 := n4_
              have HB := n5_
              clear n0_ n1_ n2_ n3_ n4_ n5_
              (try clear hb)
              (try clear hb2)
              (try clear hk)
              (try clear hi)
              (try clear ho0)
              obtain ⟨Ao46, co46, eo46⟩ := Kd.R_slice HO587.out
              (first | subst eo46 | (injection eo46 with f1_ f2_ f3_; have f4_ := f1_.symm; have f5_ := f3_.symm; clear f1_ f2_ f3_; subst f4_; subst f5_))
              refine hK.out _ _ ⟨(blk_cell BK584.out 0).trans rfl, (blk_cell BK584.out 1).trans rfl, (blk_cell BK584.out 2).trans rfl⟩ (fun hHeld => ?_)
              clear hK K
              refine norm_ (a' := ?_) ?_ ?_
              rotate_left
              ·
               show Act.put _ (some 17) _ = _
               simp only [Act.put, List.setIfInBounds_toArray, List.set_cons_zero, List.set_cons_succ, i64_w, i32_w]
               rfl
              refine one_ (i := 2) (N := some 19) #[true, true, true, false, false, false, false, false] rfl rfl (one_of HT_.out (by kernel_rfl)) (by decide) (fun K hK => ?_)
              refine goes_ Tryz.func14 (by kernel_rfl) rfl #[.agg #[.slice Ao46 t585.length co46], .int .i64 0, .agg #[.slice Ao40 y575.length co40, .slice Ao39 y578.length co39, .slice Ao38 y581.length co38]] (by rfl) rfl rfl zm ?_
              with_reducible refine (page_Put.calls k _ _ t585 0 _ _ y575 _ _ y578 _ _ y581 t588 t589 _ ?side1 ?side2 ?side3 ?side4 ?side5 ?side6 ?side7 ?side8 ?side9 A2.out).mono ?_
              (case side1 => exact zc (Kd.R_reads' HO587.out).2.2)
              (case side2 => exact (Kd.R_reads' HO587.out).2.1)
              (case side3 => exact zc (Kd.R_reads' HO577.out).2.2)
              (case side4 => exact (Kd.R_reads' HO577.out).2.1)
              (case side5 => exact zc (Kd.R_reads' HO580.out).2.2)
              (case side6 => exact (Kd.R_reads' HO580.out).2.1)
              (case side7 => exact zc (Kd.R_reads' HO583.out).2.2)
              (case side8 => exact (Kd.R_reads' HO583.out).2.1)
              (case side9 => exact GL.below HG.out (zl1 HB.out GE584.out))
              rintro e w47 ⟨rfl, hb⟩
              refine ⟨_, rfl, ?_⟩
              have n0_ := am (Kd.R_below (zr HO577.out) hb)
              have n1_ := am (Kd.R_below (zr HO580.out) hb)
              have n2_ := am (Kd.R_below (zr HO583.out) hb)
              have n3_ := am (Kd.R_below (zr HO587.out) hb)
              have n4_ := am (zbb BK584.out hb)
              have n5_ := am (below_step (zl1 HB.out GE584.out) hb)
              clear HO577
              clear HO580
              clear HO583
              clear HO587
              clear BK584
              clear HB
              have HO577 := n0_
              have HO580 := n1_
              have HO583 := n2_
              have HO587 := n3_
              have BK584 := n4_
              have HB := n5_
              clear n0_ n1_ n2_ n3_ n4_ n5_
              (try clear hb)
              (try clear hb2)
              (try clear hk)
              (try clear hi)
              refine hK.out _ _ ⟨(blk_cell BK584.out 0).trans rfl, (blk_cell BK584.out 1).trans rfl, (blk_cell BK584.out 2).trans rfl⟩ (fun hHeld => ?_)
              clear hK K
              refine norm_ (a' := ?_) ?_ ?_
              rotate_left
              ·
               show Act.put _ (some 19) _ = _
               simp only [Act.put, List.setIfInBounds_toArray, List.set_cons_zero, List.set_cons_succ, i64_w, i32_w]
               rfl
              refine pure_ (i := 3) (N := some 16) (v := ?_) (a' := ?_) #[true, true, true, true, false, false, false, false] rfl rfl (any_of HT_.out (by kernel_rfl)) (fun _ _ _ h => h) (Or.inl ⟨by rfl, ?_⟩) ?_ ?_
              rotate_left
              ·
               intro w'
               go_simp
               first | (with_reducible rfl) | (rw [if_neg (by omega)])
              rotate_left
              ·
               simp only [Act.put, List.setIfInBounds_toArray, List.set_cons_zero, List.set_cons_succ, i64_w, i32_w]
               rfl
              refine pure_ (i := 4) (N := some 20) (v := ?_) (a' := ?_) #[true, true, true, true, true, false, false, false] rfl rfl (any_of HT_.out (by kernel_rfl)) (fun _ _ _ h => h) (Or.inl ⟨by rfl, ?_⟩) ?_ ?_
              rotate_left
              ·
               intro w'
               go_simp
               first | (with_reducible rfl) | (rw [if_neg (by omega)])
              rotate_left
              ·
               simp only [Act.put, List.setIfInBounds_toArray, List.set_cons_zero, List.set_cons_succ, i64_w, i32_w]
               rfl
              refine pure_ (i := 5) (N := some 21) (v := ?_) (a' := ?_) #[true, true, true, true, true, true, false, false] rfl rfl (any_of HT_.out (by kernel_rfl)) (fun _ _ _ h => h) (Or.inl ⟨by rfl, ?_⟩) ?_ ?_
              rotate_left
              ·
               intro w'
               go_simp
               first | (with_reducible rfl) | (rw [if_neg (by omega)])
              rotate_left
              ·
               simp only [Act.put, List.setIfInBounds_toArray, List.set_cons_zero, List.set_cons_succ, i64_w, i32_w]
               rfl
              refine pure_ (i := 6) (N := some 2) (v := ?_) (a' := ?_) #[true, true, true, true, true, true, true, false] rfl rfl (any_of HT_.out (by kernel_rfl)) (fun _ _ _ h => h) (Or.inl ⟨by rfl, ?_⟩) ?_ ?_
              rotate_left
              ·
               intro w'
               go_simp
               first | (with_reducible rfl) | (rw [if_neg (by omega)])
              rotate_left
              ·
               simp only [Act.put, List.setIfInBounds_toArray, List.set_cons_zero, List.set_cons_succ, i64_w, i32_w]
               rfl
              refine pure_ (i := 7) (N := some 3) (v := ?_) (a' := ?_) #[true, true, true, true, true, true, true, true] rfl rfl (any_of HT_.out (by kernel_rfl)) (fun _ _ _ h => h) (Or.inl ⟨by rfl, ?_⟩) ?_ ?_
              rotate_left
              ·
               intro w'
               go_simp
               first | (with_reducible rfl) | (rw [if_neg (by omega)])
              rotate_left
              ·
               simp only [Act.put, List.setIfInBounds_toArray, List.set_cons_zero, List.set_cons_succ, i64_w, i32_w]
               rfl
              refine done_ (done_of HT_.out (by kernel_rfl)) ?_
              try go_wp2_with (first | ((with_reducible refine gate_callee (f := 16) rfl ?_); refine goesL_ (some 23) rfl rfl Tryz.func16 (by kernel_rfl) rfl #[] rfl zm ?_; (with_reducible refine (quiverlaw22_ints.calls  t590 _ A3.out).mono ?_); rintro e w48 ⟨v591, rfl, ho0, hb⟩; refine ⟨_, rfl, ?_⟩; have n0_ := am (Kd.R_below (zr HO577.out) hb); have n1_ := am (Kd.R_below (zr HO580.out) hb); have n2_ := am (Kd.R_below (zr HO583.out) hb); have n3_ := am (Kd.R_elder' (zr HO587.out) (Kd.R_base ho0) hb); have n4_ := am (Kd.R_lower (Kd.R_new' ho0 (Kd.R_lt (zr HO587.out))) (below_size (zl1 HB.out GE584.out))); have n5_ := am (zbb BK584.out hb); have n6_ := am (below_step (zl1 HB.out GE584.out) hb); clear HO577 HO580; clear HO583 HO587; clear BK584 HB; have HO577 := n0_; have HO580 := n1_; have HO583 := n2_; have HO587 := n3_; have HO592 := n4_; have BK584 := n5_; have HB := n6_; clear n0_ n1_ n2_ n3_ n4_ n5_ n6_; (try clear hb); (try clear hb2); (try clear hk); (try clear hi); (try clear ho0); obtain ⟨Ao49, co49, eo49⟩ := Kd.R_slice HO592.out; subst eo49) | ((with_reducible refine gate_callee (f := 18) rfl ?_); refine goesL_ (some 25) rfl rfl Tryz.func18 (by kernel_rfl) rfl #[.agg #[.slice Ao49 t590.length co49], .int .i64 0, .string t588] rfl zm ?_; (with_reducible refine (page_Get.calls k _ _ t590 0 t588 t593 t596 t599 t602 _ ?side1 ?side2 ?side3 A4.out).mono ?_); (case side1 => exact zc (Kd.R_reads' HO592.out).2.2); (case side2 => exact (Kd.R_reads' HO592.out).2.1); (case side3 => exact GL.below HG.out (zl1 HB.out GE584.out)); rintro e w50 ⟨v594, v597, v600, rfl, ho0, ho1, ho2, hb⟩; refine ⟨_, rfl, ?_⟩; have n0_ := am (Kd.R_mono (Kd.R_told (Kd.R_told (Kd.R_old (zr HO577.out) hb) (Kd.R_base ho0)) (Kd.R_base ho1)) (fun _ h_ => h_.1)); have n1_ := am (Kd.R_mono (Kd.R_told (Kd.R_told (Kd.R_old (zr HO580.out) hb) (Kd.R_base ho0)) (Kd.R_base ho1)) (fun _ h_ => h_.1)); have n2_ := am (Kd.R_elder' (zr HO583.out) (Kd.R_base ho2) hb); have n3_ := am (Kd.R_below (zr HO587.out) hb); have n4_ := am (Kd.R_below (zr HO592.out) hb); have n5_ := am (Kd.R_lower (Kd.R_new' (Kd.R_new' ho0 (Kd.R_lt (zr HO577.out))) (Kd.R_lt (zr HO580.out))) (below_size (zl1 HB.out GE584.out))); have n6_ := am (Kd.R_lower (Kd.R_new' (Kd.R_new' ho1 (Kd.R_lt (zr HO577.out))) (Kd.R_lt (zr HO580.out))) (below_size (zl1 HB.out GE584.out))); have n7_ := am (Kd.R_lower (Kd.R_new' ho2 (Kd.R_lt (zr HO583.out))) (below_size (zl1 HB.out GE584.out))); have n8_ := am (zbb BK584.out hb); have n9_ := am (below_step (zl1 HB.out GE584.out) hb); clear HO577 HO580; clear HO583 HO587; clear HO592 BK584 HB; have HO577 := n0_; have HO580 := n1_; have HO583 := n2_; have HO587 := n3_; have HO592 := n4_; have HO595 := n5_; have HO598 := n6_; have HO601 := n7_; have BK584 := n8_; have HB := n9_; clear n0_ n1_ n2_ n3_ n4_ n5_ n6_ n7_ n8_ n9_; (try clear hb); (try clear hb2); (try clear hk); (try clear hi); (try clear ho0); (try clear ho1); (try clear ho2)) | ((with_reducible refine gate_dst (N := 4) rfl ?_); refine box_event ?hg (N := 4) ?hd (cs := #[.slice none 0 0, .slice none 0 0, .slice none 0 0]) (t := 31) ?hr ?_; (case hd => rfl); (case hg => rfl); (case hr => exact zh); intro gb603 hg w51 hbox hb; have n0_ := am (Kd.R_below (zr HO577.out) hb); have n1_ := am (Kd.R_below (zr HO580.out) hb); have n2_ := am (Kd.R_below (zr HO583.out) hb); have n3_ := am (Kd.R_below (zr HO587.out) hb); have n4_ := am (Kd.R_below (zr HO592.out) hb); have n5_ := am (Kd.R_below (zr HO595.out) hb); have n6_ := am (Kd.R_below (zr HO598.out) hb); have n7_ := am (Kd.R_below (zr HO601.out) hb); have n8_ := am (zbb BK584.out hb); have n9_ := am (below_step (zl1 HB.out GE584.out) hb); have n10_ := am (hbox); have n11_ := am ((by rw [hg]; exact (below_size (zl1 HB.out GE584.out)) : w.heap.size ≤ gb603)); have n12_ := am ((by rw [hg]; exact (below_size (zl1 HB.out GE584.out)) : w.heap.size ≤ gb603)); have n13_ := am ((by rw [hg]; exact Nat.ne_of_lt (blk_lt (g := gb584) (o := .cells #[.slice Ao40 y575.length co40, .slice Ao39 y578.length co39, .slice Ao38 y581.length co38] 31 (0, 0)) (zb BK584.out)) : gb584 ≠ gb603)); have n14_ := am ((by rw [hg]; exact Nat.ne_of_gt (blk_lt (g := gb584) (o := .cells #[.slice Ao40 y575.length co40, .slice Ao39 y578.length co39, .slice Ao38 y581.length co38] 31 (0, 0)) (zb BK584.out)) : gb603 ≠ gb584)); clear HO577 HO580; clear HO583 HO587; clear HO592 HO595; clear HO598 HO601; clear BK584 HB; have HO577 := n0_; have HO580 := n1_; have HO583 := n2_; have HO587 := n3_; have HO592 := n4_; have HO595 := n5_; have HO598 := n6_; have HO601 := n7_; have BK584 := n8_; have HB := n9_; have BK603 := n10_; have GW603 := n11_; have GE603 := n12_; have NB584_603 := n13_; have NB603_584 := n14_; clear n0_ n1_ n2_ n3_ n4_ n5_ n6_ n7_ n8_ n9_ n10_ n11_ n12_ n13_ n14_; clear hb hbox hg; obtain ⟨Ao52, co52, eo52⟩ := Kd.R_slice HO595.out; subst eo52; have hnb53 := NB603_584.out; have hnc53 := NB584_603.out; have hcz54_0 : w51.cell? ⟨gb603, 0, none⟩ = some (.slice none 0 0) := (blk_cell BK603.out 0).trans rfl; have hcz54_1 : w51.cell? ⟨gb603, 1, none⟩ = some (.slice none 0 0) := (blk_cell BK603.out 1).trans rfl; have hcz54_2 : w51.cell? ⟨gb603, 2, none⟩ = some (.slice none 0 0) := (blk_cell BK603.out 2).trans rfl; have hfz54_0 := blk_frozen BK603.out 0; have hfz54_1 := blk_frozen BK603.out 1; have hfz54_2 := blk_frozen BK603.out 2; obtain ⟨Ao55, co55, eo55⟩ := Kd.R_slice HO598.out; subst eo55; obtain ⟨Ao56, co56, eo56⟩ := Kd.R_slice HO601.out; subst eo56))
              have n0_ : Aside0 (Kd.R (Kd.int .i64) 3 (((w51.setCell ⟨gb603, 0, none⟩ (.slice Ao52 t593.length co52)).setCell ⟨gb603, 1, none⟩ (.slice Ao55 t596.length co55)).setCell ⟨gb603, 2, none⟩ (.slice Ao56 t599.length co56)) w.heap.size (fun k_ => some k_ ≠ (.slice Ao39 y578.length co39 : Value).ownBlock ∧ some k_ ≠ (.slice Ao52 t593.length co52 : Value).ownBlock ∧ some k_ ≠ (.slice Ao55 t596.length co55 : Value).ownBlock) (.slice Ao40 y575.length co40) y575) := ⟨by refine zr ?_; exact Kd.R_mono (zf3 _ _ _ HO577.out BK603.out) (fun _ hk => ⟨hk.1.1.1, ⟨hk.1.1.2, hk.1.2⟩⟩)⟩
              have n1_ : Aside0 (Kd.R (Kd.int .i64) 3 (((w51.setCell ⟨gb603, 0, none⟩ (.slice Ao52 t593.length co52)).setCell ⟨gb603, 1, none⟩ (.slice Ao55 t596.length co55)).setCell ⟨gb603, 2, none⟩ (.slice Ao56 t599.length co56)) w.heap.size (fun k_ => some k_ ≠ (.slice Ao40 y575.length co40 : Value).ownBlock ∧ some k_ ≠ (.slice Ao52 t593.length co52 : Value).ownBlock ∧ some k_ ≠ (.slice Ao55 t596.length co55 : Value).ownBlock) (.slice Ao39 y578.length co39) y578) := ⟨by refine zr ?_; exact Kd.R_mono (zf3 _ _ _ HO580.out BK603.out) (fun _ hk => ⟨hk.1.1.1, ⟨hk.1.1.2, hk.1.2⟩⟩)⟩
              have n2_ : Aside0 (Kd.R Kd.string 9 (((w51.setCell ⟨gb603, 0, none⟩ (.slice Ao52 t593.length co52)).setCell ⟨gb603, 1, none⟩ (.slice Ao55 t596.length co55)).setCell ⟨gb603, 2, none⟩ (.slice Ao56 t599.length co56)) w.heap.size (fun k_ => some k_ ≠ (.slice Ao56 t599.length co56 : Value).ownBlock) (.slice Ao38 y581.length co38) y581) := ⟨by refine zr ?_; exact Kd.R_mono (zf3 _ _ _ HO583.out BK603.out) (fun _ hk => hk.1.2)⟩
              have n3_ : Aside0 (Kd.R k24 24 (((w51.setCell ⟨gb603, 0, none⟩ (.slice Ao52 t593.length co52)).setCell ⟨gb603, 1, none⟩ (.slice Ao55 t596.length co55)).setCell ⟨gb603, 2, none⟩ (.slice Ao56 t599.length co56)) w.heap.size (fun k_ => some k_ ≠ (.slice Ao49 t590.length co49 : Value).ownBlock) (.slice Ao46 t585.length co46) t585) := ⟨by refine zr ?_; exact Kd.R_mono (zf3 _ _ _ HO587.out BK603.out) (fun _ hk => hk.1.2)⟩
              have n4_ : Aside0 (Kd.R k24 24 (((w51.setCell ⟨gb603, 0, none⟩ (.slice Ao52 t593.length co52)).setCell ⟨gb603, 1, none⟩ (.slice Ao55 t596.length co55)).setCell ⟨gb603, 2, none⟩ (.slice Ao56 t599.length co56)) w.heap.size (fun k_ => some k_ ≠ (.slice Ao46 t585.length co46 : Value).ownBlock) (.slice Ao49 t590.length co49) t590) := ⟨by refine zr ?_; exact Kd.R_mono (zf3 _ _ _ HO592.out BK603.out) (fun _ hk => hk.1.2)⟩
              have n5_ : Aside0 (Kd.R (Kd.int .i64) 3 (((w51.setCell ⟨gb603, 0, none⟩ (.slice Ao52 t593.length co52)).setCell ⟨gb603, 1, none⟩ (.slice Ao55 t596.length co55)).setCell ⟨gb603, 2, none⟩ (.slice Ao56 t599.length co56)) w.heap.size (fun k_ => some k_ ≠ (.slice Ao40 y575.length co40 : Value).ownBlock ∧ some k_ ≠ (.slice Ao39 y578.length co39 : Value).ownBlock ∧ some k_ ≠ (.slice Ao55 t596.length co55 : Value).ownBlock) (.slice Ao52 t593.length co52) t593) := ⟨by refine zr ?_; exact Kd.R_mono (zf3 _ _ _ HO595.out BK603.out) (fun _ hk => ⟨hk.1.1.2, ⟨hk.1.2, hk.1.1.1⟩⟩)⟩
              have n6_ : Aside0 (Kd.R (Kd.int .i64) 3 (((w51.setCell ⟨gb603, 0, none⟩ (.slice Ao52 t593.length co52)).setCell ⟨gb603, 1, none⟩ (.slice Ao55 t596.length co55)).setCell ⟨gb603, 2, none⟩ (.slice Ao56 t599.length co56)) w.heap.size (fun k_ => some k_ ≠ (.slice Ao40 y575.length co40 : Value).ownBlock ∧ some k_ ≠ (.slice Ao39 y578.length co39 : Value).ownBlock ∧ some k_ ≠ (.slice Ao52 t593.length co52 : Value).ownBlock) (.slice Ao55 t596.length co55) t596) := ⟨by refine zr ?_; exact Kd.R_mono (zf3 _ _ _ HO598.out BK603.out) (fun _ hk => ⟨hk.1.1.2, ⟨hk.1.2, hk.1.1.1⟩⟩)⟩
              have n7_ : Aside0 (Kd.R Kd.string 9 (((w51.setCell ⟨gb603, 0, none⟩ (.slice Ao52 t593.length co52)).setCell ⟨gb603, 1, none⟩ (.slice Ao55 t596.length co55)).setCell ⟨gb603, 2, none⟩ (.slice Ao56 t599.length co56)) w.heap.size (fun k_ => some k_ ≠ (.slice Ao38 y581.length co38 : Value).ownBlock) (.slice Ao56 t599.length co56) t599) := ⟨by refine zr ?_; exact Kd.R_mono (zf3 _ _ _ HO601.out BK603.out) (fun _ hk => hk.1.2)⟩
              have n8_ : Aside0 ((((w51.setCell ⟨gb603, 0, none⟩ (.slice Ao52 t593.length co52)).setCell ⟨gb603, 1, none⟩ (.slice Ao55 t596.length co55)).setCell ⟨gb603, 2, none⟩ (.slice Ao56 t599.length co56)).heap[gb584]? = some (.cells #[.slice Ao40 y575.length co40, .slice Ao39 y578.length co39, .slice Ao38 y581.length co38] 31 (0, 0))) := ⟨by refine zb ?_; refine blk_far ?_ NB584_603.out _; refine zb ?_; refine blk_far ?_ NB584_603.out _; refine zb ?_; refine blk_far ?_ NB584_603.out _; refine zb ?_; exact BK584.out⟩
              have n9_ : Aside0 ((((w51.setCell ⟨gb603, 0, none⟩ (.slice Ao52 t593.length co52)).setCell ⟨gb603, 1, none⟩ (.slice Ao55 t596.length co55)).setCell ⟨gb603, 2, none⟩ (.slice Ao56 t599.length co56)).heap[gb603]? = some (.cells #[.slice Ao52 t593.length co52, .slice Ao55 t596.length co55, .slice Ao56 t599.length co56] 31 (0, 0))) := ⟨by refine zb ?_; refine blk_put (cs := #[.slice Ao52 t593.length co52, .slice Ao55 t596.length co55, .slice none 0 0]) ?_ 2 _ rfl; refine zb ?_; refine blk_put (cs := #[.slice Ao52 t593.length co52, .slice none 0 0, .slice none 0 0]) ?_ 1 _ rfl; refine zb ?_; refine blk_put (cs := #[.slice none 0 0, .slice none 0 0, .slice none 0 0]) ?_ 0 _ rfl; refine zb ?_; exact BK603.out⟩
              have n10_ : Aside0 (Below w.heap.size w (((w51.setCell ⟨gb603, 0, none⟩ (.slice Ao52 t593.length co52)).setCell ⟨gb603, 1, none⟩ (.slice Ao55 t596.length co55)).setCell ⟨gb603, 2, none⟩ (.slice Ao56 t599.length co56))) := ⟨zl2 HB.out GE584.out GE603.out⟩
              (try clear HO577)
              (try clear HO580)
              (try clear HO583)
              (try clear HO587)
              (try clear HO592)
              (try clear HO595)
              (try clear HO598)
              (try clear HO601)
              (try clear BK584)
              (try clear BK603)
              (try clear HB)
              generalize (((w51.setCell ⟨gb603, 0, none⟩ (.slice Ao52 t593.length co52)).setCell ⟨gb603, 1, none⟩ (.slice Ao55 t596.length co55)).setCell ⟨gb603, 2, none⟩ (.slice Ao56 t599.length co56)) = w57 at n0_ n1_ n2_ n3_ n4_ n5_ n6_ n7_ n8_ n9_ n10_ ⊢
              have HO577 := n0_
              have HO580 := n1_
              have HO583 := n2_
              have HO587 := n3_
              have HO592 := n4_
              have HO595 := n5_
              have HO598 := n6_
              have HO601 := n7_
              have BK584 := n8_
              have BK603 := n9_
              have HB := n10_
              clear n0_ n1_ n2_ n3_ n4_ n5_ n6_ n7_ n8_ n9_ n10_
              have n0_ := am (Kd.R_drew HO577.out)
              have n1_ := am (Kd.R_drew HO580.out)
              have n2_ := am (Kd.R_drew HO583.out)
              have n3_ := am (Kd.R_drew HO587.out)
              have n4_ := am (Kd.R_drew HO592.out)
              have n5_ := am (Kd.R_drew HO595.out)
              have n6_ := am (Kd.R_drew HO598.out)
              have n7_ := am (Kd.R_drew HO601.out)
              have n8_ := am (blk_drew BK584.out)
              have n9_ := am (blk_drew BK603.out)
              have n10_ := am (below_drew1 HB.out)
              clear HO577
              clear HO580
              clear HO583
              clear HO587
              clear HO592
              clear HO595
              clear HO598
              clear HO601
              clear BK584
              clear BK603
              clear HB
              have HO577 := n0_
              have HO580 := n1_
              have HO583 := n2_
              have HO587 := n3_
              have HO592 := n4_
              have HO595 := n5_
              have HO598 := n6_
              have HO601 := n7_
              have BK584 := n8_
              have BK603 := n9_
              have HB := n10_
              clear n0_ n1_ n2_ n3_ n4_ n5_ n6_ n7_ n8_ n9_ n10_
              refine start_ (n := 11) (S := fun w' => True) (ds := []) #[false, false, false, false, false, false, false, false, false, false, false] (by kernel_rfl) rfl rfl trivial (fun hHeld => ?_); refine with_tabW quiverlaw22_awake.tab6 quiverlaw22_awake.bits6 (fun HT_ HW_ => ?_)
              generalize w57.drew = w58 at HO577 HO580 HO583 HO587 HO592 HO595 HO598 HO601 BK584 BK603 HB hHeld ⊢
              refine pure_ (i := 1) (N := some 33) (v := ?_) (a' := ?_) #[false, true, false, false, false, false, false, false, false, false, false] rfl rfl (any_of HT_.out (by kernel_rfl)) (fun _ _ _ h => h) (Or.inl ⟨by rfl, ?_⟩) ?_ ?_
              rotate_left
              ·
               intro w'
               go_simp
               first | (with_reducible rfl) | (rw [if_neg (by omega)])
              rotate_left
              ·
               simp only [Act.put, List.setIfInBounds_toArray, List.set_cons_zero, List.set_cons_succ, i64_w, i32_w]
               rfl
              refine pure_ (i := 2) (N := some 34) (v := ?_) (a' := ?_) #[false, true, true, false, false, false, false, false, false, false, false] rfl rfl (any_of HT_.out (by kernel_rfl)) (fun _ _ _ h => h) (Or.inl ⟨by rfl, ?_⟩) ?_ ?_
              rotate_left
              ·
               intro w'
               go_simp
               first | (with_reducible rfl) | (rw [if_neg (by omega)])
              rotate_left
              ·
               simp only [Act.put, List.setIfInBounds_toArray, List.set_cons_zero, List.set_cons_succ, i64_w, i32_w]
               rfl
              refine pure_ (i := 3) (N := some 35) (v := ?_) (a' := ?_) #[false, true, true, true, false, false, false, false, false, false, false] rfl rfl (any_of HT_.out (by kernel_rfl)) (fun _ _ _ h => h) (Or.inl ⟨by rfl, ?_⟩) ?_ ?_
              rotate_left
              ·
               intro w'
               go_simp
               first | (with_reducible rfl) | (rw [if_neg (by omega)])
              rotate_left
              ·
               simp only [Act.put, List.setIfInBounds_toArray, List.set_cons_zero, List.set_cons_succ, i64_w, i32_w]
               rfl
              refine join_ (σ := Value × Value × Value × Value × Nat) 2 #[true, true, true, true, true, true, true, true, true, false, false] (fun s_ => [(32, .agg #[s_.1]), (36, .tuple #[.agg #[s_.2.1, s_.2.2.1, s_.2.2.2.1], .int .i64 t616]), (6, .pointer (some ⟨s_.2.2.2.2, 0, none⟩)), (31, .tuple #[.agg #[s_.2.1, s_.2.2.1, s_.2.2.2.1], .int .i64 t616]), (37, .agg #[s_.2.1, s_.2.2.1, s_.2.2.2.1]), (38, .int .i64 t616)]) (fun s_ w' => (Kd.R (Kd.int .i64) 3 w' w.heap.size (fun k_ => some k_ ≠ (.slice Ao39 y578.length co39 : Value).ownBlock ∧ some k_ ≠ (.slice Ao52 t593.length co52 : Value).ownBlock ∧ some k_ ≠ (.slice Ao55 t596.length co55 : Value).ownBlock ∧ some k_ ≠ (s_.2.1 : Value).ownBlock ∧ some k_ ≠ (s_.2.2.1 : Value).ownBlock) (.slice Ao40 y575.length co40) y575) ∧ (Kd.R (Kd.int .i64) 3 w' w.heap.size (fun k_ => some k_ ≠ (.slice Ao40 y575.length co40 : Value).ownBlock ∧ some k_ ≠ (.slice Ao52 t593.length co52 : Value).ownBlock ∧ some k_ ≠ (.slice Ao55 t596.length co55 : Value).ownBlock ∧ some k_ ≠ (s_.2.1 : Value).ownBlock ∧ some k_ ≠ (s_.2.2.1 : Value).ownBlock) (.slice Ao39 y578.length co39) y578) ∧ (Kd.R Kd.string 9 w' w.heap.size (fun k_ => some k_ ≠ (.slice Ao56 t599.length co56 : Value).ownBlock ∧ some k_ ≠ (s_.2.2.2.1 : Value).ownBlock) (.slice Ao38 y581.length co38) y581) ∧ (Kd.R k24 24 w' w.heap.size (fun k_ => some k_ ≠ (.slice Ao49 t590.length co49 : Value).ownBlock ∧ some k_ ≠ (s_.1 : Value).ownBlock) (.slice Ao46 t585.length co46) t585) ∧ (Kd.R k24 24 w' w.heap.size (fun k_ => some k_ ≠ (.slice Ao46 t585.length co46 : Value).ownBlock ∧ some k_ ≠ (s_.1 : Value).ownBlock) (.slice Ao49 t590.length co49) t590) ∧ (Kd.R (Kd.int .i64) 3 w' w.heap.size (fun k_ => some k_ ≠ (.slice Ao40 y575.length co40 : Value).ownBlock ∧ some k_ ≠ (.slice Ao39 y578.length co39 : Value).ownBlock ∧ some k_ ≠ (.slice Ao55 t596.length co55 : Value).ownBlock ∧ some k_ ≠ (s_.2.1 : Value).ownBlock ∧ some k_ ≠ (s_.2.2.1 : Value).ownBlock) (.slice Ao52 t593.length co52) t593) ∧ (Kd.R (Kd.int .i64) 3 w' w.heap.size (fun k_ => some k_ ≠ (.slice Ao40 y575.length co40 : Value).ownBlock ∧ some k_ ≠ (.slice Ao39 y578.length co39 : Value).ownBlock ∧ some k_ ≠ (.slice Ao52 t593.length co52 : Value).ownBlock ∧ some k_ ≠ (s_.2.1 : Value).ownBlock ∧ some k_ ≠ (s_.2.2.1 : Value).ownBlock) (.slice Ao55 t596.length co55) t596) ∧ (Kd.R Kd.string 9 w' w.heap.size (fun k_ => some k_ ≠ (.slice Ao38 y581.length co38 : Value).ownBlock ∧ some k_ ≠ (s_.2.2.2.1 : Value).ownBlock) (.slice Ao56 t599.length co56) t599) ∧ (Kd.R k24 24 w' w.heap.size (fun k_ => some k_ ≠ (.slice Ao46 t585.length co46 : Value).ownBlock ∧ some k_ ≠ (.slice Ao49 t590.length co49 : Value).ownBlock) s_.1 t604) ∧ (Kd.R (Kd.int .i64) 3 w' w.heap.size (fun k_ => some k_ ≠ (.slice Ao40 y575.length co40 : Value).ownBlock ∧ some k_ ≠ (.slice Ao39 y578.length co39 : Value).ownBlock ∧ some k_ ≠ (.slice Ao52 t593.length co52 : Value).ownBlock ∧ some k_ ≠ (.slice Ao55 t596.length co55 : Value).ownBlock ∧ some k_ ≠ (s_.2.2.1 : Value).ownBlock) s_.2.1 t607) ∧ (Kd.R (Kd.int .i64) 3 w' w.heap.size (fun k_ => some k_ ≠ (.slice Ao40 y575.length co40 : Value).ownBlock ∧ some k_ ≠ (.slice Ao39 y578.length co39 : Value).ownBlock ∧ some k_ ≠ (.slice Ao52 t593.length co52 : Value).ownBlock ∧ some k_ ≠ (.slice Ao55 t596.length co55 : Value).ownBlock ∧ some k_ ≠ (s_.2.1 : Value).ownBlock) s_.2.2.1 t610) ∧ (Kd.R Kd.string 9 w' w.heap.size (fun k_ => some k_ ≠ (.slice Ao38 y581.length co38 : Value).ownBlock ∧ some k_ ≠ (.slice Ao56 t599.length co56 : Value).ownBlock) s_.2.2.2.1 t613) ∧ (w'.heap[gb584]? = some (.cells #[.slice Ao40 y575.length co40, .slice Ao39 y578.length co39, .slice Ao38 y581.length co38] 31 (0, 0))) ∧ (w'.heap[gb603]? = some (.cells #[.slice Ao52 t593.length co52, .slice Ao55 t596.length co55, .slice Ao56 t599.length co56] 31 (0, 0))) ∧ (w'.heap[s_.2.2.2.2]? = some (.cells #[.slice none 0 0, .slice none 0 0, .slice none 0 0] 31 (0, 0))) ∧ (w.heap.size ≤ s_.2.2.2.2) ∧ (w.heap.size ≤ s_.2.2.2.2) ∧ (gb584 ≠ s_.2.2.2.2) ∧ (s_.2.2.2.2 ≠ gb584) ∧ (gb603 ≠ s_.2.2.2.2) ∧ (s_.2.2.2.2 ≠ gb603) ∧ (Below w.heap.size w w')) ?_ ?_
              rotate_left
              ·
               intro hCont
               refine two_ (i := 0) (j := 8) (Ni := some 32) (Nj := some 6) #[true, true, true, true, false, false, false, false, false, false, false] #[false, true, true, true, false, false, false, false, true, false, false] rfl rfl rfl rfl (two_of HT_.out (by kernel_rfl)) (by decide) (by decide) (fun K hK => ?_) (fun K hK => ?_)
               ·
                skip
                refine goes_ Tryz.func16 (by kernel_rfl) rfl #[] (by rfl) rfl rfl zm ?_
                with_reducible refine (quiverlaw22_ints.calls  t604 _ A6.out).mono ?_
                rintro e w59 ⟨v605, rfl, ho0, hb⟩
                refine ⟨_, rfl, ?_⟩
                have n0_ := am (Kd.R_below (zr HO577.out) hb)
                have n1_ := am (Kd.R_below (zr HO580.out) hb)
                have n2_ := am (Kd.R_below (zr HO583.out) hb)
                have n3_ := am (Kd.R_elder' (zr HO587.out) (Kd.R_base ho0) hb)
                have n4_ := am (Kd.R_elder' (zr HO592.out) (Kd.R_base ho0) hb)
                have n5_ := am (Kd.R_below (zr HO595.out) hb)
                have n6_ := am (Kd.R_below (zr HO598.out) hb)
                have n7_ := am (Kd.R_below (zr HO601.out) hb)
                have n8_ := am (Kd.R_lower (Kd.R_new' (Kd.R_new' ho0 (Kd.R_lt (zr HO587.out))) (Kd.R_lt (zr HO592.out))) (below_size (zl2 HB.out GE584.out GE603.out)))
                have n9_ := am (zbb BK584.out hb)
                have n10_ := am (zbb BK603.out hb)
                have n11_ := am (below_step (zl2 HB.out GE584.out GE603.out) hb)
                clear HO577
                clear HO580
                clear HO583
                clear HO587
                clear HO592
                clear HO595
                clear HO598
                clear HO601
                clear BK584
                clear BK603
                clear HB
                have HO577 := n0_
                have HO580 := n1_
                have HO583 := n2_
                have HO587 := n3_
                have HO592 := n4_
                have HO595 := n5_
                have HO598 := n6_
                have HO601 := n7_
                have HO606 := n8_
                have BK584 := n9_
                have BK603 := n10_
                have HB := n11_
                clear n0_ n1_ n2_ n3_ n4_ n5_ n6_ n7_ n8_ n9_ n10_ n11_
                (try clear hb)
                (try clear hb2)
                (try clear hk)
                (try clear hi)
                (try clear ho0)
                obtain ⟨Ao60, co60, eo60⟩ := Kd.R_slice HO606.out
                (first | subst eo60 | (injection eo60 with f1_ f2_ f3_; have f4_ := f1_.symm; have f5_ := f3_.symm; clear f1_ f2_ f3_; subst f4_; subst f5_))
                refine hK.out _ _ trivial (fun hHeld => ?_)
                clear hK K
                refine norm_ (a' := ?_) ?_ ?_
                rotate_left
                ·
                 show Act.put _ (some 32) _ = _
                 simp only [Act.put, List.setIfInBounds_toArray, List.set_cons_zero, List.set_cons_succ, i64_w, i32_w]
                 rfl
                refine two_ (i := 4) (j := 8) (Ni := some 36) (Nj := some 6) #[true, true, true, true, true, false, false, false, false, false, false] #[true, true, true, true, false, false, false, false, true, false, false] rfl rfl rfl rfl (two_of HT_.out (by kernel_rfl)) (by decide) (by decide) (fun K hK => ?_) (fun K hK => ?_)
                ·
                 skip
                 refine goes_ Tryz.func18 (by kernel_rfl) rfl #[.agg #[.slice Ao60 t604.length co60], .int .i64 0, .string ((t588.extract 0 26) ++ (⟨#[1]⟩ : ByteArray))] (by rfl) rfl rfl zm ?_
                 with_reducible refine (page_Get.calls k _ _ t604 0 ((t588.extract 0 26) ++ (⟨#[1]⟩ : ByteArray)) t607 t610 t613 t616 _ ?side1 ?side2 ?side3 A10.out).mono ?_
                 (case side1 => exact zc (Kd.R_reads' HO606.out).2.2)
                 (case side2 => exact (Kd.R_reads' HO606.out).2.1)
                 (case side3 => exact GL.below HG.out (zl2 HB.out GE584.out GE603.out))
                 rintro e w61 ⟨v608, v611, v614, rfl, ho0, ho1, ho2, hb⟩
                 refine ⟨_, rfl, ?_⟩
                 have n0_ := am (Kd.R_mono (Kd.R_told (Kd.R_told (Kd.R_old (zr HO577.out) hb) (Kd.R_base ho0)) (Kd.R_base ho1)) (fun _ h_ => h_.1))
                 have n1_ := am (Kd.R_mono (Kd.R_told (Kd.R_told (Kd.R_old (zr HO580.out) hb) (Kd.R_base ho0)) (Kd.R_base ho1)) (fun _ h_ => h_.1))
                 have n2_ := am (Kd.R_elder' (zr HO583.out) (Kd.R_base ho2) hb)
                 have n3_ := am (Kd.R_below (zr HO587.out) hb)
                 have n4_ := am (Kd.R_below (zr HO592.out) hb)
                 have n5_ := am (Kd.R_mono (Kd.R_told (Kd.R_told (Kd.R_old (zr HO595.out) hb) (Kd.R_base ho0)) (Kd.R_base ho1)) (fun _ h_ => h_.1))
                 have n6_ := am (Kd.R_mono (Kd.R_told (Kd.R_told (Kd.R_old (zr HO598.out) hb) (Kd.R_base ho0)) (Kd.R_base ho1)) (fun _ h_ => h_.1))
                 have n7_ := am (Kd.R_elder' (zr HO601.out) (Kd.R_base ho2) hb)
                 have n8_ := am (Kd.R_below (zr HO606.out) hb)
                 have n9_ := am (Kd.R_lower (Kd.R_new' (Kd.R_new' (Kd.R_new' (Kd.R_new' ho0 (Kd.R_lt (zr HO577.out))) (Kd.R_lt (zr HO580.out))) (Kd.R_lt (zr HO595.out))) (Kd.R_lt (zr HO598.out))) (below_size (zl2 HB.out GE584.out GE603.out)))
                 have n10_ := am (Kd.R_lower (Kd.R_new' (Kd.R_new' (Kd.R_new' (Kd.R_new' ho1 (Kd.R_lt (zr HO577.out))) (Kd.R_lt (zr HO580.out))) (Kd.R_lt (zr HO595.out))) (Kd.R_lt (zr HO598.out))) (below_size (zl2 HB.out GE584.out GE603.out)))
                 have n11_ := am (Kd.R_lower (Kd.R_new' (Kd.R_new' ho2 (Kd.R_lt (zr HO583.out))) (Kd.R_lt (zr HO601.out))) (below_size (zl2 HB.out GE584.out GE603.out)))
                 have n12_ := am (zbb BK584.out hb)
                 have n13_ := am (zbb BK603.out hb)
                 have n14_ := am (below_step (zl2 HB.out GE584.out GE603.out) hb)
                 clear HO577
                 clear HO580
                 clear HO583
                 clear HO587
                 clear HO592
                 clear HO595
                 clear HO598
                 clear HO601
                 clear HO606
                 clear BK584
                 clear BK603
                 clear HB
                 have HO577 := n0_
                 have HO580 := n1_
                 have HO583 := n2_
                 have HO587 := n3_
                 have HO592 := n4_
                 have HO595 := n5_
                 have HO598 := n6_
                 have HO601 := n7_
                 have HO606 := n8_
                 have HO609 := n9_
                 have HO612 := n10_
                 have HO615 := n11_
                 have BK584 := n12_
                 have BK603 := n13_
                 have HB := n14_
                 clear n0_ n1_ n2_ n3_ n4_ n5_ n6_ n7_ n8_ n9_ n10_ n11_ n12_ n13_ n14_
                 (try clear hb)
                 (try clear hb2)
                 (try clear hk)
                 (try clear hi)
                 (try clear ho0)
                 (try clear ho1)
                 (try clear ho2)
                 refine hK.out _ _ trivial (fun hHeld => ?_)
                 clear hK K
                 refine norm_ (a' := ?_) ?_ ?_
                 rotate_left
                 ·
                  show Act.put _ (some 36) _ = _
                  simp only [Act.put, List.setIfInBounds_toArray, List.set_cons_zero, List.set_cons_succ, i64_w, i32_w]
                  rfl
                 refine pure_ (i := 5) (N := some 31) (v := ?_) (a' := ?_) #[true, true, true, true, true, true, false, false, false, false, false] rfl rfl (any_of HT_.out (by kernel_rfl)) (fun _ _ _ h => h) (Or.inl ⟨by rfl, ?_⟩) ?_ ?_
                 rotate_left
                 ·
                  intro w'
                  go_simp
                  first | (with_reducible rfl) | (rw [if_neg (by omega)])
                 rotate_left
                 ·
                  simp only [Act.put, List.setIfInBounds_toArray, List.set_cons_zero, List.set_cons_succ, i64_w, i32_w]
                  rfl
                 refine pure_ (i := 6) (N := some 37) (v := ?_) (a' := ?_) #[true, true, true, true, true, true, true, false, false, false, false] rfl rfl (any_of HT_.out (by kernel_rfl)) (fun _ _ _ h => h) (Or.inl ⟨by rfl, ?_⟩) ?_ ?_
                 rotate_left
                 ·
                  intro w'
                  go_simp
                  first | (with_reducible rfl) | (rw [if_neg (by omega)])
                 rotate_left
                 ·
                  simp only [Act.put, List.setIfInBounds_toArray, List.set_cons_zero, List.set_cons_succ, i64_w, i32_w]
                  rfl
                 refine pure_ (i := 7) (N := some 38) (v := ?_) (a' := ?_) #[true, true, true, true, true, true, true, true, false, false, false] rfl rfl (any_of HT_.out (by kernel_rfl)) (fun _ _ _ h => h) (Or.inl ⟨by rfl, ?_⟩) ?_ ?_
                 rotate_left
                 ·
                  intro w'
                  go_simp
                  first | (with_reducible rfl) | (rw [if_neg (by omega)])
                 rotate_left
                 ·
                  simp only [Act.put, List.setIfInBounds_toArray, List.set_cons_zero, List.set_cons_succ, i64_w, i32_w]
                  rfl
                 refine one_ (i := 8) (N := some 6) #[true, true, true, true, true, true, true, true, true, false, false] rfl rfl (one_of HT_.out (by kernel_rfl)) (by decide) (fun K hK => ?_)
                 refine box_step ?hg (N := 6) ?hd (cs := #[.slice none 0 0, .slice none 0 0, .slice none 0 0]) (t := 31) ?hr ?_; (case hd => rfl); (case hg => rfl); (case hr => exact zh)
                 intro gb617 hg w62 hbox hb
                 have n0_ := am (Kd.R_below (zr HO577.out) hb)
                 have n1_ := am (Kd.R_below (zr HO580.out) hb)
                 have n2_ := am (Kd.R_below (zr HO583.out) hb)
                 have n3_ := am (Kd.R_below (zr HO587.out) hb)
                 have n4_ := am (Kd.R_below (zr HO592.out) hb)
                 have n5_ := am (Kd.R_below (zr HO595.out) hb)
                 have n6_ := am (Kd.R_below (zr HO598.out) hb)
                 have n7_ := am (Kd.R_below (zr HO601.out) hb)
                 have n8_ := am (Kd.R_below (zr HO606.out) hb)
                 have n9_ := am (Kd.R_below (zr HO609.out) hb)
                 have n10_ := am (Kd.R_below (zr HO612.out) hb)
                 have n11_ := am (Kd.R_below (zr HO615.out) hb)
                 have n12_ := am (zbb BK584.out hb)
                 have n13_ := am (zbb BK603.out hb)
                 have n14_ := am (below_step (zl2 HB.out GE584.out GE603.out) hb)
                 have n15_ := am (hbox)
                 have n16_ := am ((by rw [hg]; exact (below_size (zl2 HB.out GE584.out GE603.out)) : w.heap.size ≤ gb617))
                 have n17_ := am ((by rw [hg]; exact (below_size (zl2 HB.out GE584.out GE603.out)) : w.heap.size ≤ gb617))
                 have n18_ := am ((by rw [hg]; exact Nat.ne_of_lt (blk_lt (g := gb584) (o := .cells #[.slice Ao40 y575.length co40, .slice Ao39 y578.length co39, .slice Ao38 y581.length co38] 31 (0, 0)) (zb BK584.out)) : gb584 ≠ gb617))
                 have n19_ := am ((by rw [hg]; exact Nat.ne_of_gt (blk_lt (g := gb584) (o := .cells #[.slice Ao40 y575.length co40, .slice Ao39 y578.length co39, .slice Ao38 y581.length co38] 31 (0, 0)) (zb BK584.out)) : gb617 ≠ gb584))
                 have n20_ := am ((by rw [hg]; exact Nat.ne_of_lt (blk_lt (g := gb603) (o := .cells #[.slice Ao52 t593.length co52, .slice Ao55 t596.length co55, .slice Ao56 t599.length co56] 31 (0, 0)) (zb BK603.out)) : gb603 ≠ gb617))
                 have n21_ := am ((by rw [hg]; exact Nat.ne_of_gt (blk_lt (g := gb603) (o := .cells #[.slice Ao52 t593.length co52, .slice Ao55 t596.length co55, .slice Ao56 t599.length co56] 31 (0, 0)) (zb BK603.out)) : gb617 ≠ gb603))
                 clear HO577
                 clear HO580
                 clear HO583
                 clear HO587
                 clear HO592
                 clear HO595
                 clear HO598
                 clear HO601
                 clear HO606
                 clear HO609
                 clear HO612
                 clear HO615
                 clear BK584
                 clear BK603
                 clear HB
                 have HO577 := n0_
                 have HO580 := n1_
                 have HO583 := n2_
                 have HO587 := n3_
                 have HO592 := n4_
                 have HO595 := n5_
                 have HO598 := n6_
                 have HO601 := n7_
                 have HO606 := n8_
                 have HO609 := n9_
                 have HO612 := n10_
                 have HO615 := n11_
                 have BK584 := n12_
                 have BK603 := n13_
                 have HB := n14_
                 have BK617 := n15_
                 have GW617 := n16_
                 have GE617 := n17_
                 have NB584_617 := n18_
                 have NB617_584 := n19_
                 have NB603_617 := n20_
                 have NB617_603 := n21_
                 clear n0_ n1_ n2_ n3_ n4_ n5_ n6_ n7_ n8_ n9_ n10_ n11_ n12_ n13_ n14_ n15_ n16_ n17_ n18_ n19_ n20_ n21_
                 clear hb hbox hg
                 refine hK.out _ _ trivial (fun hHeld => ?_)
                 clear hK K
                 refine norm_ (a' := ?_) ?_ ?_
                 rotate_left
                 ·
                  show Act.put _ (some 6) _ = _
                  simp only [Act.put, List.setIfInBounds_toArray, List.set_cons_zero, List.set_cons_succ, i64_w, i32_w]
                  rfl
                 exact norm_ (by simp only [putAll, Act.put, List.setIfInBounds_toArray, List.set_cons_zero, List.set_cons_succ]) (hCont (.slice Ao60 t604.length co60, v608, v611, v614, gb617) _ ⟨(by refine zr ?_; exact Kd.R_mono HO577.out (fun _ hk => ⟨hk.1.1.1, ⟨hk.1.1.2.1, ⟨hk.1.1.2.2, ⟨hk.1.2, hk.2⟩⟩⟩⟩)), (by refine zr ?_; exact Kd.R_mono HO580.out (fun _ hk => ⟨hk.1.1.1, ⟨hk.1.1.2.1, ⟨hk.1.1.2.2, ⟨hk.1.2, hk.2⟩⟩⟩⟩)), (zr HO583.out), (zr HO587.out), (zr HO592.out), (by refine zr ?_; exact Kd.R_mono HO595.out (fun _ hk => ⟨hk.1.1.1, ⟨hk.1.1.2.1, ⟨hk.1.1.2.2, ⟨hk.1.2, hk.2⟩⟩⟩⟩)), (by refine zr ?_; exact Kd.R_mono HO598.out (fun _ hk => ⟨hk.1.1.1, ⟨hk.1.1.2.1, ⟨hk.1.1.2.2, ⟨hk.1.2, hk.2⟩⟩⟩⟩)), (zr HO601.out), (by refine zr ?_; exact Kd.R_mono HO606.out (fun _ hk => ⟨hk.1.2, hk.2⟩)), (by refine zr ?_; exact Kd.R_mono HO609.out (fun _ hk => ⟨hk.1.1.1.2, ⟨hk.1.1.2, ⟨hk.1.2, ⟨hk.2, hk.1.1.1.1⟩⟩⟩⟩)), (by refine zr ?_; exact Kd.R_mono HO612.out (fun _ hk => ⟨hk.1.1.1.2, ⟨hk.1.1.2, ⟨hk.1.2, ⟨hk.2, hk.1.1.1.1⟩⟩⟩⟩)), (by refine zr ?_; exact Kd.R_mono HO615.out (fun _ hk => ⟨hk.1.2, hk.2⟩)), (zb BK584.out), (zb BK603.out), (zb BK617.out), GW617.out, GE617.out, NB584_617.out, NB617_584.out, NB603_617.out, NB617_603.out, (zl3 HB.out GE584.out GE603.out GE617.out)⟩)
                ·
                 skip
                 refine box_step ?hg (N := 6) ?hd (cs := #[.slice none 0 0, .slice none 0 0, .slice none 0 0]) (t := 31) ?hr ?_; (case hd => rfl); (case hg => rfl); (case hr => exact zh)
                 intro gb617 hg w60 hbox hb
                 have n0_ := am (Kd.R_below (zr HO577.out) hb)
                 have n1_ := am (Kd.R_below (zr HO580.out) hb)
                 have n2_ := am (Kd.R_below (zr HO583.out) hb)
                 have n3_ := am (Kd.R_below (zr HO587.out) hb)
                 have n4_ := am (Kd.R_below (zr HO592.out) hb)
                 have n5_ := am (Kd.R_below (zr HO595.out) hb)
                 have n6_ := am (Kd.R_below (zr HO598.out) hb)
                 have n7_ := am (Kd.R_below (zr HO601.out) hb)
                 have n8_ := am (Kd.R_below (zr HO606.out) hb)
                 have n9_ := am (zbb BK584.out hb)
                 have n10_ := am (zbb BK603.out hb)
                 have n11_ := am (below_step (zl2 HB.out GE584.out GE603.out) hb)
                 have n12_ := am (hbox)
                 have n13_ := am ((by rw [hg]; exact (below_size (zl2 HB.out GE584.out GE603.out)) : w.heap.size ≤ gb617))
                 have n14_ := am ((by rw [hg]; exact (below_size (zl2 HB.out GE584.out GE603.out)) : w.heap.size ≤ gb617))
                 have n15_ := am ((by rw [hg]; exact Nat.ne_of_lt (blk_lt (g := gb584) (o := .cells #[.slice Ao40 y575.length co40, .slice Ao39 y578.length co39, .slice Ao38 y581.length co38] 31 (0, 0)) (zb BK584.out)) : gb584 ≠ gb617))
                 have n16_ := am ((by rw [hg]; exact Nat.ne_of_gt (blk_lt (g := gb584) (o := .cells #[.slice Ao40 y575.length co40, .slice Ao39 y578.length co39, .slice Ao38 y581.length co38] 31 (0, 0)) (zb BK584.out)) : gb617 ≠ gb584))
                 have n17_ := am ((by rw [hg]; exact Nat.ne_of_lt (blk_lt (g := gb603) (o := .cells #[.slice Ao52 t593.length co52, .slice Ao55 t596.length co55, .slice Ao56 t599.length co56] 31 (0, 0)) (zb BK603.out)) : gb603 ≠ gb617))
                 have n18_ := am ((by rw [hg]; exact Nat.ne_of_gt (blk_lt (g := gb603) (o := .cells #[.slice Ao52 t593.length co52, .slice Ao55 t596.length co55, .slice Ao56 t599.length co56] 31 (0, 0)) (zb BK603.out)) : gb617 ≠ gb603))
                 clear HO577
                 clear HO580
                 clear HO583
                 clear HO587
                 clear HO592
                 clear HO595
                 clear HO598
                 clear HO601
                 clear HO606
                 clear BK584
                 clear BK603
                 clear HB
                 have HO577 := n0_
                 have HO580 := n1_
                 have HO583 := n2_
                 have HO587 := n3_
                 have HO592 := n4_
                 have HO595 := n5_
                 have HO598 := n6_
                 have HO601 := n7_
                 have HO606 := n8_
                 have BK584 := n9_
                 have BK603 := n10_
                 have HB := n11_
                 have BK617 := n12_
                 have GW617 := n13_
                 have GE617 := n14_
                 have NB584_617 := n15_
                 have NB617_584 := n16_
                 have NB603_617 := n17_
                 have NB617_603 := n18_
                 clear n0_ n1_ n2_ n3_ n4_ n5_ n6_ n7_ n8_ n9_ n10_ n11_ n12_ n13_ n14_ n15_ n16_ n17_ n18_
                 clear hb hbox hg
                 obtain ⟨Ao61, co61, eo61⟩ := Kd.R_slice HO606.out
                 (first | subst eo61 | (injection eo61 with f1_ f2_ f3_; have f4_ := f1_.symm; have f5_ := f3_.symm; clear f1_ f2_ f3_; subst f4_; subst f5_))
                 refine hK.out _ _ trivial (fun hHeld => ?_)
                 clear hK K
                 refine norm_ (a' := ?_) ?_ ?_
                 rotate_left
                 ·
                  show Act.put _ (some 6) _ = _
                  simp only [Act.put, List.setIfInBounds_toArray, List.set_cons_zero, List.set_cons_succ, i64_w, i32_w]
                  rfl
                 refine one_ (i := 4) (N := some 36) #[true, true, true, true, true, false, false, false, true, false, false] rfl rfl (one_of HT_.out (by kernel_rfl)) (by decide) (fun K hK => ?_)
                 refine goes_ Tryz.func18 (by kernel_rfl) rfl #[.agg #[.slice Ao61 t604.length co61], .int .i64 0, .string ((t588.extract 0 26) ++ (⟨#[1]⟩ : ByteArray))] (by rfl) rfl rfl zm ?_
                 with_reducible refine (page_Get.calls k _ _ t604 0 ((t588.extract 0 26) ++ (⟨#[1]⟩ : ByteArray)) t607 t610 t613 t616 _ ?side1 ?side2 ?side3 A10.out).mono ?_
                 (case side1 => exact zc (Kd.R_reads' HO606.out).2.2)
                 (case side2 => exact (Kd.R_reads' HO606.out).2.1)
                 (case side3 => exact GL.below HG.out (zl3 HB.out GE584.out GE603.out GE617.out))
                 rintro e w62 ⟨v608, v611, v614, rfl, ho0, ho1, ho2, hb⟩
                 refine ⟨_, rfl, ?_⟩
                 have n0_ := am (Kd.R_mono (Kd.R_told (Kd.R_told (Kd.R_old (zr HO577.out) hb) (Kd.R_base ho0)) (Kd.R_base ho1)) (fun _ h_ => h_.1))
                 have n1_ := am (Kd.R_mono (Kd.R_told (Kd.R_told (Kd.R_old (zr HO580.out) hb) (Kd.R_base ho0)) (Kd.R_base ho1)) (fun _ h_ => h_.1))
                 have n2_ := am (Kd.R_elder' (zr HO583.out) (Kd.R_base ho2) hb)
                 have n3_ := am (Kd.R_below (zr HO587.out) hb)
                 have n4_ := am (Kd.R_below (zr HO592.out) hb)
                 have n5_ := am (Kd.R_mono (Kd.R_told (Kd.R_told (Kd.R_old (zr HO595.out) hb) (Kd.R_base ho0)) (Kd.R_base ho1)) (fun _ h_ => h_.1))
                 have n6_ := am (Kd.R_mono (Kd.R_told (Kd.R_told (Kd.R_old (zr HO598.out) hb) (Kd.R_base ho0)) (Kd.R_base ho1)) (fun _ h_ => h_.1))
                 have n7_ := am (Kd.R_elder' (zr HO601.out) (Kd.R_base ho2) hb)
                 have n8_ := am (Kd.R_below (zr HO606.out) hb)
                 have n9_ := am (Kd.R_lower (Kd.R_new' (Kd.R_new' (Kd.R_new' (Kd.R_new' ho0 (Kd.R_lt (zr HO577.out))) (Kd.R_lt (zr HO580.out))) (Kd.R_lt (zr HO595.out))) (Kd.R_lt (zr HO598.out))) (below_size (zl3 HB.out GE584.out GE603.out GE617.out)))
                 have n10_ := am (Kd.R_lower (Kd.R_new' (Kd.R_new' (Kd.R_new' (Kd.R_new' ho1 (Kd.R_lt (zr HO577.out))) (Kd.R_lt (zr HO580.out))) (Kd.R_lt (zr HO595.out))) (Kd.R_lt (zr HO598.out))) (below_size (zl3 HB.out GE584.out GE603.out GE617.out)))
                 have n11_ := am (Kd.R_lower (Kd.R_new' (Kd.R_new' ho2 (Kd.R_lt (zr HO583.out))) (Kd.R_lt (zr HO601.out))) (below_size (zl3 HB.out GE584.out GE603.out GE617.out)))
                 have n12_ := am (zbb BK584.out hb)
                 have n13_ := am (zbb BK603.out hb)
                 have n14_ := am (zbb BK617.out hb)
                 have n15_ := am (below_step (zl3 HB.out GE584.out GE603.out GE617.out) hb)
                 clear HO577
                 clear HO580
                 clear HO583
                 clear HO587
                 clear HO592
                 clear HO595
                 clear HO598
                 clear HO601
                 clear HO606
                 clear BK584
                 clear BK603
                 clear BK617
                 clear HB
                 have HO577 := n0_
                 have HO580 := n1_
                 have HO583 := n2_
                 have HO587 := n3_
                 have HO592 := n4_
                 have HO595 := n5_
                 have HO598 := n6_
                 have HO601 := n7_
                 have HO606 := n8_
                 have HO609 := n9_
                 have HO612 := n10_
                 have HO615 := n11_
                 have BK584 := n12_
                 have BK603 := n13_
                 have BK617 := n14_
                 have HB := n15_
                 clear n0_ n1_ n2_ n3_ n4_ n5_ n6_ n7_ n8_ n9_ n10_ n11_ n12_ n13_ n14_ n15_
                 (try clear hb)
                 (try clear hb2)
                 (try clear hk)
                 (try clear hi)
                 (try clear ho0)
                 (try clear ho1)
                 (try clear ho2)
                 refine hK.out _ _ trivial (fun hHeld => ?_)
                 clear hK K
                 refine norm_ (a' := ?_) ?_ ?_
                 rotate_left
                 ·
                  show Act.put _ (some 36) _ = _
                  simp only [Act.put, List.setIfInBounds_toArray, List.set_cons_zero, List.set_cons_succ, i64_w, i32_w]
                  rfl
                 refine pure_ (i := 5) (N := some 31) (v := ?_) (a' := ?_) #[true, true, true, true, true, true, false, false, true, false, false] rfl rfl (any_of HT_.out (by kernel_rfl)) (fun _ _ _ h => h) (Or.inl ⟨by rfl, ?_⟩) ?_ ?_
                 rotate_left
                 ·
                  intro w'
                  go_simp
                  first | (with_reducible rfl) | (rw [if_neg (by omega)])
                 rotate_left
                 ·
                  simp only [Act.put, List.setIfInBounds_toArray, List.set_cons_zero, List.set_cons_succ, i64_w, i32_w]
                  rfl
                 refine pure_ (i := 6) (N := some 37) (v := ?_) (a' := ?_) #[true, true, true, true, true, true, true, false, true, false, false] rfl rfl (any_of HT_.out (by kernel_rfl)) (fun _ _ _ h => h) (Or.inl ⟨by rfl, ?_⟩) ?_ ?_
                 rotate_left
                 ·
                  intro w'
                  go_simp
                  first | (with_reducible rfl) | (rw [if_neg (by omega)])
                 rotate_left
                 ·
                  simp only [Act.put, List.setIfInBounds_toArray, List.set_cons_zero, List.set_cons_succ, i64_w, i32_w]
                  rfl
                 refine pure_ (i := 7) (N := some 38) (v := ?_) (a' := ?_) #[true, true, true, true, true, true, true, true, true, false, false] rfl rfl (any_of HT_.out (by kernel_rfl)) (fun _ _ _ h => h) (Or.inl ⟨by rfl, ?_⟩) ?_ ?_
                 rotate_left
                 ·
                  intro w'
                  go_simp
                  first | (with_reducible rfl) | (rw [if_neg (by omega)])
                 rotate_left
                 ·
                  simp only [Act.put, List.setIfInBounds_toArray, List.set_cons_zero, List.set_cons_succ, i64_w, i32_w]
                  rfl
                 exact norm_ (by simp only [putAll, Act.put, List.setIfInBounds_toArray, List.set_cons_zero, List.set_cons_succ]) (hCont (.slice Ao61 t604.length co61, v608, v611, v614, gb617) _ ⟨(by refine zr ?_; exact Kd.R_mono HO577.out (fun _ hk => ⟨hk.1.1.1, ⟨hk.1.1.2.1, ⟨hk.1.1.2.2, ⟨hk.1.2, hk.2⟩⟩⟩⟩)), (by refine zr ?_; exact Kd.R_mono HO580.out (fun _ hk => ⟨hk.1.1.1, ⟨hk.1.1.2.1, ⟨hk.1.1.2.2, ⟨hk.1.2, hk.2⟩⟩⟩⟩)), (zr HO583.out), (zr HO587.out), (zr HO592.out), (by refine zr ?_; exact Kd.R_mono HO595.out (fun _ hk => ⟨hk.1.1.1, ⟨hk.1.1.2.1, ⟨hk.1.1.2.2, ⟨hk.1.2, hk.2⟩⟩⟩⟩)), (by refine zr ?_; exact Kd.R_mono HO598.out (fun _ hk => ⟨hk.1.1.1, ⟨hk.1.1.2.1, ⟨hk.1.1.2.2, ⟨hk.1.2, hk.2⟩⟩⟩⟩)), (zr HO601.out), (by refine zr ?_; exact Kd.R_mono HO606.out (fun _ hk => ⟨hk.1.2, hk.2⟩)), (by refine zr ?_; exact Kd.R_mono HO609.out (fun _ hk => ⟨hk.1.1.1.2, ⟨hk.1.1.2, ⟨hk.1.2, ⟨hk.2, hk.1.1.1.1⟩⟩⟩⟩)), (by refine zr ?_; exact Kd.R_mono HO612.out (fun _ hk => ⟨hk.1.1.1.2, ⟨hk.1.1.2, ⟨hk.1.2, ⟨hk.2, hk.1.1.1.1⟩⟩⟩⟩)), (by refine zr ?_; exact Kd.R_mono HO615.out (fun _ hk => ⟨hk.1.2, hk.2⟩)), (zb BK584.out), (zb BK603.out), (zb BK617.out), GW617.out, GE617.out, NB584_617.out, NB617_584.out, NB603_617.out, NB617_603.out, (zl3 HB.out GE584.out GE603.out GE617.out)⟩)
               ·
                skip
                refine box_step ?hg (N := 6) ?hd (cs := #[.slice none 0 0, .slice none 0 0, .slice none 0 0]) (t := 31) ?hr ?_; (case hd => rfl); (case hg => rfl); (case hr => exact zh)
                intro gb617 hg w59 hbox hb
                have n0_ := am (Kd.R_below (zr HO577.out) hb)
                have n1_ := am (Kd.R_below (zr HO580.out) hb)
                have n2_ := am (Kd.R_below (zr HO583.out) hb)
                have n3_ := am (Kd.R_below (zr HO587.out) hb)
                have n4_ := am (Kd.R_below (zr HO592.out) hb)
                have n5_ := am (Kd.R_below (zr HO595.out) hb)
                have n6_ := am (Kd.R_below (zr HO598.out) hb)
                have n7_ := am (Kd.R_below (zr HO601.out) hb)
                have n8_ := am (zbb BK584.out hb)
                have n9_ := am (zbb BK603.out hb)
                have n10_ := am (below_step (zl2 HB.out GE584.out GE603.out) hb)
                have n11_ := am (hbox)
                have n12_ := am ((by rw [hg]; exact (below_size (zl2 HB.out GE584.out GE603.out)) : w.heap.size ≤ gb617))
                have n13_ := am ((by rw [hg]; exact (below_size (zl2 HB.out GE584.out GE603.out)) : w.heap.size ≤ gb617))
                have n14_ := am ((by rw [hg]; exact Nat.ne_of_lt (blk_lt (g := gb584) (o := .cells #[.slice Ao40 y575.length co40, .slice Ao39 y578.length co39, .slice Ao38 y581.length co38] 31 (0, 0)) (zb BK584.out)) : gb584 ≠ gb617))
                have n15_ := am ((by rw [hg]; exact Nat.ne_of_gt (blk_lt (g := gb584) (o := .cells #[.slice Ao40 y575.length co40, .slice Ao39 y578.length co39, .slice Ao38 y581.length co38] 31 (0, 0)) (zb BK584.out)) : gb617 ≠ gb584))
                have n16_ := am ((by rw [hg]; exact Nat.ne_of_lt (blk_lt (g := gb603) (o := .cells #[.slice Ao52 t593.length co52, .slice Ao55 t596.length co55, .slice Ao56 t599.length co56] 31 (0, 0)) (zb BK603.out)) : gb603 ≠ gb617))
                have n17_ := am ((by rw [hg]; exact Nat.ne_of_gt (blk_lt (g := gb603) (o := .cells #[.slice Ao52 t593.length co52, .slice Ao55 t596.length co55, .slice Ao56 t599.length co56] 31 (0, 0)) (zb BK603.out)) : gb617 ≠ gb603))
                clear HO577
                clear HO580
                clear HO583
                clear HO587
                clear HO592
                clear HO595
                clear HO598
                clear HO601
                clear BK584
                clear BK603
                clear HB
                have HO577 := n0_
                have HO580 := n1_
                have HO583 := n2_
                have HO587 := n3_
                have HO592 := n4_
                have HO595 := n5_
                have HO598 := n6_
                have HO601 := n7_
                have BK584 := n8_
                have BK603 := n9_
                have HB := n10_
                have BK617 := n11_
                have GW617 := n12_
                have GE617 := n13_
                have NB584_617 := n14_
                have NB617_584 := n15_
                have NB603_617 := n16_
                have NB617_603 := n17_
                clear n0_ n1_ n2_ n3_ n4_ n5_ n6_ n7_ n8_ n9_ n10_ n11_ n12_ n13_ n14_ n15_ n16_ n17_
                clear hb hbox hg
                refine hK.out _ _ trivial (fun hHeld => ?_)
                clear hK K
                refine norm_ (a' := ?_) ?_ ?_
                rotate_left
                ·
                 show Act.put _ (some 6) _ = _
                 simp only [Act.put, List.setIfInBounds_toArray, List.set_cons_zero, List.set_cons_succ, i64_w, i32_w]
                 rfl
                refine one_ (i := 0) (N := some 32) #[true, true, true, true, false, false, false, false, true, false, false] rfl rfl (one_of HT_.out (by kernel_rfl)) (by decide) (fun K hK => ?_)
                refine goes_ Tryz.func16 (by kernel_rfl) rfl #[] (by rfl) rfl rfl zm ?_
                with_reducible refine (quiverlaw22_ints.calls  t604 _ A6.out).mono ?_
                rintro e w60 ⟨v605, rfl, ho0, hb⟩
                refine ⟨_, rfl, ?_⟩
                have n0_ := am (Kd.R_below (zr HO577.out) hb)
                have n1_ := am (Kd.R_below (zr HO580.out) hb)
                have n2_ := am (Kd.R_below (zr HO583.out) hb)
                have n3_ := am (Kd.R_elder' (zr HO587.out) (Kd.R_base ho0) hb)
                have n4_ := am (Kd.R_elder' (zr HO592.out) (Kd.R_base ho0) hb)
                have n5_ := am (Kd.R_below (zr HO595.out) hb)
                have n6_ := am (Kd.R_below (zr HO598.out) hb)
                have n7_ := am (Kd.R_below (zr HO601.out) hb)
                have n8_ := am (Kd.R_lower (Kd.R_new' (Kd.R_new' ho0 (Kd.R_lt (zr HO587.out))) (Kd.R_lt (zr HO592.out))) (below_size (zl3 HB.out GE584.out GE603.out GE617.out)))
                have n9_ := am (zbb BK584.out hb)
                have n10_ := am (zbb BK603.out hb)
                have n11_ := am (zbb BK617.out hb)
                have n12_ := am (below_step (zl3 HB.out GE584.out GE603.out GE617.out) hb)
                clear HO577
                clear HO580
                clear HO583
                clear HO587
                clear HO592
                clear HO595
                clear HO598
                clear HO601
                clear BK584
                clear BK603
                clear BK617
                clear HB
                have HO577 := n0_
                have HO580 := n1_
                have HO583 := n2_
                have HO587 := n3_
                have HO592 := n4_
                have HO595 := n5_
                have HO598 := n6_
                have HO601 := n7_
                have HO606 := n8_
                have BK584 := n9_
                have BK603 := n10_
                have BK617 := n11_
                have HB := n12_
                clear n0_ n1_ n2_ n3_ n4_ n5_ n6_ n7_ n8_ n9_ n10_ n11_ n12_
                (try clear hb)
                (try clear hb2)
                (try clear hk)
                (try clear hi)
                (try clear ho0)
                obtain ⟨Ao61, co61, eo61⟩ := Kd.R_slice HO606.out
                (first | subst eo61 | (injection eo61 with f1_ f2_ f3_; have f4_ := f1_.symm; have f5_ := f3_.symm; clear f1_ f2_ f3_; subst f4_; subst f5_))
                refine hK.out _ _ trivial (fun hHeld => ?_)
                clear hK K
                refine norm_ (a' := ?_) ?_ ?_
                rotate_left
                ·
                 show Act.put _ (some 32) _ = _
                 simp only [Act.put, List.setIfInBounds_toArray, List.set_cons_zero, List.set_cons_succ, i64_w, i32_w]
                 rfl
                refine one_ (i := 4) (N := some 36) #[true, true, true, true, true, false, false, false, true, false, false] rfl rfl (one_of HT_.out (by kernel_rfl)) (by decide) (fun K hK => ?_)
                refine goes_ Tryz.func18 (by kernel_rfl) rfl #[.agg #[.slice Ao61 t604.length co61], .int .i64 0, .string ((t588.extract 0 26) ++ (⟨#[1]⟩ : ByteArray))] (by rfl) rfl rfl zm ?_
                with_reducible refine (page_Get.calls k _ _ t604 0 ((t588.extract 0 26) ++ (⟨#[1]⟩ : ByteArray)) t607 t610 t613 t616 _ ?side1 ?side2 ?side3 A10.out).mono ?_
                (case side1 => exact zc (Kd.R_reads' HO606.out).2.2)
                (case side2 => exact (Kd.R_reads' HO606.out).2.1)
                (case side3 => exact GL.below HG.out (zl3 HB.out GE584.out GE603.out GE617.out))
                rintro e w62 ⟨v608, v611, v614, rfl, ho0, ho1, ho2, hb⟩
                refine ⟨_, rfl, ?_⟩
                have n0_ := am (Kd.R_mono (Kd.R_told (Kd.R_told (Kd.R_old (zr HO577.out) hb) (Kd.R_base ho0)) (Kd.R_base ho1)) (fun _ h_ => h_.1))
                have n1_ := am (Kd.R_mono (Kd.R_told (Kd.R_told (Kd.R_old (zr HO580.out) hb) (Kd.R_base ho0)) (Kd.R_base ho1)) (fun _ h_ => h_.1))
                have n2_ := am (Kd.R_elder' (zr HO583.out) (Kd.R_base ho2) hb)
                have n3_ := am (Kd.R_below (zr HO587.out) hb)
                have n4_ := am (Kd.R_below (zr HO592.out) hb)
                have n5_ := am (Kd.R_mono (Kd.R_told (Kd.R_told (Kd.R_old (zr HO595.out) hb) (Kd.R_base ho0)) (Kd.R_base ho1)) (fun _ h_ => h_.1))
                have n6_ := am (Kd.R_mono (Kd.R_told (Kd.R_told (Kd.R_old (zr HO598.out) hb) (Kd.R_base ho0)) (Kd.R_base ho1)) (fun _ h_ => h_.1))
                have n7_ := am (Kd.R_elder' (zr HO601.out) (Kd.R_base ho2) hb)
                have n8_ := am (Kd.R_below (zr HO606.out) hb)
                have n9_ := am (Kd.R_lower (Kd.R_new' (Kd.R_new' (Kd.R_new' (Kd.R_new' ho0 (Kd.R_lt (zr HO577.out))) (Kd.R_lt (zr HO580.out))) (Kd.R_lt (zr HO595.out))) (Kd.R_lt (zr HO598.out))) (below_size (zl3 HB.out GE584.out GE603.out GE617.out)))
                have n10_ := am (Kd.R_lower (Kd.R_new' (Kd.R_new' (Kd.R_new' (Kd.R_new' ho1 (Kd.R_lt (zr HO577.out))) (Kd.R_lt (zr HO580.out))) (Kd.R_lt (zr HO595.out))) (Kd.R_lt (zr HO598.out))) (below_size (zl3 HB.out GE584.out GE603.out GE617.out)))
                have n11_ := am (Kd.R_lower (Kd.R_new' (Kd.R_new' ho2 (Kd.R_lt (zr HO583.out))) (Kd.R_lt (zr HO601.out))) (below_size (zl3 HB.out GE584.out GE603.out GE617.out)))
                have n12_ := am (zbb BK584.out hb)
                have n13_ := am (zbb BK603.out hb)
                have n14_ := am (zbb BK617.out hb)
                have n15_ := am (below_step (zl3 HB.out GE584.out GE603.out GE617.out) hb)
                clear HO577
                clear HO580
                clear HO583
                clear HO587
                clear HO592
                clear HO595
                clear HO598
                clear HO601
                clear HO606
                clear BK584
                clear BK603
                clear BK617
                clear HB
                have HO577 := n0_
                have HO580 := n1_
                have HO583 := n2_
                have HO587 := n3_
                have HO592 := n4_
                have HO595 := n5_
                have HO598 := n6_
                have HO601 := n7_
                have HO606 := n8_
                have HO609 := n9_
                have HO612 := n10_
                have HO615 := n11_
                have BK584 := n12_
                have BK603 := n13_
                have BK617 := n14_
                have HB := n15_
                clear n0_ n1_ n2_ n3_ n4_ n5_ n6_ n7_ n8_ n9_ n10_ n11_ n12_ n13_ n14_ n15_
                (try clear hb)
                (try clear hb2)
                (try clear hk)
                (try clear hi)
                (try clear ho0)
                (try clear ho1)
                (try clear ho2)
                refine hK.out _ _ trivial (fun hHeld => ?_)
                clear hK K
                refine norm_ (a' := ?_) ?_ ?_
                rotate_left
                ·
                 show Act.put _ (some 36) _ = _
                 simp only [Act.put, List.setIfInBounds_toArray, List.set_cons_zero, List.set_cons_succ, i64_w, i32_w]
                 rfl
                refine pure_ (i := 5) (N := some 31) (v := ?_) (a' := ?_) #[true, true, true, true, true, true, false, false, true, false, false] rfl rfl (any_of HT_.out (by kernel_rfl)) (fun _ _ _ h => h) (Or.inl ⟨by rfl, ?_⟩) ?_ ?_
                rotate_left
                ·
                 intro w'
                 go_simp
                 first | (with_reducible rfl) | (rw [if_neg (by omega)])
                rotate_left
                ·
                 simp only [Act.put, List.setIfInBounds_toArray, List.set_cons_zero, List.set_cons_succ, i64_w, i32_w]
                 rfl
                refine pure_ (i := 6) (N := some 37) (v := ?_) (a' := ?_) #[true, true, true, true, true, true, true, false, true, false, false] rfl rfl (any_of HT_.out (by kernel_rfl)) (fun _ _ _ h => h) (Or.inl ⟨by rfl, ?_⟩) ?_ ?_
                rotate_left
                ·
                 intro w'
                 go_simp
                 first | (with_reducible rfl) | (rw [if_neg (by omega)])
                rotate_left
                ·
                 simp only [Act.put, List.setIfInBounds_toArray, List.set_cons_zero, List.set_cons_succ, i64_w, i32_w]
                 rfl
                refine pure_ (i := 7) (N := some 38) (v := ?_) (a' := ?_) #[true, true, true, true, true, true, true, true, true, false, false] rfl rfl (any_of HT_.out (by kernel_rfl)) (fun _ _ _ h => h) (Or.inl ⟨by rfl, ?_⟩) ?_ ?_
                rotate_left
                ·
                 intro w'
                 go_simp
                 first | (with_reducible rfl) | (rw [if_neg (by omega)])
                rotate_left
                ·
                 simp only [Act.put, List.setIfInBounds_toArray, List.set_cons_zero, List.set_cons_succ, i64_w, i32_w]
                 rfl
                exact norm_ (by simp only [putAll, Act.put, List.setIfInBounds_toArray, List.set_cons_zero, List.set_cons_succ]) (hCont (.slice Ao61 t604.length co61, v608, v611, v614, gb617) _ ⟨(by refine zr ?_; exact Kd.R_mono HO577.out (fun _ hk => ⟨hk.1.1.1, ⟨hk.1.1.2.1, ⟨hk.1.1.2.2, ⟨hk.1.2, hk.2⟩⟩⟩⟩)), (by refine zr ?_; exact Kd.R_mono HO580.out (fun _ hk => ⟨hk.1.1.1, ⟨hk.1.1.2.1, ⟨hk.1.1.2.2, ⟨hk.1.2, hk.2⟩⟩⟩⟩)), (zr HO583.out), (zr HO587.out), (zr HO592.out), (by refine zr ?_; exact Kd.R_mono HO595.out (fun _ hk => ⟨hk.1.1.1, ⟨hk.1.1.2.1, ⟨hk.1.1.2.2, ⟨hk.1.2, hk.2⟩⟩⟩⟩)), (by refine zr ?_; exact Kd.R_mono HO598.out (fun _ hk => ⟨hk.1.1.1, ⟨hk.1.1.2.1, ⟨hk.1.1.2.2, ⟨hk.1.2, hk.2⟩⟩⟩⟩)), (zr HO601.out), (by refine zr ?_; exact Kd.R_mono HO606.out (fun _ hk => ⟨hk.1.2, hk.2⟩)), (by refine zr ?_; exact Kd.R_mono HO609.out (fun _ hk => ⟨hk.1.1.1.2, ⟨hk.1.1.2, ⟨hk.1.2, ⟨hk.2, hk.1.1.1.1⟩⟩⟩⟩)), (by refine zr ?_; exact Kd.R_mono HO612.out (fun _ hk => ⟨hk.1.1.1.2, ⟨hk.1.1.2, ⟨hk.1.2, ⟨hk.2, hk.1.1.1.1⟩⟩⟩⟩)), (by refine zr ?_; exact Kd.R_mono HO615.out (fun _ hk => ⟨hk.1.2, hk.2⟩)), (zb BK584.out), (zb BK603.out), (zb BK617.out), GW617.out, GE617.out, NB584_617.out, NB617_584.out, NB603_617.out, NB617_603.out, (zl3 HB.out GE584.out GE603.out GE617.out)⟩)
              rintro ⟨v605, v608, v611, v614, gb617⟩ w63 ⟨h0_, h1_, h2_, h3_, h4_, h5_, h6_, h7_, h8_, h9_, h10_, h11_, h12_, h13_, h14_, h15_, h16_, h17_, h18_, h19_, h20_, h21_⟩
              have n0_ : Aside0 (Kd.R (Kd.int .i64) 3 w63 w.heap.size (fun k_ => some k_ ≠ (.slice Ao39 y578.length co39 : Value).ownBlock ∧ some k_ ≠ (.slice Ao52 t593.length co52 : Value).ownBlock ∧ some k_ ≠ (.slice Ao55 t596.length co55 : Value).ownBlock ∧ some k_ ≠ (v608 : Value).ownBlock ∧ some k_ ≠ (v611 : Value).ownBlock) (.slice Ao40 y575.length co40) y575) := ⟨h0_⟩
              have n1_ : Aside0 (Kd.R (Kd.int .i64) 3 w63 w.heap.size (fun k_ => some k_ ≠ (.slice Ao40 y575.length co40 : Value).ownBlock ∧ some k_ ≠ (.slice Ao52 t593.length co52 : Value).ownBlock ∧ some k_ ≠ (.slice Ao55 t596.length co55 : Value).ownBlock ∧ some k_ ≠ (v608 : Value).ownBlock ∧ some k_ ≠ (v611 : Value).ownBlock) (.slice Ao39 y578.length co39) y578) := ⟨h1_⟩
              have n2_ : Aside0 (Kd.R Kd.string 9 w63 w.heap.size (fun k_ => some k_ ≠ (.slice Ao56 t599.length co56 : Value).ownBlock ∧ some k_ ≠ (v614 : Value).ownBlock) (.slice Ao38 y581.length co38) y581) := ⟨h2_⟩
              have n3_ : Aside0 (Kd.R k24 24 w63 w.heap.size (fun k_ => some k_ ≠ (.slice Ao49 t590.length co49 : Value).ownBlock ∧ some k_ ≠ (v605 : Value).ownBlock) (.slice Ao46 t585.length co46) t585) := ⟨h3_⟩
              have n4_ : Aside0 (Kd.R k24 24 w63 w.heap.size (fun k_ => some k_ ≠ (.slice Ao46 t585.length co46 : Value).ownBlock ∧ some k_ ≠ (v605 : Value).ownBlock) (.slice Ao49 t590.length co49) t590) := ⟨h4_⟩
              have n5_ : Aside0 (Kd.R (Kd.int .i64) 3 w63 w.heap.size (fun k_ => some k_ ≠ (.slice Ao40 y575.length co40 : Value).ownBlock ∧ some k_ ≠ (.slice Ao39 y578.length co39 : Value).ownBlock ∧ some k_ ≠ (.slice Ao55 t596.length co55 : Value).ownBlock ∧ some k_ ≠ (v608 : Value).ownBlock ∧ some k_ ≠ (v611 : Value).ownBlock) (.slice Ao52 t593.length co52) t593) := ⟨h5_⟩
              have n6_ : Aside0 (Kd.R (Kd.int .i64) 3 w63 w.heap.size (fun k_ => some k_ ≠ (.slice Ao40 y575.length co40 : Value).ownBlock ∧ some k_ ≠ (.slice Ao39 y578.length co39 : Value).ownBlock ∧ some k_ ≠ (.slice Ao52 t593.length co52 : Value).ownBlock ∧ some k_ ≠ (v608 : Value).ownBlock ∧ some k_ ≠ (v611 : Value).ownBlock) (.slice Ao55 t596.length co55) t596) := ⟨h6_⟩
              have n7_ : Aside0 (Kd.R Kd.string 9 w63 w.heap.size (fun k_ => some k_ ≠ (.slice Ao38 y581.length co38 : Value).ownBlock ∧ some k_ ≠ (v614 : Value).ownBlock) (.slice Ao56 t599.length co56) t599) := ⟨h7_⟩
              have n8_ : Aside0 (Kd.R k24 24 w63 w.heap.size (fun k_ => some k_ ≠ (.slice Ao46 t585.length co46 : Value).ownBlock ∧ some k_ ≠ (.slice Ao49 t590.length co49 : Value).ownBlock) v605 t604) := ⟨h8_⟩
              have n9_ : Aside0 (Kd.R (Kd.int .i64) 3 w63 w.heap.size (fun k_ => some k_ ≠ (.slice Ao40 y575.length co40 : Value).ownBlock ∧ some k_ ≠ (.slice Ao39 y578.length co39 : Value).ownBlock ∧ some k_ ≠ (.slice Ao52 t593.length co52 : Value).ownBlock ∧ some k_ ≠ (.slice Ao55 t596.length co55 : Value).ownBlock ∧ some k_ ≠ (v611 : Value).ownBlock) v608 t607) := ⟨h9_⟩
              have n10_ : Aside0 (Kd.R (Kd.int .i64) 3 w63 w.heap.size (fun k_ => some k_ ≠ (.slice Ao40 y575.length co40 : Value).ownBlock ∧ some k_ ≠ (.slice Ao39 y578.length co39 : Value).ownBlock ∧ some k_ ≠ (.slice Ao52 t593.length co52 : Value).ownBlock ∧ some k_ ≠ (.slice Ao55 t596.length co55 : Value).ownBlock ∧ some k_ ≠ (v608 : Value).ownBlock) v611 t610) := ⟨h10_⟩
              have n11_ : Aside0 (Kd.R Kd.string 9 w63 w.heap.size (fun k_ => some k_ ≠ (.slice Ao38 y581.length co38 : Value).ownBlock ∧ some k_ ≠ (.slice Ao56 t599.length co56 : Value).ownBlock) v614 t613) := ⟨h11_⟩
              have n12_ : Aside0 (w63.heap[gb584]? = some (.cells #[.slice Ao40 y575.length co40, .slice Ao39 y578.length co39, .slice Ao38 y581.length co38] 31 (0, 0))) := ⟨h12_⟩
              have n13_ : Aside0 (w63.heap[gb603]? = some (.cells #[.slice Ao52 t593.length co52, .slice Ao55 t596.length co55, .slice Ao56 t599.length co56] 31 (0, 0))) := ⟨h13_⟩
              have n14_ : Aside0 (w63.heap[gb617]? = some (.cells #[.slice none 0 0, .slice none 0 0, .slice none 0 0] 31 (0, 0))) := ⟨h14_⟩
              have n15_ : Aside0 (w.heap.size ≤ gb617) := ⟨h15_⟩
              have n16_ : Aside0 (w.heap.size ≤ gb617) := ⟨h16_⟩
              have n17_ : Aside0 (gb584 ≠ gb617) := ⟨h17_⟩
              have n18_ : Aside0 (gb617 ≠ gb584) := ⟨h18_⟩
              have n19_ : Aside0 (gb603 ≠ gb617) := ⟨h19_⟩
              have n20_ : Aside0 (gb617 ≠ gb603) := ⟨h20_⟩
              have n21_ : Aside0 (Below w.heap.size w w63) := ⟨h21_⟩
              clear HO577
              clear HO580
              clear HO583
              clear HO587
              clear HO592
              clear HO595
              clear HO598
              clear HO601
              clear BK584
              clear BK603
              clear HB
              clear h0_ h1_ h2_ h3_ h4_ h5_ h6_ h7_ h8_ h9_ h10_ h11_ h12_ h13_ h14_ h15_ h16_ h17_ h18_ h19_ h20_ h21_
              have HO577 := n0_
              have HO580 := n1_
              have HO583 := n2_
              have HO587 := n3_
              have HO592 := n4_
              have HO595 := n5_
              have HO598 := n6_
              have HO601 := n7_
              have HO606 := n8_
              have HO609 := n9_
              have HO612 := n10_
              have HO615 := n11_
              have BK584 := n12_
              have BK603 := n13_
              have BK617 := n14_
              have GW617 := n15_
              have GE617 := n16_
              have NB584_617 := n17_
              have NB617_584 := n18_
              have NB603_617 := n19_
              have NB617_603 := n20_
              have HB := n21_
              clear n0_ n1_ n2_ n3_ n4_ n5_ n6_ n7_ n8_ n9_ n10_ n11_ n12_ n13_ n14_ n15_ n16_ n17_ n18_ n19_ n20_ n21_
              have hHeld := trivial
              obtain ⟨Ao64, co64, eo64⟩ := Kd.R_slice HO609.out
              (first | subst eo64 | (injection eo64 with f1_ f2_ f3_; have f4_ := f1_.symm; have f5_ := f3_.symm; clear f1_ f2_ f3_; subst f4_; subst f5_))
              obtain ⟨Ao66, co66, eo66⟩ := Kd.R_slice HO612.out
              (first | subst eo66 | (injection eo66 with f1_ f2_ f3_; have f4_ := f1_.symm; have f5_ := f3_.symm; clear f1_ f2_ f3_; subst f4_; subst f5_))
              obtain ⟨Ao68, co68, eo68⟩ := Kd.R_slice HO615.out
              (first | subst eo68 | (injection eo68 with f1_ f2_ f3_; have f4_ := f1_.symm; have f5_ := f3_.symm; clear f1_ f2_ f3_; subst f4_; subst f5_))
              refine norm_ (a' := ?_) ?_ ?_
              rotate_left
              ·
               simp only [putAll, Act.put, List.setIfInBounds_toArray, List.set_cons_zero, List.set_cons_succ]
               rfl
              refine one_ (i := 9) (N := none) #[true, true, true, true, true, true, true, true, true, true, false] rfl rfl (one_of HT_.out (by kernel_rfl)) (by decide) (fun K hK => ?_)
              have hs65 : w63.cell? ⟨gb617, 0, none⟩ = some (.slice none 0 0) := (blk_cell BK617.out 0).trans rfl
              have hfs65 := blk_frozen BK617.out 0
              have hns65_0 := NB584_617.out
              have hns65_1 := NB603_617.out
              have hms65_0 := NB617_584.out
              have hms65_1 := NB617_603.out
              have hs67 : w63.cell? ⟨gb617, 1, none⟩ = some (.slice none 0 0) := (blk_cell BK617.out 1).trans rfl
              have hfs67 := blk_frozen BK617.out 1
              have hns67_0 := NB584_617.out
              have hns67_1 := NB603_617.out
              have hms67_0 := NB617_584.out
              have hms67_1 := NB617_603.out
              have hs69 : w63.cell? ⟨gb617, 2, none⟩ = some (.slice none 0 0) := (blk_cell BK617.out 2).trans rfl
              have hfs69 := blk_frozen BK617.out 2
              have hns69_0 := NB584_617.out
              have hns69_1 := NB603_617.out
              have hms69_0 := NB617_584.out
              have hms69_1 := NB617_603.out
              refine skip_ (w1 := ?_) (by rfl) rfl ?_ ?_
              rotate_left
              ·
               go_simp
               rfl
              refine hK.out _ _ trivial (fun hHeld => ?_)
              clear hK K
              refine pure_ (i := 10) (N := some 7) (v := ?_) (a' := ?_) #[true, true, true, true, true, true, true, true, true, true, true] rfl rfl (any_of HT_.out (by kernel_rfl)) (fun _ _ _ h => h) (Or.inl ⟨by rfl, ?_⟩) ?_ ?_
              rotate_left
              ·
               intro w'
               go_simp
               first | (with_reducible rfl) | (rw [if_neg (by omega)])
              rotate_left
              ·
               simp only [Act.put, List.setIfInBounds_toArray, List.set_cons_zero, List.set_cons_succ, i64_w, i32_w]
               rfl
              refine done_ (done_of HT_.out (by kernel_rfl)) ?_
              try go_wp2_with (first | ((with_reducible refine gate_callee (f := 16) rfl ?_); refine goesL_ (some 40) rfl rfl Tryz.func16 (by kernel_rfl) rfl #[] rfl zm ?_; (with_reducible refine (quiverlaw22_ints.calls  t618 _ A11.out).mono ?_); rintro e w70 ⟨v619, rfl, ho0, hb⟩; refine ⟨_, rfl, ?_⟩; have n0_ := am (Kd.R_below (zy3 HO577.out BK617.out) hb); have n1_ := am (Kd.R_below (zy3 HO580.out BK617.out) hb); have n2_ := am (Kd.R_below (zy3 HO583.out BK617.out) hb); have n3_ := am (Kd.R_elder' (zy3 HO587.out BK617.out) (Kd.R_base ho0) hb); have n4_ := am (Kd.R_elder' (zy3 HO592.out BK617.out) (Kd.R_base ho0) hb); have n5_ := am (Kd.R_below (zy3 HO595.out BK617.out) hb); have n6_ := am (Kd.R_below (zy3 HO598.out BK617.out) hb); have n7_ := am (Kd.R_below (zy3 HO601.out BK617.out) hb); have n8_ := am (Kd.R_elder' (zy3 HO606.out BK617.out) (Kd.R_base ho0) hb); have n9_ := am (Kd.R_below (zy3 HO609.out BK617.out) hb); have n10_ := am (Kd.R_below (zy3 HO612.out BK617.out) hb); have n11_ := am (Kd.R_below (zy3 HO615.out BK617.out) hb); have n12_ := am (Kd.R_lower (Kd.R_new' (Kd.R_new' (Kd.R_new' ho0 (Kd.R_lt (zy3 HO587.out BK617.out))) (Kd.R_lt (zy3 HO592.out BK617.out))) (Kd.R_lt (zy3 HO606.out BK617.out))) (below_size (zl3 HB.out GE584.out GE603.out GE617.out))); have n13_ := am (blk_below (g := gb584) (o := .cells #[.slice Ao40 y575.length co40, .slice Ao39 y578.length co39, .slice Ao38 y581.length co38] 31 (0, 0)) (by refine zb ?_; refine blk_far ?_ NB584_617.out _; refine zb ?_; refine blk_far ?_ NB584_617.out _; refine zb ?_; refine blk_far ?_ NB584_617.out _; refine zb ?_; exact BK584.out) hb); have n14_ := am (blk_below (g := gb603) (o := .cells #[.slice Ao52 t593.length co52, .slice Ao55 t596.length co55, .slice Ao56 t599.length co56] 31 (0, 0)) (by refine zb ?_; refine blk_far ?_ NB603_617.out _; refine zb ?_; refine blk_far ?_ NB603_617.out _; refine zb ?_; refine blk_far ?_ NB603_617.out _; refine zb ?_; exact BK603.out) hb); have n15_ := am (blk_below (g := gb617) (o := .cells #[.slice Ao64 t607.length co64, .slice Ao66 t610.length co66, .slice Ao68 t613.length co68] 31 (0, 0)) (by refine zb ?_; refine blk_put (cs := #[.slice Ao64 t607.length co64, .slice Ao66 t610.length co66, .slice none 0 0]) ?_ 2 _ rfl; refine zb ?_; refine blk_put (cs := #[.slice Ao64 t607.length co64, .slice none 0 0, .slice none 0 0]) ?_ 1 _ rfl; refine zb ?_; refine blk_put (cs := #[.slice none 0 0, .slice none 0 0, .slice none 0 0]) ?_ 0 _ rfl; refine zb ?_; exact BK617.out) hb); have n16_ := am (below_step (zl3 HB.out GE584.out GE603.out GE617.out) hb); clear HO577 HO580; clear HO583 HO587; clear HO592 HO595; clear HO598 HO601; clear HO606 HO609; clear HO612 HO615; clear BK584 BK603; clear BK617 HB; have HO577 := n0_; have HO580 := n1_; have HO583 := n2_; have HO587 := n3_; have HO592 := n4_; have HO595 := n5_; have HO598 := n6_; have HO601 := n7_; have HO606 := n8_; have HO609 := n9_; have HO612 := n10_; have HO615 := n11_; have HO620 := n12_; have BK584 := n13_; have BK603 := n14_; have BK617 := n15_; have HB := n16_; clear n0_ n1_ n2_ n3_ n4_ n5_ n6_ n7_ n8_ n9_ n10_ n11_ n12_ n13_ n14_ n15_ n16_; (try clear hb); (try clear hb2); (try clear hk); (try clear hi); (try clear ho0); obtain ⟨Ao71, co71, eo71⟩ := Kd.R_slice HO620.out; subst eo71) | ((with_reducible refine gate_callee (f := 18) rfl ?_); refine goesL_ (some 41) rfl rfl Tryz.func18 (by kernel_rfl) rfl #[.agg #[.slice Ao71 t618.length co71], .int .i64 0, .string (⟨#[]⟩ : ByteArray)] rfl zm ?_; (with_reducible refine (page_Get.calls k _ _ t618 0 (⟨#[]⟩ : ByteArray) t621 t624 t627 t630 _ ?side1 ?side2 ?side3 A12.out).mono ?_); (case side1 => exact zc (Kd.R_reads' HO620.out).2.2); (case side2 => exact (Kd.R_reads' HO620.out).2.1); (case side3 => exact GL.below HG.out (zl3 HB.out GE584.out GE603.out GE617.out)); rintro e w72 ⟨v622, v625, v628, rfl, ho0, ho1, ho2, hb⟩; refine ⟨_, rfl, ?_⟩; have n0_ := am (Kd.R_mono (Kd.R_told (Kd.R_told (Kd.R_old (zr HO577.out) hb) (Kd.R_base ho0)) (Kd.R_base ho1)) (fun _ h_ => h_.1)); have n1_ := am (Kd.R_mono (Kd.R_told (Kd.R_told (Kd.R_old (zr HO580.out) hb) (Kd.R_base ho0)) (Kd.R_base ho1)) (fun _ h_ => h_.1)); have n2_ := am (Kd.R_elder' (zr HO583.out) (Kd.R_base ho2) hb); have n3_ := am (Kd.R_below (zr HO587.out) hb); have n4_ := am (Kd.R_below (zr HO592.out) hb); have n5_ := am (Kd.R_mono (Kd.R_told (Kd.R_told (Kd.R_old (zr HO595.out) hb) (Kd.R_base ho0)) (Kd.R_base ho1)) (fun _ h_ => h_.1)); have n6_ := am (Kd.R_mono (Kd.R_told (Kd.R_told (Kd.R_old (zr HO598.out) hb) (Kd.R_base ho0)) (Kd.R_base ho1)) (fun _ h_ => h_.1)); have n7_ := am (Kd.R_elder' (zr HO601.out) (Kd.R_base ho2) hb); have n8_ := am (Kd.R_below (zr HO606.out) hb); have n9_ := am (Kd.R_mono (Kd.R_told (Kd.R_told (Kd.R_old (zr HO609.out) hb) (Kd.R_base ho0)) (Kd.R_base ho1)) (fun _ h_ => h_.1)); have n10_ := am (Kd.R_mono (Kd.R_told (Kd.R_told (Kd.R_old (zr HO612.out) hb) (Kd.R_base ho0)) (Kd.R_base ho1)) (fun _ h_ => h_.1)); have n11_ := am (Kd.R_elder' (zr HO615.out) (Kd.R_base ho2) hb); have n12_ := am (Kd.R_below (zr HO620.out) hb); have n13_ := am (Kd.R_lower (Kd.R_new' (Kd.R_new' (Kd.R_new' (Kd.R_new' (Kd.R_new' (Kd.R_new' ho0 (Kd.R_lt (zr HO577.out))) (Kd.R_lt (zr HO580.out))) (Kd.R_lt (zr HO595.out))) (Kd.R_lt (zr HO598.out))) (Kd.R_lt (zr HO609.out))) (Kd.R_lt (zr HO612.out))) (below_size (zl3 HB.out GE584.out GE603.out GE617.out))); have n14_ := am (Kd.R_lower (Kd.R_new' (Kd.R_new' (Kd.R_new' (Kd.R_new' (Kd.R_new' (Kd.R_new' ho1 (Kd.R_lt (zr HO577.out))) (Kd.R_lt (zr HO580.out))) (Kd.R_lt (zr HO595.out))) (Kd.R_lt (zr HO598.out))) (Kd.R_lt (zr HO609.out))) (Kd.R_lt (zr HO612.out))) (below_size (zl3 HB.out GE584.out GE603.out GE617.out))); have n15_ := am (Kd.R_lower (Kd.R_new' (Kd.R_new' (Kd.R_new' ho2 (Kd.R_lt (zr HO583.out))) (Kd.R_lt (zr HO601.out))) (Kd.R_lt (zr HO615.out))) (below_size (zl3 HB.out GE584.out GE603.out GE617.out))); have n16_ := am (zbb BK584.out hb); have n17_ := am (zbb BK603.out hb); have n18_ := am (zbb BK617.out hb); have n19_ := am (below_step (zl3 HB.out GE584.out GE603.out GE617.out) hb); clear HO577 HO580; clear HO583 HO587; clear HO592 HO595; clear HO598 HO601; clear HO606 HO609; clear HO612 HO615; clear HO620 BK584; clear BK603 BK617 HB; have HO577 := n0_; have HO580 := n1_; have HO583 := n2_; have HO587 := n3_; have HO592 := n4_; have HO595 := n5_; have HO598 := n6_; have HO601 := n7_; have HO606 := n8_; have HO609 := n9_; have HO612 := n10_; have HO615 := n11_; have HO620 := n12_; have HO623 := n13_; have HO626 := n14_; have HO629 := n15_; have BK584 := n16_; have BK603 := n17_; have BK617 := n18_; have HB := n19_; clear n0_ n1_ n2_ n3_ n4_ n5_ n6_ n7_ n8_ n9_ n10_ n11_ n12_ n13_ n14_ n15_ n16_ n17_ n18_ n19_; (try clear hb); (try clear hb2); (try clear hk); (try clear hi); (try clear ho0); (try clear ho1); (try clear ho2)) | ((with_reducible refine gate_dst (N := 8) rfl ?_); refine box_event ?hg (N := 8) ?hd (cs := #[.slice none 0 0, .slice none 0 0, .slice none 0 0]) (t := 31) ?hr ?_; (case hd => rfl); (case hg => rfl); (case hr => exact zh); intro gb631 hg w73 hbox hb; have n0_ := am (Kd.R_below (zr HO577.out) hb); have n1_ := am (Kd.R_below (zr HO580.out) hb); have n2_ := am (Kd.R_below (zr HO583.out) hb); have n3_ := am (Kd.R_below (zr HO587.out) hb); have n4_ := am (Kd.R_below (zr HO592.out) hb); have n5_ := am (Kd.R_below (zr HO595.out) hb); have n6_ := am (Kd.R_below (zr HO598.out) hb); have n7_ := am (Kd.R_below (zr HO601.out) hb); have n8_ := am (Kd.R_below (zr HO606.out) hb); have n9_ := am (Kd.R_below (zr HO609.out) hb); have n10_ := am (Kd.R_below (zr HO612.out) hb); have n11_ := am (Kd.R_below (zr HO615.out) hb); have n12_ := am (Kd.R_below (zr HO620.out) hb); have n13_ := am (Kd.R_below (zr HO623.out) hb); have n14_ := am (Kd.R_below (zr HO626.out) hb); have n15_ := am (Kd.R_below (zr HO629.out) hb); have n16_ := am (zbb BK584.out hb); have n17_ := am (zbb BK603.out hb); have n18_ := am (zbb BK617.out hb); have n19_ := am (below_step (zl3 HB.out GE584.out GE603.out GE617.out) hb); have n20_ := am (hbox); have n21_ := am ((by rw [hg]; exact (below_size (zl3 HB.out GE584.out GE603.out GE617.out)) : w.heap.size ≤ gb631)); have n22_ := am ((by rw [hg]; exact (below_size (zl3 HB.out GE584.out GE603.out GE617.out)) : w.heap.size ≤ gb631)); have n23_ := am ((by rw [hg]; exact Nat.ne_of_lt (blk_lt (g := gb584) (o := .cells #[.slice Ao40 y575.length co40, .slice Ao39 y578.length co39, .slice Ao38 y581.length co38] 31 (0, 0)) (zb BK584.out)) : gb584 ≠ gb631)); have n24_ := am ((by rw [hg]; exact Nat.ne_of_gt (blk_lt (g := gb584) (o := .cells #[.slice Ao40 y575.length co40, .slice Ao39 y578.length co39, .slice Ao38 y581.length co38] 31 (0, 0)) (zb BK584.out)) : gb631 ≠ gb584)); have n25_ := am ((by rw [hg]; exact Nat.ne_of_lt (blk_lt (g := gb603) (o := .cells #[.slice Ao52 t593.length co52, .slice Ao55 t596.length co55, .slice Ao56 t599.length co56] 31 (0, 0)) (zb BK603.out)) : gb603 ≠ gb631)); have n26_ := am ((by rw [hg]; exact Nat.ne_of_gt (blk_lt (g := gb603) (o := .cells #[.slice Ao52 t593.length co52, .slice Ao55 t596.length co55, .slice Ao56 t599.length co56] 31 (0, 0)) (zb BK603.out)) : gb631 ≠ gb603)); have n27_ := am ((by rw [hg]; exact Nat.ne_of_lt (blk_lt (g := gb617) (o := .cells #[.slice Ao64 t607.length co64, .slice Ao66 t610.length co66, .slice Ao68 t613.length co68] 31 (0, 0)) (zb BK617.out)) : gb617 ≠ gb631)); have n28_ := am ((by rw [hg]; exact Nat.ne_of_gt (blk_lt (g := gb617) (o := .cells #[.slice Ao64 t607.length co64, .slice Ao66 t610.length co66, .slice Ao68 t613.length co68] 31 (0, 0)) (zb BK617.out)) : gb631 ≠ gb617)); clear HO577 HO580; clear HO583 HO587; clear HO592 HO595; clear HO598 HO601; clear HO606 HO609; clear HO612 HO615; clear HO620 HO623; clear HO626 HO629; clear BK584 BK603; clear BK617 HB; have HO577 := n0_; have HO580 := n1_; have HO583 := n2_; have HO587 := n3_; have HO592 := n4_; have HO595 := n5_; have HO598 := n6_; have HO601 := n7_; have HO606 := n8_; have HO609 := n9_; have HO612 := n10_; have HO615 := n11_; have HO620 := n12_; have HO623 := n13_; have HO626 := n14_; have HO629 := n15_; have BK584 := n16_; have BK603 := n17_; have BK617 := n18_; have HB := n19_; have BK631 := n20_; have GW631 := n21_; have GE631 := n22_; have NB584_631 := n23_; have NB631_584 := n24_; have NB603_631 := n25_; have NB631_603 := n26_; have NB617_631 := n27_; have NB631_617 := n28_; clear n0_ n1_ n2_ n3_ n4_ n5_ n6_ n7_ n8_ n9_ n10_ n11_ n12_ n13_ n14_ n15_ n16_ n17_ n18_ n19_ n20_ n21_ n22_ n23_ n24_ n25_ n26_ n27_ n28_; clear hb hbox hg; obtain ⟨Ao74, co74, eo74⟩ := Kd.R_slice HO623.out; subst eo74; have hnb75 := NB631_584.out; have hnc75 := NB584_631.out; have hnb76 := NB631_603.out; have hnc76 := NB603_631.out; have hnb77 := NB631_617.out; have hnc77 := NB617_631.out; have hcz78_0 : w73.cell? ⟨gb631, 0, none⟩ = some (.slice none 0 0) := (blk_cell BK631.out 0).trans rfl; have hcz78_1 : w73.cell? ⟨gb631, 1, none⟩ = some (.slice none 0 0) := (blk_cell BK631.out 1).trans rfl; have hcz78_2 : w73.cell? ⟨gb631, 2, none⟩ = some (.slice none 0 0) := (blk_cell BK631.out 2).trans rfl; have hfz78_0 := blk_frozen BK631.out 0; have hfz78_1 := blk_frozen BK631.out 1; have hfz78_2 := blk_frozen BK631.out 2; obtain ⟨Ao79, co79, eo79⟩ := Kd.R_slice HO626.out; subst eo79; obtain ⟨Ao80, co80, eo80⟩ := Kd.R_slice HO629.out; subst eo80))
              have n0_ : Aside0 (Kd.R (Kd.int .i64) 3 (((w73.setCell ⟨gb631, 0, none⟩ (.slice Ao74 t621.length co74)).setCell ⟨gb631, 1, none⟩ (.slice Ao79 t624.length co79)).setCell ⟨gb631, 2, none⟩ (.slice Ao80 t627.length co80)) w.heap.size (fun k_ => some k_ ≠ (.slice Ao39 y578.length co39 : Value).ownBlock ∧ some k_ ≠ (.slice Ao52 t593.length co52 : Value).ownBlock ∧ some k_ ≠ (.slice Ao55 t596.length co55 : Value).ownBlock ∧ some k_ ≠ (.slice Ao64 t607.length co64 : Value).ownBlock ∧ some k_ ≠ (.slice Ao66 t610.length co66 : Value).ownBlock ∧ some k_ ≠ (.slice Ao74 t621.length co74 : Value).ownBlock ∧ some k_ ≠ (.slice Ao79 t624.length co79 : Value).ownBlock) (.slice Ao40 y575.length co40) y575) := ⟨by refine zr ?_; exact Kd.R_mono (zf3 _ _ _ HO577.out BK631.out) (fun _ hk => ⟨hk.1.1.1.1, ⟨hk.1.1.1.2.1, ⟨hk.1.1.1.2.2.1, ⟨hk.1.1.1.2.2.2.1, ⟨hk.1.1.1.2.2.2.2, ⟨hk.1.1.2, hk.1.2⟩⟩⟩⟩⟩⟩)⟩
              have n1_ : Aside0 (Kd.R (Kd.int .i64) 3 (((w73.setCell ⟨gb631, 0, none⟩ (.slice Ao74 t621.length co74)).setCell ⟨gb631, 1, none⟩ (.slice Ao79 t624.length co79)).setCell ⟨gb631, 2, none⟩ (.slice Ao80 t627.length co80)) w.heap.size (fun k_ => some k_ ≠ (.slice Ao40 y575.length co40 : Value).ownBlock ∧ some k_ ≠ (.slice Ao52 t593.length co52 : Value).ownBlock ∧ some k_ ≠ (.slice Ao55 t596.length co55 : Value).ownBlock ∧ some k_ ≠ (.slice Ao64 t607.length co64 : Value).ownBlock ∧ some k_ ≠ (.slice Ao66 t610.length co66 : Value).ownBlock ∧ some k_ ≠ (.slice Ao74 t621.length co74 : Value).ownBlock ∧ some k_ ≠ (.slice Ao79 t624.length co79 : Value).ownBlock) (.slice Ao39 y578.length co39) y578) := ⟨by refine zr ?_; exact Kd.R_mono (zf3 _ _ _ HO580.out BK631.out) (fun _ hk => ⟨hk.1.1.1.1, ⟨hk.1.1.1.2.1, ⟨hk.1.1.1.2.2.1, ⟨hk.1.1.1.2.2.2.1, ⟨hk.1.1.1.2.2.2.2, ⟨hk.1.1.2, hk.1.2⟩⟩⟩⟩⟩⟩)⟩
              have n2_ : Aside0 (Kd.R Kd.string 9 (((w73.setCell ⟨gb631, 0, none⟩ (.slice Ao74 t621.length co74)).setCell ⟨gb631, 1, none⟩ (.slice Ao79 t624.length co79)).setCell ⟨gb631, 2, none⟩ (.slice Ao80 t627.length co80)) w.heap.size (fun k_ => some k_ ≠ (.slice Ao56 t599.length co56 : Value).ownBlock ∧ some k_ ≠ (.slice Ao68 t613.length co68 : Value).ownBlock ∧ some k_ ≠ (.slice Ao80 t627.length co80 : Value).ownBlock) (.slice Ao38 y581.length co38) y581) := ⟨by refine zr ?_; exact Kd.R_mono (zf3 _ _ _ HO583.out BK631.out) (fun _ hk => ⟨hk.1.1.1, ⟨hk.1.1.2, hk.1.2⟩⟩)⟩
              have n3_ : Aside0 (Kd.R k24 24 (((w73.setCell ⟨gb631, 0, none⟩ (.slice Ao74 t621.length co74)).setCell ⟨gb631, 1, none⟩ (.slice Ao79 t624.length co79)).setCell ⟨gb631, 2, none⟩ (.slice Ao80 t627.length co80)) w.heap.size (fun k_ => some k_ ≠ (.slice Ao49 t590.length co49 : Value).ownBlock ∧ some k_ ≠ (v605 : Value).ownBlock ∧ some k_ ≠ (.slice Ao71 t618.length co71 : Value).ownBlock) (.slice Ao46 t585.length co46) t585) := ⟨by refine zr ?_; exact Kd.R_mono (zf3 _ _ _ HO587.out BK631.out) (fun _ hk => ⟨hk.1.1.1, ⟨hk.1.1.2, hk.1.2⟩⟩)⟩
              have n4_ : Aside0 (Kd.R k24 24 (((w73.setCell ⟨gb631, 0, none⟩ (.slice Ao74 t621.length co74)).setCell ⟨gb631, 1, none⟩ (.slice Ao79 t624.length co79)).setCell ⟨gb631, 2, none⟩ (.slice Ao80 t627.length co80)) w.heap.size (fun k_ => some k_ ≠ (.slice Ao46 t585.length co46 : Value).ownBlock ∧ some k_ ≠ (v605 : Value).ownBlock ∧ some k_ ≠ (.slice Ao71 t618.length co71 : Value).ownBlock) (.slice Ao49 t590.length co49) t590) := ⟨by refine zr ?_; exact Kd.R_mono (zf3 _ _ _ HO592.out BK631.out) (fun _ hk => ⟨hk.1.1.1, ⟨hk.1.1.2, hk.1.2⟩⟩)⟩
              have n5_ : Aside0 (Kd.R (Kd.int .i64) 3 (((w73.setCell ⟨gb631, 0, none⟩ (.slice Ao74 t621.length co74)).setCell ⟨gb631, 1, none⟩ (.slice Ao79 t624.length co79)).setCell ⟨gb631, 2, none⟩ (.slice Ao80 t627.length co80)) w.heap.size (fun k_ => some k_ ≠ (.slice Ao40 y575.length co40 : Value).ownBlock ∧ some k_ ≠ (.slice Ao39 y578.length co39 : Value).ownBlock ∧ some k_ ≠ (.slice Ao55 t596.length co55 : Value).ownBlock ∧ some k_ ≠ (.slice Ao64 t607.length co64 : Value).ownBlock ∧ some k_ ≠ (.slice Ao66 t610.length co66 : Value).ownBlock ∧ some k_ ≠ (.slice Ao74 t621.length co74 : Value).ownBlock ∧ some k_ ≠ (.slice Ao79 t624.length co79 : Value).ownBlock) (.slice Ao52 t593.length co52) t593) := ⟨by refine zr ?_; exact Kd.R_mono (zf3 _ _ _ HO595.out BK631.out) (fun _ hk => ⟨hk.1.1.1.1, ⟨hk.1.1.1.2.1, ⟨hk.1.1.1.2.2.1, ⟨hk.1.1.1.2.2.2.1, ⟨hk.1.1.1.2.2.2.2, ⟨hk.1.1.2, hk.1.2⟩⟩⟩⟩⟩⟩)⟩
              have n6_ : Aside0 (Kd.R (Kd.int .i64) 3 (((w73.setCell ⟨gb631, 0, none⟩ (.slice Ao74 t621.length co74)).setCell ⟨gb631, 1, none⟩ (.slice Ao79 t624.length co79)).setCell ⟨gb631, 2, none⟩ (.slice Ao80 t627.length co80)) w.heap.size (fun k_ => some k_ ≠ (.slice Ao40 y575.length co40 : Value).ownBlock ∧ some k_ ≠ (.slice Ao39 y578.length co39 : Value).ownBlock ∧ some k_ ≠ (.slice Ao52 t593.length co52 : Value).ownBlock ∧ some k_ ≠ (.slice Ao64 t607.length co64 : Value).ownBlock ∧ some k_ ≠ (.slice Ao66 t610.length co66 : Value).ownBlock ∧ some k_ ≠ (.slice Ao74 t621.length co74 : Value).ownBlock ∧ some k_ ≠ (.slice Ao79 t624.length co79 : Value).ownBlock) (.slice Ao55 t596.length co55) t596) := ⟨by refine zr ?_; exact Kd.R_mono (zf3 _ _ _ HO598.out BK631.out) (fun _ hk => ⟨hk.1.1.1.1, ⟨hk.1.1.1.2.1, ⟨hk.1.1.1.2.2.1, ⟨hk.1.1.1.2.2.2.1, ⟨hk.1.1.1.2.2.2.2, ⟨hk.1.1.2, hk.1.2⟩⟩⟩⟩⟩⟩)⟩
              have n7_ : Aside0 (Kd.R Kd.string 9 (((w73.setCell ⟨gb631, 0, none⟩ (.slice Ao74 t621.length co74)).setCell ⟨gb631, 1, none⟩ (.slice Ao79 t624.length co79)).setCell ⟨gb631, 2, none⟩ (.slice Ao80 t627.length co80)) w.heap.size (fun k_ => some k_ ≠ (.slice Ao38 y581.length co38 : Value).ownBlock ∧ some k_ ≠ (.slice Ao68 t613.length co68 : Value).ownBlock ∧ some k_ ≠ (.slice Ao80 t627.length co80 : Value).ownBlock) (.slice Ao56 t599.length co56) t599) := ⟨by refine zr ?_; exact Kd.R_mono (zf3 _ _ _ HO601.out BK631.out) (fun _ hk => ⟨hk.1.1.1, ⟨hk.1.1.2, hk.1.2⟩⟩)⟩
              have n8_ : Aside0 (Kd.R k24 24 (((w73.setCell ⟨gb631, 0, none⟩ (.slice Ao74 t621.length co74)).setCell ⟨gb631, 1, none⟩ (.slice Ao79 t624.length co79)).setCell ⟨gb631, 2, none⟩ (.slice Ao80 t627.length co80)) w.heap.size (fun k_ => some k_ ≠ (.slice Ao46 t585.length co46 : Value).ownBlock ∧ some k_ ≠ (.slice Ao49 t590.length co49 : Value).ownBlock ∧ some k_ ≠ (.slice Ao71 t618.length co71 : Value).ownBlock) v605 t604) := ⟨by refine zr ?_; exact Kd.R_mono (zf3 _ _ _ HO606.out BK631.out) (fun _ hk => ⟨hk.1.1.1, ⟨hk.1.1.2, hk.1.2⟩⟩)⟩
              have n9_ : Aside0 (Kd.R (Kd.int .i64) 3 (((w73.setCell ⟨gb631, 0, none⟩ (.slice Ao74 t621.length co74)).setCell ⟨gb631, 1, none⟩ (.slice Ao79 t624.length co79)).setCell ⟨gb631, 2, none⟩ (.slice Ao80 t627.length co80)) w.heap.size (fun k_ => some k_ ≠ (.slice Ao40 y575.length co40 : Value).ownBlock ∧ some k_ ≠ (.slice Ao39 y578.length co39 : Value).ownBlock ∧ some k_ ≠ (.slice Ao52 t593.length co52 : Value).ownBlock ∧ some k_ ≠ (.slice Ao55 t596.length co55 : Value).ownBlock ∧ some k_ ≠ (.slice Ao66 t610.length co66 : Value).ownBlock ∧ some k_ ≠ (.slice Ao74 t621.length co74 : Value).ownBlock ∧ some k_ ≠ (.slice Ao79 t624.length co79 : Value).ownBlock) (.slice Ao64 t607.length co64) t607) := ⟨by refine zr ?_; exact Kd.R_mono (zf3 _ _ _ HO609.out BK631.out) (fun _ hk => ⟨hk.1.1.1.1, ⟨hk.1.1.1.2.1, ⟨hk.1.1.1.2.2.1, ⟨hk.1.1.1.2.2.2.1, ⟨hk.1.1.1.2.2.2.2, ⟨hk.1.1.2, hk.1.2⟩⟩⟩⟩⟩⟩)⟩
              have n10_ : Aside0 (Kd.R (Kd.int .i64) 3 (((w73.setCell ⟨gb631, 0, none⟩ (.slice Ao74 t621.length co74)).setCell ⟨gb631, 1, none⟩ (.slice Ao79 t624.length co79)).setCell ⟨gb631, 2, none⟩ (.slice Ao80 t627.length co80)) w.heap.size (fun k_ => some k_ ≠ (.slice Ao40 y575.length co40 : Value).ownBlock ∧ some k_ ≠ (.slice Ao39 y578.length co39 : Value).ownBlock ∧ some k_ ≠ (.slice Ao52 t593.length co52 : Value).ownBlock ∧ some k_ ≠ (.slice Ao55 t596.length co55 : Value).ownBlock ∧ some k_ ≠ (.slice Ao64 t607.length co64 : Value).ownBlock ∧ some k_ ≠ (.slice Ao74 t621.length co74 : Value).ownBlock ∧ some k_ ≠ (.slice Ao79 t624.length co79 : Value).ownBlock) (.slice Ao66 t610.length co66) t610) := ⟨by refine zr ?_; exact Kd.R_mono (zf3 _ _ _ HO612.out BK631.out) (fun _ hk => ⟨hk.1.1.1.1, ⟨hk.1.1.1.2.1, ⟨hk.1.1.1.2.2.1, ⟨hk.1.1.1.2.2.2.1, ⟨hk.1.1.1.2.2.2.2, ⟨hk.1.1.2, hk.1.2⟩⟩⟩⟩⟩⟩)⟩
              have n11_ : Aside0 (Kd.R Kd.string 9 (((w73.setCell ⟨gb631, 0, none⟩ (.slice Ao74 t621.length co74)).setCell ⟨gb631, 1, none⟩ (.slice Ao79 t624.length co79)).setCell ⟨gb631, 2, none⟩ (.slice Ao80 t627.length co80)) w.heap.size (fun k_ => some k_ ≠ (.slice Ao38 y581.length co38 : Value).ownBlock ∧ some k_ ≠ (.slice Ao56 t599.length co56 : Value).ownBlock ∧ some k_ ≠ (.slice Ao80 t627.length co80 : Value).ownBlock) (.slice Ao68 t613.length co68) t613) := ⟨by refine zr ?_; exact Kd.R_mono (zf3 _ _ _ HO615.out BK631.out) (fun _ hk => ⟨hk.1.1.1, ⟨hk.1.1.2, hk.1.2⟩⟩)⟩
              have n12_ : Aside0 (Kd.R k24 24 (((w73.setCell ⟨gb631, 0, none⟩ (.slice Ao74 t621.length co74)).setCell ⟨gb631, 1, none⟩ (.slice Ao79 t624.length co79)).setCell ⟨gb631, 2, none⟩ (.slice Ao80 t627.length co80)) w.heap.size (fun k_ => some k_ ≠ (.slice Ao46 t585.length co46 : Value).ownBlock ∧ some k_ ≠ (.slice Ao49 t590.length co49 : Value).ownBlock ∧ some k_ ≠ (v605 : Value).ownBlock) (.slice Ao71 t618.length co71) t618) := ⟨by refine zr ?_; exact Kd.R_mono (zf3 _ _ _ HO620.out BK631.out) (fun _ hk => ⟨hk.1.1.1.2, ⟨hk.1.1.2, hk.1.2⟩⟩)⟩
              have n13_ : Aside0 (Kd.R (Kd.int .i64) 3 (((w73.setCell ⟨gb631, 0, none⟩ (.slice Ao74 t621.length co74)).setCell ⟨gb631, 1, none⟩ (.slice Ao79 t624.length co79)).setCell ⟨gb631, 2, none⟩ (.slice Ao80 t627.length co80)) w.heap.size (fun k_ => some k_ ≠ (.slice Ao40 y575.length co40 : Value).ownBlock ∧ some k_ ≠ (.slice Ao39 y578.length co39 : Value).ownBlock ∧ some k_ ≠ (.slice Ao52 t593.length co52 : Value).ownBlock ∧ some k_ ≠ (.slice Ao55 t596.length co55 : Value).ownBlock ∧ some k_ ≠ (.slice Ao64 t607.length co64 : Value).ownBlock ∧ some k_ ≠ (.slice Ao66 t610.length co66 : Value).ownBlock ∧ some k_ ≠ (.slice Ao79 t624.length co79 : Value).ownBlock) (.slice Ao74 t621.length co74) t621) := ⟨by refine zr ?_; exact Kd.R_mono (zf3 _ _ _ HO623.out BK631.out) (fun _ hk => ⟨hk.1.1.1.1.1.1.2, ⟨hk.1.1.1.1.1.2, ⟨hk.1.1.1.1.2, ⟨hk.1.1.1.2, ⟨hk.1.1.2, ⟨hk.1.2, hk.1.1.1.1.1.1.1⟩⟩⟩⟩⟩⟩)⟩
              have n14_ : Aside0 (Kd.R (Kd.int .i64) 3 (((w73.setCell ⟨gb631, 0, none⟩ (.slice Ao74 t621.length co74)).setCell ⟨gb631, 1, none⟩ (.slice Ao79 t624.length co79)).setCell ⟨gb631, 2, none⟩ (.slice Ao80 t627.length co80)) w.heap.size (fun k_ => some k_ ≠ (.slice Ao40 y575.length co40 : Value).ownBlock ∧ some k_ ≠ (.slice Ao39 y578.length co39 : Value).ownBlock ∧ some k_ ≠ (.slice Ao52 t593.length co52 : Value).ownBlock ∧ some k_ ≠ (.slice Ao55 t596.length co55 : Value).ownBlock ∧ some k_ ≠ (.slice Ao64 t607.length co64 : Value).ownBlock ∧ some k_ ≠ (.slice Ao66 t610.length co66 : Value).ownBlock ∧ some k_ ≠ (.slice Ao74 t621.length co74 : Value).ownBlock) (.slice Ao79 t624.length co79) t624) := ⟨by refine zr ?_; exact Kd.R_mono (zf3 _ _ _ HO626.out BK631.out) (fun _ hk => ⟨hk.1.1.1.1.1.1.2, ⟨hk.1.1.1.1.1.2, ⟨hk.1.1.1.1.2, ⟨hk.1.1.1.2, ⟨hk.1.1.2, ⟨hk.1.2, hk.1.1.1.1.1.1.1⟩⟩⟩⟩⟩⟩)⟩
              have n15_ : Aside0 (Kd.R Kd.string 9 (((w73.setCell ⟨gb631, 0, none⟩ (.slice Ao74 t621.length co74)).setCell ⟨gb631, 1, none⟩ (.slice Ao79 t624.length co79)).setCell ⟨gb631, 2, none⟩ (.slice Ao80 t627.length co80)) w.heap.size (fun k_ => some k_ ≠ (.slice Ao38 y581.length co38 : Value).ownBlock ∧ some k_ ≠ (.slice Ao56 t599.length co56 : Value).ownBlock ∧ some k_ ≠ (.slice Ao68 t613.length co68 : Value).ownBlock) (.slice Ao80 t627.length co80) t627) := ⟨by refine zr ?_; exact Kd.R_mono (zf3 _ _ _ HO629.out BK631.out) (fun _ hk => ⟨hk.1.1.1.2, ⟨hk.1.1.2, hk.1.2⟩⟩)⟩
              have n16_ : Aside0 ((((w73.setCell ⟨gb631, 0, none⟩ (.slice Ao74 t621.length co74)).setCell ⟨gb631, 1, none⟩ (.slice Ao79 t624.length co79)).setCell ⟨gb631, 2, none⟩ (.slice Ao80 t627.length co80)).heap[gb584]? = some (.cells #[.slice Ao40 y575.length co40, .slice Ao39 y578.length co39, .slice Ao38 y581.length co38] 31 (0, 0))) := ⟨by refine zb ?_; refine blk_far ?_ NB584_631.out _; refine zb ?_; refine blk_far ?_ NB584_631.out _; refine zb ?_; refine blk_far ?_ NB584_631.out _; refine zb ?_; exact BK584.out⟩
              have n17_ : Aside0 ((((w73.setCell ⟨gb631, 0, none⟩ (.slice Ao74 t621.length co74)).setCell ⟨gb631, 1, none⟩ (.slice Ao79 t624.length co79)).setCell ⟨gb631, 2, none⟩ (.slice Ao80 t627.length co80)).heap[gb603]? = some (.cells #[.slice Ao52 t593.length co52, .slice Ao55 t596.length co55, .slice Ao56 t599.length co56] 31 (0, 0))) := ⟨by refine zb ?_; refine blk_far ?_ NB603_631.out _; refine zb ?_; refine blk_far ?_ NB603_631.out _; refine zb ?_; refine blk_far ?_ NB603_631.out _; refine zb ?_; exact BK603.out⟩
              have n18_ : Aside0 ((((w73.setCell ⟨gb631, 0, none⟩ (.slice Ao74 t621.length co74)).setCell ⟨gb631, 1, none⟩ (.slice Ao79 t624.length co79)).setCell ⟨gb631, 2, none⟩ (.slice Ao80 t627.length co80)).heap[gb617]? = some (.cells #[.slice Ao64 t607.length co64, .slice Ao66 t610.length co66, .slice Ao68 t613.length co68] 31 (0, 0))) := ⟨by refine zb ?_; refine blk_far ?_ NB617_631.out _; refine zb ?_; refine blk_far ?_ NB617_631.out _; refine zb ?_; refine blk_far ?_ NB617_631.out _; refine zb ?_; exact BK617.out⟩
              have n19_ : Aside0 ((((w73.setCell ⟨gb631, 0, none⟩ (.slice Ao74 t621.length co74)).setCell ⟨gb631, 1, none⟩ (.slice Ao79 t624.length co79)).setCell ⟨gb631, 2, none⟩ (.slice Ao80 t627.length co80)).heap[gb631]? = some (.cells #[.slice Ao74 t621.length co74, .slice Ao79 t624.length co79, .slice Ao80 t627.length co80] 31 (0, 0))) := ⟨by refine zb ?_; refine blk_put (cs := #[.slice Ao74 t621.length co74, .slice Ao79 t624.length co79, .slice none 0 0]) ?_ 2 _ rfl; refine zb ?_; refine blk_put (cs := #[.slice Ao74 t621.length co74, .slice none 0 0, .slice none 0 0]) ?_ 1 _ rfl; refine zb ?_; refine blk_put (cs := #[.slice none 0 0, .slice none 0 0, .slice none 0 0]) ?_ 0 _ rfl; refine zb ?_; exact BK631.out⟩
              have n20_ : Aside0 (Below w.heap.size w (((w73.setCell ⟨gb631, 0, none⟩ (.slice Ao74 t621.length co74)).setCell ⟨gb631, 1, none⟩ (.slice Ao79 t624.length co79)).setCell ⟨gb631, 2, none⟩ (.slice Ao80 t627.length co80))) := ⟨zl4 HB.out GE584.out GE603.out GE617.out GE631.out⟩
              (try clear HO577)
              (try clear HO580)
              (try clear HO583)
              (try clear HO587)
              (try clear HO592)
              (try clear HO595)
              (try clear HO598)
              (try clear HO601)
              (try clear HO606)
              (try clear HO609)
              (try clear HO612)
              (try clear HO615)
              (try clear HO620)
              (try clear HO623)
              (try clear HO626)
              (try clear HO629)
              (try clear BK584)
              (try clear BK603)
              (try clear BK617)
              (try clear BK631)
              (try clear HB)
              generalize (((w73.setCell ⟨gb631, 0, none⟩ (.slice Ao74 t621.length co74)).setCell ⟨gb631, 1, none⟩ (.slice Ao79 t624.length co79)).setCell ⟨gb631, 2, none⟩ (.slice Ao80 t627.length co80)) = w81 at n0_ n1_ n2_ n3_ n4_ n5_ n6_ n7_ n8_ n9_ n10_ n11_ n12_ n13_ n14_ n15_ n16_ n17_ n18_ n19_ n20_ ⊢
              have HO577 := n0_
              have HO580 := n1_
              have HO583 := n2_
              have HO587 := n3_
              have HO592 := n4_
              have HO595 := n5_
              have HO598 := n6_
              have HO601 := n7_
              have HO606 := n8_
              have HO609 := n9_
              have HO612 := n10_
              have HO615 := n11_
              have HO620 := n12_
              have HO623 := n13_
              have HO626 := n14_
              have HO629 := n15_
              have BK584 := n16_
              have BK603 := n17_
              have BK617 := n18_
              have BK631 := n19_
              have HB := n20_
              clear n0_ n1_ n2_ n3_ n4_ n5_ n6_ n7_ n8_ n9_ n10_ n11_ n12_ n13_ n14_ n15_ n16_ n17_ n18_ n19_ n20_
              have n0_ := am (Kd.R_drew HO577.out)
              have n1_ := am (Kd.R_drew HO580.out)
              have n2_ := am (Kd.R_drew HO583.out)
              have n3_ := am (Kd.R_drew HO587.out)
              have n4_ := am (Kd.R_drew HO592.out)
              have n5_ := am (Kd.R_drew HO595.out)
              have n6_ := am (Kd.R_drew HO598.out)
              have n7_ := am (Kd.R_drew HO601.out)
              have n8_ := am (Kd.R_drew HO606.out)
              have n9_ := am (Kd.R_drew HO609.out)
              have n10_ := am (Kd.R_drew HO612.out)
              have n11_ := am (Kd.R_drew HO615.out)
              have n12_ := am (Kd.R_drew HO620.out)
              have n13_ := am (Kd.R_drew HO623.out)
              have n14_ := am (Kd.R_drew HO626.out)
              have n15_ := am (Kd.R_drew HO629.out)
              have n16_ := am (blk_drew BK584.out)
              have n17_ := am (blk_drew BK603.out)
              have n18_ := am (blk_drew BK617.out)
              have n19_ := am (blk_drew BK631.out)
              have n20_ := am (below_drew1 HB.out)
              clear HO577
              clear HO580
              clear HO583
              clear HO587
              clear HO592
              clear HO595
              clear HO598
              clear HO601
              clear HO606
              clear HO609
              clear HO612
              clear HO615
              clear HO620
              clear HO623
              clear HO626
              clear HO629
              clear BK584
              clear BK603
              clear BK617
              clear BK631
              clear HB
              have HO577 := n0_
              have HO580 := n1_
              have HO583 := n2_
              have HO587 := n3_
              have HO592 := n4_
              have HO595 := n5_
              have HO598 := n6_
              have HO601 := n7_
              have HO606 := n8_
              have HO609 := n9_
              have HO612 := n10_
              have HO615 := n11_
              have HO620 := n12_
              have HO623 := n13_
              have HO626 := n14_
              have HO629 := n15_
              have BK584 := n16_
              have BK603 := n17_
              have BK617 := n18_
              have BK631 := n19_
              have HB := n20_
              clear n0_ n1_ n2_ n3_ n4_ n5_ n6_ n7_ n8_ n9_ n10_ n11_ n12_ n13_ n14_ n15_ n16_ n17_ n18_ n19_ n20_
              refine start_ (n := 8) (S := fun w' => w'.cell? ⟨gb584, 0, none⟩ = some (.slice Ao40 y575.length co40) ∧ w'.cell? ⟨gb584, 1, none⟩ = some (.slice Ao39 y578.length co39) ∧ w'.cell? ⟨gb584, 2, none⟩ = some (.slice Ao38 y581.length co38)) (ds := []) #[false, false, false, false, false, false, false, false] (by kernel_rfl) rfl rfl ⟨(blk_cell BK584.out 0).trans rfl, (blk_cell BK584.out 1).trans rfl, (blk_cell BK584.out 2).trans rfl⟩ (fun hHeld => ?_); refine with_tabW quiverlaw22_awake.tab8 quiverlaw22_awake.bits8 (fun HT_ HW_ => ?_)
              generalize w81.drew = w82 at HO577 HO580 HO583 HO587 HO592 HO595 HO598 HO601 HO606 HO609 HO612 HO615 HO620 HO623 HO626 HO629 BK584 BK603 BK617 BK631 HB hHeld ⊢
              refine take_ (i := 1) (N := some 46) (v := ?_) (a' := ?_) #[false, true, false, false, false, false, false, false] rfl rfl (take_ofW HT_.out HW_.out (by kernel_rfl)) (fun _ _ _ h => h) (Or.inl ⟨by rfl, ?_⟩) hHeld ?_ ?_
              rotate_left
              ·
               rintro w' ⟨s0, s1, s2⟩
               go_simp
               first | (with_reducible rfl) | (rw [if_neg (by omega)])
              rotate_left
              ·
               simp only [Act.put, List.setIfInBounds_toArray, List.set_cons_zero, List.set_cons_succ, i64_w, i32_w]
               rfl
              refine one_ (i := 0) (N := some 45) #[true, true, false, false, false, false, false, false] rfl rfl (one_of HT_.out (by kernel_rfl)) (by decide) (fun K hK => ?_)
              refine goes_ Tryz.func16 (by kernel_rfl) rfl #[] (by rfl) rfl rfl zm ?_
              with_reducible refine (quiverlaw22_ints.calls  t632 _ A13.out).mono ?_
              rintro e w83 ⟨v633, rfl, ho0, hb⟩
              refine ⟨_, rfl, ?_⟩
              have n0_ := am (Kd.R_below (zr HO577.out) hb)
              have n1_ := am (Kd.R_below (zr HO580.out) hb)
              have n2_ := am (Kd.R_below (zr HO583.out) hb)
              have n3_ := am (Kd.R_elder' (zr HO587.out) (Kd.R_base ho0) hb)
              have n4_ := am (Kd.R_elder' (zr HO592.out) (Kd.R_base ho0) hb)
              have n5_ := am (Kd.R_below (zr HO595.out) hb)
              have n6_ := am (Kd.R_below (zr HO598.out) hb)
              have n7_ := am (Kd.R_below (zr HO601.out) hb)
              have n8_ := am (Kd.R_elder' (zr HO606.out) (Kd.R_base ho0) hb)
              have n9_ := am (Kd.R_below (zr HO609.out) hb)
              have n10_ := am (Kd.R_below (zr HO612.out) hb)
              have n11_ := am (Kd.R_below (zr HO615.out) hb)
              have n12_ := am (Kd.R_elder' (zr HO620.out) (Kd.R_base ho0) hb)
              have n13_ := am (Kd.R_below (zr HO623.out) hb)
              have n14_ := am (Kd.R_below (zr HO626.out) hb)
              have n15_ := am (Kd.R_below (zr HO629.out) hb)
              have n16_ := am (Kd.R_lower (Kd.R_new' (Kd.R_new' (Kd.R_new' (Kd.R_new' ho0 (Kd.R_lt (zr HO587.out))) (Kd.R_lt (zr HO592.out))) (Kd.R_lt (zr HO606.out))) (Kd.R_lt (zr HO620.out))) (below_size (zl4 HB.out GE584.out GE603.out GE617.out GE631.out)))
              have n17_ := am (zbb BK584.out hb)
              have n18_ := am (zbb BK603.out hb)
              have n19_ := am (zbb BK617.out hb)
              have n20_ := am (zbb BK631.out hb)
              have n21_ := am (below_step (zl4 HB.out GE584.out GE603.out GE617.out GE631.out) hb)
              clear HO577
              clear HO580
              clear HO583
              clear HO587
              clear HO592
              clear HO595
              clear HO598
              clear HO601
              clear HO606
              clear HO609
              clear HO612
              clear HO615
              clear HO620
              clear HO623
              clear HO626
              clear HO629
              clear BK584
              clear BK603
              clear BK617
              clear BK631
              clear HB
              have HO577 := n0_
              have HO580 := n1_
              have HO583 := n2_
              have HO587 := n3_
              have HO592 := n4_
              have HO595 := n5_
              have HO598 := n6_
              have HO601 := n7_
              have HO606 := n8_
              have HO609 := n9_
              have HO612 := n10_
              have HO615 := n11_
              have HO620 := n12_
              have HO623 := n13_
              have HO626 := n14_
              have HO629 := n15_
              have HO634 := n16_
              have BK584 := n17_
              have BK603 := n18_
              have BK617 := n19_
              have BK631 := n20_
              have HB := n21_
              clear n0_ n1_ n2_ n3_ n4_ n5_ n6_ n7_ n8_ n9_ n10_ n11_ n12_ n13_ n14_ n15_ n16_ n17_ n18_ n19_ n20_ n21_
              (try clear hb)
              (try clear hb2)
              (try clear hk)
              (try clear hi)
              (try clear ho0)
              obtain ⟨Ao84, co84, eo84⟩ := Kd.R_slice HO634.out
              (first | subst eo84 | (injection eo84 with f1_ f2_ f3_; have f4_ := f1_.symm; have f5_ := f3_.symm; clear f1_ f2_ f3_; subst f4_; subst f5_))
              refine hK.out _ _ ⟨(blk_cell BK584.out 0).trans rfl, (blk_cell BK584.out 1).trans rfl, (blk_cell BK584.out 2).trans rfl⟩ (fun hHeld => ?_)
              clear hK K
              refine norm_ (a' := ?_) ?_ ?_
              rotate_left
              ·
               show Act.put _ (some 45) _ = _
               simp only [Act.put, List.setIfInBounds_toArray, List.set_cons_zero, List.set_cons_succ, i64_w, i32_w]
               rfl
              refine one_ (i := 2) (N := some 47) #[true, true, true, false, false, false, false, false] rfl rfl (one_of HT_.out (by kernel_rfl)) (by decide) (fun K hK => ?_)
              refine goes_ Tryz.func14 (by kernel_rfl) rfl #[.agg #[.slice Ao84 t632.length co84], .int .i64 1, .agg #[.slice Ao40 y575.length co40, .slice Ao39 y578.length co39, .slice Ao38 y581.length co38]] (by rfl) rfl rfl zm ?_
              with_reducible refine (page_Put.calls k _ _ t632 1 _ _ y575 _ _ y578 _ _ y581 t635 t636 _ ?side1 ?side2 ?side3 ?side4 ?side5 ?side6 ?side7 ?side8 ?side9 A14.out).mono ?_
              (case side1 => exact zc (Kd.R_reads' HO634.out).2.2)
              (case side2 => exact (Kd.R_reads' HO634.out).2.1)
              (case side3 => exact zc (Kd.R_reads' HO577.out).2.2)
              (case side4 => exact (Kd.R_reads' HO577.out).2.1)
              (case side5 => exact zc (Kd.R_reads' HO580.out).2.2)
              (case side6 => exact (Kd.R_reads' HO580.out).2.1)
              (case side7 => exact zc (Kd.R_reads' HO583.out).2.2)
              (case side8 => exact (Kd.R_reads' HO583.out).2.1)
              (case side9 => exact GL.below HG.out (zl4 HB.out GE584.out GE603.out GE617.out GE631.out))
              rintro e w85 ⟨rfl, hb⟩
              refine ⟨_, rfl, ?_⟩
              have n0_ := am (Kd.R_below (zr HO577.out) hb)
              have n1_ := am (Kd.R_below (zr HO580.out) hb)
              have n2_ := am (Kd.R_below (zr HO583.out) hb)
              have n3_ := am (Kd.R_below (zr HO587.out) hb)
              have n4_ := am (Kd.R_below (zr HO592.out) hb)
              have n5_ := am (Kd.R_below (zr HO595.out) hb)
              have n6_ := am (Kd.R_below (zr HO598.out) hb)
              have n7_ := am (Kd.R_below (zr HO601.out) hb)
              have n8_ := am (Kd.R_below (zr HO606.out) hb)
              have n9_ := am (Kd.R_below (zr HO609.out) hb)
              have n10_ := am (Kd.R_below (zr HO612.out) hb)
              have n11_ := am (Kd.R_below (zr HO615.out) hb)
              have n12_ := am (Kd.R_below (zr HO620.out) hb)
              have n13_ := am (Kd.R_below (zr HO623.out) hb)
              have n14_ := am (Kd.R_below (zr HO626.out) hb)
              have n15_ := am (Kd.R_below (zr HO629.out) hb)
              have n16_ := am (Kd.R_below (zr HO634.out) hb)
              have n17_ := am (zbb BK584.out hb)
              have n18_ := am (zbb BK603.out hb)
              have n19_ := am (zbb BK617.out hb)
              have n20_ := am (zbb BK631.out hb)
              have n21_ := am (below_step (zl4 HB.out GE584.out GE603.out GE617.out GE631.out) hb)
              clear HO577
              clear HO580
              clear HO583
              clear HO587
              clear HO592
              clear HO595
              clear HO598
              clear HO601
              clear HO606
              clear HO609
              clear HO612
              clear HO615
              clear HO620
              clear HO623
              clear HO626
              clear HO629
              clear HO634
              clear BK584
              clear BK603
              clear BK617
              clear BK631
              clear HB
              have HO577 := n0_
              have HO580 := n1_
              have HO583 := n2_
              have HO587 := n3_
              have HO592 := n4_
              have HO595 := n5_
              have HO598 := n6_
              have HO601 := n7_
              have HO606 := n8_
              have HO609 := n9_
              have HO612 := n10_
              have HO615 := n11_
              have HO620 := n12_
              have HO623 := n13_
              have HO626 := n14_
              have HO629 := n15_
              have HO634 := n16_
              have BK584 := n17_
              have BK603 := n18_
              have BK617 := n19_
              have BK631 := n20_
              have HB := n21_
              clear n0_ n1_ n2_ n3_ n4_ n5_ n6_ n7_ n8_ n9_ n10_ n11_ n12_ n13_ n14_ n15_ n16_ n17_ n18_ n19_ n20_ n21_
              (try clear hb)
              (try clear hb2)
              (try clear hk)
              (try clear hi)
              refine hK.out _ _ ⟨(blk_cell BK584.out 0).trans rfl, (blk_cell BK584.out 1).trans rfl, (blk_cell BK584.out 2).trans rfl⟩ (fun hHeld => ?_)
              clear hK K
              refine norm_ (a' := ?_) ?_ ?_
              rotate_left
              ·
               show Act.put _ (some 47) _ = _
               simp only [Act.put, List.setIfInBounds_toArray, List.set_cons_zero, List.set_cons_succ, i64_w, i32_w]
               rfl
              refine pure_ (i := 3) (N := some 44) (v := ?_) (a' := ?_) #[true, true, true, true, false, false, false, false] rfl rfl (any_of HT_.out (by kernel_rfl)) (fun _ _ _ h => h) (Or.inl ⟨by rfl, ?_⟩) ?_ ?_
              rotate_left
              ·
               intro w'
               go_simp
               first | (with_reducible rfl) | (rw [if_neg (by omega)])
              rotate_left
              ·
               simp only [Act.put, List.setIfInBounds_toArray, List.set_cons_zero, List.set_cons_succ, i64_w, i32_w]
               rfl
              refine pure_ (i := 4) (N := some 48) (v := ?_) (a' := ?_) #[true, true, true, true, true, false, false, false] rfl rfl (any_of HT_.out (by kernel_rfl)) (fun _ _ _ h => h) (Or.inl ⟨by rfl, ?_⟩) ?_ ?_
              rotate_left
              ·
               intro w'
               go_simp
               first | (with_reducible rfl) | (rw [if_neg (by omega)])
              rotate_left
              ·
               simp only [Act.put, List.setIfInBounds_toArray, List.set_cons_zero, List.set_cons_succ, i64_w, i32_w]
               rfl
              refine pure_ (i := 5) (N := some 49) (v := ?_) (a' := ?_) #[true, true, true, true, true, true, false, false] rfl rfl (any_of HT_.out (by kernel_rfl)) (fun _ _ _ h => h) (Or.inl ⟨by rfl, ?_⟩) ?_ ?_
              rotate_left
              ·
               intro w'
               go_simp
               first | (with_reducible rfl) | (rw [if_neg (by omega)])
              rotate_left
              ·
               simp only [Act.put, List.setIfInBounds_toArray, List.set_cons_zero, List.set_cons_succ, i64_w, i32_w]
               rfl
              refine pure_ (i := 6) (N := some 10) (v := ?_) (a' := ?_) #[true, true, true, true, true, true, true, false] rfl rfl (any_of HT_.out (by kernel_rfl)) (fun _ _ _ h => h) (Or.inl ⟨by rfl, ?_⟩) ?_ ?_
              rotate_left
              ·
               intro w'
               go_simp
               first | (with_reducible rfl) | (rw [if_neg (by omega)])
              rotate_left
              ·
               simp only [Act.put, List.setIfInBounds_toArray, List.set_cons_zero, List.set_cons_succ, i64_w, i32_w]
               rfl
              refine pure_ (i := 7) (N := some 11) (v := ?_) (a' := ?_) #[true, true, true, true, true, true, true, true] rfl rfl (any_of HT_.out (by kernel_rfl)) (fun _ _ _ h => h) (Or.inl ⟨by rfl, ?_⟩) ?_ ?_
              rotate_left
              ·
               intro w'
               go_simp
               first | (with_reducible rfl) | (rw [if_neg (by omega)])
              rotate_left
              ·
               simp only [Act.put, List.setIfInBounds_toArray, List.set_cons_zero, List.set_cons_succ, i64_w, i32_w]
               rfl
              refine done_ (done_of HT_.out (by kernel_rfl)) ?_
              try go_wp2_with (first | (go_at_call 15; (with_reducible refine (quiverlaw0_Num.calls t589 t637 _ A18.out).mono ?_); rintro e w' ⟨rfl, ⟨nd, rfl⟩⟩; have hnb86 := NB584_617.out; have hnc86 := NB617_584.out; have hcz87_0 : w85.cell? ⟨gb584, 0, none⟩ = some (.slice Ao40 y575.length co40) := (blk_cell BK584.out 0).trans rfl; have hcz87_1 : w85.cell? ⟨gb584, 1, none⟩ = some (.slice Ao39 y578.length co39) := (blk_cell BK584.out 1).trans rfl; have hcz87_2 : w85.cell? ⟨gb584, 2, none⟩ = some (.slice Ao38 y581.length co38) := (blk_cell BK584.out 2).trans rfl; have hfz87_0 := blk_frozen BK584.out 0; have hfz87_1 := blk_frozen BK584.out 1; have hfz87_2 := blk_frozen BK584.out 2; have hnb88 := NB603_617.out; have hnc88 := NB617_603.out; have hcz89_0 : w85.cell? ⟨gb603, 0, none⟩ = some (.slice Ao52 t593.length co52) := (blk_cell BK603.out 0).trans rfl; have hcz89_1 : w85.cell? ⟨gb603, 1, none⟩ = some (.slice Ao55 t596.length co55) := (blk_cell BK603.out 1).trans rfl; have hcz89_2 : w85.cell? ⟨gb603, 2, none⟩ = some (.slice Ao56 t599.length co56) := (blk_cell BK603.out 2).trans rfl; have hfz89_0 := blk_frozen BK603.out 0; have hfz89_1 := blk_frozen BK603.out 1; have hfz89_2 := blk_frozen BK603.out 2) | (go_at_call 20; (with_reducible refine (quiverlaw0_SameColumn.calls k _ _ y575 _ _ y578 _ _ y581 _ _ t593 _ _ t596 _ _ t599 true _ ?side1 ?side2 ?side3 ?side4 ?side5 ?side6 ?side7 ?side8 ?side9 ?side10 ?side11 ?side12 A20.out).mono ?_); (case side1 => exact zc (Kd.R_reads' HO577.out).2.2); (case side2 => exact (Kd.R_reads' HO577.out).2.1); (case side3 => exact zc (Kd.R_reads' HO580.out).2.2); (case side4 => exact (Kd.R_reads' HO580.out).2.1); (case side5 => exact zc (Kd.R_reads' HO583.out).2.2); (case side6 => exact (Kd.R_reads' HO583.out).2.1); (case side7 => exact zc (Kd.R_reads' HO595.out).2.2); (case side8 => exact (Kd.R_reads' HO595.out).2.1); (case side9 => exact zc (Kd.R_reads' HO598.out).2.2); (case side10 => exact (Kd.R_reads' HO598.out).2.1); (case side11 => exact zc (Kd.R_reads' HO601.out).2.2); (case side12 => exact (Kd.R_reads' HO601.out).2.1); rintro e w90 ⟨rfl, hb⟩; have n0_ := am (Kd.R_below (zr HO577.out) hb); have n1_ := am (Kd.R_below (zr HO580.out) hb); have n2_ := am (Kd.R_below (zr HO583.out) hb); have n3_ := am (Kd.R_below (zr HO587.out) hb); have n4_ := am (Kd.R_below (zr HO592.out) hb); have n5_ := am (Kd.R_below (zr HO595.out) hb); have n6_ := am (Kd.R_below (zr HO598.out) hb); have n7_ := am (Kd.R_below (zr HO601.out) hb); have n8_ := am (Kd.R_below (zr HO606.out) hb); have n9_ := am (Kd.R_below (zr HO609.out) hb); have n10_ := am (Kd.R_below (zr HO612.out) hb); have n11_ := am (Kd.R_below (zr HO615.out) hb); have n12_ := am (Kd.R_below (zr HO620.out) hb); have n13_ := am (Kd.R_below (zr HO623.out) hb); have n14_ := am (Kd.R_below (zr HO626.out) hb); have n15_ := am (Kd.R_below (zr HO629.out) hb); have n16_ := am (Kd.R_below (zr HO634.out) hb); have n17_ := am (zbb BK584.out hb); have n18_ := am (zbb BK603.out hb); have n19_ := am (zbb BK617.out hb); have n20_ := am (zbb BK631.out hb); have n21_ := am (below_step (zl4 HB.out GE584.out GE603.out GE617.out GE631.out) hb); clear HO577 HO580; clear HO583 HO587; clear HO592 HO595; clear HO598 HO601; clear HO606 HO609; clear HO612 HO615; clear HO620 HO623; clear HO626 HO629; clear HO634 BK584; clear BK603 BK617; clear BK631 HB; have HO577 := n0_; have HO580 := n1_; have HO583 := n2_; have HO587 := n3_; have HO592 := n4_; have HO595 := n5_; have HO598 := n6_; have HO601 := n7_; have HO606 := n8_; have HO609 := n9_; have HO612 := n10_; have HO615 := n11_; have HO620 := n12_; have HO623 := n13_; have HO626 := n14_; have HO629 := n15_; have HO634 := n16_; have BK584 := n17_; have BK603 := n18_; have BK617 := n19_; have BK631 := n20_; have HB := n21_; clear n0_ n1_ n2_ n3_ n4_ n5_ n6_ n7_ n8_ n9_ n10_ n11_ n12_ n13_ n14_ n15_ n16_ n17_ n18_ n19_ n20_ n21_; (try clear hb); (try clear hb2); (try clear hk); (try clear hi)) | (go_at_call 15; (with_reducible refine (quiverlaw0_Num.calls t602 t639 _ A22.out).mono ?_); rintro e w' ⟨rfl, ⟨nd, rfl⟩⟩) | (go_at_call 15; (with_reducible refine (quiverlaw0_Num.calls t616 t640 _ A24.out).mono ?_); rintro e w' ⟨rfl, ⟨nd, rfl⟩⟩) | (go_at_call 15; (with_reducible refine (quiverlaw0_Num.calls t630 t641 _ A26.out).mono ?_); rintro e w' ⟨rfl, ⟨nd, rfl⟩⟩) | (go_at_call 15; (with_reducible refine (quiverlaw0_Num.calls t636 t642 _ A28.out).mono ?_); rintro e w' ⟨rfl, ⟨nd, rfl⟩⟩) | (go_at_call 16; (with_reducible refine (quiverlaw22_ints.calls  t643 _ A30.out).mono ?_); rintro e w91 ⟨v644, rfl, ho0, hb⟩; have n0_ := am (Kd.R_below (zr HO577.out) hb); have n1_ := am (Kd.R_below (zr HO580.out) hb); have n2_ := am (Kd.R_below (zr HO583.out) hb); have n3_ := am (Kd.R_elder' (zr HO587.out) (Kd.R_base ho0) hb); have n4_ := am (Kd.R_elder' (zr HO592.out) (Kd.R_base ho0) hb); have n5_ := am (Kd.R_below (zr HO595.out) hb); have n6_ := am (Kd.R_below (zr HO598.out) hb); have n7_ := am (Kd.R_below (zr HO601.out) hb); have n8_ := am (Kd.R_elder' (zr HO606.out) (Kd.R_base ho0) hb); have n9_ := am (Kd.R_below (zr HO609.out) hb); have n10_ := am (Kd.R_below (zr HO612.out) hb); have n11_ := am (Kd.R_below (zr HO615.out) hb); have n12_ := am (Kd.R_elder' (zr HO620.out) (Kd.R_base ho0) hb); have n13_ := am (Kd.R_below (zr HO623.out) hb); have n14_ := am (Kd.R_below (zr HO626.out) hb); have n15_ := am (Kd.R_below (zr HO629.out) hb); have n16_ := am (Kd.R_elder' (zr HO634.out) (Kd.R_base ho0) hb); have n17_ := am (Kd.R_lower (Kd.R_new' (Kd.R_new' (Kd.R_new' (Kd.R_new' (Kd.R_new' ho0 (Kd.R_lt (zr HO587.out))) (Kd.R_lt (zr HO592.out))) (Kd.R_lt (zr HO606.out))) (Kd.R_lt (zr HO620.out))) (Kd.R_lt (zr HO634.out))) (below_size (zl4 HB.out GE584.out GE603.out GE617.out GE631.out))); have n18_ := am (zbb BK584.out hb); have n19_ := am (zbb BK603.out hb); have n20_ := am (zbb BK617.out hb); have n21_ := am (zbb BK631.out hb); have n22_ := am (below_step (zl4 HB.out GE584.out GE603.out GE617.out GE631.out) hb); clear HO577 HO580; clear HO583 HO587; clear HO592 HO595; clear HO598 HO601; clear HO606 HO609; clear HO612 HO615; clear HO620 HO623; clear HO626 HO629; clear HO634 BK584; clear BK603 BK617; clear BK631 HB; have HO577 := n0_; have HO580 := n1_; have HO583 := n2_; have HO587 := n3_; have HO592 := n4_; have HO595 := n5_; have HO598 := n6_; have HO601 := n7_; have HO606 := n8_; have HO609 := n9_; have HO612 := n10_; have HO615 := n11_; have HO620 := n12_; have HO623 := n13_; have HO626 := n14_; have HO629 := n15_; have HO634 := n16_; have HO645 := n17_; have BK584 := n18_; have BK603 := n19_; have BK617 := n20_; have BK631 := n21_; have HB := n22_; clear n0_ n1_ n2_ n3_ n4_ n5_ n6_ n7_ n8_ n9_ n10_ n11_ n12_ n13_ n14_ n15_ n16_ n17_ n18_ n19_ n20_ n21_ n22_; (try clear hb); (try clear hb2); (try clear hk); (try clear hi); (try clear ho0); obtain ⟨Ao92, co92, eo92⟩ := Kd.R_slice HO645.out; subst eo92) | (go_at_call 33; (with_reducible refine (quiverref1_TypeMay.calls k _ _ t643 t646 _ ?side1 ?side2 A31.out).mono ?_); (case side1 => exact zc (Kd.R_reads' HO645.out).2.2); (case side2 => exact (Kd.R_reads' HO645.out).2.1); rintro e w93 ⟨rfl, hb⟩; have n0_ := am (Kd.R_below (zr HO577.out) hb); have n1_ := am (Kd.R_below (zr HO580.out) hb); have n2_ := am (Kd.R_below (zr HO583.out) hb); have n3_ := am (Kd.R_below (zr HO587.out) hb); have n4_ := am (Kd.R_below (zr HO592.out) hb); have n5_ := am (Kd.R_below (zr HO595.out) hb); have n6_ := am (Kd.R_below (zr HO598.out) hb); have n7_ := am (Kd.R_below (zr HO601.out) hb); have n8_ := am (Kd.R_below (zr HO606.out) hb); have n9_ := am (Kd.R_below (zr HO609.out) hb); have n10_ := am (Kd.R_below (zr HO612.out) hb); have n11_ := am (Kd.R_below (zr HO615.out) hb); have n12_ := am (Kd.R_below (zr HO620.out) hb); have n13_ := am (Kd.R_below (zr HO623.out) hb); have n14_ := am (Kd.R_below (zr HO626.out) hb); have n15_ := am (Kd.R_below (zr HO629.out) hb); have n16_ := am (Kd.R_below (zr HO634.out) hb); have n17_ := am (Kd.R_below (zr HO645.out) hb); have n18_ := am (zbb BK584.out hb); have n19_ := am (zbb BK603.out hb); have n20_ := am (zbb BK617.out hb); have n21_ := am (zbb BK631.out hb); have n22_ := am (below_step (zl4 HB.out GE584.out GE603.out GE617.out GE631.out) hb); clear HO577 HO580; clear HO583 HO587; clear HO592 HO595; clear HO598 HO601; clear HO606 HO609; clear HO612 HO615; clear HO620 HO623; clear HO626 HO629; clear HO634 HO645; clear BK584 BK603; clear BK617 BK631 HB; have HO577 := n0_; have HO580 := n1_; have HO583 := n2_; have HO587 := n3_; have HO592 := n4_; have HO595 := n5_; have HO598 := n6_; have HO601 := n7_; have HO606 := n8_; have HO609 := n9_; have HO612 := n10_; have HO615 := n11_; have HO620 := n12_; have HO623 := n13_; have HO626 := n14_; have HO629 := n15_; have HO634 := n16_; have HO645 := n17_; have BK584 := n18_; have BK603 := n19_; have BK617 := n20_; have BK631 := n21_; have HB := n22_; clear n0_ n1_ n2_ n3_ n4_ n5_ n6_ n7_ n8_ n9_ n10_ n11_ n12_ n13_ n14_ n15_ n16_ n17_ n18_ n19_ n20_ n21_ n22_; (try clear hb); (try clear hb2); (try clear hk); (try clear hi)))
              go_ret
              exact ⟨ze, zl4 HB.out GE584.out GE603.out GE617.out GE631.out⟩
             ·
              rw [if_neg c29] at H
              exact absurd H (by simp)
            ·
             rw [if_neg c27] at H
             exact absurd H (by simp)
           ·
            rw [if_neg c25] at H
            exact absurd H (by simp)
          ·
           rw [if_neg c23] at H
           exact absurd H (by simp)
         ·
          replace c21 := Bool.eq_false_iff.mpr c21
          subst c21
          rw [if_neg (show ¬ (false = true) by decide)] at H
          exact absurd H (by simp)
        ·
         rw [if_neg c19] at H
         exact absurd H (by simp)
       ·
        rw [if_neg c17] at H
        exact absurd H (by simp)
      ·
       rw [if_neg c16] at H
       exact absurd H (by simp)
     ·
      rw [if_neg c15] at H
      exact absurd H (by simp)
    ·
     rw [if_neg c9] at H
     exact absurd H (by simp)
   ·
    rw [if_neg c8] at H
    exact absurd H (by simp)
  ·
   rw [if_neg c7] at H
   exact absurd H (by simp)
 ·
  rw [if_neg c5] at H
  exact absurd H (by simp)

end Go.Proofs.YtkcmkedboflklaaGreatDoor.Q
