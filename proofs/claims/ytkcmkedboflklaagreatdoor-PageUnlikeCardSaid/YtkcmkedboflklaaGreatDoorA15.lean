/- Steps towards: PageUnlike: unlike columns have unlike pages, for every type, every leaf and every two columns; no condition beside the row's own (the library's listed variables hold what the program's text lays). -/
import Derived.Test.YtkcmkedboflklaaGreatDoorA2
namespace Go.Proofs.YtkcmkedboflklaaGreatDoor.Q
open Go.RowKit Go.Proofs.YtkcmkedboflklaaGreatDoorW.PrintWords Go.Proofs.YtkcmkedboflklaaGreatDoorW.PrintLast Go.Proofs.YtkcmkedboflklaaGreatDoorW.PrintMore
attribute [local go_sem] max2_int min2_int max_two min_two max_three min_three max_four min_four
set_option linter.unusedVariables false
set_option linter.unusedSimpArgs false
set_option maxHeartbeats 8000000
set_option maxRecDepth 100000

def num_Of.l0 : Nat → ByteArray → Int → Int → Int → Option (Int)
 | 0, _, _, _, _ => none
 | k + 1, x0, x3, x6, x7 => if x7 < x6 then (if 0 ≤ x7 then (if x7 < (x0.size : Int) then (if 0 ≤ (wrap64 (8 * x7)) then (num_Of.l0 k x0 (Go.bits .or .u64 x3 (shl .u64 (IntKind.u64.wrap (bt x0 x7)) (wrap64 (8 * x7)))) x6 (wrap64 (x7 + 1))) else (none)) else (none)) else (none)) else (some (wrap64 (x3)))
def num_Of.f (k : Nat) (a0 : ByteArray) : Option (Int) := num_Of.l0 k a0 0 (a0.size : Int) 0
theorem num_Of.calls (k : Nat) (a0 : ByteArray) (r : Int) (w : World) (h : num_Of.f k a0 = some r) :
  Calls Tryz.prog 43 #[.string a0] w fun e w' => e = .returned (.int .i64 r) ∧ Drawn0 w w' := by
 have H : (num_Of.l0 k a0 0 (a0.size : Int) 0) = some r := h
 clear h
 have H' := am H
 clear H
 go_enter Tryz.func43, Tryz.ntmps43
 go_wp2
 (try simp only [Act.put, List.setIfInBounds_toArray, List.set_cons_zero, List.set_cons_succ])
 go_loopg [3, 7] k (fun kq v3 v7 w' => ∃ (x3_1 : Int) (x7_1 : Int), v3 = .int .u64 x3_1 ∧ v7 = .int .i64 x7_1 ∧ Aside0 (num_Of.l0 kq a0 x3_1 (a0.size : Int) x7_1 = some r) ∧ Aside0 (kq ≤ k) ∧ Drawn0 w w')
 case atStart => exact ⟨(0), (0), zs, zs, H', ⟨Nat.le_refl _⟩, by repeat (first | exact Drawn0.refl _ | apply Drawn0.step)⟩
 case round =>
  clear H'
  obtain ⟨x3_1, x7_1, rfl, rfl, HA, HK1, ⟨m1, rfl⟩⟩ := hrel
  cases gk with
  | zero => exact absurd HA.out (by simp [num_Of.l0])
  | succ k1 =>
   have H := HA.out
   clear HA
   simp only [num_Of.l0] at H
   by_cases c2 : x7_1 < (a0.size : Int)
   ·
    rw [if_pos c2] at H
    have c2b0 := decide_eq_true c2
    clear c2
    by_cases c3 : 0 ≤ x7_1
    ·
     rw [if_pos c3] at H
     have c3b0 := decide_eq_true c3
     clear c3
     by_cases c4 : x7_1 < (a0.size : Int)
     ·
      rw [if_pos c4] at H
      have c4b0 := decide_eq_true c4
      clear c4
      obtain ⟨ji6, hji6⟩ : ∃ j_ : Int, (wrap64 (8 * x7_1)) = j_ := ⟨_, rfl⟩
      replace H : (if 0 ≤ (ji6) then (num_Of.l0 k1 a0 (Go.bits .or .u64 x3_1 (shl .u64 (IntKind.u64.wrap (bt a0 x7_1)) (ji6))) (a0.size : Int) (wrap64 (x7_1 + 1))) else (none)) = some r := by first | (rw [hji6] at H; exact H) | (simp only [hji6] at H ⊢; exact H)
      have hji6w : (IntKind.i64.wrap (8 * x7_1)) = ji6 := (i64_w _).trans hji6
      by_cases c7 : 0 ≤ (ji6)
      ·
       rw [if_pos c7] at H
       have c7b0 := eq_true c7
       have c7b1 := decide_eq_true c7
       clear c7
       obtain ⟨ji8, hji8⟩ : ∃ j_ : Int, (shl .u64 (IntKind.u64.wrap (bt a0 x7_1)) (ji6)) = j_ := ⟨_, rfl⟩
       replace H : (num_Of.l0 k1 a0 (Go.bits .or .u64 x3_1 (ji8)) (a0.size : Int) (wrap64 (x7_1 + 1))) = some r := by first | (rw [hji8] at H; exact H) | (simp only [hji8] at H ⊢; exact H)
       have hji8_ : (IntKind.u64.wrap ((IntKind.u64.wrap (bt a0 x7_1)) * 2 ^ min (ji6).toNat 64)) = ji8 := hji8
       have hji8z : (ji6) ≤ 64 → (IntKind.u64.wrap ((IntKind.u64.wrap (bt a0 x7_1)) * 2 ^ (ji6).toNat)) = ji8 := shl_small hji8
       have H' := am H
       clear H
       have p5 : 0 ≤ (x7_1 : Int) := of_decide_eq_true za
       have q5 : x7_1 < (a0.size : Int) := of_decide_eq_true za
       have hx5 := bt_at a0 x7_1
       replace p5 := eq_true p5
       replace q5 := eq_true q5
       go_wp2
       go_roundg k1
       case measure => have := HK1.out; omega
       case rel => exact ⟨(Go.bits .or .u64 x3_1 (ji8)), (wrap64 (x7_1 + 1)), (by first | rfl | (simp; done) | (simp only [← hji8] <;> (first | rfl | simp)) | (simp [*]; done)), zs, H', ⟨by have := HK1.out; omega⟩, by repeat (first | exact Drawn0.refl _ | apply Drawn0.step)⟩
      ·
       rw [if_neg c7] at H
       exact absurd H (by simp)
     ·
      rw [if_neg c4] at H
      exact absurd H (by simp)
    ·
     rw [if_neg c3] at H
     exact absurd H (by simp)
   ·
    rw [if_neg c2] at H
    have c2b0 := decide_eq_false c2
    clear c2
    obtain rfl := Option.some.inj H
    go_wp2
    go_ret
    exact ⟨by first | rfl | (simp; done) | (simp [*]; done), by repeat (first | exact Drawn0.refl _ | apply Drawn0.step)⟩

mutual
def num_GetVar.j0 : Nat → ByteArray → Int → Bool → Option (Int × Int × Int)
 | 0, _, _, _ => none
 | k + 1, x0, x1, x19 => if x19 = true then (some (0, 0, 300)) else (num_GetVar.l0 k x0 x1 0 0)
def num_GetVar.l0 : Nat → ByteArray → Int → Int → Int → Option (Int × Int × Int)
 | 0, _, _, _, _ => none
 | k + 1, x0, x1, x7, x8 => if x8 < 5 then (num_GetVar.j2 k x0 x1 x7 x8 (decide ((wrap64 (x1 + x8)) < (x0.size : Int)))) else (num_GetVar.j2 k x0 x1 x7 x8 false)
def num_GetVar.j2 : Nat → ByteArray → Int → Int → Int → Bool → Option (Int × Int × Int)
 | 0, _, _, _, _, _ => none
 | k + 1, x0, x1, x7, x8, x29 => if x29 = true then (if 0 ≤ (wrap64 (x1 + x8)) then (if (wrap64 (x1 + x8)) < (x0.size : Int) then (if 0 ≤ (wrap64 (7 * x8)) then (if (bt x0 (wrap64 (x1 + x8))) ≥ 128 then (num_GetVar.l0 k x0 x1 (Go.bits .or .i64 x7 (shl .i64 (wrap64 (Int.tmod (bt x0 (wrap64 (x1 + x8))) 128)) (wrap64 (7 * x8)))) (wrap64 (x8 + 1))) else ((num_PutVar.f k (Go.bits .or .i64 x7 (shl .i64 (wrap64 (Int.tmod (bt x0 (wrap64 (x1 + x8))) 128)) (wrap64 (7 * x8))))).bind fun bt362 => (if bt362.2 = 0 then (if 0 ≤ x1 then (if x1 ≤ (wrap64 ((wrap64 (x1 + x8)) + 1)) then (if (wrap64 ((wrap64 (x1 + x8)) + 1)) ≤ (x0.size : Int) then (if bt362.1.toList = (x0.extract (x1 : Int).toNat ((wrap64 ((wrap64 (x1 + x8)) + 1)) : Int).toNat).toList then (some (Go.bits .or .i64 x7 (shl .i64 (wrap64 (Int.tmod (bt x0 (wrap64 (x1 + x8))) 128)) (wrap64 (7 * x8))), wrap64 ((wrap64 (x1 + x8)) + 1), 0)) else (some (0, 0, 300))) else (none)) else (none)) else (none)) else (some (0, 0, 300))))) else (none)) else (none)) else (none)) else (some (0, 0, 300))
end
def num_GetVar.f (k : Nat) (a0 : ByteArray) (a1 : Int) : Option (Int × Int × Int) := if a1 < 0 then (num_GetVar.j0 k a0 a1 true) else (num_GetVar.j0 k a0 a1 (decide (a1 > (a0.size : Int))))
theorem num_GetVar.calls (k : Nat) (a0 : ByteArray) (a1 : Int) (r1 : Int) (r2 : Int) (r3 : Int) (w : World) (h : num_GetVar.f k a0 a1 = some (r1, r2, r3)) :
  Calls Tryz.prog 76 #[.string a0, .int .i64 a1] w fun e w' => e = .returned (.tuple #[.int .i64 r1, .int .i64 r2, .int .i64 r3]) ∧ Below w.heap.size w w' := by
 have HB := am (Below.refl w.heap.size w)
 have H : (if a1 < 0 then (num_GetVar.j0 k a0 a1 true) else (num_GetVar.j0 k a0 a1 (decide (a1 > (a0.size : Int))))) = some (r1, r2, r3) := h
 clear h
 have HC3 := am H
 clear H
 go_enter Tryz.func76, Tryz.ntmps76
 go_upto_region 1 with (fail)
 go_cut [19] (fun v19 wc => ∃ (kq : Nat) (x19_2 : Bool), v19 = .bool x19_2 ∧ Aside0 (num_GetVar.j0 kq a0 a1 x19_2 = some (r1, r2, r3)) ∧ Aside0 (kq ≤ k) ∧ Aside0 (Below w.heap.size w wc))
 case first =>
  have H := HC3.out
  clear HC3
  by_cases c4 : a1 < 0
  ·
   rw [if_pos c4] at H
   have c4b0 := decide_eq_true c4
   clear c4
   (first | rw [c4b0] | (simp only [i64_w, i32_w]; rw [c4b0]) | skip)
   have H' := am H
   clear H
   go_wp2
   go_meet
   case rel => exact ⟨_, (true), zs, H', ⟨by first | omega | exact Nat.le_refl _⟩, ⟨zl HB.out⟩⟩
  ·
   rw [if_neg c4] at H
   have c4b0 := decide_eq_false c4
   clear c4
   (first | rw [c4b0] | (simp only [i64_w, i32_w]; rw [c4b0]) | skip)
   have H' := am H
   clear H
   go_wp2
   go_meet
   case rel => exact ⟨_, (decide (a1 > (a0.size : Int))), zs, H', ⟨by first | omega | exact Nat.le_refl _⟩, ⟨zl HB.out⟩⟩
 case rest =>
  clear HC3
  try clear p2
  try clear c4
  try clear c4b0
  obtain ⟨kq, x19_2, rfl, HA, HJ2, HB⟩ := hcut
  cases kq with
  | zero => exact absurd HA.out (by simp [num_GetVar.j0])
  | succ kj2 =>
   have H := HA.out
   clear HA
   simp only [num_GetVar.j0] at H
   by_cases c5 : x19_2 = true
   ·
    subst c5
    rw [if_pos rfl] at H
    simp only [Option.some.injEq, Prod.mk.injEq] at H
    obtain ⟨rfl, rfl, rfl⟩ := H
    go_wp2
    go_ret3
    exact ⟨ze, zl HB.out⟩
   ·
    replace c5 := Bool.eq_false_iff.mpr c5
    subst c5
    rw [if_neg (show ¬ (false = true) by decide)] at H
    have H' := am H
    clear H
    go_wp2
    (try simp only [Act.put, List.setIfInBounds_toArray, List.set_cons_zero, List.set_cons_succ])
    go_loopg [7, 8] kj2 (fun kq v7 v8 w' => ∃ (x7_2 : Int) (x8_2 : Int), v7 = .int .i64 x7_2 ∧ v8 = .int .i64 x8_2 ∧ Aside0 (num_GetVar.l0 kq a0 a1 x7_2 x8_2 = some (r1, r2, r3)) ∧ Aside0 (kq ≤ kj2) ∧ Aside0 (Below w.heap.size w w'))
    case atStart => exact ⟨(0), (0), zs, zs, H', ⟨Nat.le_refl _⟩, ⟨zl HB.out⟩⟩
    case round =>
     clear H'
     try clear p2
     try clear c4
     try clear c4b0
     try clear c5
     try clear p2
     obtain ⟨x7_2, x8_2, rfl, rfl, HA, HK2, HB⟩ := hrel
     cases gk with
     | zero => exact absurd HA.out (by simp [num_GetVar.l0])
     | succ k2 =>
      have H := HA.out
      clear HA
      simp only [num_GetVar.l0] at H
      have HC6 := am H
      clear H
      go_upto_region 5 with (fail)
      go_cut [29] (fun v29 wc => ∃ (kq : Nat) (x29_5 : Bool), v29 = .bool x29_5 ∧ Aside0 (num_GetVar.j2 kq a0 a1 x7_2 x8_2 x29_5 = some (r1, r2, r3)) ∧ Aside0 (kq ≤ k2) ∧ Aside0 (Below w.heap.size w wc))
      case first =>
       have H := HC6.out
       clear HC6
       by_cases c7 : x8_2 < 5
       ·
        rw [if_pos c7] at H
        have c7b0 := decide_eq_true c7
        clear c7
        (first | rw [c7b0] | (simp only [i64_w, i32_w]; rw [c7b0]) | skip)
        have H' := am H
        clear H
        go_wp2
        go_meet
        case rel => exact ⟨_, (decide ((wrap64 (a1 + x8_2)) < (a0.size : Int))), zs, H', ⟨by have := HJ2.out; have := HK2.out; first | omega | exact Nat.le_refl _⟩, ⟨zl HB.out⟩⟩
       ·
        rw [if_neg c7] at H
        have c7b0 := decide_eq_false c7
        clear c7
        (first | rw [c7b0] | (simp only [i64_w, i32_w]; rw [c7b0]) | skip)
        have H' := am H
        clear H
        go_wp2
        go_meet
        case rel => exact ⟨_, (false), zs, H', ⟨by have := HJ2.out; have := HK2.out; first | omega | exact Nat.le_refl _⟩, ⟨zl HB.out⟩⟩
      case rest =>
       clear HC6
       try clear p2
       try clear c4
       try clear c4b0
       try clear c5
       try clear p6
       try clear c7
       try clear c7b0
       try clear p2
       obtain ⟨kq, x29_5, rfl, HA, HJ5, HB⟩ := hcut
       cases kq with
       | zero => exact absurd HA.out (by simp [num_GetVar.j2])
       | succ kj5 =>
        have H := HA.out
        clear HA
        simp only [num_GetVar.j2] at H
        by_cases c8 : x29_5 = true
        ·
         subst c8
         rw [if_pos rfl] at H
         obtain ⟨ji9, hji9⟩ : ∃ j_ : Int, (wrap64 (a1 + x8_2)) = j_ := ⟨_, rfl⟩
         replace H : (if 0 ≤ (ji9) then (if (ji9) < (a0.size : Int) then (if 0 ≤ (wrap64 (7 * x8_2)) then (if (bt a0 (ji9)) ≥ 128 then (num_GetVar.l0 kj5 a0 a1 (Go.bits .or .i64 x7_2 (shl .i64 (wrap64 (Int.tmod (bt a0 (ji9)) 128)) (wrap64 (7 * x8_2)))) (wrap64 (x8_2 + 1))) else ((num_PutVar.f kj5 (Go.bits .or .i64 x7_2 (shl .i64 (wrap64 (Int.tmod (bt a0 (ji9)) 128)) (wrap64 (7 * x8_2))))).bind fun bt362 => (if bt362.2 = 0 then (if 0 ≤ a1 then (if a1 ≤ (wrap64 ((ji9) + 1)) then (if (wrap64 ((ji9) + 1)) ≤ (a0.size : Int) then (if bt362.1.toList = (a0.extract (a1 : Int).toNat ((wrap64 ((ji9) + 1)) : Int).toNat).toList then (some (Go.bits .or .i64 x7_2 (shl .i64 (wrap64 (Int.tmod (bt a0 (ji9)) 128)) (wrap64 (7 * x8_2))), wrap64 ((ji9) + 1), 0)) else (some (0, 0, 300))) else (none)) else (none)) else (none)) else (some (0, 0, 300))))) else (none)) else (none)) else (none)) = some (r1, r2, r3) := by first | (rw [hji9] at H; exact H) | (simp only [hji9] at H ⊢; exact H)
         have hji9w : (IntKind.i64.wrap (a1 + x8_2)) = ji9 := (i64_w _).trans hji9
         by_cases c10 : 0 ≤ (ji9)
         ·
          rw [if_pos c10] at H
          have c10b0 := decide_eq_true c10
          clear c10
          by_cases c11 : (ji9) < (a0.size : Int)
          ·
           rw [if_pos c11] at H
           have c11b0 := decide_eq_true c11
           clear c11
           obtain ⟨ji13, hji13⟩ : ∃ j_ : Int, (wrap64 (7 * x8_2)) = j_ := ⟨_, rfl⟩
           replace H : (if 0 ≤ (ji13) then (if (bt a0 (ji9)) ≥ 128 then (num_GetVar.l0 kj5 a0 a1 (Go.bits .or .i64 x7_2 (shl .i64 (wrap64 (Int.tmod (bt a0 (ji9)) 128)) (ji13))) (wrap64 (x8_2 + 1))) else ((num_PutVar.f kj5 (Go.bits .or .i64 x7_2 (shl .i64 (wrap64 (Int.tmod (bt a0 (ji9)) 128)) (ji13)))).bind fun bt362 => (if bt362.2 = 0 then (if 0 ≤ a1 then (if a1 ≤ (wrap64 ((ji9) + 1)) then (if (wrap64 ((ji9) + 1)) ≤ (a0.size : Int) then (if bt362.1.toList = (a0.extract (a1 : Int).toNat ((wrap64 ((ji9) + 1)) : Int).toNat).toList then (some (Go.bits .or .i64 x7_2 (shl .i64 (wrap64 (Int.tmod (bt a0 (ji9)) 128)) (ji13)), wrap64 ((ji9) + 1), 0)) else (some (0, 0, 300))) else (none)) else (none)) else (none)) else (some (0, 0, 300))))) else (none)) = some (r1, r2, r3) := by first | (rw [hji13] at H; exact H) | (simp only [hji13] at H ⊢; exact H)
           have hji13w : (IntKind.i64.wrap (7 * x8_2)) = ji13 := (i64_w _).trans hji13
           by_cases c14 : 0 ≤ (ji13)
           ·
            rw [if_pos c14] at H
            have c14b0 := eq_true c14
            have c14b1 := decide_eq_true c14
            clear c14
            obtain ⟨ji15, hji15⟩ : ∃ j_ : Int, (shl .i64 (wrap64 (Int.tmod (bt a0 (ji9)) 128)) (ji13)) = j_ := ⟨_, rfl⟩
            replace H : (if (bt a0 (ji9)) ≥ 128 then (num_GetVar.l0 kj5 a0 a1 (Go.bits .or .i64 x7_2 (ji15)) (wrap64 (x8_2 + 1))) else ((num_PutVar.f kj5 (Go.bits .or .i64 x7_2 (ji15))).bind fun bt362 => (if bt362.2 = 0 then (if 0 ≤ a1 then (if a1 ≤ (wrap64 ((ji9) + 1)) then (if (wrap64 ((ji9) + 1)) ≤ (a0.size : Int) then (if bt362.1.toList = (a0.extract (a1 : Int).toNat ((wrap64 ((ji9) + 1)) : Int).toNat).toList then (some (Go.bits .or .i64 x7_2 (ji15), wrap64 ((ji9) + 1), 0)) else (some (0, 0, 300))) else (none)) else (none)) else (none)) else (some (0, 0, 300))))) = some (r1, r2, r3) := by first | (rw [hji15] at H; exact H) | (simp only [hji15] at H ⊢; exact H)
            have hji15_ : (IntKind.i64.wrap ((wrap64 (Int.tmod (bt a0 (ji9)) 128)) * 2 ^ min (ji13).toNat 64)) = ji15 := hji15
            have hji15z : (ji13) ≤ 64 → (IntKind.i64.wrap ((wrap64 (Int.tmod (bt a0 (ji9)) 128)) * 2 ^ (ji13).toNat)) = ji15 := shl_small hji15
            have hji15y : (wrap64 ((wrap64 (Int.tmod (bt a0 (ji9)) 128)) * 2 ^ min (ji13).toNat 64)) = ji15 := (i64_w _).symm.trans hji15_
            have hji15x : (ji13) ≤ 64 → (wrap64 ((wrap64 (Int.tmod (bt a0 (ji9)) 128)) * 2 ^ (ji13).toNat)) = ji15 := fun h_ => (i64_w _).symm.trans (hji15z h_)
            by_cases c16 : (bt a0 (ji9)) ≥ 128
            ·
             rw [if_pos c16] at H
             have c16b0 : decide (128 ≤ (bt a0 (ji9))) = true := decide_eq_true c16
             clear c16
             have H' := am H
             clear H
             have p12 : 0 ≤ ((ji9) : Int) := of_decide_eq_true za
             have q12 : (ji9) < (a0.size : Int) := of_decide_eq_true za
             have hx12 := bt_at a0 (ji9)
             replace p12 := eq_true p12
             replace q12 := eq_true q12
             go_wp2
             go_roundg kj5
             case measure => have := HJ2.out; have := HK2.out; have := HJ5.out; omega
             case rel => exact ⟨(Go.bits .or .i64 x7_2 (ji15)), (wrap64 (x8_2 + 1)), (by first | rfl | (simp; done) | (simp only [← hji15] <;> (first | rfl | simp)) | (simp [*]; done)), zs, H', ⟨by have := HJ2.out; have := HK2.out; have := HJ5.out; omega⟩, ⟨zl HB.out⟩⟩
            ·
             rw [if_neg c16] at H
             have c16b0 : decide (128 ≤ (bt a0 (ji9))) = false := decide_eq_false c16
             clear c16
             replace H := zo H
             obtain ⟨⟨t362, t363⟩, A170, H⟩ := H
             (try dsimp only at H)
             have A17 := am A170
             clear A170
             by_cases c18 : t363 = 0
             ·
              rw [if_pos c18] at H
              have c18b0 := beq_iff_eq.mpr c18
              have c18b1 := bne_eq_false_iff_eq.mpr c18
              clear c18
              by_cases c19 : 0 ≤ a1
              ·
               rw [if_pos c19] at H
               have c19b0 := eq_true c19
               have c19b1 := decide_eq_true c19
               clear c19
               by_cases c20 : a1 ≤ (wrap64 ((ji9) + 1))
               ·
                rw [if_pos c20] at H
                have c20b0 := eq_true c20
                have c20b1 := decide_eq_true c20
                by_cases c21 : (wrap64 ((ji9) + 1)) ≤ (a0.size : Int)
                ·
                 rw [if_pos c21] at H
                 have c21b0 := eq_true c21
                 have c21b1 := decide_eq_true c21
                 by_cases c22 : t362.toList = (a0.extract (a1 : Int).toNat ((wrap64 ((ji9) + 1)) : Int).toNat).toList
                 ·
                  rw [if_pos c22] at H
                  have c22b0 := beq_iff_eq.mpr c22
                  have c22b1 := bne_eq_false_iff_eq.mpr c22
                  clear c22
                  simp only [Option.some.injEq, Prod.mk.injEq] at H
                  obtain ⟨rfl, rfl, rfl⟩ := H
                  have p12 : 0 ≤ ((ji9) : Int) := of_decide_eq_true za
                  have q12 : (ji9) < (a0.size : Int) := of_decide_eq_true za
                  have hx12 := bt_at a0 (ji9)
                  replace p12 := eq_true p12
                  replace q12 := eq_true q12
                  go_wp2_with (first | ((with_reducible refine gate_callee (f := 102) rfl ?_); refine goesL_ (some 49) rfl rfl Tryz.func102 (by kernel_rfl) rfl #[.int .i64 (Go.bits .or .i64 x7_2 (ji15))] rfl (by (try simp only [List.map_toArray, List.map_cons, List.map_nil]); first | done | (simp only [hji15]; rfl) | rfl | (simp only [List.length_drop, List.length_take]; rfl)) ?_; (with_reducible refine (num_PutVar.calls kj5 (Go.bits .or .i64 x7_2 (ji15)) t362 t363 _ A17.out).mono ?_); rintro e w23 ⟨rfl, hb⟩; refine ⟨_, rfl, ?_⟩; have n0_ := am (below_step (zl HB.out) hb); clear HB; have HB := n0_; clear n0_; (try clear hb); (try clear hb2); (try clear hk); (try clear hi)))
                  go_ret3
                  exact ⟨by first | rfl | (simp [errW_none, errW_some] <;> rfl) | (simp only [← hji9, ← hji13, ← hji15]; first | rfl | (simp [errW_none, errW_some] <;> rfl)) | (simp [*, errW_none, errW_some] <;> rfl), zl HB.out⟩
                 ·
                  rw [if_neg c22] at H
                  have c22b0 := beq_eq_false_iff_ne.mpr c22
                  have c22b1 := bne_iff_ne.mpr c22
                  simp only [Option.some.injEq, Prod.mk.injEq] at H
                  obtain ⟨rfl, rfl, rfl⟩ := H
                  have p12 : 0 ≤ ((ji9) : Int) := of_decide_eq_true za
                  have q12 : (ji9) < (a0.size : Int) := of_decide_eq_true za
                  have hx12 := bt_at a0 (ji9)
                  replace p12 := eq_true p12
                  replace q12 := eq_true q12
                  go_wp2_with (first | ((with_reducible refine gate_callee (f := 102) rfl ?_); refine goesL_ (some 49) rfl rfl Tryz.func102 (by kernel_rfl) rfl #[.int .i64 (Go.bits .or .i64 x7_2 (ji15))] rfl (by (try simp only [List.map_toArray, List.map_cons, List.map_nil]); first | done | (simp only [hji15]; rfl) | rfl | (simp only [List.length_drop, List.length_take]; rfl)) ?_; (with_reducible refine (num_PutVar.calls kj5 (Go.bits .or .i64 x7_2 (ji15)) t362 t363 _ A17.out).mono ?_); rintro e w24 ⟨rfl, hb⟩; refine ⟨_, rfl, ?_⟩; have n0_ := am (below_step (zl HB.out) hb); clear HB; have HB := n0_; clear n0_; (try clear hb); (try clear hb2); (try clear hk); (try clear hi)))
                  go_ret3
                  exact ⟨by first | rfl | (simp [errW_none, errW_some] <;> rfl) | (simp only [← hji9, ← hji13, ← hji15]; first | rfl | (simp [errW_none, errW_some] <;> rfl)) | (simp [*, errW_none, errW_some] <;> rfl), zl HB.out⟩
                ·
                 rw [if_neg c21] at H
                 exact absurd H (by simp)
               ·
                rw [if_neg c20] at H
                exact absurd H (by simp)
              ·
               rw [if_neg c19] at H
               exact absurd H (by simp)
             ·
              rw [if_neg c18] at H
              have c18b0 := beq_eq_false_iff_ne.mpr c18
              have c18b1 := bne_iff_ne.mpr c18
              simp only [Option.some.injEq, Prod.mk.injEq] at H
              obtain ⟨rfl, rfl, rfl⟩ := H
              have p12 : 0 ≤ ((ji9) : Int) := of_decide_eq_true za
              have q12 : (ji9) < (a0.size : Int) := of_decide_eq_true za
              have hx12 := bt_at a0 (ji9)
              replace p12 := eq_true p12
              replace q12 := eq_true q12
              go_wp2_with (first | ((with_reducible refine gate_callee (f := 102) rfl ?_); refine goesL_ (some 49) rfl rfl Tryz.func102 (by kernel_rfl) rfl #[.int .i64 (Go.bits .or .i64 x7_2 (ji15))] rfl (by (try simp only [List.map_toArray, List.map_cons, List.map_nil]); first | done | (simp only [hji15]; rfl) | rfl | (simp only [List.length_drop, List.length_take]; rfl)) ?_; (with_reducible refine (num_PutVar.calls kj5 (Go.bits .or .i64 x7_2 (ji15)) t362 t363 _ A17.out).mono ?_); rintro e w25 ⟨rfl, hb⟩; refine ⟨_, rfl, ?_⟩; have n0_ := am (below_step (zl HB.out) hb); clear HB; have HB := n0_; clear n0_; (try clear hb); (try clear hb2); (try clear hk); (try clear hi)))
              go_ret3
              exact ⟨by first | rfl | (simp [errW_none, errW_some] <;> rfl) | (simp only [← hji9, ← hji13, ← hji15]; first | rfl | (simp [errW_none, errW_some] <;> rfl)) | (simp [*, errW_none, errW_some] <;> rfl), zl HB.out⟩
           ·
            rw [if_neg c14] at H
            exact absurd H (by simp)
          ·
           rw [if_neg c11] at H
           exact absurd H (by simp)
         ·
          rw [if_neg c10] at H
          exact absurd H (by simp)
        ·
         replace c8 := Bool.eq_false_iff.mpr c8
         subst c8
         rw [if_neg (show ¬ (false = true) by decide)] at H
         simp only [Option.some.injEq, Prod.mk.injEq] at H
         obtain ⟨rfl, rfl, rfl⟩ := H
         go_wp2
         go_ret3
         exact ⟨ze, zl HB.out⟩
end Go.Proofs.YtkcmkedboflklaaGreatDoor.Q
