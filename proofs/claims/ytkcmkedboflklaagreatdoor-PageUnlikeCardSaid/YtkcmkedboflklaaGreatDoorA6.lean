/- Steps towards: PageUnlike: unlike columns have unlike pages, for every type, every leaf and every two columns; no condition beside the row's own (the library's listed variables hold what the program's text lays). -/
import Derived.Test.YtkcmkedboflklaaGreatDoorA2
import Derived.Test.YtkcmkedboflklaaGreatDoorA5
namespace Go.Proofs.YtkcmkedboflklaaGreatDoor.Q
open Go.RowKit Go.Proofs.YtkcmkedboflklaaGreatDoorW.PrintWords Go.Proofs.YtkcmkedboflklaaGreatDoorW.PrintLast Go.Proofs.YtkcmkedboflklaaGreatDoorW.PrintMore
attribute [local go_sem] max2_int min2_int max_two min_two max_three min_three max_four min_four
set_option linter.unusedVariables false
set_option linter.unusedSimpArgs false
set_option maxHeartbeats 8000000
set_option maxRecDepth 100000

mutual
def types_May.j0 : Nat → Bool → List (S24) → Option (Bool)
 | 0, _, _ => none
 | k + 1, x17, x114000 => if x17 = true then (some false) else (types_May.l0 k x114000 (x114000.length : Int) 0 x114000)
def types_May.l0 : Nat → List (S24) → Int → Int → List (S24) → Option (Bool)
 | 0, _, _, _, _ => none
 | k + 1, x19, x20, x21, x114000 => if x21 < x20 then (if 0 ≤ x21 then (if x21 < (x19.length : Int) then (if ((rd_T24 x19 x21).f0) < 0 then (some false) else (if ((rd_T24 x19 x21).f0) > 4 then (some false) else ((types_stands.f x114000 x21).bind fun t116 => (if t116 = true then (types_May.l0 k x19 x20 (wrap64 (x21 + 1)) x114000) else (some false))))) else (none)) else (none)) else (types_May.l1 k x114000 (x114000.length : Int) 0 x114000)
def types_May.l1 : Nat → List (S24) → Int → Int → List (S24) → Option (Bool)
 | 0, _, _, _, _ => none
 | k + 1, x41, x42, x43, x114000 => if x43 < x42 then (if 0 ≤ x43 then (if x43 < (x41.length : Int) then ((types_kids.f k x114000 x43).bind fun t119 => (if ((rd_T24 x41 x43).f0) = 3 then (if (t119.length : Int) = 1 then (if ((rd_T24 x41 x43).f0) = 4 then (if (t119.length : Int) = 0 then (some false) else ((types_way.f k x114000 x43).bind fun t122 => (if (t122.length : Int) > 5 then (some false) else (types_May.l1 k x41 x42 (wrap64 (x43 + 1)) x114000)))) else ((types_way.f k x114000 x43).bind fun t125 => (if (t125.length : Int) > 5 then (some false) else (types_May.l1 k x41 x42 (wrap64 (x43 + 1)) x114000)))) else (some false)) else (if ((rd_T24 x41 x43).f0) = 4 then (if (t119.length : Int) = 0 then (some false) else ((types_way.f k x114000 x43).bind fun t128 => (if (t128.length : Int) > 5 then (some false) else (types_May.l1 k x41 x42 (wrap64 (x43 + 1)) x114000)))) else ((types_way.f k x114000 x43).bind fun t131 => (if (t131.length : Int) > 5 then (some false) else (types_May.l1 k x41 x42 (wrap64 (x43 + 1)) x114000)))))) else (none)) else (none)) else (some true)
end
def types_May.f (k : Nat) (l0_0 : List (S24)) : Option (Bool) := if (l0_0.length : Int) = 0 then (types_May.j0 k true l0_0) else (types_May.j0 k (decide ((l0_0.length : Int) > 8)) l0_0)
theorem types_May.calls (k : Nat) (A0_0 : Option Addr) (c0_0 : Nat) (l0_0 : List (S24)) (r : Bool) (w : World) (hr0_0 : Kd.C k24 w A0_0 l0_0.length l0_0) (hc0_0 : l0_0.length ≤ c0_0) (h : types_May.f k l0_0 = some r) :
  Calls Tryz.prog 99 #[.agg #[.slice A0_0 l0_0.length c0_0]] w fun e w' => e = .returned (.bool r) ∧ Below w.heap.size w w' := by
 have hu27 := Tryz.underlying27
 have hu24 := Tryz.underlying24
 have HR0_0 := am hr0_0
 have HC0_0 := am hc0_0
 clear hr0_0 hc0_0
 have HB := am (Below.refl w.heap.size w)
 have H : (if (l0_0.length : Int) = 0 then (types_May.j0 k true l0_0) else (types_May.j0 k (decide ((l0_0.length : Int) > 8)) l0_0)) = some r := h
 clear h
 have HC2 := am H
 clear H
 go_enter Tryz.func99, Tryz.ntmps99
 go_upto_region 1 with (first | ((with_reducible refine gate_dst (N := 1) rfl ?_); refine box_event ?hg (N := 1) ?hd (cs := #[.slice A0_0 l0_0.length c0_0]) (t := 27) ?hr ?_; (case hd => rfl); (case hg => rfl); (case hr => exact zh); intro gb113 hg w3 hbox hb; have n0_ := am (below_step (zl HB.out) hb); have n1_ := am (hbox); have n2_ := am ((by rw [hg]; exact (below_size (zl HB.out)) : w.heap.size ≤ gb113)); have n3_ := am ((by rw [hg]; exact (below_size (zl HB.out)) : w.heap.size ≤ gb113)); clear HB; have HB := n0_; have BK113 := n1_; have GW113 := n2_; have GE113 := n3_; clear n0_ n1_ n2_ n3_; clear hb hbox hg))
 (try simp only [Act.put, List.setIfInBounds_toArray, List.set_cons_zero, List.set_cons_succ])
 go_cut [17] (fun v17 wc => ∃ (kq : Nat) (x17_1 : Bool), v17 = .bool x17_1 ∧ Aside0 (types_May.j0 kq x17_1 l0_0 = some r) ∧ Aside0 (kq ≤ k) ∧ Aside0 (wc.heap[gb113]? = some (.cells #[(.slice A0_0 l0_0.length c0_0)] 27 (0, 0))) ∧ Aside0 (Below w.heap.size w wc))
 case first =>
  have H := HC2.out
  clear HC2
  by_cases c4 : (l0_0.length : Int) = 0
  ·
   rw [if_pos c4] at H
   have c4b0 := beq_iff_eq.mpr c4
   have c4b1 := bne_eq_false_iff_eq.mpr c4
   clear c4
   (first | rw [c4b0] | (simp only [i64_w, i32_w]; rw [c4b0]) | skip)
   have H' := am H
   clear H
   have hcz5_0 : w3.cell? ⟨gb113, 0, none⟩ = some (.slice A0_0 l0_0.length c0_0) := (blk_cell BK113.out 0).trans rfl
   have hfz5_0 := blk_frozen BK113.out 0
   go_wp2
   go_meet
   case rel => exact ⟨_, (true), zs, H', ⟨by first | omega | exact Nat.le_refl _⟩, ⟨by refine zb ?_; exact BK113.out⟩, ⟨zl1 HB.out GE113.out⟩⟩
  ·
   rw [if_neg c4] at H
   have c4b0 := beq_eq_false_iff_ne.mpr c4
   have c4b1 := bne_iff_ne.mpr c4
   have c4b2 : ¬ (l0_0 = []) := fun h_ => c4 (by rw [h_]; rfl)
   (first | rw [c4b0] | (simp only [i64_w, i32_w]; rw [c4b0]) | skip)
   have H' := am H
   clear H
   have hcz6_0 : w3.cell? ⟨gb113, 0, none⟩ = some (.slice A0_0 l0_0.length c0_0) := (blk_cell BK113.out 0).trans rfl
   have hfz6_0 := blk_frozen BK113.out 0
   go_wp2
   go_meet
   case rel => exact ⟨_, (decide ((l0_0.length : Int) > 8)), zs, H', ⟨by first | omega | exact Nat.le_refl _⟩, ⟨by refine zb ?_; exact BK113.out⟩, ⟨zl1 HB.out GE113.out⟩⟩
 case rest =>
  clear HC2
  try clear p2
  try clear c4
  try clear c4b0
  try clear c4b1
  try clear c4b2
  try clear hcz5_0
  try clear hcz6_0
  try clear hfz5_0
  try clear hfz6_0
  obtain ⟨kq, x17_1, rfl, HA, HJ1, BK113, HB⟩ := hcut
  cases kq with
  | zero => exact absurd HA.out (by simp [types_May.j0])
  | succ kj1 =>
   have H := HA.out
   clear HA
   simp only [types_May.j0] at H
   by_cases c7 : x17_1 = true
   ·
    subst c7
    rw [if_pos rfl] at H
    obtain rfl := Option.some.inj H
    go_wp2
    go_ret
    exact ⟨ze, zl1 HB.out GE113.out⟩
   ·
    replace c7 := Bool.eq_false_iff.mpr c7
    subst c7
    rw [if_neg (show ¬ (false = true) by decide)] at H
    have H' := am H
    clear H
    have hcz8_0 : wc.cell? ⟨gb113, 0, none⟩ = some (.slice A0_0 l0_0.length c0_0) := (blk_cell BK113.out 0).trans rfl
    have hfz8_0 := blk_frozen BK113.out 0
    go_wp2
    (try simp only [Act.put, List.setIfInBounds_toArray, List.set_cons_zero, List.set_cons_succ])
    go_loopg [21] kj1 (fun kq v21 w' => ∃ (x21_2 : Int), v21 = .int .i64 x21_2 ∧ Aside0 (types_May.l0 kq l0_0 (l0_0.length : Int) x21_2 l0_0 = some r) ∧ Aside0 (kq ≤ kj1) ∧ Aside0 (w'.heap[gb113]? = some (.cells #[(.slice A0_0 l0_0.length c0_0)] 27 (0, 0))) ∧ Aside0 (Below w.heap.size w w'))
    case atStart => exact ⟨(0), zs, H', ⟨Nat.le_refl _⟩, ⟨by refine zb ?_; exact BK113.out⟩, ⟨zl1 HB.out GE113.out⟩⟩
    case round =>
     clear H'
     try clear p2
     try clear c4
     try clear c4b0
     try clear c4b1
     try clear c4b2
     try clear c7
     try clear hcz5_0
     try clear hcz6_0
     try clear hcz8_0
     try clear hfz5_0
     try clear hfz6_0
     try clear hfz8_0
     try clear p2
     obtain ⟨x21_2, rfl, HA, HK2, BK113, HB⟩ := hrel
     cases gk with
     | zero => exact absurd HA.out (by simp [types_May.l0])
     | succ k2 =>
      have H := HA.out
      clear HA
      simp only [types_May.l0] at H
      by_cases c9 : x21_2 < (l0_0.length : Int)
      ·
       rw [if_pos c9] at H
       have c9b0 := decide_eq_true c9
       clear c9
       by_cases c10 : 0 ≤ x21_2
       ·
        rw [if_pos c10] at H
        have c10b0 := decide_eq_true c10
        clear c10
        by_cases c11 : x21_2 < (l0_0.length : Int)
        ·
         rw [if_pos c11] at H
         have c11b0 := decide_eq_true c11
         clear c11
         by_cases c12 : ((rd_T24 l0_0 x21_2).f0) < 0
         ·
          rw [if_pos c12] at H
          have c12b0 := decide_eq_true c12
          clear c12
          obtain rfl := Option.some.inj H
          have p114 : 0 ≤ (x21_2 : Int) := of_decide_eq_true za
          have q114 : x21_2 < (l0_0.length : Int) := of_decide_eq_true za
          obtain ⟨ad114, e114, hx114_0, hx114_1, hx114_2⟩ := at_T24 HR0_0.out x21_2 p114 q114
          cases e114
          replace hx114_0 := zq HB.out hx114_0
          replace hx114_1 := zq HB.out hx114_1
          replace hx114_2 := zq HB.out hx114_2
          replace p114 := eq_true p114
          replace q114 := eq_true q114
          go_wp2_with (first | ((with_reducible refine gate_dst (N := 4) rfl ?_); refine box_event ?hg (N := 4) ?hd (cs := #[.int .i64 0, .int .i64 0, .bool false]) (t := 24) ?hr ?_; (case hd => rfl); (case hg => rfl); (case hr => exact zh); intro gb115 hg w13 hbox hb; have n0_ := am (zbb BK113.out hb); have n1_ := am (below_step (zl1 HB.out GE113.out) hb); have n2_ := am (hbox); have n3_ := am ((by rw [hg]; exact (below_size (zl1 HB.out GE113.out)) : w.heap.size ≤ gb115)); have n4_ := am ((by rw [hg]; exact (below_size (zl1 HB.out GE113.out)) : w.heap.size ≤ gb115)); have n5_ := am ((by rw [hg]; exact Nat.ne_of_lt (blk_lt (g := gb113) (o := .cells #[.slice (some ad114) l0_0.length c0_0] 27 (0, 0)) (zb BK113.out)) : gb113 ≠ gb115)); have n6_ := am ((by rw [hg]; exact Nat.ne_of_gt (blk_lt (g := gb113) (o := .cells #[.slice (some ad114) l0_0.length c0_0] 27 (0, 0)) (zb BK113.out)) : gb115 ≠ gb113)); clear BK113 HB; have BK113 := n0_; have HB := n1_; have BK115 := n2_; have GW115 := n3_; have GE115 := n4_; have NB113_115 := n5_; have NB115_113 := n6_; clear n0_ n1_ n2_ n3_ n4_ n5_ n6_; clear hb hbox hg; have hnb14 := NB115_113.out; have hnc14 := NB113_115.out; have hcz15_0 : w13.cell? ⟨gb115, 0, none⟩ = some (.int .i64 0) := (blk_cell BK115.out 0).trans rfl; have hcz15_1 : w13.cell? ⟨gb115, 1, none⟩ = some (.int .i64 0) := (blk_cell BK115.out 1).trans rfl; have hcz15_2 : w13.cell? ⟨gb115, 2, none⟩ = some (.bool false) := (blk_cell BK115.out 2).trans rfl; have hfz15_0 := blk_frozen BK115.out 0; have hfz15_1 := blk_frozen BK115.out 1; have hfz15_2 := blk_frozen BK115.out 2))
          go_ret
          exact ⟨ze, zl2 HB.out GE113.out GE115.out⟩
         ·
          rw [if_neg c12] at H
          have c12b0 := decide_eq_false c12
          clear c12
          by_cases c16 : ((rd_T24 l0_0 x21_2).f0) > 4
          ·
           rw [if_pos c16] at H
           have c16b0 : decide (4 < ((rd_T24 l0_0 x21_2).f0)) = true := decide_eq_true c16
           clear c16
           obtain rfl := Option.some.inj H
           have p114 : 0 ≤ (x21_2 : Int) := of_decide_eq_true za
           have q114 : x21_2 < (l0_0.length : Int) := of_decide_eq_true za
           obtain ⟨ad114, e114, hx114_0, hx114_1, hx114_2⟩ := at_T24 HR0_0.out x21_2 p114 q114
           cases e114
           replace hx114_0 := zq HB.out hx114_0
           replace hx114_1 := zq HB.out hx114_1
           replace hx114_2 := zq HB.out hx114_2
           replace p114 := eq_true p114
           replace q114 := eq_true q114
           go_wp2_with (first | ((with_reducible refine gate_dst (N := 4) rfl ?_); refine box_event ?hg (N := 4) ?hd (cs := #[.int .i64 0, .int .i64 0, .bool false]) (t := 24) ?hr ?_; (case hd => rfl); (case hg => rfl); (case hr => exact zh); intro gb115 hg w17 hbox hb; have n0_ := am (zbb BK113.out hb); have n1_ := am (below_step (zl1 HB.out GE113.out) hb); have n2_ := am (hbox); have n3_ := am ((by rw [hg]; exact (below_size (zl1 HB.out GE113.out)) : w.heap.size ≤ gb115)); have n4_ := am ((by rw [hg]; exact (below_size (zl1 HB.out GE113.out)) : w.heap.size ≤ gb115)); have n5_ := am ((by rw [hg]; exact Nat.ne_of_lt (blk_lt (g := gb113) (o := .cells #[.slice (some ad114) l0_0.length c0_0] 27 (0, 0)) (zb BK113.out)) : gb113 ≠ gb115)); have n6_ := am ((by rw [hg]; exact Nat.ne_of_gt (blk_lt (g := gb113) (o := .cells #[.slice (some ad114) l0_0.length c0_0] 27 (0, 0)) (zb BK113.out)) : gb115 ≠ gb113)); clear BK113 HB; have BK113 := n0_; have HB := n1_; have BK115 := n2_; have GW115 := n3_; have GE115 := n4_; have NB113_115 := n5_; have NB115_113 := n6_; clear n0_ n1_ n2_ n3_ n4_ n5_ n6_; clear hb hbox hg; have hnb18 := NB115_113.out; have hnc18 := NB113_115.out; have hcz19_0 : w17.cell? ⟨gb115, 0, none⟩ = some (.int .i64 0) := (blk_cell BK115.out 0).trans rfl; have hcz19_1 : w17.cell? ⟨gb115, 1, none⟩ = some (.int .i64 0) := (blk_cell BK115.out 1).trans rfl; have hcz19_2 : w17.cell? ⟨gb115, 2, none⟩ = some (.bool false) := (blk_cell BK115.out 2).trans rfl; have hfz19_0 := blk_frozen BK115.out 0; have hfz19_1 := blk_frozen BK115.out 1; have hfz19_2 := blk_frozen BK115.out 2))
           go_ret
           exact ⟨ze, zl2 HB.out GE113.out GE115.out⟩
          ·
           rw [if_neg c16] at H
           have c16b0 : decide (4 < ((rd_T24 l0_0 x21_2).f0)) = false := decide_eq_false c16
           clear c16
           replace H := zo H
           obtain ⟨t116, A200, H⟩ := H
           (try dsimp only at H)
           have A20 := am A200
           clear A200
           by_cases c21 : t116 = true
           ·
            subst c21
            rw [if_pos rfl] at H
            have H' := am H
            clear H
            have p114 : 0 ≤ (x21_2 : Int) := of_decide_eq_true za
            have q114 : x21_2 < (l0_0.length : Int) := of_decide_eq_true za
            obtain ⟨ad114, e114, hx114_0, hx114_1, hx114_2⟩ := at_T24 HR0_0.out x21_2 p114 q114
            cases e114
            replace hx114_0 := zq HB.out hx114_0
            replace hx114_1 := zq HB.out hx114_1
            replace hx114_2 := zq HB.out hx114_2
            replace p114 := eq_true p114
            replace q114 := eq_true q114
            go_wp2_with (first | ((with_reducible refine gate_dst (N := 4) rfl ?_); refine box_event ?hg (N := 4) ?hd (cs := #[.int .i64 0, .int .i64 0, .bool false]) (t := 24) ?hr ?_; (case hd => rfl); (case hg => rfl); (case hr => exact zh); intro gb115 hg w22 hbox hb; have n0_ := am (zbb BK113.out hb); have n1_ := am (below_step (zl1 HB.out GE113.out) hb); have n2_ := am (hbox); have n3_ := am ((by rw [hg]; exact (below_size (zl1 HB.out GE113.out)) : w.heap.size ≤ gb115)); have n4_ := am ((by rw [hg]; exact (below_size (zl1 HB.out GE113.out)) : w.heap.size ≤ gb115)); have n5_ := am ((by rw [hg]; exact Nat.ne_of_lt (blk_lt (g := gb113) (o := .cells #[.slice (some ad114) l0_0.length c0_0] 27 (0, 0)) (zb BK113.out)) : gb113 ≠ gb115)); have n6_ := am ((by rw [hg]; exact Nat.ne_of_gt (blk_lt (g := gb113) (o := .cells #[.slice (some ad114) l0_0.length c0_0] 27 (0, 0)) (zb BK113.out)) : gb115 ≠ gb113)); clear BK113 HB; have BK113 := n0_; have HB := n1_; have BK115 := n2_; have GW115 := n3_; have GE115 := n4_; have NB113_115 := n5_; have NB115_113 := n6_; clear n0_ n1_ n2_ n3_ n4_ n5_ n6_; clear hb hbox hg; have hnb23 := NB115_113.out; have hnc23 := NB113_115.out; have hcz24_0 : w22.cell? ⟨gb115, 0, none⟩ = some (.int .i64 0) := (blk_cell BK115.out 0).trans rfl; have hcz24_1 : w22.cell? ⟨gb115, 1, none⟩ = some (.int .i64 0) := (blk_cell BK115.out 1).trans rfl; have hcz24_2 : w22.cell? ⟨gb115, 2, none⟩ = some (.bool false) := (blk_cell BK115.out 2).trans rfl; have hfz24_0 := blk_frozen BK115.out 0; have hfz24_1 := blk_frozen BK115.out 1; have hfz24_2 := blk_frozen BK115.out 2) | (go_at_call 127; (with_reducible refine (types_stands.calls gb113 (some ad114) c0_0 l0_0 x21_2 true _ ?side1 ?side2 ?side3 A20.out).mono ?_); (case side1 => exact Kd.C_below HR0_0.out (zl2 HB.out GE113.out GE115.out)); (case side2 => exact HC0_0.out); (case side3 => refine zb ?_; refine blk_far ?_ NB113_115.out _; refine zb ?_; refine blk_far ?_ NB113_115.out _; refine zb ?_; refine blk_far ?_ NB113_115.out _; refine zb ?_; exact BK113.out); rintro e w25 ⟨rfl, hb⟩; have n0_ := am (blk_below (g := gb113) (o := .cells #[.slice (some ad114) l0_0.length c0_0] 27 (0, 0)) (by refine zb ?_; refine blk_far ?_ NB113_115.out _; refine zb ?_; refine blk_far ?_ NB113_115.out _; refine zb ?_; refine blk_far ?_ NB113_115.out _; refine zb ?_; exact BK113.out) hb); have n1_ := am (blk_below (g := gb115) (o := .cells #[.int .i64 ((rd_T24 l0_0 x21_2).f0), .int .i64 ((rd_T24 l0_0 x21_2).f1), .bool ((rd_T24 l0_0 x21_2).f2)] 24 (0, 0)) (by refine zb ?_; refine blk_put (cs := #[.int .i64 ((rd_T24 l0_0 x21_2).f0), .int .i64 ((rd_T24 l0_0 x21_2).f1), .bool false]) ?_ 2 _ rfl; refine zb ?_; refine blk_put (cs := #[.int .i64 ((rd_T24 l0_0 x21_2).f0), .int .i64 0, .bool false]) ?_ 1 _ rfl; refine zb ?_; refine blk_put (cs := #[.int .i64 0, .int .i64 0, .bool false]) ?_ 0 _ rfl; refine zb ?_; exact BK115.out) hb); have n2_ := am (below_step (zl2 HB.out GE113.out GE115.out) hb); clear BK113 BK115 HB; have BK113 := n0_; have BK115 := n1_; have HB := n2_; clear n0_ n1_ n2_; (try clear hb); (try clear hb2); (try clear hk); (try clear hi)))
            go_roundg k2
            case measure => have := HJ1.out; have := HK2.out; omega
            case rel => exact ⟨(wrap64 (x21_2 + 1)), zs, H', ⟨by have := HJ1.out; have := HK2.out; omega⟩, ⟨by refine zb ?_; exact BK113.out⟩, ⟨zl2 HB.out GE113.out GE115.out⟩⟩
           ·
            replace c21 := Bool.eq_false_iff.mpr c21
            subst c21
            rw [if_neg (show ¬ (false = true) by decide)] at H
            obtain rfl := Option.some.inj H
            have p114 : 0 ≤ (x21_2 : Int) := of_decide_eq_true za
            have q114 : x21_2 < (l0_0.length : Int) := of_decide_eq_true za
            obtain ⟨ad114, e114, hx114_0, hx114_1, hx114_2⟩ := at_T24 HR0_0.out x21_2 p114 q114
            cases e114
            replace hx114_0 := zq HB.out hx114_0
            replace hx114_1 := zq HB.out hx114_1
            replace hx114_2 := zq HB.out hx114_2
            replace p114 := eq_true p114
            replace q114 := eq_true q114
            go_wp2_with (first | ((with_reducible refine gate_dst (N := 4) rfl ?_); refine box_event ?hg (N := 4) ?hd (cs := #[.int .i64 0, .int .i64 0, .bool false]) (t := 24) ?hr ?_; (case hd => rfl); (case hg => rfl); (case hr => exact zh); intro gb115 hg w26 hbox hb; have n0_ := am (zbb BK113.out hb); have n1_ := am (below_step (zl1 HB.out GE113.out) hb); have n2_ := am (hbox); have n3_ := am ((by rw [hg]; exact (below_size (zl1 HB.out GE113.out)) : w.heap.size ≤ gb115)); have n4_ := am ((by rw [hg]; exact (below_size (zl1 HB.out GE113.out)) : w.heap.size ≤ gb115)); have n5_ := am ((by rw [hg]; exact Nat.ne_of_lt (blk_lt (g := gb113) (o := .cells #[.slice (some ad114) l0_0.length c0_0] 27 (0, 0)) (zb BK113.out)) : gb113 ≠ gb115)); have n6_ := am ((by rw [hg]; exact Nat.ne_of_gt (blk_lt (g := gb113) (o := .cells #[.slice (some ad114) l0_0.length c0_0] 27 (0, 0)) (zb BK113.out)) : gb115 ≠ gb113)); clear BK113 HB; have BK113 := n0_; have HB := n1_; have BK115 := n2_; have GW115 := n3_; have GE115 := n4_; have NB113_115 := n5_; have NB115_113 := n6_; clear n0_ n1_ n2_ n3_ n4_ n5_ n6_; clear hb hbox hg; have hnb27 := NB115_113.out; have hnc27 := NB113_115.out; have hcz28_0 : w26.cell? ⟨gb115, 0, none⟩ = some (.int .i64 0) := (blk_cell BK115.out 0).trans rfl; have hcz28_1 : w26.cell? ⟨gb115, 1, none⟩ = some (.int .i64 0) := (blk_cell BK115.out 1).trans rfl; have hcz28_2 : w26.cell? ⟨gb115, 2, none⟩ = some (.bool false) := (blk_cell BK115.out 2).trans rfl; have hfz28_0 := blk_frozen BK115.out 0; have hfz28_1 := blk_frozen BK115.out 1; have hfz28_2 := blk_frozen BK115.out 2) | (go_at_call 127; (with_reducible refine (types_stands.calls gb113 (some ad114) c0_0 l0_0 x21_2 false _ ?side1 ?side2 ?side3 A20.out).mono ?_); (case side1 => exact Kd.C_below HR0_0.out (zl2 HB.out GE113.out GE115.out)); (case side2 => exact HC0_0.out); (case side3 => refine zb ?_; refine blk_far ?_ NB113_115.out _; refine zb ?_; refine blk_far ?_ NB113_115.out _; refine zb ?_; refine blk_far ?_ NB113_115.out _; refine zb ?_; exact BK113.out); rintro e w29 ⟨rfl, hb⟩; have n0_ := am (blk_below (g := gb113) (o := .cells #[.slice (some ad114) l0_0.length c0_0] 27 (0, 0)) (by refine zb ?_; refine blk_far ?_ NB113_115.out _; refine zb ?_; refine blk_far ?_ NB113_115.out _; refine zb ?_; refine blk_far ?_ NB113_115.out _; refine zb ?_; exact BK113.out) hb); have n1_ := am (blk_below (g := gb115) (o := .cells #[.int .i64 ((rd_T24 l0_0 x21_2).f0), .int .i64 ((rd_T24 l0_0 x21_2).f1), .bool ((rd_T24 l0_0 x21_2).f2)] 24 (0, 0)) (by refine zb ?_; refine blk_put (cs := #[.int .i64 ((rd_T24 l0_0 x21_2).f0), .int .i64 ((rd_T24 l0_0 x21_2).f1), .bool false]) ?_ 2 _ rfl; refine zb ?_; refine blk_put (cs := #[.int .i64 ((rd_T24 l0_0 x21_2).f0), .int .i64 0, .bool false]) ?_ 1 _ rfl; refine zb ?_; refine blk_put (cs := #[.int .i64 0, .int .i64 0, .bool false]) ?_ 0 _ rfl; refine zb ?_; exact BK115.out) hb); have n2_ := am (below_step (zl2 HB.out GE113.out GE115.out) hb); clear BK113 BK115 HB; have BK113 := n0_; have BK115 := n1_; have HB := n2_; clear n0_ n1_ n2_; (try clear hb); (try clear hb2); (try clear hk); (try clear hi)))
            go_ret
            exact ⟨ze, zl2 HB.out GE113.out GE115.out⟩
        ·
         rw [if_neg c11] at H
         exact absurd H (by simp)
       ·
        rw [if_neg c10] at H
        exact absurd H (by simp)
      ·
       rw [if_neg c9] at H
       have c9b0 := decide_eq_false c9
       clear c9
       have H' := am H
       clear H
       have hcz30_0 : wr.cell? ⟨gb113, 0, none⟩ = some (.slice A0_0 l0_0.length c0_0) := (blk_cell BK113.out 0).trans rfl
       have hfz30_0 := blk_frozen BK113.out 0
       go_wp2
       (try simp only [Act.put, List.setIfInBounds_toArray, List.set_cons_zero, List.set_cons_succ])
       go_loopg [43] k2 (fun kq v43 w' => ∃ (x43_3 : Int), v43 = .int .i64 x43_3 ∧ Aside0 (types_May.l1 kq l0_0 (l0_0.length : Int) x43_3 l0_0 = some r) ∧ Aside0 (kq ≤ k2) ∧ Aside0 (w'.heap[gb113]? = some (.cells #[(.slice A0_0 l0_0.length c0_0)] 27 (0, 0))) ∧ Aside0 (Below w.heap.size w w'))
       case atStart => exact ⟨(0), zs, H', ⟨Nat.le_refl _⟩, ⟨by refine zb ?_; exact BK113.out⟩, ⟨zl1 HB.out GE113.out⟩⟩
       case round =>
        clear H'
        try clear c1
        try clear p1
        try clear q1
        try clear hx1
        try clear c2
        try clear p2
        try clear c4
        try clear c4b0
        try clear c4b1
        try clear c4b2
        try clear p6
        try clear c7
        try clear c9
        try clear c9b0
        try clear c10
        try clear c10b0
        try clear c11
        try clear c11b0
        try clear p11
        try clear q11
        try clear hx11
        try clear c12
        try clear c12b0
        try clear c14
        try clear c16
        try clear c16b0
        try clear c18
        try clear c21
        try clear c23
        try clear c27
        try clear hcz15_0
        try clear hcz15_1
        try clear hcz15_2
        try clear hcz19_0
        try clear hcz19_1
        try clear hcz19_2
        try clear hcz24_0
        try clear hcz24_1
        try clear hcz24_2
        try clear hcz28_0
        try clear hcz28_1
        try clear hcz28_2
        try clear hcz30_0
        try clear hcz5_0
        try clear hcz6_0
        try clear hcz8_0
        try clear hfz15_0
        try clear hfz15_1
        try clear hfz15_2
        try clear hfz19_0
        try clear hfz19_1
        try clear hfz19_2
        try clear hfz24_0
        try clear hfz24_1
        try clear hfz24_2
        try clear hfz28_0
        try clear hfz28_1
        try clear hfz28_2
        try clear hfz30_0
        try clear hfz5_0
        try clear hfz6_0
        try clear hfz8_0
        try clear hx114_0
        try clear hx114_1
        try clear hx114_2
        try clear p114
        try clear p2
        try clear q114
        obtain ⟨x43_3, rfl, HA, HK3, BK113, HB⟩ := hrel
        cases gk with
        | zero => exact absurd HA.out (by simp [types_May.l1])
        | succ k3 =>
         have H := HA.out
         clear HA
         simp only [types_May.l1] at H
         by_cases c31 : x43_3 < (l0_0.length : Int)
         ·
          rw [if_pos c31] at H
          have c31b0 := decide_eq_true c31
          clear c31
          by_cases c32 : 0 ≤ x43_3
          ·
           rw [if_pos c32] at H
           have c32b0 := decide_eq_true c32
           clear c32
           by_cases c33 : x43_3 < (l0_0.length : Int)
           ·
            rw [if_pos c33] at H
            have c33b0 := decide_eq_true c33
            clear c33
            replace H := zo H
            obtain ⟨t119, A340, H⟩ := H
            (try dsimp only at H)
            have A34 := am A340
            clear A340
            by_cases c35 : ((rd_T24 l0_0 x43_3).f0) = 3
            ·
             rw [if_pos c35] at H
             have c35b0 := beq_iff_eq.mpr c35
             have c35b1 := bne_eq_false_iff_eq.mpr c35
             clear c35
             by_cases c36 : (t119.length : Int) = 1
             ·
              rw [if_pos c36] at H
              have c36b0 := beq_iff_eq.mpr c36
              have c36b1 := bne_eq_false_iff_eq.mpr c36
              clear c36
              by_cases c37 : ((rd_T24 l0_0 x43_3).f0) = 4
              ·
               rw [if_pos c37] at H
               have c37b0 := beq_iff_eq.mpr c37
               have c37b1 := bne_eq_false_iff_eq.mpr c37
               clear c37
               by_cases c38 : (t119.length : Int) = 0
               ·
                rw [if_pos c38] at H
                have c38b0 := beq_iff_eq.mpr c38
                have c38b1 := bne_eq_false_iff_eq.mpr c38
                clear c38
                obtain rfl := Option.some.inj H
                have p117 : 0 ≤ (x43_3 : Int) := of_decide_eq_true za
                have q117 : x43_3 < (l0_0.length : Int) := of_decide_eq_true za
                obtain ⟨ad117, e117, hx117_0, hx117_1, hx117_2⟩ := at_T24 HR0_0.out x43_3 p117 q117
                cases e117
                replace hx117_0 := zq HB.out hx117_0
                replace hx117_1 := zq HB.out hx117_1
                replace hx117_2 := zq HB.out hx117_2
                replace p117 := eq_true p117
                replace q117 := eq_true q117
                go_wp2_with (first | ((with_reducible refine gate_dst (N := 6) rfl ?_); refine box_event ?hg (N := 6) ?hd (cs := #[.int .i64 0, .int .i64 0, .bool false]) (t := 24) ?hr ?_; (case hd => rfl); (case hg => rfl); (case hr => exact zh); intro gb118 hg w39 hbox hb; have n0_ := am (zbb BK113.out hb); have n1_ := am (below_step (zl1 HB.out GE113.out) hb); have n2_ := am (hbox); have n3_ := am ((by rw [hg]; exact (below_size (zl1 HB.out GE113.out)) : w.heap.size ≤ gb118)); have n4_ := am ((by rw [hg]; exact (below_size (zl1 HB.out GE113.out)) : w.heap.size ≤ gb118)); have n5_ := am ((by rw [hg]; exact Nat.ne_of_lt (blk_lt (g := gb113) (o := .cells #[.slice (some ad117) l0_0.length c0_0] 27 (0, 0)) (zb BK113.out)) : gb113 ≠ gb118)); have n6_ := am ((by rw [hg]; exact Nat.ne_of_gt (blk_lt (g := gb113) (o := .cells #[.slice (some ad117) l0_0.length c0_0] 27 (0, 0)) (zb BK113.out)) : gb118 ≠ gb113)); clear BK113 HB; have BK113 := n0_; have HB := n1_; have BK118 := n2_; have GW118 := n3_; have GE118 := n4_; have NB113_118 := n5_; have NB118_113 := n6_; clear n0_ n1_ n2_ n3_ n4_ n5_ n6_; clear hb hbox hg; have hnb40 := NB118_113.out; have hnc40 := NB113_118.out; have hcz41_0 : w39.cell? ⟨gb118, 0, none⟩ = some (.int .i64 0) := (blk_cell BK118.out 0).trans rfl; have hcz41_1 : w39.cell? ⟨gb118, 1, none⟩ = some (.int .i64 0) := (blk_cell BK118.out 1).trans rfl; have hcz41_2 : w39.cell? ⟨gb118, 2, none⟩ = some (.bool false) := (blk_cell BK118.out 2).trans rfl; have hfz41_0 := blk_frozen BK118.out 0; have hfz41_1 := blk_frozen BK118.out 1; have hfz41_2 := blk_frozen BK118.out 2) | ((with_reducible refine gate_callee (f := 126) rfl ?_); refine goesL_ (some 49) rfl rfl Tryz.func126 (by kernel_rfl) rfl #[.pointer (some ⟨gb113, 0, none⟩), .int .i64 x43_3] rfl zm ?_; (with_reducible refine (types_kids.calls k3 gb113 (some ad117) c0_0 l0_0 x43_3 t119 _ ?side1 ?side2 ?side3 A34.out).mono ?_); (case side1 => exact Kd.C_below HR0_0.out (zl2 HB.out GE113.out GE118.out)); (case side2 => exact HC0_0.out); (case side3 => refine zb ?_; refine blk_far ?_ NB113_118.out _; refine zb ?_; refine blk_far ?_ NB113_118.out _; refine zb ?_; refine blk_far ?_ NB113_118.out _; refine zb ?_; exact BK113.out); rintro e w42 ⟨v120, rfl, ho0, hb⟩; refine ⟨_, rfl, ?_⟩; have n0_ := am (Kd.R_lower ho0 (below_size (zl2 HB.out GE113.out GE118.out))); have n1_ := am (blk_below (g := gb113) (o := .cells #[.slice (some ad117) l0_0.length c0_0] 27 (0, 0)) (by refine zb ?_; refine blk_far ?_ NB113_118.out _; refine zb ?_; refine blk_far ?_ NB113_118.out _; refine zb ?_; refine blk_far ?_ NB113_118.out _; refine zb ?_; exact BK113.out) hb); have n2_ := am (blk_below (g := gb118) (o := .cells #[.int .i64 ((rd_T24 l0_0 x43_3).f0), .int .i64 ((rd_T24 l0_0 x43_3).f1), .bool ((rd_T24 l0_0 x43_3).f2)] 24 (0, 0)) (by refine zb ?_; refine blk_put (cs := #[.int .i64 ((rd_T24 l0_0 x43_3).f0), .int .i64 ((rd_T24 l0_0 x43_3).f1), .bool false]) ?_ 2 _ rfl; refine zb ?_; refine blk_put (cs := #[.int .i64 ((rd_T24 l0_0 x43_3).f0), .int .i64 0, .bool false]) ?_ 1 _ rfl; refine zb ?_; refine blk_put (cs := #[.int .i64 0, .int .i64 0, .bool false]) ?_ 0 _ rfl; refine zb ?_; exact BK118.out) hb); have n3_ := am (below_step (zl2 HB.out GE113.out GE118.out) hb); clear BK113 BK118 HB; have HO121 := n0_; have BK113 := n1_; have BK118 := n2_; have HB := n3_; clear n0_ n1_ n2_ n3_; (try clear hb); (try clear hb2); (try clear hk); (try clear hi); (try clear ho0); obtain ⟨Ao43, co43, eo43⟩ := Kd.R_slice HO121.out; subst eo43; have hcz44_0 : w42.cell? ⟨gb118, 0, none⟩ = some (.int .i64 ((rd_T24 l0_0 x43_3).f0)) := (blk_cell BK118.out 0).trans rfl; have hcz44_1 : w42.cell? ⟨gb118, 1, none⟩ = some (.int .i64 ((rd_T24 l0_0 x43_3).f1)) := (blk_cell BK118.out 1).trans rfl; have hcz44_2 : w42.cell? ⟨gb118, 2, none⟩ = some (.bool ((rd_T24 l0_0 x43_3).f2)) := (blk_cell BK118.out 2).trans rfl; have hfz44_0 := blk_frozen BK118.out 0; have hfz44_1 := blk_frozen BK118.out 1; have hfz44_2 := blk_frozen BK118.out 2))
                go_ret
                exact ⟨ze, zl2 HB.out GE113.out GE118.out⟩
               ·
                rw [if_neg c38] at H
                have c38b0 := beq_eq_false_iff_ne.mpr c38
                have c38b1 := bne_iff_ne.mpr c38
                have c38b2 : ¬ (t119 = []) := fun h_ => c38 (by rw [h_]; rfl)
                replace H := zo H
                obtain ⟨t122, A450, H⟩ := H
                (try dsimp only at H)
                have A45 := am A450
                clear A450
                by_cases c46 : (t122.length : Int) > 5
                ·
                 rw [if_pos c46] at H
                 have c46b0 : decide (5 < (t122.length : Int)) = true := decide_eq_true c46
                 have c46b1 : decide (5 < t122.length) = true := decide_eq_true (by omega)
                 clear c46
                 obtain rfl := Option.some.inj H
                 have p117 : 0 ≤ (x43_3 : Int) := of_decide_eq_true za
                 have q117 : x43_3 < (l0_0.length : Int) := of_decide_eq_true za
                 obtain ⟨ad117, e117, hx117_0, hx117_1, hx117_2⟩ := at_T24 HR0_0.out x43_3 p117 q117
                 cases e117
                 replace hx117_0 := zq HB.out hx117_0
                 replace hx117_1 := zq HB.out hx117_1
                 replace hx117_2 := zq HB.out hx117_2
                 replace p117 := eq_true p117
                 replace q117 := eq_true q117
                 go_wp2_with (first | ((with_reducible refine gate_dst (N := 6) rfl ?_); refine box_event ?hg (N := 6) ?hd (cs := #[.int .i64 0, .int .i64 0, .bool false]) (t := 24) ?hr ?_; (case hd => rfl); (case hg => rfl); (case hr => exact zh); intro gb118 hg w47 hbox hb; have n0_ := am (zbb BK113.out hb); have n1_ := am (below_step (zl1 HB.out GE113.out) hb); have n2_ := am (hbox); have n3_ := am ((by rw [hg]; exact (below_size (zl1 HB.out GE113.out)) : w.heap.size ≤ gb118)); have n4_ := am ((by rw [hg]; exact (below_size (zl1 HB.out GE113.out)) : w.heap.size ≤ gb118)); have n5_ := am ((by rw [hg]; exact Nat.ne_of_lt (blk_lt (g := gb113) (o := .cells #[.slice (some ad117) l0_0.length c0_0] 27 (0, 0)) (zb BK113.out)) : gb113 ≠ gb118)); have n6_ := am ((by rw [hg]; exact Nat.ne_of_gt (blk_lt (g := gb113) (o := .cells #[.slice (some ad117) l0_0.length c0_0] 27 (0, 0)) (zb BK113.out)) : gb118 ≠ gb113)); clear BK113 HB; have BK113 := n0_; have HB := n1_; have BK118 := n2_; have GW118 := n3_; have GE118 := n4_; have NB113_118 := n5_; have NB118_113 := n6_; clear n0_ n1_ n2_ n3_ n4_ n5_ n6_; clear hb hbox hg; have hnb48 := NB118_113.out; have hnc48 := NB113_118.out; have hcz49_0 : w47.cell? ⟨gb118, 0, none⟩ = some (.int .i64 0) := (blk_cell BK118.out 0).trans rfl; have hcz49_1 : w47.cell? ⟨gb118, 1, none⟩ = some (.int .i64 0) := (blk_cell BK118.out 1).trans rfl; have hcz49_2 : w47.cell? ⟨gb118, 2, none⟩ = some (.bool false) := (blk_cell BK118.out 2).trans rfl; have hfz49_0 := blk_frozen BK118.out 0; have hfz49_1 := blk_frozen BK118.out 1; have hfz49_2 := blk_frozen BK118.out 2) | ((with_reducible refine gate_callee (f := 126) rfl ?_); refine goesL_ (some 49) rfl rfl Tryz.func126 (by kernel_rfl) rfl #[.pointer (some ⟨gb113, 0, none⟩), .int .i64 x43_3] rfl zm ?_; (with_reducible refine (types_kids.calls k3 gb113 (some ad117) c0_0 l0_0 x43_3 t119 _ ?side1 ?side2 ?side3 A34.out).mono ?_); (case side1 => exact Kd.C_below HR0_0.out (zl2 HB.out GE113.out GE118.out)); (case side2 => exact HC0_0.out); (case side3 => refine zb ?_; refine blk_far ?_ NB113_118.out _; refine zb ?_; refine blk_far ?_ NB113_118.out _; refine zb ?_; refine blk_far ?_ NB113_118.out _; refine zb ?_; exact BK113.out); rintro e w50 ⟨v120, rfl, ho0, hb⟩; refine ⟨_, rfl, ?_⟩; have n0_ := am (Kd.R_lower ho0 (below_size (zl2 HB.out GE113.out GE118.out))); have n1_ := am (blk_below (g := gb113) (o := .cells #[.slice (some ad117) l0_0.length c0_0] 27 (0, 0)) (by refine zb ?_; refine blk_far ?_ NB113_118.out _; refine zb ?_; refine blk_far ?_ NB113_118.out _; refine zb ?_; refine blk_far ?_ NB113_118.out _; refine zb ?_; exact BK113.out) hb); have n2_ := am (blk_below (g := gb118) (o := .cells #[.int .i64 ((rd_T24 l0_0 x43_3).f0), .int .i64 ((rd_T24 l0_0 x43_3).f1), .bool ((rd_T24 l0_0 x43_3).f2)] 24 (0, 0)) (by refine zb ?_; refine blk_put (cs := #[.int .i64 ((rd_T24 l0_0 x43_3).f0), .int .i64 ((rd_T24 l0_0 x43_3).f1), .bool false]) ?_ 2 _ rfl; refine zb ?_; refine blk_put (cs := #[.int .i64 ((rd_T24 l0_0 x43_3).f0), .int .i64 0, .bool false]) ?_ 1 _ rfl; refine zb ?_; refine blk_put (cs := #[.int .i64 0, .int .i64 0, .bool false]) ?_ 0 _ rfl; refine zb ?_; exact BK118.out) hb); have n3_ := am (below_step (zl2 HB.out GE113.out GE118.out) hb); clear BK113 BK118 HB; have HO121 := n0_; have BK113 := n1_; have BK118 := n2_; have HB := n3_; clear n0_ n1_ n2_ n3_; (try clear hb); (try clear hb2); (try clear hk); (try clear hi); (try clear ho0); obtain ⟨Ao51, co51, eo51⟩ := Kd.R_slice HO121.out; subst eo51; have hcz52_0 : w50.cell? ⟨gb118, 0, none⟩ = some (.int .i64 ((rd_T24 l0_0 x43_3).f0)) := (blk_cell BK118.out 0).trans rfl; have hcz52_1 : w50.cell? ⟨gb118, 1, none⟩ = some (.int .i64 ((rd_T24 l0_0 x43_3).f1)) := (blk_cell BK118.out 1).trans rfl; have hcz52_2 : w50.cell? ⟨gb118, 2, none⟩ = some (.bool ((rd_T24 l0_0 x43_3).f2)) := (blk_cell BK118.out 2).trans rfl; have hfz52_0 := blk_frozen BK118.out 0; have hfz52_1 := blk_frozen BK118.out 1; have hfz52_2 := blk_frozen BK118.out 2) | (go_at_call 69; (with_reducible refine (types_way.calls k3 gb113 (some ad117) c0_0 l0_0 x43_3 t122 _ ?side1 ?side2 ?side3 A45.out).mono ?_); (case side1 => exact zc (Kd.C_below HR0_0.out HB.out)); (case side2 => exact HC0_0.out); (case side3 => refine zb ?_; exact BK113.out); rintro e w53 ⟨v123, rfl, ho0, hb⟩; have n0_ := am (Kd.R_elder' (zr HO121.out) (Kd.R_base ho0) hb); have n1_ := am (Kd.R_lower (Kd.R_new' ho0 (Kd.R_lt (zr HO121.out))) (below_size (zl2 HB.out GE113.out GE118.out))); have n2_ := am (zbb BK113.out hb); have n3_ := am (zbb BK118.out hb); have n4_ := am (below_step (zl2 HB.out GE113.out GE118.out) hb); clear HO121 BK113; clear BK118 HB; have HO121 := n0_; have HO124 := n1_; have BK113 := n2_; have BK118 := n3_; have HB := n4_; clear n0_ n1_ n2_ n3_ n4_; (try clear hb); (try clear hb2); (try clear hk); (try clear hi); (try clear ho0); obtain ⟨Ao54, co54, eo54⟩ := Kd.R_slice HO124.out; subst eo54))
                 go_ret
                 exact ⟨ze, zl2 HB.out GE113.out GE118.out⟩
                ·
                 rw [if_neg c46] at H
                 have c46b0 : decide (5 < (t122.length : Int)) = false := decide_eq_false c46
                 have c46b1 : decide (5 < t122.length) = false := decide_eq_false (by omega)
                 clear c46
                 have H' := am H
                 clear H
                 have p117 : 0 ≤ (x43_3 : Int) := of_decide_eq_true za
                 have q117 : x43_3 < (l0_0.length : Int) := of_decide_eq_true za
                 obtain ⟨ad117, e117, hx117_0, hx117_1, hx117_2⟩ := at_T24 HR0_0.out x43_3 p117 q117
                 cases e117
                 replace hx117_0 := zq HB.out hx117_0
                 replace hx117_1 := zq HB.out hx117_1
                 replace hx117_2 := zq HB.out hx117_2
                 replace p117 := eq_true p117
                 replace q117 := eq_true q117
                 go_wp2_with (first | ((with_reducible refine gate_dst (N := 6) rfl ?_); refine box_event ?hg (N := 6) ?hd (cs := #[.int .i64 0, .int .i64 0, .bool false]) (t := 24) ?hr ?_; (case hd => rfl); (case hg => rfl); (case hr => exact zh); intro gb118 hg w55 hbox hb; have n0_ := am (zbb BK113.out hb); have n1_ := am (below_step (zl1 HB.out GE113.out) hb); have n2_ := am (hbox); have n3_ := am ((by rw [hg]; exact (below_size (zl1 HB.out GE113.out)) : w.heap.size ≤ gb118)); have n4_ := am ((by rw [hg]; exact (below_size (zl1 HB.out GE113.out)) : w.heap.size ≤ gb118)); have n5_ := am ((by rw [hg]; exact Nat.ne_of_lt (blk_lt (g := gb113) (o := .cells #[.slice (some ad117) l0_0.length c0_0] 27 (0, 0)) (zb BK113.out)) : gb113 ≠ gb118)); have n6_ := am ((by rw [hg]; exact Nat.ne_of_gt (blk_lt (g := gb113) (o := .cells #[.slice (some ad117) l0_0.length c0_0] 27 (0, 0)) (zb BK113.out)) : gb118 ≠ gb113)); clear BK113 HB; have BK113 := n0_; have HB := n1_; have BK118 := n2_; have GW118 := n3_; have GE118 := n4_; have NB113_118 := n5_; have NB118_113 := n6_; clear n0_ n1_ n2_ n3_ n4_ n5_ n6_; clear hb hbox hg; have hnb56 := NB118_113.out; have hnc56 := NB113_118.out; have hcz57_0 : w55.cell? ⟨gb118, 0, none⟩ = some (.int .i64 0) := (blk_cell BK118.out 0).trans rfl; have hcz57_1 : w55.cell? ⟨gb118, 1, none⟩ = some (.int .i64 0) := (blk_cell BK118.out 1).trans rfl; have hcz57_2 : w55.cell? ⟨gb118, 2, none⟩ = some (.bool false) := (blk_cell BK118.out 2).trans rfl; have hfz57_0 := blk_frozen BK118.out 0; have hfz57_1 := blk_frozen BK118.out 1; have hfz57_2 := blk_frozen BK118.out 2) | ((with_reducible refine gate_callee (f := 126) rfl ?_); refine goesL_ (some 49) rfl rfl Tryz.func126 (by kernel_rfl) rfl #[.pointer (some ⟨gb113, 0, none⟩), .int .i64 x43_3] rfl zm ?_; (with_reducible refine (types_kids.calls k3 gb113 (some ad117) c0_0 l0_0 x43_3 t119 _ ?side1 ?side2 ?side3 A34.out).mono ?_); (case side1 => exact Kd.C_below HR0_0.out (zl2 HB.out GE113.out GE118.out)); (case side2 => exact HC0_0.out); (case side3 => refine zb ?_; refine blk_far ?_ NB113_118.out _; refine zb ?_; refine blk_far ?_ NB113_118.out _; refine zb ?_; refine blk_far ?_ NB113_118.out _; refine zb ?_; exact BK113.out); rintro e w58 ⟨v120, rfl, ho0, hb⟩; refine ⟨_, rfl, ?_⟩; have n0_ := am (Kd.R_lower ho0 (below_size (zl2 HB.out GE113.out GE118.out))); have n1_ := am (blk_below (g := gb113) (o := .cells #[.slice (some ad117) l0_0.length c0_0] 27 (0, 0)) (by refine zb ?_; refine blk_far ?_ NB113_118.out _; refine zb ?_; refine blk_far ?_ NB113_118.out _; refine zb ?_; refine blk_far ?_ NB113_118.out _; refine zb ?_; exact BK113.out) hb); have n2_ := am (blk_below (g := gb118) (o := .cells #[.int .i64 ((rd_T24 l0_0 x43_3).f0), .int .i64 ((rd_T24 l0_0 x43_3).f1), .bool ((rd_T24 l0_0 x43_3).f2)] 24 (0, 0)) (by refine zb ?_; refine blk_put (cs := #[.int .i64 ((rd_T24 l0_0 x43_3).f0), .int .i64 ((rd_T24 l0_0 x43_3).f1), .bool false]) ?_ 2 _ rfl; refine zb ?_; refine blk_put (cs := #[.int .i64 ((rd_T24 l0_0 x43_3).f0), .int .i64 0, .bool false]) ?_ 1 _ rfl; refine zb ?_; refine blk_put (cs := #[.int .i64 0, .int .i64 0, .bool false]) ?_ 0 _ rfl; refine zb ?_; exact BK118.out) hb); have n3_ := am (below_step (zl2 HB.out GE113.out GE118.out) hb); clear BK113 BK118 HB; have HO121 := n0_; have BK113 := n1_; have BK118 := n2_; have HB := n3_; clear n0_ n1_ n2_ n3_; (try clear hb); (try clear hb2); (try clear hk); (try clear hi); (try clear ho0); obtain ⟨Ao59, co59, eo59⟩ := Kd.R_slice HO121.out; subst eo59; have hcz60_0 : w58.cell? ⟨gb118, 0, none⟩ = some (.int .i64 ((rd_T24 l0_0 x43_3).f0)) := (blk_cell BK118.out 0).trans rfl; have hcz60_1 : w58.cell? ⟨gb118, 1, none⟩ = some (.int .i64 ((rd_T24 l0_0 x43_3).f1)) := (blk_cell BK118.out 1).trans rfl; have hcz60_2 : w58.cell? ⟨gb118, 2, none⟩ = some (.bool ((rd_T24 l0_0 x43_3).f2)) := (blk_cell BK118.out 2).trans rfl; have hfz60_0 := blk_frozen BK118.out 0; have hfz60_1 := blk_frozen BK118.out 1; have hfz60_2 := blk_frozen BK118.out 2) | (go_at_call 69; (with_reducible refine (types_way.calls k3 gb113 (some ad117) c0_0 l0_0 x43_3 t122 _ ?side1 ?side2 ?side3 A45.out).mono ?_); (case side1 => exact zc (Kd.C_below HR0_0.out HB.out)); (case side2 => exact HC0_0.out); (case side3 => refine zb ?_; exact BK113.out); rintro e w61 ⟨v123, rfl, ho0, hb⟩; have n0_ := am (Kd.R_elder' (zr HO121.out) (Kd.R_base ho0) hb); have n1_ := am (Kd.R_lower (Kd.R_new' ho0 (Kd.R_lt (zr HO121.out))) (below_size (zl2 HB.out GE113.out GE118.out))); have n2_ := am (zbb BK113.out hb); have n3_ := am (zbb BK118.out hb); have n4_ := am (below_step (zl2 HB.out GE113.out GE118.out) hb); clear HO121 BK113; clear BK118 HB; have HO121 := n0_; have HO124 := n1_; have BK113 := n2_; have BK118 := n3_; have HB := n4_; clear n0_ n1_ n2_ n3_ n4_; (try clear hb); (try clear hb2); (try clear hk); (try clear hi); (try clear ho0); obtain ⟨Ao62, co62, eo62⟩ := Kd.R_slice HO124.out; subst eo62))
                 go_roundg k3
                 case measure => have := HJ1.out; have := HK2.out; have := HK3.out; omega
                 case rel => exact ⟨(wrap64 (x43_3 + 1)), zs, H', ⟨by have := HJ1.out; have := HK2.out; have := HK3.out; omega⟩, ⟨by refine zb ?_; exact BK113.out⟩, ⟨zl2 HB.out GE113.out GE118.out⟩⟩
              ·
               rw [if_neg c37] at H
               have c37b0 := beq_eq_false_iff_ne.mpr c37
               have c37b1 := bne_iff_ne.mpr c37
               replace H := zo H
               obtain ⟨t125, A630, H⟩ := H
               (try dsimp only at H)
               have A63 := am A630
               clear A630
               by_cases c64 : (t125.length : Int) > 5
               ·
                rw [if_pos c64] at H
                have c64b0 : decide (5 < (t125.length : Int)) = true := decide_eq_true c64
                have c64b1 : decide (5 < t125.length) = true := decide_eq_true (by omega)
                clear c64
                obtain rfl := Option.some.inj H
                have p117 : 0 ≤ (x43_3 : Int) := of_decide_eq_true za
                have q117 : x43_3 < (l0_0.length : Int) := of_decide_eq_true za
                obtain ⟨ad117, e117, hx117_0, hx117_1, hx117_2⟩ := at_T24 HR0_0.out x43_3 p117 q117
                cases e117
                replace hx117_0 := zq HB.out hx117_0
                replace hx117_1 := zq HB.out hx117_1
                replace hx117_2 := zq HB.out hx117_2
                replace p117 := eq_true p117
                replace q117 := eq_true q117
                go_wp2_with (first | ((with_reducible refine gate_dst (N := 6) rfl ?_); refine box_event ?hg (N := 6) ?hd (cs := #[.int .i64 0, .int .i64 0, .bool false]) (t := 24) ?hr ?_; (case hd => rfl); (case hg => rfl); (case hr => exact zh); intro gb118 hg w65 hbox hb; have n0_ := am (zbb BK113.out hb); have n1_ := am (below_step (zl1 HB.out GE113.out) hb); have n2_ := am (hbox); have n3_ := am ((by rw [hg]; exact (below_size (zl1 HB.out GE113.out)) : w.heap.size ≤ gb118)); have n4_ := am ((by rw [hg]; exact (below_size (zl1 HB.out GE113.out)) : w.heap.size ≤ gb118)); have n5_ := am ((by rw [hg]; exact Nat.ne_of_lt (blk_lt (g := gb113) (o := .cells #[.slice (some ad117) l0_0.length c0_0] 27 (0, 0)) (zb BK113.out)) : gb113 ≠ gb118)); have n6_ := am ((by rw [hg]; exact Nat.ne_of_gt (blk_lt (g := gb113) (o := .cells #[.slice (some ad117) l0_0.length c0_0] 27 (0, 0)) (zb BK113.out)) : gb118 ≠ gb113)); clear BK113 HB; have BK113 := n0_; have HB := n1_; have BK118 := n2_; have GW118 := n3_; have GE118 := n4_; have NB113_118 := n5_; have NB118_113 := n6_; clear n0_ n1_ n2_ n3_ n4_ n5_ n6_; clear hb hbox hg; have hnb66 := NB118_113.out; have hnc66 := NB113_118.out; have hcz67_0 : w65.cell? ⟨gb118, 0, none⟩ = some (.int .i64 0) := (blk_cell BK118.out 0).trans rfl; have hcz67_1 : w65.cell? ⟨gb118, 1, none⟩ = some (.int .i64 0) := (blk_cell BK118.out 1).trans rfl; have hcz67_2 : w65.cell? ⟨gb118, 2, none⟩ = some (.bool false) := (blk_cell BK118.out 2).trans rfl; have hfz67_0 := blk_frozen BK118.out 0; have hfz67_1 := blk_frozen BK118.out 1; have hfz67_2 := blk_frozen BK118.out 2) | ((with_reducible refine gate_callee (f := 126) rfl ?_); refine goesL_ (some 49) rfl rfl Tryz.func126 (by kernel_rfl) rfl #[.pointer (some ⟨gb113, 0, none⟩), .int .i64 x43_3] rfl zm ?_; (with_reducible refine (types_kids.calls k3 gb113 (some ad117) c0_0 l0_0 x43_3 t119 _ ?side1 ?side2 ?side3 A34.out).mono ?_); (case side1 => exact Kd.C_below HR0_0.out (zl2 HB.out GE113.out GE118.out)); (case side2 => exact HC0_0.out); (case side3 => refine zb ?_; refine blk_far ?_ NB113_118.out _; refine zb ?_; refine blk_far ?_ NB113_118.out _; refine zb ?_; refine blk_far ?_ NB113_118.out _; refine zb ?_; exact BK113.out); rintro e w68 ⟨v120, rfl, ho0, hb⟩; refine ⟨_, rfl, ?_⟩; have n0_ := am (Kd.R_lower ho0 (below_size (zl2 HB.out GE113.out GE118.out))); have n1_ := am (blk_below (g := gb113) (o := .cells #[.slice (some ad117) l0_0.length c0_0] 27 (0, 0)) (by refine zb ?_; refine blk_far ?_ NB113_118.out _; refine zb ?_; refine blk_far ?_ NB113_118.out _; refine zb ?_; refine blk_far ?_ NB113_118.out _; refine zb ?_; exact BK113.out) hb); have n2_ := am (blk_below (g := gb118) (o := .cells #[.int .i64 ((rd_T24 l0_0 x43_3).f0), .int .i64 ((rd_T24 l0_0 x43_3).f1), .bool ((rd_T24 l0_0 x43_3).f2)] 24 (0, 0)) (by refine zb ?_; refine blk_put (cs := #[.int .i64 ((rd_T24 l0_0 x43_3).f0), .int .i64 ((rd_T24 l0_0 x43_3).f1), .bool false]) ?_ 2 _ rfl; refine zb ?_; refine blk_put (cs := #[.int .i64 ((rd_T24 l0_0 x43_3).f0), .int .i64 0, .bool false]) ?_ 1 _ rfl; refine zb ?_; refine blk_put (cs := #[.int .i64 0, .int .i64 0, .bool false]) ?_ 0 _ rfl; refine zb ?_; exact BK118.out) hb); have n3_ := am (below_step (zl2 HB.out GE113.out GE118.out) hb); clear BK113 BK118 HB; have HO121 := n0_; have BK113 := n1_; have BK118 := n2_; have HB := n3_; clear n0_ n1_ n2_ n3_; (try clear hb); (try clear hb2); (try clear hk); (try clear hi); (try clear ho0); obtain ⟨Ao69, co69, eo69⟩ := Kd.R_slice HO121.out; subst eo69; have hcz70_0 : w68.cell? ⟨gb118, 0, none⟩ = some (.int .i64 ((rd_T24 l0_0 x43_3).f0)) := (blk_cell BK118.out 0).trans rfl; have hcz70_1 : w68.cell? ⟨gb118, 1, none⟩ = some (.int .i64 ((rd_T24 l0_0 x43_3).f1)) := (blk_cell BK118.out 1).trans rfl; have hcz70_2 : w68.cell? ⟨gb118, 2, none⟩ = some (.bool ((rd_T24 l0_0 x43_3).f2)) := (blk_cell BK118.out 2).trans rfl; have hfz70_0 := blk_frozen BK118.out 0; have hfz70_1 := blk_frozen BK118.out 1; have hfz70_2 := blk_frozen BK118.out 2) | (go_at_call 69; (with_reducible refine (types_way.calls k3 gb113 (some ad117) c0_0 l0_0 x43_3 t125 _ ?side1 ?side2 ?side3 A63.out).mono ?_); (case side1 => exact zc (Kd.C_below HR0_0.out HB.out)); (case side2 => exact HC0_0.out); (case side3 => refine zb ?_; exact BK113.out); rintro e w71 ⟨v126, rfl, ho0, hb⟩; have n0_ := am (Kd.R_elder' (zr HO121.out) (Kd.R_base ho0) hb); have n1_ := am (Kd.R_lower (Kd.R_new' ho0 (Kd.R_lt (zr HO121.out))) (below_size (zl2 HB.out GE113.out GE118.out))); have n2_ := am (zbb BK113.out hb); have n3_ := am (zbb BK118.out hb); have n4_ := am (below_step (zl2 HB.out GE113.out GE118.out) hb); clear HO121 BK113; clear BK118 HB; have HO121 := n0_; have HO127 := n1_; have BK113 := n2_; have BK118 := n3_; have HB := n4_; clear n0_ n1_ n2_ n3_ n4_; (try clear hb); (try clear hb2); (try clear hk); (try clear hi); (try clear ho0); obtain ⟨Ao72, co72, eo72⟩ := Kd.R_slice HO127.out; subst eo72))
                go_ret
                exact ⟨ze, zl2 HB.out GE113.out GE118.out⟩
               ·
                rw [if_neg c64] at H
                have c64b0 : decide (5 < (t125.length : Int)) = false := decide_eq_false c64
                have c64b1 : decide (5 < t125.length) = false := decide_eq_false (by omega)
                clear c64
                have H' := am H
                clear H
                have p117 : 0 ≤ (x43_3 : Int) := of_decide_eq_true za
                have q117 : x43_3 < (l0_0.length : Int) := of_decide_eq_true za
                obtain ⟨ad117, e117, hx117_0, hx117_1, hx117_2⟩ := at_T24 HR0_0.out x43_3 p117 q117
                cases e117
                replace hx117_0 := zq HB.out hx117_0
                replace hx117_1 := zq HB.out hx117_1
                replace hx117_2 := zq HB.out hx117_2
                replace p117 := eq_true p117
                replace q117 := eq_true q117
                go_wp2_with (first | ((with_reducible refine gate_dst (N := 6) rfl ?_); refine box_event ?hg (N := 6) ?hd (cs := #[.int .i64 0, .int .i64 0, .bool false]) (t := 24) ?hr ?_; (case hd => rfl); (case hg => rfl); (case hr => exact zh); intro gb118 hg w73 hbox hb; have n0_ := am (zbb BK113.out hb); have n1_ := am (below_step (zl1 HB.out GE113.out) hb); have n2_ := am (hbox); have n3_ := am ((by rw [hg]; exact (below_size (zl1 HB.out GE113.out)) : w.heap.size ≤ gb118)); have n4_ := am ((by rw [hg]; exact (below_size (zl1 HB.out GE113.out)) : w.heap.size ≤ gb118)); have n5_ := am ((by rw [hg]; exact Nat.ne_of_lt (blk_lt (g := gb113) (o := .cells #[.slice (some ad117) l0_0.length c0_0] 27 (0, 0)) (zb BK113.out)) : gb113 ≠ gb118)); have n6_ := am ((by rw [hg]; exact Nat.ne_of_gt (blk_lt (g := gb113) (o := .cells #[.slice (some ad117) l0_0.length c0_0] 27 (0, 0)) (zb BK113.out)) : gb118 ≠ gb113)); clear BK113 HB; have BK113 := n0_; have HB := n1_; have BK118 := n2_; have GW118 := n3_; have GE118 := n4_; have NB113_118 := n5_; have NB118_113 := n6_; clear n0_ n1_ n2_ n3_ n4_ n5_ n6_; clear hb hbox hg; have hnb74 := NB118_113.out; have hnc74 := NB113_118.out; have hcz75_0 : w73.cell? ⟨gb118, 0, none⟩ = some (.int .i64 0) := (blk_cell BK118.out 0).trans rfl; have hcz75_1 : w73.cell? ⟨gb118, 1, none⟩ = some (.int .i64 0) := (blk_cell BK118.out 1).trans rfl; have hcz75_2 : w73.cell? ⟨gb118, 2, none⟩ = some (.bool false) := (blk_cell BK118.out 2).trans rfl; have hfz75_0 := blk_frozen BK118.out 0; have hfz75_1 := blk_frozen BK118.out 1; have hfz75_2 := blk_frozen BK118.out 2) | ((with_reducible refine gate_callee (f := 126) rfl ?_); refine goesL_ (some 49) rfl rfl Tryz.func126 (by kernel_rfl) rfl #[.pointer (some ⟨gb113, 0, none⟩), .int .i64 x43_3] rfl zm ?_; (with_reducible refine (types_kids.calls k3 gb113 (some ad117) c0_0 l0_0 x43_3 t119 _ ?side1 ?side2 ?side3 A34.out).mono ?_); (case side1 => exact Kd.C_below HR0_0.out (zl2 HB.out GE113.out GE118.out)); (case side2 => exact HC0_0.out); (case side3 => refine zb ?_; refine blk_far ?_ NB113_118.out _; refine zb ?_; refine blk_far ?_ NB113_118.out _; refine zb ?_; refine blk_far ?_ NB113_118.out _; refine zb ?_; exact BK113.out); rintro e w76 ⟨v120, rfl, ho0, hb⟩; refine ⟨_, rfl, ?_⟩; have n0_ := am (Kd.R_lower ho0 (below_size (zl2 HB.out GE113.out GE118.out))); have n1_ := am (blk_below (g := gb113) (o := .cells #[.slice (some ad117) l0_0.length c0_0] 27 (0, 0)) (by refine zb ?_; refine blk_far ?_ NB113_118.out _; refine zb ?_; refine blk_far ?_ NB113_118.out _; refine zb ?_; refine blk_far ?_ NB113_118.out _; refine zb ?_; exact BK113.out) hb); have n2_ := am (blk_below (g := gb118) (o := .cells #[.int .i64 ((rd_T24 l0_0 x43_3).f0), .int .i64 ((rd_T24 l0_0 x43_3).f1), .bool ((rd_T24 l0_0 x43_3).f2)] 24 (0, 0)) (by refine zb ?_; refine blk_put (cs := #[.int .i64 ((rd_T24 l0_0 x43_3).f0), .int .i64 ((rd_T24 l0_0 x43_3).f1), .bool false]) ?_ 2 _ rfl; refine zb ?_; refine blk_put (cs := #[.int .i64 ((rd_T24 l0_0 x43_3).f0), .int .i64 0, .bool false]) ?_ 1 _ rfl; refine zb ?_; refine blk_put (cs := #[.int .i64 0, .int .i64 0, .bool false]) ?_ 0 _ rfl; refine zb ?_; exact BK118.out) hb); have n3_ := am (below_step (zl2 HB.out GE113.out GE118.out) hb); clear BK113 BK118 HB; have HO121 := n0_; have BK113 := n1_; have BK118 := n2_; have HB := n3_; clear n0_ n1_ n2_ n3_; (try clear hb); (try clear hb2); (try clear hk); (try clear hi); (try clear ho0); obtain ⟨Ao77, co77, eo77⟩ := Kd.R_slice HO121.out; subst eo77; have hcz78_0 : w76.cell? ⟨gb118, 0, none⟩ = some (.int .i64 ((rd_T24 l0_0 x43_3).f0)) := (blk_cell BK118.out 0).trans rfl; have hcz78_1 : w76.cell? ⟨gb118, 1, none⟩ = some (.int .i64 ((rd_T24 l0_0 x43_3).f1)) := (blk_cell BK118.out 1).trans rfl; have hcz78_2 : w76.cell? ⟨gb118, 2, none⟩ = some (.bool ((rd_T24 l0_0 x43_3).f2)) := (blk_cell BK118.out 2).trans rfl; have hfz78_0 := blk_frozen BK118.out 0; have hfz78_1 := blk_frozen BK118.out 1; have hfz78_2 := blk_frozen BK118.out 2) | (go_at_call 69; (with_reducible refine (types_way.calls k3 gb113 (some ad117) c0_0 l0_0 x43_3 t125 _ ?side1 ?side2 ?side3 A63.out).mono ?_); (case side1 => exact zc (Kd.C_below HR0_0.out HB.out)); (case side2 => exact HC0_0.out); (case side3 => refine zb ?_; exact BK113.out); rintro e w79 ⟨v126, rfl, ho0, hb⟩; have n0_ := am (Kd.R_elder' (zr HO121.out) (Kd.R_base ho0) hb); have n1_ := am (Kd.R_lower (Kd.R_new' ho0 (Kd.R_lt (zr HO121.out))) (below_size (zl2 HB.out GE113.out GE118.out))); have n2_ := am (zbb BK113.out hb); have n3_ := am (zbb BK118.out hb); have n4_ := am (below_step (zl2 HB.out GE113.out GE118.out) hb); clear HO121 BK113; clear BK118 HB; have HO121 := n0_; have HO127 := n1_; have BK113 := n2_; have BK118 := n3_; have HB := n4_; clear n0_ n1_ n2_ n3_ n4_; (try clear hb); (try clear hb2); (try clear hk); (try clear hi); (try clear ho0); obtain ⟨Ao80, co80, eo80⟩ := Kd.R_slice HO127.out; subst eo80))
                go_roundg k3
                case measure => have := HJ1.out; have := HK2.out; have := HK3.out; omega
                case rel => exact ⟨(wrap64 (x43_3 + 1)), zs, H', ⟨by have := HJ1.out; have := HK2.out; have := HK3.out; omega⟩, ⟨by refine zb ?_; exact BK113.out⟩, ⟨zl2 HB.out GE113.out GE118.out⟩⟩
             ·
              rw [if_neg c36] at H
              have c36b0 := beq_eq_false_iff_ne.mpr c36
              have c36b1 := bne_iff_ne.mpr c36
              obtain rfl := Option.some.inj H
              have p117 : 0 ≤ (x43_3 : Int) := of_decide_eq_true za
              have q117 : x43_3 < (l0_0.length : Int) := of_decide_eq_true za
              obtain ⟨ad117, e117, hx117_0, hx117_1, hx117_2⟩ := at_T24 HR0_0.out x43_3 p117 q117
              cases e117
              replace hx117_0 := zq HB.out hx117_0
              replace hx117_1 := zq HB.out hx117_1
              replace hx117_2 := zq HB.out hx117_2
              replace p117 := eq_true p117
              replace q117 := eq_true q117
              go_wp2_with (first | ((with_reducible refine gate_dst (N := 6) rfl ?_); refine box_event ?hg (N := 6) ?hd (cs := #[.int .i64 0, .int .i64 0, .bool false]) (t := 24) ?hr ?_; (case hd => rfl); (case hg => rfl); (case hr => exact zh); intro gb118 hg w81 hbox hb; have n0_ := am (zbb BK113.out hb); have n1_ := am (below_step (zl1 HB.out GE113.out) hb); have n2_ := am (hbox); have n3_ := am ((by rw [hg]; exact (below_size (zl1 HB.out GE113.out)) : w.heap.size ≤ gb118)); have n4_ := am ((by rw [hg]; exact (below_size (zl1 HB.out GE113.out)) : w.heap.size ≤ gb118)); have n5_ := am ((by rw [hg]; exact Nat.ne_of_lt (blk_lt (g := gb113) (o := .cells #[.slice (some ad117) l0_0.length c0_0] 27 (0, 0)) (zb BK113.out)) : gb113 ≠ gb118)); have n6_ := am ((by rw [hg]; exact Nat.ne_of_gt (blk_lt (g := gb113) (o := .cells #[.slice (some ad117) l0_0.length c0_0] 27 (0, 0)) (zb BK113.out)) : gb118 ≠ gb113)); clear BK113 HB; have BK113 := n0_; have HB := n1_; have BK118 := n2_; have GW118 := n3_; have GE118 := n4_; have NB113_118 := n5_; have NB118_113 := n6_; clear n0_ n1_ n2_ n3_ n4_ n5_ n6_; clear hb hbox hg; have hnb82 := NB118_113.out; have hnc82 := NB113_118.out; have hcz83_0 : w81.cell? ⟨gb118, 0, none⟩ = some (.int .i64 0) := (blk_cell BK118.out 0).trans rfl; have hcz83_1 : w81.cell? ⟨gb118, 1, none⟩ = some (.int .i64 0) := (blk_cell BK118.out 1).trans rfl; have hcz83_2 : w81.cell? ⟨gb118, 2, none⟩ = some (.bool false) := (blk_cell BK118.out 2).trans rfl; have hfz83_0 := blk_frozen BK118.out 0; have hfz83_1 := blk_frozen BK118.out 1; have hfz83_2 := blk_frozen BK118.out 2) | ((with_reducible refine gate_callee (f := 126) rfl ?_); refine goesL_ (some 49) rfl rfl Tryz.func126 (by kernel_rfl) rfl #[.pointer (some ⟨gb113, 0, none⟩), .int .i64 x43_3] rfl zm ?_; (with_reducible refine (types_kids.calls k3 gb113 (some ad117) c0_0 l0_0 x43_3 t119 _ ?side1 ?side2 ?side3 A34.out).mono ?_); (case side1 => exact Kd.C_below HR0_0.out (zl2 HB.out GE113.out GE118.out)); (case side2 => exact HC0_0.out); (case side3 => refine zb ?_; refine blk_far ?_ NB113_118.out _; refine zb ?_; refine blk_far ?_ NB113_118.out _; refine zb ?_; refine blk_far ?_ NB113_118.out _; refine zb ?_; exact BK113.out); rintro e w84 ⟨v120, rfl, ho0, hb⟩; refine ⟨_, rfl, ?_⟩; have n0_ := am (Kd.R_lower ho0 (below_size (zl2 HB.out GE113.out GE118.out))); have n1_ := am (blk_below (g := gb113) (o := .cells #[.slice (some ad117) l0_0.length c0_0] 27 (0, 0)) (by refine zb ?_; refine blk_far ?_ NB113_118.out _; refine zb ?_; refine blk_far ?_ NB113_118.out _; refine zb ?_; refine blk_far ?_ NB113_118.out _; refine zb ?_; exact BK113.out) hb); have n2_ := am (blk_below (g := gb118) (o := .cells #[.int .i64 ((rd_T24 l0_0 x43_3).f0), .int .i64 ((rd_T24 l0_0 x43_3).f1), .bool ((rd_T24 l0_0 x43_3).f2)] 24 (0, 0)) (by refine zb ?_; refine blk_put (cs := #[.int .i64 ((rd_T24 l0_0 x43_3).f0), .int .i64 ((rd_T24 l0_0 x43_3).f1), .bool false]) ?_ 2 _ rfl; refine zb ?_; refine blk_put (cs := #[.int .i64 ((rd_T24 l0_0 x43_3).f0), .int .i64 0, .bool false]) ?_ 1 _ rfl; refine zb ?_; refine blk_put (cs := #[.int .i64 0, .int .i64 0, .bool false]) ?_ 0 _ rfl; refine zb ?_; exact BK118.out) hb); have n3_ := am (below_step (zl2 HB.out GE113.out GE118.out) hb); clear BK113 BK118 HB; have HO121 := n0_; have BK113 := n1_; have BK118 := n2_; have HB := n3_; clear n0_ n1_ n2_ n3_; (try clear hb); (try clear hb2); (try clear hk); (try clear hi); (try clear ho0); obtain ⟨Ao85, co85, eo85⟩ := Kd.R_slice HO121.out; subst eo85; have hcz86_0 : w84.cell? ⟨gb118, 0, none⟩ = some (.int .i64 ((rd_T24 l0_0 x43_3).f0)) := (blk_cell BK118.out 0).trans rfl; have hcz86_1 : w84.cell? ⟨gb118, 1, none⟩ = some (.int .i64 ((rd_T24 l0_0 x43_3).f1)) := (blk_cell BK118.out 1).trans rfl; have hcz86_2 : w84.cell? ⟨gb118, 2, none⟩ = some (.bool ((rd_T24 l0_0 x43_3).f2)) := (blk_cell BK118.out 2).trans rfl; have hfz86_0 := blk_frozen BK118.out 0; have hfz86_1 := blk_frozen BK118.out 1; have hfz86_2 := blk_frozen BK118.out 2))
              go_ret
              exact ⟨ze, zl2 HB.out GE113.out GE118.out⟩
            ·
             rw [if_neg c35] at H
             have c35b0 := beq_eq_false_iff_ne.mpr c35
             have c35b1 := bne_iff_ne.mpr c35
             by_cases c87 : ((rd_T24 l0_0 x43_3).f0) = 4
             ·
              rw [if_pos c87] at H
              have c87b0 := beq_iff_eq.mpr c87
              have c87b1 := bne_eq_false_iff_eq.mpr c87
              clear c87
              by_cases c88 : (t119.length : Int) = 0
              ·
               rw [if_pos c88] at H
               have c88b0 := beq_iff_eq.mpr c88
               have c88b1 := bne_eq_false_iff_eq.mpr c88
               clear c88
               obtain rfl := Option.some.inj H
               have p117 : 0 ≤ (x43_3 : Int) := of_decide_eq_true za
               have q117 : x43_3 < (l0_0.length : Int) := of_decide_eq_true za
               obtain ⟨ad117, e117, hx117_0, hx117_1, hx117_2⟩ := at_T24 HR0_0.out x43_3 p117 q117
               cases e117
               replace hx117_0 := zq HB.out hx117_0
               replace hx117_1 := zq HB.out hx117_1
               replace hx117_2 := zq HB.out hx117_2
               replace p117 := eq_true p117
               replace q117 := eq_true q117
               go_wp2_with (first | ((with_reducible refine gate_dst (N := 6) rfl ?_); refine box_event ?hg (N := 6) ?hd (cs := #[.int .i64 0, .int .i64 0, .bool false]) (t := 24) ?hr ?_; (case hd => rfl); (case hg => rfl); (case hr => exact zh); intro gb118 hg w89 hbox hb; have n0_ := am (zbb BK113.out hb); have n1_ := am (below_step (zl1 HB.out GE113.out) hb); have n2_ := am (hbox); have n3_ := am ((by rw [hg]; exact (below_size (zl1 HB.out GE113.out)) : w.heap.size ≤ gb118)); have n4_ := am ((by rw [hg]; exact (below_size (zl1 HB.out GE113.out)) : w.heap.size ≤ gb118)); have n5_ := am ((by rw [hg]; exact Nat.ne_of_lt (blk_lt (g := gb113) (o := .cells #[.slice (some ad117) l0_0.length c0_0] 27 (0, 0)) (zb BK113.out)) : gb113 ≠ gb118)); have n6_ := am ((by rw [hg]; exact Nat.ne_of_gt (blk_lt (g := gb113) (o := .cells #[.slice (some ad117) l0_0.length c0_0] 27 (0, 0)) (zb BK113.out)) : gb118 ≠ gb113)); clear BK113 HB; have BK113 := n0_; have HB := n1_; have BK118 := n2_; have GW118 := n3_; have GE118 := n4_; have NB113_118 := n5_; have NB118_113 := n6_; clear n0_ n1_ n2_ n3_ n4_ n5_ n6_; clear hb hbox hg; have hnb90 := NB118_113.out; have hnc90 := NB113_118.out; have hcz91_0 : w89.cell? ⟨gb118, 0, none⟩ = some (.int .i64 0) := (blk_cell BK118.out 0).trans rfl; have hcz91_1 : w89.cell? ⟨gb118, 1, none⟩ = some (.int .i64 0) := (blk_cell BK118.out 1).trans rfl; have hcz91_2 : w89.cell? ⟨gb118, 2, none⟩ = some (.bool false) := (blk_cell BK118.out 2).trans rfl; have hfz91_0 := blk_frozen BK118.out 0; have hfz91_1 := blk_frozen BK118.out 1; have hfz91_2 := blk_frozen BK118.out 2) | ((with_reducible refine gate_callee (f := 126) rfl ?_); refine goesL_ (some 49) rfl rfl Tryz.func126 (by kernel_rfl) rfl #[.pointer (some ⟨gb113, 0, none⟩), .int .i64 x43_3] rfl zm ?_; (with_reducible refine (types_kids.calls k3 gb113 (some ad117) c0_0 l0_0 x43_3 t119 _ ?side1 ?side2 ?side3 A34.out).mono ?_); (case side1 => exact Kd.C_below HR0_0.out (zl2 HB.out GE113.out GE118.out)); (case side2 => exact HC0_0.out); (case side3 => refine zb ?_; refine blk_far ?_ NB113_118.out _; refine zb ?_; refine blk_far ?_ NB113_118.out _; refine zb ?_; refine blk_far ?_ NB113_118.out _; refine zb ?_; exact BK113.out); rintro e w92 ⟨v120, rfl, ho0, hb⟩; refine ⟨_, rfl, ?_⟩; have n0_ := am (Kd.R_lower ho0 (below_size (zl2 HB.out GE113.out GE118.out))); have n1_ := am (blk_below (g := gb113) (o := .cells #[.slice (some ad117) l0_0.length c0_0] 27 (0, 0)) (by refine zb ?_; refine blk_far ?_ NB113_118.out _; refine zb ?_; refine blk_far ?_ NB113_118.out _; refine zb ?_; refine blk_far ?_ NB113_118.out _; refine zb ?_; exact BK113.out) hb); have n2_ := am (blk_below (g := gb118) (o := .cells #[.int .i64 ((rd_T24 l0_0 x43_3).f0), .int .i64 ((rd_T24 l0_0 x43_3).f1), .bool ((rd_T24 l0_0 x43_3).f2)] 24 (0, 0)) (by refine zb ?_; refine blk_put (cs := #[.int .i64 ((rd_T24 l0_0 x43_3).f0), .int .i64 ((rd_T24 l0_0 x43_3).f1), .bool false]) ?_ 2 _ rfl; refine zb ?_; refine blk_put (cs := #[.int .i64 ((rd_T24 l0_0 x43_3).f0), .int .i64 0, .bool false]) ?_ 1 _ rfl; refine zb ?_; refine blk_put (cs := #[.int .i64 0, .int .i64 0, .bool false]) ?_ 0 _ rfl; refine zb ?_; exact BK118.out) hb); have n3_ := am (below_step (zl2 HB.out GE113.out GE118.out) hb); clear BK113 BK118 HB; have HO121 := n0_; have BK113 := n1_; have BK118 := n2_; have HB := n3_; clear n0_ n1_ n2_ n3_; (try clear hb); (try clear hb2); (try clear hk); (try clear hi); (try clear ho0); obtain ⟨Ao93, co93, eo93⟩ := Kd.R_slice HO121.out; subst eo93; have hcz94_0 : w92.cell? ⟨gb118, 0, none⟩ = some (.int .i64 ((rd_T24 l0_0 x43_3).f0)) := (blk_cell BK118.out 0).trans rfl; have hcz94_1 : w92.cell? ⟨gb118, 1, none⟩ = some (.int .i64 ((rd_T24 l0_0 x43_3).f1)) := (blk_cell BK118.out 1).trans rfl; have hcz94_2 : w92.cell? ⟨gb118, 2, none⟩ = some (.bool ((rd_T24 l0_0 x43_3).f2)) := (blk_cell BK118.out 2).trans rfl; have hfz94_0 := blk_frozen BK118.out 0; have hfz94_1 := blk_frozen BK118.out 1; have hfz94_2 := blk_frozen BK118.out 2))
               go_ret
               exact ⟨ze, zl2 HB.out GE113.out GE118.out⟩
              ·
               rw [if_neg c88] at H
               have c88b0 := beq_eq_false_iff_ne.mpr c88
               have c88b1 := bne_iff_ne.mpr c88
               have c88b2 : ¬ (t119 = []) := fun h_ => c88 (by rw [h_]; rfl)
               replace H := zo H
               obtain ⟨t128, A950, H⟩ := H
               (try dsimp only at H)
               have A95 := am A950
               clear A950
               by_cases c96 : (t128.length : Int) > 5
               ·
                rw [if_pos c96] at H
                have c96b0 : decide (5 < (t128.length : Int)) = true := decide_eq_true c96
                have c96b1 : decide (5 < t128.length) = true := decide_eq_true (by omega)
                clear c96
                obtain rfl := Option.some.inj H
                have p117 : 0 ≤ (x43_3 : Int) := of_decide_eq_true za
                have q117 : x43_3 < (l0_0.length : Int) := of_decide_eq_true za
                obtain ⟨ad117, e117, hx117_0, hx117_1, hx117_2⟩ := at_T24 HR0_0.out x43_3 p117 q117
                cases e117
                replace hx117_0 := zq HB.out hx117_0
                replace hx117_1 := zq HB.out hx117_1
                replace hx117_2 := zq HB.out hx117_2
                replace p117 := eq_true p117
                replace q117 := eq_true q117
                go_wp2_with (first | ((with_reducible refine gate_dst (N := 6) rfl ?_); refine box_event ?hg (N := 6) ?hd (cs := #[.int .i64 0, .int .i64 0, .bool false]) (t := 24) ?hr ?_; (case hd => rfl); (case hg => rfl); (case hr => exact zh); intro gb118 hg w97 hbox hb; have n0_ := am (zbb BK113.out hb); have n1_ := am (below_step (zl1 HB.out GE113.out) hb); have n2_ := am (hbox); have n3_ := am ((by rw [hg]; exact (below_size (zl1 HB.out GE113.out)) : w.heap.size ≤ gb118)); have n4_ := am ((by rw [hg]; exact (below_size (zl1 HB.out GE113.out)) : w.heap.size ≤ gb118)); have n5_ := am ((by rw [hg]; exact Nat.ne_of_lt (blk_lt (g := gb113) (o := .cells #[.slice (some ad117) l0_0.length c0_0] 27 (0, 0)) (zb BK113.out)) : gb113 ≠ gb118)); have n6_ := am ((by rw [hg]; exact Nat.ne_of_gt (blk_lt (g := gb113) (o := .cells #[.slice (some ad117) l0_0.length c0_0] 27 (0, 0)) (zb BK113.out)) : gb118 ≠ gb113)); clear BK113 HB; have BK113 := n0_; have HB := n1_; have BK118 := n2_; have GW118 := n3_; have GE118 := n4_; have NB113_118 := n5_; have NB118_113 := n6_; clear n0_ n1_ n2_ n3_ n4_ n5_ n6_; clear hb hbox hg; have hnb98 := NB118_113.out; have hnc98 := NB113_118.out; have hcz99_0 : w97.cell? ⟨gb118, 0, none⟩ = some (.int .i64 0) := (blk_cell BK118.out 0).trans rfl; have hcz99_1 : w97.cell? ⟨gb118, 1, none⟩ = some (.int .i64 0) := (blk_cell BK118.out 1).trans rfl; have hcz99_2 : w97.cell? ⟨gb118, 2, none⟩ = some (.bool false) := (blk_cell BK118.out 2).trans rfl; have hfz99_0 := blk_frozen BK118.out 0; have hfz99_1 := blk_frozen BK118.out 1; have hfz99_2 := blk_frozen BK118.out 2) | ((with_reducible refine gate_callee (f := 126) rfl ?_); refine goesL_ (some 49) rfl rfl Tryz.func126 (by kernel_rfl) rfl #[.pointer (some ⟨gb113, 0, none⟩), .int .i64 x43_3] rfl zm ?_; (with_reducible refine (types_kids.calls k3 gb113 (some ad117) c0_0 l0_0 x43_3 t119 _ ?side1 ?side2 ?side3 A34.out).mono ?_); (case side1 => exact Kd.C_below HR0_0.out (zl2 HB.out GE113.out GE118.out)); (case side2 => exact HC0_0.out); (case side3 => refine zb ?_; refine blk_far ?_ NB113_118.out _; refine zb ?_; refine blk_far ?_ NB113_118.out _; refine zb ?_; refine blk_far ?_ NB113_118.out _; refine zb ?_; exact BK113.out); rintro e w100 ⟨v120, rfl, ho0, hb⟩; refine ⟨_, rfl, ?_⟩; have n0_ := am (Kd.R_lower ho0 (below_size (zl2 HB.out GE113.out GE118.out))); have n1_ := am (blk_below (g := gb113) (o := .cells #[.slice (some ad117) l0_0.length c0_0] 27 (0, 0)) (by refine zb ?_; refine blk_far ?_ NB113_118.out _; refine zb ?_; refine blk_far ?_ NB113_118.out _; refine zb ?_; refine blk_far ?_ NB113_118.out _; refine zb ?_; exact BK113.out) hb); have n2_ := am (blk_below (g := gb118) (o := .cells #[.int .i64 ((rd_T24 l0_0 x43_3).f0), .int .i64 ((rd_T24 l0_0 x43_3).f1), .bool ((rd_T24 l0_0 x43_3).f2)] 24 (0, 0)) (by refine zb ?_; refine blk_put (cs := #[.int .i64 ((rd_T24 l0_0 x43_3).f0), .int .i64 ((rd_T24 l0_0 x43_3).f1), .bool false]) ?_ 2 _ rfl; refine zb ?_; refine blk_put (cs := #[.int .i64 ((rd_T24 l0_0 x43_3).f0), .int .i64 0, .bool false]) ?_ 1 _ rfl; refine zb ?_; refine blk_put (cs := #[.int .i64 0, .int .i64 0, .bool false]) ?_ 0 _ rfl; refine zb ?_; exact BK118.out) hb); have n3_ := am (below_step (zl2 HB.out GE113.out GE118.out) hb); clear BK113 BK118 HB; have HO121 := n0_; have BK113 := n1_; have BK118 := n2_; have HB := n3_; clear n0_ n1_ n2_ n3_; (try clear hb); (try clear hb2); (try clear hk); (try clear hi); (try clear ho0); obtain ⟨Ao101, co101, eo101⟩ := Kd.R_slice HO121.out; subst eo101; have hcz102_0 : w100.cell? ⟨gb118, 0, none⟩ = some (.int .i64 ((rd_T24 l0_0 x43_3).f0)) := (blk_cell BK118.out 0).trans rfl; have hcz102_1 : w100.cell? ⟨gb118, 1, none⟩ = some (.int .i64 ((rd_T24 l0_0 x43_3).f1)) := (blk_cell BK118.out 1).trans rfl; have hcz102_2 : w100.cell? ⟨gb118, 2, none⟩ = some (.bool ((rd_T24 l0_0 x43_3).f2)) := (blk_cell BK118.out 2).trans rfl; have hfz102_0 := blk_frozen BK118.out 0; have hfz102_1 := blk_frozen BK118.out 1; have hfz102_2 := blk_frozen BK118.out 2) | (go_at_call 69; (with_reducible refine (types_way.calls k3 gb113 (some ad117) c0_0 l0_0 x43_3 t128 _ ?side1 ?side2 ?side3 A95.out).mono ?_); (case side1 => exact zc (Kd.C_below HR0_0.out HB.out)); (case side2 => exact HC0_0.out); (case side3 => refine zb ?_; exact BK113.out); rintro e w103 ⟨v129, rfl, ho0, hb⟩; have n0_ := am (Kd.R_elder' (zr HO121.out) (Kd.R_base ho0) hb); have n1_ := am (Kd.R_lower (Kd.R_new' ho0 (Kd.R_lt (zr HO121.out))) (below_size (zl2 HB.out GE113.out GE118.out))); have n2_ := am (zbb BK113.out hb); have n3_ := am (zbb BK118.out hb); have n4_ := am (below_step (zl2 HB.out GE113.out GE118.out) hb); clear HO121 BK113; clear BK118 HB; have HO121 := n0_; have HO130 := n1_; have BK113 := n2_; have BK118 := n3_; have HB := n4_; clear n0_ n1_ n2_ n3_ n4_; (try clear hb); (try clear hb2); (try clear hk); (try clear hi); (try clear ho0); obtain ⟨Ao104, co104, eo104⟩ := Kd.R_slice HO130.out; subst eo104))
                go_ret
                exact ⟨ze, zl2 HB.out GE113.out GE118.out⟩
               ·
                rw [if_neg c96] at H
                have c96b0 : decide (5 < (t128.length : Int)) = false := decide_eq_false c96
                have c96b1 : decide (5 < t128.length) = false := decide_eq_false (by omega)
                clear c96
                have H' := am H
                clear H
                have p117 : 0 ≤ (x43_3 : Int) := of_decide_eq_true za
                have q117 : x43_3 < (l0_0.length : Int) := of_decide_eq_true za
                obtain ⟨ad117, e117, hx117_0, hx117_1, hx117_2⟩ := at_T24 HR0_0.out x43_3 p117 q117
                cases e117
                replace hx117_0 := zq HB.out hx117_0
                replace hx117_1 := zq HB.out hx117_1
                replace hx117_2 := zq HB.out hx117_2
                replace p117 := eq_true p117
                replace q117 := eq_true q117
                go_wp2_with (first | ((with_reducible refine gate_dst (N := 6) rfl ?_); refine box_event ?hg (N := 6) ?hd (cs := #[.int .i64 0, .int .i64 0, .bool false]) (t := 24) ?hr ?_; (case hd => rfl); (case hg => rfl); (case hr => exact zh); intro gb118 hg w105 hbox hb; have n0_ := am (zbb BK113.out hb); have n1_ := am (below_step (zl1 HB.out GE113.out) hb); have n2_ := am (hbox); have n3_ := am ((by rw [hg]; exact (below_size (zl1 HB.out GE113.out)) : w.heap.size ≤ gb118)); have n4_ := am ((by rw [hg]; exact (below_size (zl1 HB.out GE113.out)) : w.heap.size ≤ gb118)); have n5_ := am ((by rw [hg]; exact Nat.ne_of_lt (blk_lt (g := gb113) (o := .cells #[.slice (some ad117) l0_0.length c0_0] 27 (0, 0)) (zb BK113.out)) : gb113 ≠ gb118)); have n6_ := am ((by rw [hg]; exact Nat.ne_of_gt (blk_lt (g := gb113) (o := .cells #[.slice (some ad117) l0_0.length c0_0] 27 (0, 0)) (zb BK113.out)) : gb118 ≠ gb113)); clear BK113 HB; have BK113 := n0_; have HB := n1_; have BK118 := n2_; have GW118 := n3_; have GE118 := n4_; have NB113_118 := n5_; have NB118_113 := n6_; clear n0_ n1_ n2_ n3_ n4_ n5_ n6_; clear hb hbox hg; have hnb106 := NB118_113.out; have hnc106 := NB113_118.out; have hcz107_0 : w105.cell? ⟨gb118, 0, none⟩ = some (.int .i64 0) := (blk_cell BK118.out 0).trans rfl; have hcz107_1 : w105.cell? ⟨gb118, 1, none⟩ = some (.int .i64 0) := (blk_cell BK118.out 1).trans rfl; have hcz107_2 : w105.cell? ⟨gb118, 2, none⟩ = some (.bool false) := (blk_cell BK118.out 2).trans rfl; have hfz107_0 := blk_frozen BK118.out 0; have hfz107_1 := blk_frozen BK118.out 1; have hfz107_2 := blk_frozen BK118.out 2) | ((with_reducible refine gate_callee (f := 126) rfl ?_); refine goesL_ (some 49) rfl rfl Tryz.func126 (by kernel_rfl) rfl #[.pointer (some ⟨gb113, 0, none⟩), .int .i64 x43_3] rfl zm ?_; (with_reducible refine (types_kids.calls k3 gb113 (some ad117) c0_0 l0_0 x43_3 t119 _ ?side1 ?side2 ?side3 A34.out).mono ?_); (case side1 => exact Kd.C_below HR0_0.out (zl2 HB.out GE113.out GE118.out)); (case side2 => exact HC0_0.out); (case side3 => refine zb ?_; refine blk_far ?_ NB113_118.out _; refine zb ?_; refine blk_far ?_ NB113_118.out _; refine zb ?_; refine blk_far ?_ NB113_118.out _; refine zb ?_; exact BK113.out); rintro e w108 ⟨v120, rfl, ho0, hb⟩; refine ⟨_, rfl, ?_⟩; have n0_ := am (Kd.R_lower ho0 (below_size (zl2 HB.out GE113.out GE118.out))); have n1_ := am (blk_below (g := gb113) (o := .cells #[.slice (some ad117) l0_0.length c0_0] 27 (0, 0)) (by refine zb ?_; refine blk_far ?_ NB113_118.out _; refine zb ?_; refine blk_far ?_ NB113_118.out _; refine zb ?_; refine blk_far ?_ NB113_118.out _; refine zb ?_; exact BK113.out) hb); have n2_ := am (blk_below (g := gb118) (o := .cells #[.int .i64 ((rd_T24 l0_0 x43_3).f0), .int .i64 ((rd_T24 l0_0 x43_3).f1), .bool ((rd_T24 l0_0 x43_3).f2)] 24 (0, 0)) (by refine zb ?_; refine blk_put (cs := #[.int .i64 ((rd_T24 l0_0 x43_3).f0), .int .i64 ((rd_T24 l0_0 x43_3).f1), .bool false]) ?_ 2 _ rfl; refine zb ?_; refine blk_put (cs := #[.int .i64 ((rd_T24 l0_0 x43_3).f0), .int .i64 0, .bool false]) ?_ 1 _ rfl; refine zb ?_; refine blk_put (cs := #[.int .i64 0, .int .i64 0, .bool false]) ?_ 0 _ rfl; refine zb ?_; exact BK118.out) hb); have n3_ := am (below_step (zl2 HB.out GE113.out GE118.out) hb); clear BK113 BK118 HB; have HO121 := n0_; have BK113 := n1_; have BK118 := n2_; have HB := n3_; clear n0_ n1_ n2_ n3_; (try clear hb); (try clear hb2); (try clear hk); (try clear hi); (try clear ho0); obtain ⟨Ao109, co109, eo109⟩ := Kd.R_slice HO121.out; subst eo109; have hcz110_0 : w108.cell? ⟨gb118, 0, none⟩ = some (.int .i64 ((rd_T24 l0_0 x43_3).f0)) := (blk_cell BK118.out 0).trans rfl; have hcz110_1 : w108.cell? ⟨gb118, 1, none⟩ = some (.int .i64 ((rd_T24 l0_0 x43_3).f1)) := (blk_cell BK118.out 1).trans rfl; have hcz110_2 : w108.cell? ⟨gb118, 2, none⟩ = some (.bool ((rd_T24 l0_0 x43_3).f2)) := (blk_cell BK118.out 2).trans rfl; have hfz110_0 := blk_frozen BK118.out 0; have hfz110_1 := blk_frozen BK118.out 1; have hfz110_2 := blk_frozen BK118.out 2) | (go_at_call 69; (with_reducible refine (types_way.calls k3 gb113 (some ad117) c0_0 l0_0 x43_3 t128 _ ?side1 ?side2 ?side3 A95.out).mono ?_); (case side1 => exact zc (Kd.C_below HR0_0.out HB.out)); (case side2 => exact HC0_0.out); (case side3 => refine zb ?_; exact BK113.out); rintro e w111 ⟨v129, rfl, ho0, hb⟩; have n0_ := am (Kd.R_elder' (zr HO121.out) (Kd.R_base ho0) hb); have n1_ := am (Kd.R_lower (Kd.R_new' ho0 (Kd.R_lt (zr HO121.out))) (below_size (zl2 HB.out GE113.out GE118.out))); have n2_ := am (zbb BK113.out hb); have n3_ := am (zbb BK118.out hb); have n4_ := am (below_step (zl2 HB.out GE113.out GE118.out) hb); clear HO121 BK113; clear BK118 HB; have HO121 := n0_; have HO130 := n1_; have BK113 := n2_; have BK118 := n3_; have HB := n4_; clear n0_ n1_ n2_ n3_ n4_; (try clear hb); (try clear hb2); (try clear hk); (try clear hi); (try clear ho0); obtain ⟨Ao112, co112, eo112⟩ := Kd.R_slice HO130.out; subst eo112))
                go_roundg k3
                case measure => have := HJ1.out; have := HK2.out; have := HK3.out; omega
                case rel => exact ⟨(wrap64 (x43_3 + 1)), zs, H', ⟨by have := HJ1.out; have := HK2.out; have := HK3.out; omega⟩, ⟨by refine zb ?_; exact BK113.out⟩, ⟨zl2 HB.out GE113.out GE118.out⟩⟩
             ·
              rw [if_neg c87] at H
              have c87b0 := beq_eq_false_iff_ne.mpr c87
              have c87b1 := bne_iff_ne.mpr c87
              replace H := zo H
              obtain ⟨t131, A1130, H⟩ := H
              (try dsimp only at H)
              have A113 := am A1130
              clear A1130
              by_cases c114 : (t131.length : Int) > 5
              ·
               rw [if_pos c114] at H
               have c114b0 : decide (5 < (t131.length : Int)) = true := decide_eq_true c114
               have c114b1 : decide (5 < t131.length) = true := decide_eq_true (by omega)
               clear c114
               obtain rfl := Option.some.inj H
               have p117 : 0 ≤ (x43_3 : Int) := of_decide_eq_true za
               have q117 : x43_3 < (l0_0.length : Int) := of_decide_eq_true za
               obtain ⟨ad117, e117, hx117_0, hx117_1, hx117_2⟩ := at_T24 HR0_0.out x43_3 p117 q117
               cases e117
               replace hx117_0 := zq HB.out hx117_0
               replace hx117_1 := zq HB.out hx117_1
               replace hx117_2 := zq HB.out hx117_2
               replace p117 := eq_true p117
               replace q117 := eq_true q117
               go_wp2_with (first | ((with_reducible refine gate_dst (N := 6) rfl ?_); refine box_event ?hg (N := 6) ?hd (cs := #[.int .i64 0, .int .i64 0, .bool false]) (t := 24) ?hr ?_; (case hd => rfl); (case hg => rfl); (case hr => exact zh); intro gb118 hg w115 hbox hb; have n0_ := am (zbb BK113.out hb); have n1_ := am (below_step (zl1 HB.out GE113.out) hb); have n2_ := am (hbox); have n3_ := am ((by rw [hg]; exact (below_size (zl1 HB.out GE113.out)) : w.heap.size ≤ gb118)); have n4_ := am ((by rw [hg]; exact (below_size (zl1 HB.out GE113.out)) : w.heap.size ≤ gb118)); have n5_ := am ((by rw [hg]; exact Nat.ne_of_lt (blk_lt (g := gb113) (o := .cells #[.slice (some ad117) l0_0.length c0_0] 27 (0, 0)) (zb BK113.out)) : gb113 ≠ gb118)); have n6_ := am ((by rw [hg]; exact Nat.ne_of_gt (blk_lt (g := gb113) (o := .cells #[.slice (some ad117) l0_0.length c0_0] 27 (0, 0)) (zb BK113.out)) : gb118 ≠ gb113)); clear BK113 HB; have BK113 := n0_; have HB := n1_; have BK118 := n2_; have GW118 := n3_; have GE118 := n4_; have NB113_118 := n5_; have NB118_113 := n6_; clear n0_ n1_ n2_ n3_ n4_ n5_ n6_; clear hb hbox hg; have hnb116 := NB118_113.out; have hnc116 := NB113_118.out; have hcz117_0 : w115.cell? ⟨gb118, 0, none⟩ = some (.int .i64 0) := (blk_cell BK118.out 0).trans rfl; have hcz117_1 : w115.cell? ⟨gb118, 1, none⟩ = some (.int .i64 0) := (blk_cell BK118.out 1).trans rfl; have hcz117_2 : w115.cell? ⟨gb118, 2, none⟩ = some (.bool false) := (blk_cell BK118.out 2).trans rfl; have hfz117_0 := blk_frozen BK118.out 0; have hfz117_1 := blk_frozen BK118.out 1; have hfz117_2 := blk_frozen BK118.out 2) | ((with_reducible refine gate_callee (f := 126) rfl ?_); refine goesL_ (some 49) rfl rfl Tryz.func126 (by kernel_rfl) rfl #[.pointer (some ⟨gb113, 0, none⟩), .int .i64 x43_3] rfl zm ?_; (with_reducible refine (types_kids.calls k3 gb113 (some ad117) c0_0 l0_0 x43_3 t119 _ ?side1 ?side2 ?side3 A34.out).mono ?_); (case side1 => exact Kd.C_below HR0_0.out (zl2 HB.out GE113.out GE118.out)); (case side2 => exact HC0_0.out); (case side3 => refine zb ?_; refine blk_far ?_ NB113_118.out _; refine zb ?_; refine blk_far ?_ NB113_118.out _; refine zb ?_; refine blk_far ?_ NB113_118.out _; refine zb ?_; exact BK113.out); rintro e w118 ⟨v120, rfl, ho0, hb⟩; refine ⟨_, rfl, ?_⟩; have n0_ := am (Kd.R_lower ho0 (below_size (zl2 HB.out GE113.out GE118.out))); have n1_ := am (blk_below (g := gb113) (o := .cells #[.slice (some ad117) l0_0.length c0_0] 27 (0, 0)) (by refine zb ?_; refine blk_far ?_ NB113_118.out _; refine zb ?_; refine blk_far ?_ NB113_118.out _; refine zb ?_; refine blk_far ?_ NB113_118.out _; refine zb ?_; exact BK113.out) hb); have n2_ := am (blk_below (g := gb118) (o := .cells #[.int .i64 ((rd_T24 l0_0 x43_3).f0), .int .i64 ((rd_T24 l0_0 x43_3).f1), .bool ((rd_T24 l0_0 x43_3).f2)] 24 (0, 0)) (by refine zb ?_; refine blk_put (cs := #[.int .i64 ((rd_T24 l0_0 x43_3).f0), .int .i64 ((rd_T24 l0_0 x43_3).f1), .bool false]) ?_ 2 _ rfl; refine zb ?_; refine blk_put (cs := #[.int .i64 ((rd_T24 l0_0 x43_3).f0), .int .i64 0, .bool false]) ?_ 1 _ rfl; refine zb ?_; refine blk_put (cs := #[.int .i64 0, .int .i64 0, .bool false]) ?_ 0 _ rfl; refine zb ?_; exact BK118.out) hb); have n3_ := am (below_step (zl2 HB.out GE113.out GE118.out) hb); clear BK113 BK118 HB; have HO121 := n0_; have BK113 := n1_; have BK118 := n2_; have HB := n3_; clear n0_ n1_ n2_ n3_; (try clear hb); (try clear hb2); (try clear hk); (try clear hi); (try clear ho0); obtain ⟨Ao119, co119, eo119⟩ := Kd.R_slice HO121.out; subst eo119; have hcz120_0 : w118.cell? ⟨gb118, 0, none⟩ = some (.int .i64 ((rd_T24 l0_0 x43_3).f0)) := (blk_cell BK118.out 0).trans rfl; have hcz120_1 : w118.cell? ⟨gb118, 1, none⟩ = some (.int .i64 ((rd_T24 l0_0 x43_3).f1)) := (blk_cell BK118.out 1).trans rfl; have hcz120_2 : w118.cell? ⟨gb118, 2, none⟩ = some (.bool ((rd_T24 l0_0 x43_3).f2)) := (blk_cell BK118.out 2).trans rfl; have hfz120_0 := blk_frozen BK118.out 0; have hfz120_1 := blk_frozen BK118.out 1; have hfz120_2 := blk_frozen BK118.out 2) | (go_at_call 69; (with_reducible refine (types_way.calls k3 gb113 (some ad117) c0_0 l0_0 x43_3 t131 _ ?side1 ?side2 ?side3 A113.out).mono ?_); (case side1 => exact zc (Kd.C_below HR0_0.out HB.out)); (case side2 => exact HC0_0.out); (case side3 => refine zb ?_; exact BK113.out); rintro e w121 ⟨v132, rfl, ho0, hb⟩; have n0_ := am (Kd.R_elder' (zr HO121.out) (Kd.R_base ho0) hb); have n1_ := am (Kd.R_lower (Kd.R_new' ho0 (Kd.R_lt (zr HO121.out))) (below_size (zl2 HB.out GE113.out GE118.out))); have n2_ := am (zbb BK113.out hb); have n3_ := am (zbb BK118.out hb); have n4_ := am (below_step (zl2 HB.out GE113.out GE118.out) hb); clear HO121 BK113; clear BK118 HB; have HO121 := n0_; have HO133 := n1_; have BK113 := n2_; have BK118 := n3_; have HB := n4_; clear n0_ n1_ n2_ n3_ n4_; (try clear hb); (try clear hb2); (try clear hk); (try clear hi); (try clear ho0); obtain ⟨Ao122, co122, eo122⟩ := Kd.R_slice HO133.out; subst eo122))
               go_ret
               exact ⟨ze, zl2 HB.out GE113.out GE118.out⟩
              ·
               rw [if_neg c114] at H
               have c114b0 : decide (5 < (t131.length : Int)) = false := decide_eq_false c114
               have c114b1 : decide (5 < t131.length) = false := decide_eq_false (by omega)
               clear c114
               have H' := am H
               clear H
               have p117 : 0 ≤ (x43_3 : Int) := of_decide_eq_true za
               have q117 : x43_3 < (l0_0.length : Int) := of_decide_eq_true za
               obtain ⟨ad117, e117, hx117_0, hx117_1, hx117_2⟩ := at_T24 HR0_0.out x43_3 p117 q117
               cases e117
               replace hx117_0 := zq HB.out hx117_0
               replace hx117_1 := zq HB.out hx117_1
               replace hx117_2 := zq HB.out hx117_2
               replace p117 := eq_true p117
               replace q117 := eq_true q117
               go_wp2_with (first | ((with_reducible refine gate_dst (N := 6) rfl ?_); refine box_event ?hg (N := 6) ?hd (cs := #[.int .i64 0, .int .i64 0, .bool false]) (t := 24) ?hr ?_; (case hd => rfl); (case hg => rfl); (case hr => exact zh); intro gb118 hg w123 hbox hb; have n0_ := am (zbb BK113.out hb); have n1_ := am (below_step (zl1 HB.out GE113.out) hb); have n2_ := am (hbox); have n3_ := am ((by rw [hg]; exact (below_size (zl1 HB.out GE113.out)) : w.heap.size ≤ gb118)); have n4_ := am ((by rw [hg]; exact (below_size (zl1 HB.out GE113.out)) : w.heap.size ≤ gb118)); have n5_ := am ((by rw [hg]; exact Nat.ne_of_lt (blk_lt (g := gb113) (o := .cells #[.slice (some ad117) l0_0.length c0_0] 27 (0, 0)) (zb BK113.out)) : gb113 ≠ gb118)); have n6_ := am ((by rw [hg]; exact Nat.ne_of_gt (blk_lt (g := gb113) (o := .cells #[.slice (some ad117) l0_0.length c0_0] 27 (0, 0)) (zb BK113.out)) : gb118 ≠ gb113)); clear BK113 HB; have BK113 := n0_; have HB := n1_; have BK118 := n2_; have GW118 := n3_; have GE118 := n4_; have NB113_118 := n5_; have NB118_113 := n6_; clear n0_ n1_ n2_ n3_ n4_ n5_ n6_; clear hb hbox hg; have hnb124 := NB118_113.out; have hnc124 := NB113_118.out; have hcz125_0 : w123.cell? ⟨gb118, 0, none⟩ = some (.int .i64 0) := (blk_cell BK118.out 0).trans rfl; have hcz125_1 : w123.cell? ⟨gb118, 1, none⟩ = some (.int .i64 0) := (blk_cell BK118.out 1).trans rfl; have hcz125_2 : w123.cell? ⟨gb118, 2, none⟩ = some (.bool false) := (blk_cell BK118.out 2).trans rfl; have hfz125_0 := blk_frozen BK118.out 0; have hfz125_1 := blk_frozen BK118.out 1; have hfz125_2 := blk_frozen BK118.out 2) | ((with_reducible refine gate_callee (f := 126) rfl ?_); refine goesL_ (some 49) rfl rfl Tryz.func126 (by kernel_rfl) rfl #[.pointer (some ⟨gb113, 0, none⟩), .int .i64 x43_3] rfl zm ?_; (with_reducible refine (types_kids.calls k3 gb113 (some ad117) c0_0 l0_0 x43_3 t119 _ ?side1 ?side2 ?side3 A34.out).mono ?_); (case side1 => exact Kd.C_below HR0_0.out (zl2 HB.out GE113.out GE118.out)); (case side2 => exact HC0_0.out); (case side3 => refine zb ?_; refine blk_far ?_ NB113_118.out _; refine zb ?_; refine blk_far ?_ NB113_118.out _; refine zb ?_; refine blk_far ?_ NB113_118.out _; refine zb ?_; exact BK113.out); rintro e w126 ⟨v120, rfl, ho0, hb⟩; refine ⟨_, rfl, ?_⟩; have n0_ := am (Kd.R_lower ho0 (below_size (zl2 HB.out GE113.out GE118.out))); have n1_ := am (blk_below (g := gb113) (o := .cells #[.slice (some ad117) l0_0.length c0_0] 27 (0, 0)) (by refine zb ?_; refine blk_far ?_ NB113_118.out _; refine zb ?_; refine blk_far ?_ NB113_118.out _; refine zb ?_; refine blk_far ?_ NB113_118.out _; refine zb ?_; exact BK113.out) hb); have n2_ := am (blk_below (g := gb118) (o := .cells #[.int .i64 ((rd_T24 l0_0 x43_3).f0), .int .i64 ((rd_T24 l0_0 x43_3).f1), .bool ((rd_T24 l0_0 x43_3).f2)] 24 (0, 0)) (by refine zb ?_; refine blk_put (cs := #[.int .i64 ((rd_T24 l0_0 x43_3).f0), .int .i64 ((rd_T24 l0_0 x43_3).f1), .bool false]) ?_ 2 _ rfl; refine zb ?_; refine blk_put (cs := #[.int .i64 ((rd_T24 l0_0 x43_3).f0), .int .i64 0, .bool false]) ?_ 1 _ rfl; refine zb ?_; refine blk_put (cs := #[.int .i64 0, .int .i64 0, .bool false]) ?_ 0 _ rfl; refine zb ?_; exact BK118.out) hb); have n3_ := am (below_step (zl2 HB.out GE113.out GE118.out) hb); clear BK113 BK118 HB; have HO121 := n0_; have BK113 := n1_; have BK118 := n2_; have HB := n3_; clear n0_ n1_ n2_ n3_; (try clear hb); (try clear hb2); (try clear hk); (try clear hi); (try clear ho0); obtain ⟨Ao127, co127, eo127⟩ := Kd.R_slice HO121.out; subst eo127; have hcz128_0 : w126.cell? ⟨gb118, 0, none⟩ = some (.int .i64 ((rd_T24 l0_0 x43_3).f0)) := (blk_cell BK118.out 0).trans rfl; have hcz128_1 : w126.cell? ⟨gb118, 1, none⟩ = some (.int .i64 ((rd_T24 l0_0 x43_3).f1)) := (blk_cell BK118.out 1).trans rfl; have hcz128_2 : w126.cell? ⟨gb118, 2, none⟩ = some (.bool ((rd_T24 l0_0 x43_3).f2)) := (blk_cell BK118.out 2).trans rfl; have hfz128_0 := blk_frozen BK118.out 0; have hfz128_1 := blk_frozen BK118.out 1; have hfz128_2 := blk_frozen BK118.out 2) | (go_at_call 69; (with_reducible refine (types_way.calls k3 gb113 (some ad117) c0_0 l0_0 x43_3 t131 _ ?side1 ?side2 ?side3 A113.out).mono ?_); (case side1 => exact zc (Kd.C_below HR0_0.out HB.out)); (case side2 => exact HC0_0.out); (case side3 => refine zb ?_; exact BK113.out); rintro e w129 ⟨v132, rfl, ho0, hb⟩; have n0_ := am (Kd.R_elder' (zr HO121.out) (Kd.R_base ho0) hb); have n1_ := am (Kd.R_lower (Kd.R_new' ho0 (Kd.R_lt (zr HO121.out))) (below_size (zl2 HB.out GE113.out GE118.out))); have n2_ := am (zbb BK113.out hb); have n3_ := am (zbb BK118.out hb); have n4_ := am (below_step (zl2 HB.out GE113.out GE118.out) hb); clear HO121 BK113; clear BK118 HB; have HO121 := n0_; have HO133 := n1_; have BK113 := n2_; have BK118 := n3_; have HB := n4_; clear n0_ n1_ n2_ n3_ n4_; (try clear hb); (try clear hb2); (try clear hk); (try clear hi); (try clear ho0); obtain ⟨Ao130, co130, eo130⟩ := Kd.R_slice HO133.out; subst eo130))
               go_roundg k3
               case measure => have := HJ1.out; have := HK2.out; have := HK3.out; omega
               case rel => exact ⟨(wrap64 (x43_3 + 1)), zs, H', ⟨by have := HJ1.out; have := HK2.out; have := HK3.out; omega⟩, ⟨by refine zb ?_; exact BK113.out⟩, ⟨zl2 HB.out GE113.out GE118.out⟩⟩
           ·
            rw [if_neg c33] at H
            exact absurd H (by simp)
          ·
           rw [if_neg c32] at H
           exact absurd H (by simp)
         ·
          rw [if_neg c31] at H
          have c31b0 := decide_eq_false c31
          clear c31
          obtain rfl := Option.some.inj H
          go_wp2
          go_ret
          exact ⟨ze, zl1 HB.out GE113.out⟩

end Go.Proofs.YtkcmkedboflklaaGreatDoor.Q
