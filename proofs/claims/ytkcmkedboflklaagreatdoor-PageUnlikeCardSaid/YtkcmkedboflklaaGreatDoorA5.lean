/- Steps towards: PageUnlike: unlike columns have unlike pages, for every type, every leaf and every two columns; no condition beside the row's own (the library's listed variables hold what the program's text lays). -/
import Derived.Test.YtkcmkedboflklaaGreatDoorA2
namespace Go.Proofs.YtkcmkedboflklaaGreatDoor.Q
open Go.RowKit Go.Proofs.YtkcmkedboflklaaGreatDoorW.PrintWords Go.Proofs.YtkcmkedboflklaaGreatDoorW.PrintLast Go.Proofs.YtkcmkedboflklaaGreatDoorW.PrintMore
attribute [local go_sem] max2_int min2_int max_two min_two max_three min_three max_four min_four
set_option linter.unusedVariables false
set_option linter.unusedSimpArgs false
set_option maxHeartbeats 8000000
set_option maxRecDepth 100000

def types_kids.l0 : Nat → Int → List Int → List (S24) → Int → Int → Option (List Int)
 | 0, _, _, _, _, _ => none
 | k + 1, x1, x5, x11, x12, x13 => if x13 < x12 then (if 0 ≤ x13 then (if x13 < (x11.length : Int) then (if x13 > 0 then (if ((rd_T24 x11 x13).f1) = x1 then (if x5.length < 17592186044416 then (types_kids.l0 k x1 (x5 ++ [x13]) x11 x12 (wrap64 (x13 + 1))) else (none)) else (types_kids.l0 k x1 x5 x11 x12 (wrap64 (x13 + 1)))) else (types_kids.l0 k x1 x5 x11 x12 (wrap64 (x13 + 1)))) else (none)) else (none)) else (some x5)
def types_kids.f (k : Nat) (l0_0 : List (S24)) (a1 : Int) : Option (List Int) := types_kids.l0 k a1 ([] : List Int) l0_0 (l0_0.length : Int) 0
theorem types_kids.calls (k : Nat) (g0 : Nat) (A0_0 : Option Addr) (c0_0 : Nat) (l0_0 : List (S24)) (a1 : Int) (r : List Int) (w : World) (hr0_0 : Kd.C k24 w A0_0 l0_0.length l0_0) (hc0_0 : l0_0.length ≤ c0_0) (hb0 : w.heap[g0]? = some (.cells #[.slice A0_0 l0_0.length c0_0] 27 (0, 0))) (h : types_kids.f k l0_0 a1 = some r) :
  Calls Tryz.prog 126 #[.pointer (some ⟨g0, 0, none⟩), .int .i64 a1] w fun e w' => ∃ v0_ : Value, e = .returned (v0_) ∧ Kd.R (Kd.int .i64) 3 w' w.heap.size (fun _ => True) v0_ r ∧ Below w.heap.size w w' := by
 have hu24 := Tryz.underlying24
 have HR0_0 := am hr0_0
 have HC0_0 := am hc0_0
 clear hr0_0 hc0_0
 have BK0 := am hb0
 clear hb0
 have HB := am (Below.refl w.heap.size w)
 have H : (types_kids.l0 k a1 ([] : List Int) l0_0 (l0_0.length : Int) 0) = some r := h
 clear h
 have H' := am H
 clear H
 have hcz3_0 : w.cell? ⟨g0, 0, none⟩ = some (.slice A0_0 l0_0.length c0_0) := (blk_cell BK0.out 0).trans rfl
 have hfz3_0 := blk_frozen BK0.out 0
 go_enter Tryz.func126, Tryz.ntmps126
 go_wp2
 (try simp only [Act.put, List.setIfInBounds_toArray, List.set_cons_zero, List.set_cons_succ])
 go_loopg [5, 13] k (fun kq v5 v13 w' => ∃ (x5_1 : List Int) (x13_1 : Int), v13 = .int .i64 x13_1 ∧ Aside0 (types_kids.l0 kq a1 x5_1 l0_0 (l0_0.length : Int) x13_1 = some r) ∧ Aside0 (kq ≤ k) ∧ Aside0 (Kd.R (Kd.int .i64) 3 w' w.heap.size (fun _ => True) v5 x5_1) ∧ Aside0 (w'.heap[g0]? = some (.cells #[(.slice A0_0 l0_0.length c0_0)] 27 (0, 0))) ∧ Aside0 (Below w.heap.size w w'))
 case atStart => exact ⟨(([] : List Int)), (0), zs, H', ⟨Nat.le_refl _⟩, ⟨by first | exact Kd.R_nil _ _ _ _ _ | exact Kd.N_nil _ _ _ _ _ | exact Kd.V_nil _ _ _ _ _ | exact Kd.Q_nil _ _ _ _ _ | exact Kd.S_nil _ _ _ _ _⟩, ⟨by refine zb ?_; exact BK0.out⟩, ⟨zl HB.out⟩⟩
 case round =>
  clear H'
  try clear c1
  try clear p2
  try clear hcz3_0
  try clear hfz3_0
  obtain ⟨x5_1, x13_1, rfl, HA, HK1, HO_5, BK0, HB⟩ := hrel
  cases gk with
  | zero => exact absurd HA.out (by simp [types_kids.l0])
  | succ k1 =>
   have H := HA.out
   clear HA
   simp only [types_kids.l0] at H
   by_cases c4 : x13_1 < (l0_0.length : Int)
   ·
    rw [if_pos c4] at H
    have c4b0 := decide_eq_true c4
    clear c4
    by_cases c5 : 0 ≤ x13_1
    ·
     rw [if_pos c5] at H
     have c5b0 := decide_eq_true c5
     clear c5
     by_cases c6 : x13_1 < (l0_0.length : Int)
     ·
      rw [if_pos c6] at H
      have c6b0 := decide_eq_true c6
      clear c6
      by_cases c7 : x13_1 > 0
      ·
       rw [if_pos c7] at H
       have c7b0 : decide (0 < x13_1) = true := decide_eq_true c7
       clear c7
       by_cases c8 : ((rd_T24 l0_0 x13_1).f1) = a1
       ·
        rw [if_pos c8] at H
        have c8b0 := beq_iff_eq.mpr c8
        have c8b1 := bne_eq_false_iff_eq.mpr c8
        clear c8
        by_cases c9 : x5_1.length < 17592186044416
        ·
         rw [if_pos c9] at H
         have LMc9 := am c9
         clear c9
         obtain ⟨y107, hy107⟩ : ∃ y_ : List Int, y_ = (x5_1 ++ [x13_1]) := ⟨_, rfl⟩
         replace H : (types_kids.l0 k1 a1 y107 l0_0 (l0_0.length : Int) (wrap64 (x13_1 + 1))) = some r := by first | (rw [hy107]; with_reducible exact H) | (have H2_ := (Option.bind_some _ _).symm.trans H; rw [hy107]; with_reducible exact H2_) | (have H2_ := (Option.bind_some _ _).symm.trans H; with_reducible exact H2_) | with_reducible exact H | (rw [hy107]; exact H) | exact H
         have Ny107 := am hy107
         clear hy107
         have H' := am H
         clear H
         have p105 : 0 ≤ (x13_1 : Int) := of_decide_eq_true za
         have q105 : x13_1 < (l0_0.length : Int) := of_decide_eq_true za
         obtain ⟨ad105, e105, hx105_0, hx105_1, hx105_2⟩ := at_T24 HR0_0.out x13_1 p105 q105
         cases e105
         replace hx105_0 := zq HB.out hx105_0
         replace hx105_1 := zq HB.out hx105_1
         replace hx105_2 := zq HB.out hx105_2
         replace p105 := eq_true p105
         replace q105 := eq_true q105
         go_wp2_with (first | ((with_reducible refine gate_dst (N := 7) rfl ?_); refine box_event ?hg (N := 7) ?hd (cs := #[.int .i64 0, .int .i64 0, .bool false]) (t := 24) ?hr ?_; (case hd => rfl); (case hg => rfl); (case hr => exact zh); intro gb106 hg w10 hbox hb; have n0_ := am (Kd.R_below (zr HO_5.out) hb); have n1_ := am (zbb BK0.out hb); have n2_ := am (below_step (zl HB.out) hb); have n3_ := am (hbox); have n4_ := am ((by rw [hg]; exact (below_size (zl HB.out)) : w.heap.size ≤ gb106)); have n5_ := am ((by rw [hg]; exact (below_size (zl HB.out)) : w.heap.size ≤ gb106)); have n6_ := am ((by rw [hg]; exact Nat.ne_of_lt (blk_lt (g := g0) (o := .cells #[.slice (some ad105) l0_0.length c0_0] 27 (0, 0)) (zb BK0.out)) : g0 ≠ gb106)); have n7_ := am ((by rw [hg]; exact Nat.ne_of_gt (blk_lt (g := g0) (o := .cells #[.slice (some ad105) l0_0.length c0_0] 27 (0, 0)) (zb BK0.out)) : gb106 ≠ g0)); clear HO_5 BK0 HB; have HO_5 := n0_; have BK0 := n1_; have HB := n2_; have BK106 := n3_; have GW106 := n4_; have GE106 := n5_; have NB0_106 := n6_; have NB106_0 := n7_; clear n0_ n1_ n2_ n3_ n4_ n5_ n6_ n7_; clear hb hbox hg; have hnb11 := NB106_0.out; have hnc11 := NB0_106.out; have hcz12_0 : w10.cell? ⟨gb106, 0, none⟩ = some (.int .i64 0) := (blk_cell BK106.out 0).trans rfl; have hcz12_1 : w10.cell? ⟨gb106, 1, none⟩ = some (.int .i64 0) := (blk_cell BK106.out 1).trans rfl; have hcz12_2 : w10.cell? ⟨gb106, 2, none⟩ = some (.bool false) := (blk_cell BK106.out 2).trans rfl; have hfz12_0 := blk_frozen BK106.out 0; have hfz12_1 := blk_frozen BK106.out 1; have hfz12_2 := blk_frozen BK106.out 2) | ((with_reducible refine gate_builtin (b := .append) (xs := #[.tmp 26, .tmp 28]) rfl ?_); at_builtin; refine Kd.R_append (Kd.int .i64) (w0 := w) w.heap.size rfl (.tmp 26) (.tmp 28) 28 3 (.int .i64 0) 8 rfl Tryz.underlying28 info3 rfl (by decide) (by omega) u5 x5_1 x13_1 [.int .i64 x13_1] (fun _ => True) (fun _ => False) rfl (by exact zh) ?aP (fun _ hk => hk.elim) ?aF ?aO ?aB ?aS ?aL ?_; (case aP => exact rfl); (case aB => exact (zl1 HB.out GE106.out)); (case aF => exact (fun _ _ => trivial)); (case aO => exact (by refine zr ?_; exact Kd.R_mono (zf3 _ _ _ HO_5.out BK106.out) (fun _ hk => trivial))); (case aS => exact (below_size (zl1 HB.out GE106.out))); (case aL => have := LMc9.out; omega); intro v108 w13 ho hb hg hat; rw [← Ny107.out] at ho; have n0_ := am (blk_grown (g := g0) (o := .cells #[.slice (some ad105) l0_0.length c0_0] 27 (0, 0)) (by refine zb ?_; refine blk_far ?_ NB0_106.out _; refine zb ?_; refine blk_far ?_ NB0_106.out _; refine zb ?_; refine blk_far ?_ NB0_106.out _; refine zb ?_; exact BK0.out) hg (Kd.R_ne HO_5.out BK0.out (by decide))); have n1_ := am (blk_grown (g := gb106) (o := .cells #[.int .i64 ((rd_T24 l0_0 x13_1).f0), .int .i64 ((rd_T24 l0_0 x13_1).f1), .bool ((rd_T24 l0_0 x13_1).f2)] 24 (0, 0)) (by refine zb ?_; refine blk_put (cs := #[.int .i64 ((rd_T24 l0_0 x13_1).f0), .int .i64 ((rd_T24 l0_0 x13_1).f1), .bool false]) ?_ 2 _ rfl; refine zb ?_; refine blk_put (cs := #[.int .i64 ((rd_T24 l0_0 x13_1).f0), .int .i64 0, .bool false]) ?_ 1 _ rfl; refine zb ?_; refine blk_put (cs := #[.int .i64 0, .int .i64 0, .bool false]) ?_ 0 _ rfl; refine zb ?_; exact BK106.out) hg (Kd.R_ne HO_5.out BK106.out (by decide))); have n2_ := am (hb); have n3_ := am (ho); clear BK0 BK106; clear HB HO_5; have BK0 := n0_; have BK106 := n1_; have HB := n2_; have HO109 := n3_; clear n0_ n1_ n2_ n3_; clear ho hb hg hat))
         go_roundg k1
         case measure => have := HK1.out; omega
         case rel => exact ⟨(y107), (wrap64 (x13_1 + 1)), zs, H', ⟨by have := HK1.out; omega⟩, ⟨by refine zr ?_; exact HO109.out⟩, ⟨by refine zb ?_; exact BK0.out⟩, ⟨zl1 HB.out GE106.out⟩⟩
        ·
         rw [if_neg c9] at H
         exact absurd H (by simp)
       ·
        rw [if_neg c8] at H
        have c8b0 := beq_eq_false_iff_ne.mpr c8
        have c8b1 := bne_iff_ne.mpr c8
        have H' := am H
        clear H
        have p105 : 0 ≤ (x13_1 : Int) := of_decide_eq_true za
        have q105 : x13_1 < (l0_0.length : Int) := of_decide_eq_true za
        obtain ⟨ad105, e105, hx105_0, hx105_1, hx105_2⟩ := at_T24 HR0_0.out x13_1 p105 q105
        cases e105
        replace hx105_0 := zq HB.out hx105_0
        replace hx105_1 := zq HB.out hx105_1
        replace hx105_2 := zq HB.out hx105_2
        replace p105 := eq_true p105
        replace q105 := eq_true q105
        go_wp2_with (first | ((with_reducible refine gate_dst (N := 7) rfl ?_); refine box_event ?hg (N := 7) ?hd (cs := #[.int .i64 0, .int .i64 0, .bool false]) (t := 24) ?hr ?_; (case hd => rfl); (case hg => rfl); (case hr => exact zh); intro gb106 hg w14 hbox hb; have n0_ := am (Kd.R_below (zr HO_5.out) hb); have n1_ := am (zbb BK0.out hb); have n2_ := am (below_step (zl HB.out) hb); have n3_ := am (hbox); have n4_ := am ((by rw [hg]; exact (below_size (zl HB.out)) : w.heap.size ≤ gb106)); have n5_ := am ((by rw [hg]; exact (below_size (zl HB.out)) : w.heap.size ≤ gb106)); have n6_ := am ((by rw [hg]; exact Nat.ne_of_lt (blk_lt (g := g0) (o := .cells #[.slice (some ad105) l0_0.length c0_0] 27 (0, 0)) (zb BK0.out)) : g0 ≠ gb106)); have n7_ := am ((by rw [hg]; exact Nat.ne_of_gt (blk_lt (g := g0) (o := .cells #[.slice (some ad105) l0_0.length c0_0] 27 (0, 0)) (zb BK0.out)) : gb106 ≠ g0)); clear HO_5 BK0 HB; have HO_5 := n0_; have BK0 := n1_; have HB := n2_; have BK106 := n3_; have GW106 := n4_; have GE106 := n5_; have NB0_106 := n6_; have NB106_0 := n7_; clear n0_ n1_ n2_ n3_ n4_ n5_ n6_ n7_; clear hb hbox hg; have hnb15 := NB106_0.out; have hnc15 := NB0_106.out; have hcz16_0 : w14.cell? ⟨gb106, 0, none⟩ = some (.int .i64 0) := (blk_cell BK106.out 0).trans rfl; have hcz16_1 : w14.cell? ⟨gb106, 1, none⟩ = some (.int .i64 0) := (blk_cell BK106.out 1).trans rfl; have hcz16_2 : w14.cell? ⟨gb106, 2, none⟩ = some (.bool false) := (blk_cell BK106.out 2).trans rfl; have hfz16_0 := blk_frozen BK106.out 0; have hfz16_1 := blk_frozen BK106.out 1; have hfz16_2 := blk_frozen BK106.out 2))
        go_roundg k1
        case measure => have := HK1.out; omega
        case rel => exact ⟨(x5_1), (wrap64 (x13_1 + 1)), zs, H', ⟨by have := HK1.out; omega⟩, ⟨by refine zr ?_; exact Kd.R_mono (zf3 _ _ _ HO_5.out BK106.out) (fun _ hk => trivial)⟩, ⟨by refine zb ?_; refine blk_far ?_ NB0_106.out _; refine zb ?_; refine blk_far ?_ NB0_106.out _; refine zb ?_; refine blk_far ?_ NB0_106.out _; refine zb ?_; exact BK0.out⟩, ⟨zl1 HB.out GE106.out⟩⟩
      ·
       rw [if_neg c7] at H
       have c7b0 : decide (0 < x13_1) = false := decide_eq_false c7
       clear c7
       have H' := am H
       clear H
       have p105 : 0 ≤ (x13_1 : Int) := of_decide_eq_true za
       have q105 : x13_1 < (l0_0.length : Int) := of_decide_eq_true za
       obtain ⟨ad105, e105, hx105_0, hx105_1, hx105_2⟩ := at_T24 HR0_0.out x13_1 p105 q105
       cases e105
       replace hx105_0 := zq HB.out hx105_0
       replace hx105_1 := zq HB.out hx105_1
       replace hx105_2 := zq HB.out hx105_2
       replace p105 := eq_true p105
       replace q105 := eq_true q105
       go_wp2_with (first | ((with_reducible refine gate_dst (N := 7) rfl ?_); refine box_event ?hg (N := 7) ?hd (cs := #[.int .i64 0, .int .i64 0, .bool false]) (t := 24) ?hr ?_; (case hd => rfl); (case hg => rfl); (case hr => exact zh); intro gb106 hg w17 hbox hb; have n0_ := am (Kd.R_below (zr HO_5.out) hb); have n1_ := am (zbb BK0.out hb); have n2_ := am (below_step (zl HB.out) hb); have n3_ := am (hbox); have n4_ := am ((by rw [hg]; exact (below_size (zl HB.out)) : w.heap.size ≤ gb106)); have n5_ := am ((by rw [hg]; exact (below_size (zl HB.out)) : w.heap.size ≤ gb106)); have n6_ := am ((by rw [hg]; exact Nat.ne_of_lt (blk_lt (g := g0) (o := .cells #[.slice (some ad105) l0_0.length c0_0] 27 (0, 0)) (zb BK0.out)) : g0 ≠ gb106)); have n7_ := am ((by rw [hg]; exact Nat.ne_of_gt (blk_lt (g := g0) (o := .cells #[.slice (some ad105) l0_0.length c0_0] 27 (0, 0)) (zb BK0.out)) : gb106 ≠ g0)); clear HO_5 BK0 HB; have HO_5 := n0_; have BK0 := n1_; have HB := n2_; have BK106 := n3_; have GW106 := n4_; have GE106 := n5_; have NB0_106 := n6_; have NB106_0 := n7_; clear n0_ n1_ n2_ n3_ n4_ n5_ n6_ n7_; clear hb hbox hg; have hnb18 := NB106_0.out; have hnc18 := NB0_106.out; have hcz19_0 : w17.cell? ⟨gb106, 0, none⟩ = some (.int .i64 0) := (blk_cell BK106.out 0).trans rfl; have hcz19_1 : w17.cell? ⟨gb106, 1, none⟩ = some (.int .i64 0) := (blk_cell BK106.out 1).trans rfl; have hcz19_2 : w17.cell? ⟨gb106, 2, none⟩ = some (.bool false) := (blk_cell BK106.out 2).trans rfl; have hfz19_0 := blk_frozen BK106.out 0; have hfz19_1 := blk_frozen BK106.out 1; have hfz19_2 := blk_frozen BK106.out 2))
       go_roundg k1
       case measure => have := HK1.out; omega
       case rel => exact ⟨(x5_1), (wrap64 (x13_1 + 1)), zs, H', ⟨by have := HK1.out; omega⟩, ⟨by refine zr ?_; exact Kd.R_mono (zf3 _ _ _ HO_5.out BK106.out) (fun _ hk => trivial)⟩, ⟨by refine zb ?_; refine blk_far ?_ NB0_106.out _; refine zb ?_; refine blk_far ?_ NB0_106.out _; refine zb ?_; refine blk_far ?_ NB0_106.out _; refine zb ?_; exact BK0.out⟩, ⟨zl1 HB.out GE106.out⟩⟩
     ·
      rw [if_neg c6] at H
      exact absurd H (by simp)
    ·
     rw [if_neg c5] at H
     exact absurd H (by simp)
   ·
    rw [if_neg c4] at H
    have c4b0 := decide_eq_false c4
    clear c4
    obtain rfl := Option.some.inj H
    go_wp2
    go_ret
    exact ⟨_, ze, by refine zr ?_; exact HO_5.out, zl HB.out⟩

def types_Inner.f (a0 : Int) : Option (Bool) := if a0 = 3 then (some true) else (some (a0 == 4))
theorem types_Inner.calls (a0 : Int) (r : Bool) (w : World) (h : types_Inner.f a0 = some r) :
  Calls Tryz.prog 74 #[.int .i64 a0] w fun e w' => e = .returned (.bool r) ∧ Drawn0 w w' := by
 have H : (if a0 = 3 then (some true) else (some (a0 == 4))) = some r := h
 clear h
 by_cases c2 : a0 = 3
 ·
  rw [if_pos c2] at H
  have c2b0 := beq_iff_eq.mpr c2
  have c2b1 := bne_eq_false_iff_eq.mpr c2
  clear c2
  obtain rfl := Option.some.inj H
  go_enter Tryz.func74, Tryz.ntmps74
  go_wp2
  go_ret
  exact ⟨by first | rfl | (simp; done) | (simp [*]; done), by repeat (first | exact Drawn0.refl _ | apply Drawn0.step)⟩
 ·
  rw [if_neg c2] at H
  have c2b0 := beq_eq_false_iff_ne.mpr c2
  have c2b1 := bne_iff_ne.mpr c2
  obtain rfl := Option.some.inj H
  go_enter Tryz.func74, Tryz.ntmps74
  go_wp2
  go_ret
  exact ⟨by first | rfl | (simp; done) | (simp [*]; done), by repeat (first | exact Drawn0.refl _ | apply Drawn0.step)⟩
def types_stands.f (l0_0 : List (S24)) (a1 : Int) : Option (Bool) := if 0 ≤ a1 then (if a1 < (l0_0.length : Int) then (if a1 = 0 then (some (((rd_T24 l0_0 a1).f1) == (-1))) else (if ((rd_T24 l0_0 a1).f1) ≥ 0 then (if ((rd_T24 l0_0 a1).f1) < a1 then (if 0 ≤ ((rd_T24 l0_0 a1).f1) then (if ((rd_T24 l0_0 a1).f1) < (l0_0.length : Int) then ((types_Inner.f ((rd_T24 l0_0 ((rd_T24 l0_0 a1).f1)).f0)).bind fun t112 => (some t112)) else (none)) else (none)) else (some false)) else (some false))) else (none)) else (none)
theorem types_stands.calls (g0 : Nat) (A0_0 : Option Addr) (c0_0 : Nat) (l0_0 : List (S24)) (a1 : Int) (r : Bool) (w : World) (hr0_0 : Kd.C k24 w A0_0 l0_0.length l0_0) (hc0_0 : l0_0.length ≤ c0_0) (hb0 : w.heap[g0]? = some (.cells #[.slice A0_0 l0_0.length c0_0] 27 (0, 0))) (h : types_stands.f l0_0 a1 = some r) :
  Calls Tryz.prog 127 #[.pointer (some ⟨g0, 0, none⟩), .int .i64 a1] w fun e w' => e = .returned (.bool r) ∧ Below w.heap.size w w' := by
 have HR0_0 := am hr0_0
 have HC0_0 := am hc0_0
 clear hr0_0 hc0_0
 have BK0 := am hb0
 clear hb0
 have HB := am (Below.refl w.heap.size w)
 have H : (if 0 ≤ a1 then (if a1 < (l0_0.length : Int) then (if a1 = 0 then (some (((rd_T24 l0_0 a1).f1) == (-1))) else (if ((rd_T24 l0_0 a1).f1) ≥ 0 then (if ((rd_T24 l0_0 a1).f1) < a1 then (if 0 ≤ ((rd_T24 l0_0 a1).f1) then (if ((rd_T24 l0_0 a1).f1) < (l0_0.length : Int) then ((types_Inner.f ((rd_T24 l0_0 ((rd_T24 l0_0 a1).f1)).f0)).bind fun t112 => (some t112)) else (none)) else (none)) else (some false)) else (some false))) else (none)) else (none)) = some r := h
 clear h
 by_cases c3 : 0 ≤ a1
 ·
  rw [if_pos c3] at H
  have c3b0 := decide_eq_true c3
  clear c3
  by_cases c4 : a1 < (l0_0.length : Int)
  ·
   rw [if_pos c4] at H
   have c4b0 := decide_eq_true c4
   clear c4
   by_cases c5 : a1 = 0
   ·
    rw [if_pos c5] at H
    have c5b0 := beq_iff_eq.mpr c5
    have c5b1 := bne_eq_false_iff_eq.mpr c5
    clear c5
    obtain rfl := Option.some.inj H
    have hcz6_0 : w.cell? ⟨g0, 0, none⟩ = some (.slice A0_0 l0_0.length c0_0) := (blk_cell BK0.out 0).trans rfl
    have hfz6_0 := blk_frozen BK0.out 0
    have p110 : 0 ≤ (a1 : Int) := of_decide_eq_true za
    have q110 : a1 < (l0_0.length : Int) := of_decide_eq_true za
    obtain ⟨ad110, e110, hx110_0, hx110_1, hx110_2⟩ := at_T24 HR0_0.out a1 p110 q110
    cases e110
    replace p110 := eq_true p110
    replace q110 := eq_true q110
    go_enter Tryz.func127, Tryz.ntmps127
    go_wp2
    go_ret
    exact ⟨ze, zl HB.out⟩
   ·
    rw [if_neg c5] at H
    have c5b0 := beq_eq_false_iff_ne.mpr c5
    have c5b1 := bne_iff_ne.mpr c5
    by_cases c7 : ((rd_T24 l0_0 a1).f1) ≥ 0
    ·
     rw [if_pos c7] at H
     have c7b0 : decide (0 ≤ ((rd_T24 l0_0 a1).f1)) = true := decide_eq_true c7
     clear c7
     by_cases c8 : ((rd_T24 l0_0 a1).f1) < a1
     ·
      rw [if_pos c8] at H
      have c8b0 := decide_eq_true c8
      clear c8
      by_cases c9 : 0 ≤ ((rd_T24 l0_0 a1).f1)
      ·
       rw [if_pos c9] at H
       have c9b0 := decide_eq_true c9
       clear c9
       by_cases c10 : ((rd_T24 l0_0 a1).f1) < (l0_0.length : Int)
       ·
        rw [if_pos c10] at H
        have c10b0 := decide_eq_true c10
        clear c10
        replace H := zo H
        obtain ⟨t112, A110, H⟩ := H
        (try dsimp only at H)
        have A11 := am A110
        clear A110
        obtain rfl := Option.some.inj H
        have hcz12_0 : w.cell? ⟨g0, 0, none⟩ = some (.slice A0_0 l0_0.length c0_0) := (blk_cell BK0.out 0).trans rfl
        have hfz12_0 := blk_frozen BK0.out 0
        have p110 : 0 ≤ (a1 : Int) := of_decide_eq_true za
        have q110 : a1 < (l0_0.length : Int) := of_decide_eq_true za
        obtain ⟨ad110, e110, hx110_0, hx110_1, hx110_2⟩ := at_T24 HR0_0.out a1 p110 q110
        cases e110
        replace p110 := eq_true p110
        replace q110 := eq_true q110
        have p111 : 0 ≤ (((rd_T24 l0_0 a1).f1) : Int) := of_decide_eq_true za
        have q111 : ((rd_T24 l0_0 a1).f1) < (l0_0.length : Int) := of_decide_eq_true za
        obtain ⟨ad111, e111, hx111_0, hx111_1, hx111_2⟩ := at_T24 HR0_0.out ((rd_T24 l0_0 a1).f1) p111 q111
        obtain rfl : ad110 = ad111 := (by injection e111)
        replace p111 := eq_true p111
        replace q111 := eq_true q111
        go_enter Tryz.func127, Tryz.ntmps127
        go_wp2_with (first | (go_at_call 74; (with_reducible refine (types_Inner.calls ((rd_T24 l0_0 ((rd_T24 l0_0 a1).f1)).f0) t112 _ A11.out).mono ?_); rintro e w' ⟨rfl, ⟨nd, rfl⟩⟩))
        go_ret
        exact ⟨ze, zl HB.out⟩
       ·
        rw [if_neg c10] at H
        exact absurd H (by simp)
      ·
       rw [if_neg c9] at H
       exact absurd H (by simp)
     ·
      rw [if_neg c8] at H
      have c8b0 := decide_eq_false c8
      clear c8
      obtain rfl := Option.some.inj H
      have hcz13_0 : w.cell? ⟨g0, 0, none⟩ = some (.slice A0_0 l0_0.length c0_0) := (blk_cell BK0.out 0).trans rfl
      have hfz13_0 := blk_frozen BK0.out 0
      have p110 : 0 ≤ (a1 : Int) := of_decide_eq_true za
      have q110 : a1 < (l0_0.length : Int) := of_decide_eq_true za
      obtain ⟨ad110, e110, hx110_0, hx110_1, hx110_2⟩ := at_T24 HR0_0.out a1 p110 q110
      cases e110
      replace p110 := eq_true p110
      replace q110 := eq_true q110
      go_enter Tryz.func127, Tryz.ntmps127
      go_wp2
      go_ret
      exact ⟨ze, zl HB.out⟩
    ·
     rw [if_neg c7] at H
     have c7b0 : decide (0 ≤ ((rd_T24 l0_0 a1).f1)) = false := decide_eq_false c7
     clear c7
     obtain rfl := Option.some.inj H
     have hcz14_0 : w.cell? ⟨g0, 0, none⟩ = some (.slice A0_0 l0_0.length c0_0) := (blk_cell BK0.out 0).trans rfl
     have hfz14_0 := blk_frozen BK0.out 0
     have p110 : 0 ≤ (a1 : Int) := of_decide_eq_true za
     have q110 : a1 < (l0_0.length : Int) := of_decide_eq_true za
     obtain ⟨ad110, e110, hx110_0, hx110_1, hx110_2⟩ := at_T24 HR0_0.out a1 p110 q110
     cases e110
     replace p110 := eq_true p110
     replace q110 := eq_true q110
     go_enter Tryz.func127, Tryz.ntmps127
     go_wp2
     go_ret
     exact ⟨ze, zl HB.out⟩
  ·
   rw [if_neg c4] at H
   exact absurd H (by simp)
 ·
  rw [if_neg c3] at H
  exact absurd H (by simp)
def types_way.l0 : Nat → Int → List Int → List (S24) → Option (List Int)
 | 0, _, _, _ => none
 | k + 1, x1, x5, x1000 => if x1 ≥ 0 then (if x5.length < 17592186044416 then (if 0 ≤ x1 then (if x1 < (x1000.length : Int) then (types_way.l0 k ((rd_T24 x1000 x1).f1) (x5 ++ [x1]) x1000) else (none)) else (none)) else (none)) else (some x5)
def types_way.f (k : Nat) (l0_0 : List (S24)) (a1 : Int) : Option (List Int) := types_way.l0 k a1 ([] : List Int) l0_0
theorem types_way.calls (k : Nat) (g0 : Nat) (A0_0 : Option Addr) (c0_0 : Nat) (l0_0 : List (S24)) (a1 : Int) (r : List Int) (w : World) (hr0_0 : Kd.C k24 w A0_0 l0_0.length l0_0) (hc0_0 : l0_0.length ≤ c0_0) (hb0 : w.heap[g0]? = some (.cells #[.slice A0_0 l0_0.length c0_0] 27 (0, 0))) (h : types_way.f k l0_0 a1 = some r) :
  Calls Tryz.prog 69 #[.pointer (some ⟨g0, 0, none⟩), .int .i64 a1] w fun e w' => ∃ v0_ : Value, e = .returned (v0_) ∧ Kd.R (Kd.int .i64) 3 w' w.heap.size (fun _ => True) v0_ r ∧ Below w.heap.size w w' := by
 have HR0_0 := am hr0_0
 have HC0_0 := am hc0_0
 clear hr0_0 hc0_0
 have BK0 := am hb0
 clear hb0
 have HB := am (Below.refl w.heap.size w)
 have H : (types_way.l0 k a1 ([] : List Int) l0_0) = some r := h
 clear h
 have H' := am H
 clear H
 go_enter Tryz.func69, Tryz.ntmps69
 go_wp2
 (try simp only [Act.put, List.setIfInBounds_toArray, List.set_cons_zero, List.set_cons_succ])
 go_loopg [1, 5] k (fun kq v1 v5 w' => ∃ (x1_1 : Int) (x5_1 : List Int), v1 = .int .i64 x1_1 ∧ Aside0 (types_way.l0 kq x1_1 x5_1 l0_0 = some r) ∧ Aside0 (kq ≤ k) ∧ Aside0 (Kd.R (Kd.int .i64) 3 w' w.heap.size (fun _ => True) v5 x5_1) ∧ Aside0 (w'.heap[g0]? = some (.cells #[(.slice A0_0 l0_0.length c0_0)] 27 (0, 0))) ∧ Aside0 (Below w.heap.size w w'))
 case atStart => exact ⟨(a1), (([] : List Int)), zs, H', ⟨Nat.le_refl _⟩, ⟨by first | exact Kd.R_nil _ _ _ _ _ | exact Kd.N_nil _ _ _ _ _ | exact Kd.V_nil _ _ _ _ _ | exact Kd.Q_nil _ _ _ _ _ | exact Kd.S_nil _ _ _ _ _⟩, ⟨by refine zb ?_; exact BK0.out⟩, ⟨zl HB.out⟩⟩
 case round =>
  clear H'
  try clear p2
  obtain ⟨x1_1, x5_1, rfl, HA, HK1, HO_5, BK0, HB⟩ := hrel
  cases gk with
  | zero => exact absurd HA.out (by simp [types_way.l0])
  | succ k1 =>
   have H := HA.out
   clear HA
   simp only [types_way.l0] at H
   by_cases c3 : x1_1 ≥ 0
   ·
    rw [if_pos c3] at H
    have c3b0 : decide (0 ≤ x1_1) = true := decide_eq_true c3
    clear c3
    by_cases c4 : x5_1.length < 17592186044416
    ·
     rw [if_pos c4] at H
     have LMc4 := am c4
     clear c4
     obtain ⟨y101, hy101⟩ : ∃ y_ : List Int, y_ = (x5_1 ++ [x1_1]) := ⟨_, rfl⟩
     replace H : (if 0 ≤ x1_1 then (if x1_1 < (l0_0.length : Int) then (types_way.l0 k1 ((rd_T24 l0_0 x1_1).f1) y101 l0_0) else (none)) else (none)) = some r := by first | (rw [hy101]; with_reducible exact H) | (have H2_ := (Option.bind_some _ _).symm.trans H; rw [hy101]; with_reducible exact H2_) | (have H2_ := (Option.bind_some _ _).symm.trans H; with_reducible exact H2_) | with_reducible exact H | (rw [hy101]; exact H) | exact H
     have Ny101 := am hy101
     clear hy101
     by_cases c5 : 0 ≤ x1_1
     ·
      rw [if_pos c5] at H
      have c5b0 := decide_eq_true c5
      clear c5
      by_cases c6 : x1_1 < (l0_0.length : Int)
      ·
       rw [if_pos c6] at H
       have c6b0 := decide_eq_true c6
       clear c6
       have H' := am H
       clear H
       go_wp2_with (first | ((with_reducible refine gate_builtin (b := .append) (xs := #[.tmp 16, .tmp 18]) rfl ?_); at_builtin; refine Kd.R_append (Kd.int .i64) (w0 := w) w.heap.size rfl (.tmp 16) (.tmp 18) 28 3 (.int .i64 0) 8 rfl Tryz.underlying28 info3 rfl (by decide) (by omega) u5 x5_1 x1_1 [.int .i64 x1_1] (fun _ => True) (fun _ => False) rfl rfl ?aP (fun _ hk => hk.elim) ?aF ?aO ?aB ?aS ?aL ?_; (case aP => exact rfl); (case aB => exact (zl HB.out)); (case aF => exact (fun _ _ => trivial)); (case aO => exact (zr HO_5.out)); (case aS => exact (below_size (zl HB.out))); (case aL => have := LMc4.out; omega); intro v102 w7 ho hb hg hat; rw [← Ny101.out] at ho; have n0_ := am (blk_grown (g := g0) (o := .cells #[.slice A0_0 l0_0.length c0_0] 27 (0, 0)) (zb BK0.out) hg (Kd.R_ne HO_5.out BK0.out (by decide))); have n1_ := am (hb); have n2_ := am (ho); clear BK0 HB HO_5; have BK0 := n0_; have HB := n1_; have HO103 := n2_; clear n0_ n1_ n2_; clear ho hb hg hat; have hcz8_0 : w7.cell? ⟨g0, 0, none⟩ = some (.slice A0_0 l0_0.length c0_0) := (blk_cell BK0.out 0).trans rfl; have hfz8_0 := blk_frozen BK0.out 0; have p104 : 0 ≤ (x1_1 : Int) := of_decide_eq_true za; have q104 : x1_1 < (l0_0.length : Int) := of_decide_eq_true za; obtain ⟨ad104, e104, hx104_0, hx104_1, hx104_2⟩ := at_T24 HR0_0.out x1_1 p104 q104; cases e104; replace hx104_0 := zq HB.out hx104_0; replace hx104_1 := zq HB.out hx104_1; replace hx104_2 := zq HB.out hx104_2; replace p104 := eq_true p104; replace q104 := eq_true q104))
       go_roundg k1
       case measure => have := HK1.out; omega
       case rel => exact ⟨((rd_T24 l0_0 x1_1).f1), (y101), zs, H', ⟨by have := HK1.out; omega⟩, ⟨by refine zr ?_; exact HO103.out⟩, ⟨by refine zb ?_; exact BK0.out⟩, ⟨zl HB.out⟩⟩
      ·
       rw [if_neg c6] at H
       exact absurd H (by simp)
     ·
      rw [if_neg c5] at H
      exact absurd H (by simp)
    ·
     rw [if_neg c4] at H
     exact absurd H (by simp)
   ·
    rw [if_neg c3] at H
    have c3b0 : decide (0 ≤ x1_1) = false := decide_eq_false c3
    clear c3
    obtain rfl := Option.some.inj H
    go_wp2
    go_ret
    exact ⟨_, ze, by refine zr ?_; exact HO_5.out, zl HB.out⟩
end Go.Proofs.YtkcmkedboflklaaGreatDoor.Q
