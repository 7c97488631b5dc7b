/- Steps towards: PageUnlike: unlike columns have unlike pages, for every type, every leaf and every two columns; no condition beside the row's own (the library's listed variables hold what the program's text lays). -/
import Derived.Lib.AppendIntMem
import Derived.Test.YtkcmkedboflklaaGreatDoorA2
import Derived.Test.YtkcmkedboflklaaGreatDoorA6
import Derived.Test.YtkcmkedboflklaaGreatDoorA5
import Derived.Test.YtkcmkedboflklaaGreatDoorA1
namespace Go.Proofs.YtkcmkedboflklaaGreatDoor.Q
open Go.RowKit Go.Proofs.YtkcmkedboflklaaGreatDoorW.PrintWords Go.Proofs.YtkcmkedboflklaaGreatDoorW.PrintLast Go.Proofs.YtkcmkedboflklaaGreatDoorW.PrintMore
attribute [local go_sem] max2_int min2_int max_two min_two max_three min_three max_four min_four
set_option linter.unusedVariables false
set_option linter.unusedSimpArgs false
set_option maxHeartbeats 8000000
set_option maxRecDepth 100000

def types_Node.f (k : Nat) (l0_0 : List (S24)) (a1 : Int) : Option (Bool) := (types_May.f k l0_0).bind fun t135 => (if t135 = true then (if a1 ≥ 0 then (some (decide (a1 < (l0_0.length : Int)))) else (some false)) else (some false))
theorem types_Node.calls (k : Nat) (A0_0 : Option Addr) (c0_0 : Nat) (l0_0 : List (S24)) (a1 : Int) (r : Bool) (w : World) (hr0_0 : Kd.C k24 w A0_0 l0_0.length l0_0) (hc0_0 : l0_0.length ≤ c0_0) (h : types_Node.f k l0_0 a1 = some r) :
  Calls Tryz.prog 68 #[.agg #[.slice A0_0 l0_0.length c0_0], .int .i64 a1] w fun e w' => e = .returned (.bool r) ∧ Below w.heap.size w w' := by
 have hu27 := Tryz.underlying27
 have HR0_0 := am hr0_0
 have HC0_0 := am hc0_0
 clear hr0_0 hc0_0
 have HB := am (Below.refl w.heap.size w)
 have H : ((types_May.f k l0_0).bind fun t135 => (if t135 = true then (if a1 ≥ 0 then (some (decide (a1 < (l0_0.length : Int)))) else (some false)) else (some false))) = some r := h
 clear h
 replace H := zo H
 obtain ⟨t135, A30, H⟩ := H
 (try dsimp only at H)
 have A3 := am A30
 clear A30
 by_cases c4 : t135 = true
 ·
  subst c4
  rw [if_pos rfl] at H
  by_cases c5 : a1 ≥ 0
  ·
   rw [if_pos c5] at H
   have c5b0 : decide (0 ≤ a1) = true := decide_eq_true c5
   clear c5
   obtain rfl := Option.some.inj H
   go_enter Tryz.func68, Tryz.ntmps68
   go_wp2_with (first | ((with_reducible refine gate_dst (N := 2) rfl ?_); refine box_event ?hg (N := 2) ?hd (cs := #[.slice A0_0 l0_0.length c0_0]) (t := 27) ?hr ?_; (case hd => rfl); (case hg => rfl); (case hr => exact zh); intro gb134 hg w6 hbox hb; have n0_ := am (below_step (zl HB.out) hb); have n1_ := am (hbox); have n2_ := am ((by rw [hg]; exact (below_size (zl HB.out)) : w.heap.size ≤ gb134)); have n3_ := am ((by rw [hg]; exact (below_size (zl HB.out)) : w.heap.size ≤ gb134)); clear HB; have HB := n0_; have BK134 := n1_; have GW134 := n2_; have GE134 := n3_; clear n0_ n1_ n2_ n3_; clear hb hbox hg; have hcz7_0 : w6.cell? ⟨gb134, 0, none⟩ = some (.slice A0_0 l0_0.length c0_0) := (blk_cell BK134.out 0).trans rfl; have hfz7_0 := blk_frozen BK134.out 0) | ((with_reducible refine gate_callee (f := 99) rfl ?_); refine goesL_ (some 6) rfl rfl Tryz.func99 (by kernel_rfl) rfl #[.agg #[.slice A0_0 l0_0.length c0_0]] rfl zm ?_; (with_reducible refine (types_May.calls k _ _ l0_0 true _ ?side1 ?side2 A3.out).mono ?_); (case side1 => exact zc (Kd.C_below HR0_0.out HB.out)); (case side2 => exact HC0_0.out); rintro e w8 ⟨rfl, hb⟩; refine ⟨_, rfl, ?_⟩; have n0_ := am (zbb BK134.out hb); have n1_ := am (below_step (zl1 HB.out GE134.out) hb); clear BK134 HB; have BK134 := n0_; have HB := n1_; clear n0_ n1_; (try clear hb); (try clear hb2); (try clear hk); (try clear hi); have hcz9_0 : w8.cell? ⟨gb134, 0, none⟩ = some (.slice A0_0 l0_0.length c0_0) := (blk_cell BK134.out 0).trans rfl; have hfz9_0 := blk_frozen BK134.out 0))
   go_ret
   exact ⟨ze, zl1 HB.out GE134.out⟩
  ·
   rw [if_neg c5] at H
   have c5b0 : decide (0 ≤ a1) = false := decide_eq_false c5
   clear c5
   obtain rfl := Option.some.inj H
   go_enter Tryz.func68, Tryz.ntmps68
   go_wp2_with (first | ((with_reducible refine gate_dst (N := 2) rfl ?_); refine box_event ?hg (N := 2) ?hd (cs := #[.slice A0_0 l0_0.length c0_0]) (t := 27) ?hr ?_; (case hd => rfl); (case hg => rfl); (case hr => exact zh); intro gb134 hg w10 hbox hb; have n0_ := am (below_step (zl HB.out) hb); have n1_ := am (hbox); have n2_ := am ((by rw [hg]; exact (below_size (zl HB.out)) : w.heap.size ≤ gb134)); have n3_ := am ((by rw [hg]; exact (below_size (zl HB.out)) : w.heap.size ≤ gb134)); clear HB; have HB := n0_; have BK134 := n1_; have GW134 := n2_; have GE134 := n3_; clear n0_ n1_ n2_ n3_; clear hb hbox hg; have hcz11_0 : w10.cell? ⟨gb134, 0, none⟩ = some (.slice A0_0 l0_0.length c0_0) := (blk_cell BK134.out 0).trans rfl; have hfz11_0 := blk_frozen BK134.out 0) | ((with_reducible refine gate_callee (f := 99) rfl ?_); refine goesL_ (some 6) rfl rfl Tryz.func99 (by kernel_rfl) rfl #[.agg #[.slice A0_0 l0_0.length c0_0]] rfl zm ?_; (with_reducible refine (types_May.calls k _ _ l0_0 true _ ?side1 ?side2 A3.out).mono ?_); (case side1 => exact zc (Kd.C_below HR0_0.out HB.out)); (case side2 => exact HC0_0.out); rintro e w12 ⟨rfl, hb⟩; refine ⟨_, rfl, ?_⟩; have n0_ := am (zbb BK134.out hb); have n1_ := am (below_step (zl1 HB.out GE134.out) hb); clear BK134 HB; have BK134 := n0_; have HB := n1_; clear n0_ n1_; (try clear hb); (try clear hb2); (try clear hk); (try clear hi)))
   go_ret
   exact ⟨ze, zl1 HB.out GE134.out⟩
 ·
  replace c4 := Bool.eq_false_iff.mpr c4
  subst c4
  rw [if_neg (show ¬ (false = true) by decide)] at H
  obtain rfl := Option.some.inj H
  go_enter Tryz.func68, Tryz.ntmps68
  go_wp2_with (first | ((with_reducible refine gate_dst (N := 2) rfl ?_); refine box_event ?hg (N := 2) ?hd (cs := #[.slice A0_0 l0_0.length c0_0]) (t := 27) ?hr ?_; (case hd => rfl); (case hg => rfl); (case hr => exact zh); intro gb134 hg w13 hbox hb; have n0_ := am (below_step (zl HB.out) hb); have n1_ := am (hbox); have n2_ := am ((by rw [hg]; exact (below_size (zl HB.out)) : w.heap.size ≤ gb134)); have n3_ := am ((by rw [hg]; exact (below_size (zl HB.out)) : w.heap.size ≤ gb134)); clear HB; have HB := n0_; have BK134 := n1_; have GW134 := n2_; have GE134 := n3_; clear n0_ n1_ n2_ n3_; clear hb hbox hg; have hcz14_0 : w13.cell? ⟨gb134, 0, none⟩ = some (.slice A0_0 l0_0.length c0_0) := (blk_cell BK134.out 0).trans rfl; have hfz14_0 := blk_frozen BK134.out 0) | ((with_reducible refine gate_callee (f := 99) rfl ?_); refine goesL_ (some 6) rfl rfl Tryz.func99 (by kernel_rfl) rfl #[.agg #[.slice A0_0 l0_0.length c0_0]] rfl zm ?_; (with_reducible refine (types_May.calls k _ _ l0_0 false _ ?side1 ?side2 A3.out).mono ?_); (case side1 => exact zc (Kd.C_below HR0_0.out HB.out)); (case side2 => exact HC0_0.out); rintro e w15 ⟨rfl, hb⟩; refine ⟨_, rfl, ?_⟩; have n0_ := am (zbb BK134.out hb); have n1_ := am (below_step (zl1 HB.out GE134.out) hb); clear BK134 HB; have BK134 := n0_; have HB := n1_; clear n0_ n1_; (try clear hb); (try clear hb2); (try clear hk); (try clear hi)))
  go_ret
  exact ⟨ze, zl1 HB.out GE134.out⟩

def types_Leaf.f (k : Nat) (l0_0 : List (S24)) (a1 : Int) : Option (Bool) := (types_Node.f k l0_0 a1).bind fun t137 => (if t137 = true then (if 0 ≤ a1 then (if a1 < (l0_0.length : Int) then ((types_Inner.f ((rd_T24 l0_0 a1).f0)).bind fun t139 => (some (!t139))) else (none)) else (none)) else (some false))
theorem types_Leaf.calls (k : Nat) (A0_0 : Option Addr) (c0_0 : Nat) (l0_0 : List (S24)) (a1 : Int) (r : Bool) (w : World) (hr0_0 : Kd.C k24 w A0_0 l0_0.length l0_0) (hc0_0 : l0_0.length ≤ c0_0) (h : types_Leaf.f k l0_0 a1 = some r) :
  Calls Tryz.prog 42 #[.agg #[.slice A0_0 l0_0.length c0_0], .int .i64 a1] w fun e w' => e = .returned (.bool r) ∧ Below w.heap.size w w' := by
 have hu27 := Tryz.underlying27
 have HR0_0 := am hr0_0
 have HC0_0 := am hc0_0
 clear hr0_0 hc0_0
 have HB := am (Below.refl w.heap.size w)
 have H : ((types_Node.f k l0_0 a1).bind fun t137 => (if t137 = true then (if 0 ≤ a1 then (if a1 < (l0_0.length : Int) then ((types_Inner.f ((rd_T24 l0_0 a1).f0)).bind fun t139 => (some (!t139))) else (none)) else (none)) else (some false))) = some r := h
 clear h
 replace H := zo H
 obtain ⟨t137, A30, H⟩ := H
 (try dsimp only at H)
 have A3 := am A30
 clear A30
 by_cases c4 : t137 = true
 ·
  subst c4
  rw [if_pos rfl] at H
  by_cases c5 : 0 ≤ a1
  ·
   rw [if_pos c5] at H
   have c5b0 := decide_eq_true c5
   clear c5
   by_cases c6 : a1 < (l0_0.length : Int)
   ·
    rw [if_pos c6] at H
    have c6b0 := decide_eq_true c6
    clear c6
    replace H := zo H
    obtain ⟨t139, A70, H⟩ := H
    (try dsimp only at H)
    have A7 := am A70
    clear A70
    obtain rfl := Option.some.inj H
    go_enter Tryz.func42, Tryz.ntmps42
    go_wp2_with (first | ((with_reducible refine gate_dst (N := 2) rfl ?_); refine box_event ?hg (N := 2) ?hd (cs := #[.slice A0_0 l0_0.length c0_0]) (t := 27) ?hr ?_; (case hd => rfl); (case hg => rfl); (case hr => exact zh); intro gb136 hg w8 hbox hb; have n0_ := am (below_step (zl HB.out) hb); have n1_ := am (hbox); have n2_ := am ((by rw [hg]; exact (below_size (zl HB.out)) : w.heap.size ≤ gb136)); have n3_ := am ((by rw [hg]; exact (below_size (zl HB.out)) : w.heap.size ≤ gb136)); clear HB; have HB := n0_; have BK136 := n1_; have GW136 := n2_; have GE136 := n3_; clear n0_ n1_ n2_ n3_; clear hb hbox hg; have hcz9_0 : w8.cell? ⟨gb136, 0, none⟩ = some (.slice A0_0 l0_0.length c0_0) := (blk_cell BK136.out 0).trans rfl; have hfz9_0 := blk_frozen BK136.out 0) | ((with_reducible refine gate_callee (f := 68) rfl ?_); refine goesL_ (some 7) rfl rfl Tryz.func68 (by kernel_rfl) rfl #[.agg #[.slice A0_0 l0_0.length c0_0], .int .i64 a1] rfl zm ?_; (with_reducible refine (types_Node.calls k _ _ l0_0 a1 true _ ?side1 ?side2 A3.out).mono ?_); (case side1 => exact zc (Kd.C_below HR0_0.out HB.out)); (case side2 => exact HC0_0.out); rintro e w10 ⟨rfl, hb⟩; refine ⟨_, rfl, ?_⟩; have n0_ := am (zbb BK136.out hb); have n1_ := am (below_step (zl1 HB.out GE136.out) hb); clear BK136 HB; have BK136 := n0_; have HB := n1_; clear n0_ n1_; (try clear hb); (try clear hb2); (try clear hk); (try clear hi); have hcz11_0 : w10.cell? ⟨gb136, 0, none⟩ = some (.slice A0_0 l0_0.length c0_0) := (blk_cell BK136.out 0).trans rfl; have hfz11_0 := blk_frozen BK136.out 0; have p138 : 0 ≤ (a1 : Int) := of_decide_eq_true za; have q138 : a1 < (l0_0.length : Int) := of_decide_eq_true za; obtain ⟨ad138, e138, hx138_0, hx138_1, hx138_2⟩ := at_T24 HR0_0.out a1 p138 q138; cases e138; replace hx138_0 := zq HB.out hx138_0; replace hx138_1 := zq HB.out hx138_1; replace hx138_2 := zq HB.out hx138_2; replace p138 := eq_true p138; replace q138 := eq_true q138) | (go_at_call 74; (with_reducible refine (types_Inner.calls ((rd_T24 l0_0 a1).f0) t139 _ A7.out).mono ?_); rintro e w' ⟨rfl, ⟨nd, rfl⟩⟩))
    go_ret
    exact ⟨ze, zl1 HB.out GE136.out⟩
   ·
    rw [if_neg c6] at H
    exact absurd H (by simp)
  ·
   rw [if_neg c5] at H
   exact absurd H (by simp)
 ·
  replace c4 := Bool.eq_false_iff.mpr c4
  subst c4
  rw [if_neg (show ¬ (false = true) by decide)] at H
  obtain rfl := Option.some.inj H
  go_enter Tryz.func42, Tryz.ntmps42
  go_wp2_with (first | ((with_reducible refine gate_dst (N := 2) rfl ?_); refine box_event ?hg (N := 2) ?hd (cs := #[.slice A0_0 l0_0.length c0_0]) (t := 27) ?hr ?_; (case hd => rfl); (case hg => rfl); (case hr => exact zh); intro gb136 hg w12 hbox hb; have n0_ := am (below_step (zl HB.out) hb); have n1_ := am (hbox); have n2_ := am ((by rw [hg]; exact (below_size (zl HB.out)) : w.heap.size ≤ gb136)); have n3_ := am ((by rw [hg]; exact (below_size (zl HB.out)) : w.heap.size ≤ gb136)); clear HB; have HB := n0_; have BK136 := n1_; have GW136 := n2_; have GE136 := n3_; clear n0_ n1_ n2_ n3_; clear hb hbox hg; have hcz13_0 : w12.cell? ⟨gb136, 0, none⟩ = some (.slice A0_0 l0_0.length c0_0) := (blk_cell BK136.out 0).trans rfl; have hfz13_0 := blk_frozen BK136.out 0) | ((with_reducible refine gate_callee (f := 68) rfl ?_); refine goesL_ (some 7) rfl rfl Tryz.func68 (by kernel_rfl) rfl #[.agg #[.slice A0_0 l0_0.length c0_0], .int .i64 a1] rfl zm ?_; (with_reducible refine (types_Node.calls k _ _ l0_0 a1 false _ ?side1 ?side2 A3.out).mono ?_); (case side1 => exact zc (Kd.C_below HR0_0.out HB.out)); (case side2 => exact HC0_0.out); rintro e w14 ⟨rfl, hb⟩; refine ⟨_, rfl, ?_⟩; have n0_ := am (zbb BK136.out hb); have n1_ := am (below_step (zl1 HB.out GE136.out) hb); clear BK136 HB; have BK136 := n0_; have HB := n1_; clear n0_ n1_; (try clear hb); (try clear hb2); (try clear hk); (try clear hi)))
  go_ret
  exact ⟨ze, zl1 HB.out GE136.out⟩
def types_Levels.l0 : Nat → Int → Int → List Int → Int → Int → List (S24) → Option (Int × Int × Int)
 | 0, _, _, _, _, _, _ => none
 | k + 1, x7, x8, x16, x17, x18, x285000 => if x18 < x17 then (if 0 ≤ x18 then (if x18 < (x16.length : Int) then (if 0 ≤ (rd x16 x18) then (if (rd x16 x18) < (x285000.length : Int) then (if ((rd_T24 x285000 (rd x16 x18)).f0) = 3 then (if (rd_T24 x285000 (rd x16 x18)).f2 = true then (types_Levels.l0 k (wrap64 (x7 + 1)) (wrap64 ((wrap64 (x8 + 1)) + 1)) x16 x17 (wrap64 (x18 + 1)) x285000) else (types_Levels.l0 k (wrap64 (x7 + 1)) (wrap64 (x8 + 1)) x16 x17 (wrap64 (x18 + 1)) x285000)) else (if (rd_T24 x285000 (rd x16 x18)).f2 = true then (types_Levels.l0 k x7 (wrap64 (x8 + 1)) x16 x17 (wrap64 (x18 + 1)) x285000) else (types_Levels.l0 k x7 x8 x16 x17 (wrap64 (x18 + 1)) x285000))) else (none)) else (none)) else (none)) else (none)) else (some (x7, x8, 0))
def types_Levels.f (k : Nat) (l0_0 : List (S24)) (a1 : Int) : Option (Int × Int × Int) := (types_Node.f k l0_0 a1).bind fun t285 => (if t285 = true then ((types_way.f k l0_0 a1).bind fun t286 => (types_Levels.l0 k 0 0 t286 (t286.length : Int) 0 l0_0)) else (some (0, 0, 500)))
theorem types_Levels.calls (k : Nat) (A0_0 : Option Addr) (c0_0 : Nat) (l0_0 : List (S24)) (a1 : Int) (r1 : Int) (r2 : Int) (r3 : Int) (w : World) (hr0_0 : Kd.C k24 w A0_0 l0_0.length l0_0) (hc0_0 : l0_0.length ≤ c0_0) (h : types_Levels.f k l0_0 a1 = some (r1, r2, r3)) :
  Calls Tryz.prog 35 #[.agg #[.slice A0_0 l0_0.length c0_0], .int .i64 a1] w fun e w' => e = .returned (.tuple #[.int .i64 r1, .int .i64 r2, .int .i64 r3]) ∧ Below w.heap.size w w' := by
 have hu27 := Tryz.underlying27
 have HR0_0 := am hr0_0
 have HC0_0 := am hc0_0
 clear hr0_0 hc0_0
 have HB := am (Below.refl w.heap.size w)
 have H : ((types_Node.f k l0_0 a1).bind fun t285 => (if t285 = true then ((types_way.f k l0_0 a1).bind fun t286 => (types_Levels.l0 k 0 0 t286 (t286.length : Int) 0 l0_0)) else (some (0, 0, 500)))) = some (r1, r2, r3) := h
 clear h
 replace H := zo H
 obtain ⟨t285, A30, H⟩ := H
 (try dsimp only at H)
 have A3 := am A30
 clear A30
 by_cases c4 : t285 = true
 ·
  subst c4
  rw [if_pos rfl] at H
  replace H := zo H
  obtain ⟨t286, A50, H⟩ := H
  (try dsimp only at H)
  have A5 := am A50
  clear A50
  have H' := am H
  clear H
  go_enter Tryz.func35, Tryz.ntmps35
  go_wp2_with (first | ((with_reducible refine gate_dst (N := 2) rfl ?_); refine box_event ?hg (N := 2) ?hd (cs := #[.slice A0_0 l0_0.length c0_0]) (t := 27) ?hr ?_; (case hd => rfl); (case hg => rfl); (case hr => exact zh); intro gb284 hg w6 hbox hb; have n0_ := am (below_step (zl HB.out) hb); have n1_ := am (hbox); have n2_ := am ((by rw [hg]; exact (below_size (zl HB.out)) : w.heap.size ≤ gb284)); have n3_ := am ((by rw [hg]; exact (below_size (zl HB.out)) : w.heap.size ≤ gb284)); clear HB; have HB := n0_; have BK284 := n1_; have GW284 := n2_; have GE284 := n3_; clear n0_ n1_ n2_ n3_; clear hb hbox hg; have hcz7_0 : w6.cell? ⟨gb284, 0, none⟩ = some (.slice A0_0 l0_0.length c0_0) := (blk_cell BK284.out 0).trans rfl; have hfz7_0 := blk_frozen BK284.out 0) | ((with_reducible refine gate_callee (f := 68) rfl ?_); refine goesL_ (some 13) rfl rfl Tryz.func68 (by kernel_rfl) rfl #[.agg #[.slice A0_0 l0_0.length c0_0], .int .i64 a1] rfl zm ?_; (with_reducible refine (types_Node.calls k _ _ l0_0 a1 true _ ?side1 ?side2 A3.out).mono ?_); (case side1 => exact zc (Kd.C_below HR0_0.out HB.out)); (case side2 => exact HC0_0.out); rintro e w8 ⟨rfl, hb⟩; refine ⟨_, rfl, ?_⟩; have n0_ := am (zbb BK284.out hb); have n1_ := am (below_step (zl1 HB.out GE284.out) hb); clear BK284 HB; have BK284 := n0_; have HB := n1_; clear n0_ n1_; (try clear hb); (try clear hb2); (try clear hk); (try clear hi)) | ((with_reducible refine gate_callee (f := 69) rfl ?_); refine goesL_ (some 16) rfl rfl Tryz.func69 (by kernel_rfl) rfl #[.pointer (some ⟨gb284, 0, none⟩), .int .i64 a1] rfl zm ?_; (with_reducible refine (types_way.calls k gb284 A0_0 c0_0 l0_0 a1 t286 _ ?side1 ?side2 ?side3 A5.out).mono ?_); (case side1 => exact zc (Kd.C_below HR0_0.out HB.out)); (case side2 => exact HC0_0.out); (case side3 => refine zb ?_; exact BK284.out); rintro e w9 ⟨v287, rfl, ho0, hb⟩; refine ⟨_, rfl, ?_⟩; have n0_ := am (Kd.R_lower ho0 (below_size (zl1 HB.out GE284.out))); have n1_ := am (zbb BK284.out hb); have n2_ := am (below_step (zl1 HB.out GE284.out) hb); clear BK284 HB; have HO288 := n0_; have BK284 := n1_; have HB := n2_; clear n0_ n1_ n2_; (try clear hb); (try clear hb2); (try clear hk); (try clear hi); (try clear ho0); obtain ⟨Ao10, co10, eo10⟩ := Kd.R_slice HO288.out; subst eo10))
  (try simp only [Act.put, List.setIfInBounds_toArray, List.set_cons_zero, List.set_cons_succ])
  go_loopg [7, 8, 18] k (fun kq v7 v8 v18 w' => ∃ (x7_1 : Int) (x8_1 : Int) (x18_1 : Int), v7 = .int .i64 x7_1 ∧ v8 = .int .i64 x8_1 ∧ v18 = .int .i64 x18_1 ∧ Aside0 (types_Levels.l0 kq x7_1 x8_1 t286 (t286.length : Int) x18_1 l0_0 = some (r1, r2, r3)) ∧ Aside0 (kq ≤ k) ∧ Aside0 (Kd.R (Kd.int .i64) 3 w' w.heap.size (fun _ => True) (.slice Ao10 t286.length co10) t286) ∧ Aside0 (w'.heap[gb284]? = some (.cells #[(.slice A0_0 l0_0.length c0_0)] 27 (0, 0))) ∧ Aside0 (Below w.heap.size w w'))
  case atStart => exact ⟨(0), (0), (0), zs, zs, zs, H', ⟨Nat.le_refl _⟩, ⟨by refine zr ?_; exact HO288.out⟩, ⟨by refine zb ?_; exact BK284.out⟩, ⟨zl1 HB.out GE284.out⟩⟩
  case round =>
   clear H'
   try clear p2
   try clear c3
   try clear c4
   try clear c6
   try clear hcz7_0
   try clear hfz7_0
   obtain ⟨x7_1, x8_1, x18_1, rfl, rfl, rfl, HA, HK1, HO_16, BK284, HB⟩ := hrel
   cases gk with
   | zero => exact absurd HA.out (by simp [types_Levels.l0])
   | succ k1 =>
    have H := HA.out
    clear HA
    simp only [types_Levels.l0] at H
    by_cases c11 : x18_1 < (t286.length : Int)
    ·
     rw [if_pos c11] at H
     have c11b0 := decide_eq_true c11
     clear c11
     by_cases c12 : 0 ≤ x18_1
     ·
      rw [if_pos c12] at H
      have c12b0 := decide_eq_true c12
      clear c12
      by_cases c13 : x18_1 < (t286.length : Int)
      ·
       rw [if_pos c13] at H
       have c13b0 := decide_eq_true c13
       clear c13
       by_cases c14 : 0 ≤ (rd t286 x18_1)
       ·
        rw [if_pos c14] at H
        have c14b0 := decide_eq_true c14
        clear c14
        by_cases c15 : (rd t286 x18_1) < (l0_0.length : Int)
        ·
         rw [if_pos c15] at H
         have c15b0 := decide_eq_true c15
         clear c15
         by_cases c16 : ((rd_T24 l0_0 (rd t286 x18_1)).f0) = 3
         ·
          rw [if_pos c16] at H
          have c16b0 := beq_iff_eq.mpr c16
          have c16b1 := bne_eq_false_iff_eq.mpr c16
          clear c16
          obtain ⟨bq17, hbq17⟩ : ∃ b_ : Bool, b_ = ((rd_T24 l0_0 (rd t286 x18_1)).f2) := ⟨_, rfl⟩
          replace H : (if bq17 = true then (types_Levels.l0 k1 (wrap64 (x7_1 + 1)) (wrap64 ((wrap64 (x8_1 + 1)) + 1)) t286 (t286.length : Int) (wrap64 (x18_1 + 1)) l0_0) else (types_Levels.l0 k1 (wrap64 (x7_1 + 1)) (wrap64 (x8_1 + 1)) t286 (t286.length : Int) (wrap64 (x18_1 + 1)) l0_0)) = some (r1, r2, r3) := by rw [← hbq17] at H; exact H
          have Nbq17 := am hbq17
          clear hbq17
          by_cases c18 : bq17 = true
          ·
           subst c18
           rw [if_pos rfl] at H
           have H' := am H
           clear H
           have p289 : 0 ≤ (x18_1 : Int) := of_decide_eq_true za
           have q289 : x18_1 < (t286.length : Int) := of_decide_eq_true za
           obtain ⟨ad289, e289, hx289_0⟩ := Kd.at_int (Kd.R_reads' HO_16.out).2.2 x18_1 p289 q289
           cases e289
           replace p289 := eq_true p289
           replace q289 := eq_true q289
           have hcz19_0 : wr.cell? ⟨gb284, 0, none⟩ = some (.slice A0_0 l0_0.length c0_0) := (blk_cell BK284.out 0).trans rfl
           have hfz19_0 := blk_frozen BK284.out 0
           have p290 : 0 ≤ ((rd t286 x18_1) : Int) := of_decide_eq_true za
           have q290 : (rd t286 x18_1) < (l0_0.length : Int) := of_decide_eq_true za
           obtain ⟨ad290, e290, hx290_0, hx290_1, hx290_2⟩ := at_T24 HR0_0.out (rd t286 x18_1) p290 q290
           (try rw [← Nbq17.out] at hx290_2)
           cases e290
           replace hx290_0 := zq HB.out hx290_0
           replace hx290_1 := zq HB.out hx290_1
           replace hx290_2 := zq HB.out hx290_2
           replace p290 := eq_true p290
           replace q290 := eq_true q290
           have p291 : 0 ≤ ((rd t286 x18_1) : Int) := of_decide_eq_true za
           have q291 : (rd t286 x18_1) < (l0_0.length : Int) := of_decide_eq_true za
           obtain ⟨ad291, e291, hx291_0, hx291_1, hx291_2⟩ := at_T24 HR0_0.out (rd t286 x18_1) p291 q291
           (try rw [← Nbq17.out] at hx291_2)
           obtain rfl : ad290 = ad291 := (by injection e291)
           replace hx291_0 := zq HB.out hx291_0
           replace hx291_1 := zq HB.out hx291_1
           replace hx291_2 := zq HB.out hx291_2
           replace p291 := eq_true p291
           replace q291 := eq_true q291
           go_wp2
           go_roundg k1
           case measure => have := HK1.out; omega
           case rel => exact ⟨(wrap64 (x7_1 + 1)), (wrap64 ((wrap64 (x8_1 + 1)) + 1)), (wrap64 (x18_1 + 1)), zs, zs, zs, H', ⟨by have := HK1.out; omega⟩, ⟨by refine zr ?_; exact HO_16.out⟩, ⟨by refine zb ?_; exact BK284.out⟩, ⟨zl1 HB.out GE284.out⟩⟩
          ·
           replace c18 := Bool.eq_false_iff.mpr c18
           subst c18
           rw [if_neg (show ¬ (false = true) by decide)] at H
           have H' := am H
           clear H
           have p289 : 0 ≤ (x18_1 : Int) := of_decide_eq_true za
           have q289 : x18_1 < (t286.length : Int) := of_decide_eq_true za
           obtain ⟨ad289, e289, hx289_0⟩ := Kd.at_int (Kd.R_reads' HO_16.out).2.2 x18_1 p289 q289
           cases e289
           replace p289 := eq_true p289
           replace q289 := eq_true q289
           have hcz20_0 : wr.cell? ⟨gb284, 0, none⟩ = some (.slice A0_0 l0_0.length c0_0) := (blk_cell BK284.out 0).trans rfl
           have hfz20_0 := blk_frozen BK284.out 0
           have p290 : 0 ≤ ((rd t286 x18_1) : Int) := of_decide_eq_true za
           have q290 : (rd t286 x18_1) < (l0_0.length : Int) := of_decide_eq_true za
           obtain ⟨ad290, e290, hx290_0, hx290_1, hx290_2⟩ := at_T24 HR0_0.out (rd t286 x18_1) p290 q290
           (try rw [← Nbq17.out] at hx290_2)
           cases e290
           replace hx290_0 := zq HB.out hx290_0
           replace hx290_1 := zq HB.out hx290_1
           replace hx290_2 := zq HB.out hx290_2
           replace p290 := eq_true p290
           replace q290 := eq_true q290
           have p291 : 0 ≤ ((rd t286 x18_1) : Int) := of_decide_eq_true za
           have q291 : (rd t286 x18_1) < (l0_0.length : Int) := of_decide_eq_true za
           obtain ⟨ad291, e291, hx291_0, hx291_1, hx291_2⟩ := at_T24 HR0_0.out (rd t286 x18_1) p291 q291
           (try rw [← Nbq17.out] at hx291_2)
           obtain rfl : ad290 = ad291 := (by injection e291)
           replace hx291_0 := zq HB.out hx291_0
           replace hx291_1 := zq HB.out hx291_1
           replace hx291_2 := zq HB.out hx291_2
           replace p291 := eq_true p291
           replace q291 := eq_true q291
           go_wp2
           go_roundg k1
           case measure => have := HK1.out; omega
           case rel => exact ⟨(wrap64 (x7_1 + 1)), (wrap64 (x8_1 + 1)), (wrap64 (x18_1 + 1)), zs, zs, zs, H', ⟨by have := HK1.out; omega⟩, ⟨by refine zr ?_; exact HO_16.out⟩, ⟨by refine zb ?_; exact BK284.out⟩, ⟨zl1 HB.out GE284.out⟩⟩
         ·
          rw [if_neg c16] at H
          have c16b0 := beq_eq_false_iff_ne.mpr c16
          have c16b1 := bne_iff_ne.mpr c16
          obtain ⟨bq21, hbq21⟩ : ∃ b_ : Bool, b_ = ((rd_T24 l0_0 (rd t286 x18_1)).f2) := ⟨_, rfl⟩
          replace H : (if bq21 = true then (types_Levels.l0 k1 x7_1 (wrap64 (x8_1 + 1)) t286 (t286.length : Int) (wrap64 (x18_1 + 1)) l0_0) else (types_Levels.l0 k1 x7_1 x8_1 t286 (t286.length : Int) (wrap64 (x18_1 + 1)) l0_0)) = some (r1, r2, r3) := by rw [← hbq21] at H; exact H
          have Nbq21 := am hbq21
          clear hbq21
          by_cases c22 : bq21 = true
          ·
           subst c22
           rw [if_pos rfl] at H
           have H' := am H
           clear H
           have p289 : 0 ≤ (x18_1 : Int) := of_decide_eq_true za
           have q289 : x18_1 < (t286.length : Int) := of_decide_eq_true za
           obtain ⟨ad289, e289, hx289_0⟩ := Kd.at_int (Kd.R_reads' HO_16.out).2.2 x18_1 p289 q289
           cases e289
           replace p289 := eq_true p289
           replace q289 := eq_true q289
           have hcz23_0 : wr.cell? ⟨gb284, 0, none⟩ = some (.slice A0_0 l0_0.length c0_0) := (blk_cell BK284.out 0).trans rfl
           have hfz23_0 := blk_frozen BK284.out 0
           have p290 : 0 ≤ ((rd t286 x18_1) : Int) := of_decide_eq_true za
           have q290 : (rd t286 x18_1) < (l0_0.length : Int) := of_decide_eq_true za
           obtain ⟨ad290, e290, hx290_0, hx290_1, hx290_2⟩ := at_T24 HR0_0.out (rd t286 x18_1) p290 q290
           (try rw [← Nbq21.out] at hx290_2)
           cases e290
           replace hx290_0 := zq HB.out hx290_0
           replace hx290_1 := zq HB.out hx290_1
           replace hx290_2 := zq HB.out hx290_2
           replace p290 := eq_true p290
           replace q290 := eq_true q290
           have p292 : 0 ≤ ((rd t286 x18_1) : Int) := of_decide_eq_true za
           have q292 : (rd t286 x18_1) < (l0_0.length : Int) := of_decide_eq_true za
           obtain ⟨ad292, e292, hx292_0, hx292_1, hx292_2⟩ := at_T24 HR0_0.out (rd t286 x18_1) p292 q292
           (try rw [← Nbq21.out] at hx292_2)
           obtain rfl : ad290 = ad292 := (by injection e292)
           replace hx292_0 := zq HB.out hx292_0
           replace hx292_1 := zq HB.out hx292_1
           replace hx292_2 := zq HB.out hx292_2
           replace p292 := eq_true p292
           replace q292 := eq_true q292
           go_wp2
           go_roundg k1
           case measure => have := HK1.out; omega
           case rel => exact ⟨(x7_1), (wrap64 (x8_1 + 1)), (wrap64 (x18_1 + 1)), zs, zs, zs, H', ⟨by have := HK1.out; omega⟩, ⟨by refine zr ?_; exact HO_16.out⟩, ⟨by refine zb ?_; exact BK284.out⟩, ⟨zl1 HB.out GE284.out⟩⟩
          ·
           replace c22 := Bool.eq_false_iff.mpr c22
           subst c22
           rw [if_neg (show ¬ (false = true) by decide)] at H
           have H' := am H
           clear H
           have p289 : 0 ≤ (x18_1 : Int) := of_decide_eq_true za
           have q289 : x18_1 < (t286.length : Int) := of_decide_eq_true za
           obtain ⟨ad289, e289, hx289_0⟩ := Kd.at_int (Kd.R_reads' HO_16.out).2.2 x18_1 p289 q289
           cases e289
           replace p289 := eq_true p289
           replace q289 := eq_true q289
           have hcz24_0 : wr.cell? ⟨gb284, 0, none⟩ = some (.slice A0_0 l0_0.length c0_0) := (blk_cell BK284.out 0).trans rfl
           have hfz24_0 := blk_frozen BK284.out 0
           have p290 : 0 ≤ ((rd t286 x18_1) : Int) := of_decide_eq_true za
           have q290 : (rd t286 x18_1) < (l0_0.length : Int) := of_decide_eq_true za
           obtain ⟨ad290, e290, hx290_0, hx290_1, hx290_2⟩ := at_T24 HR0_0.out (rd t286 x18_1) p290 q290
           (try rw [← Nbq21.out] at hx290_2)
           cases e290
           replace hx290_0 := zq HB.out hx290_0
           replace hx290_1 := zq HB.out hx290_1
           replace hx290_2 := zq HB.out hx290_2
           replace p290 := eq_true p290
           replace q290 := eq_true q290
           have p292 : 0 ≤ ((rd t286 x18_1) : Int) := of_decide_eq_true za
           have q292 : (rd t286 x18_1) < (l0_0.length : Int) := of_decide_eq_true za
           obtain ⟨ad292, e292, hx292_0, hx292_1, hx292_2⟩ := at_T24 HR0_0.out (rd t286 x18_1) p292 q292
           (try rw [← Nbq21.out] at hx292_2)
           obtain rfl : ad290 = ad292 := (by injection e292)
           replace hx292_0 := zq HB.out hx292_0
           replace hx292_1 := zq HB.out hx292_1
           replace hx292_2 := zq HB.out hx292_2
           replace p292 := eq_true p292
           replace q292 := eq_true q292
           go_wp2
           go_roundg k1
           case measure => have := HK1.out; omega
           case rel => exact ⟨(x7_1), (x8_1), (wrap64 (x18_1 + 1)), zs, zs, zs, H', ⟨by have := HK1.out; omega⟩, ⟨by refine zr ?_; exact HO_16.out⟩, ⟨by refine zb ?_; exact BK284.out⟩, ⟨zl1 HB.out GE284.out⟩⟩
        ·
         rw [if_neg c15] at H
         exact absurd H (by simp)
       ·
        rw [if_neg c14] at H
        exact absurd H (by simp)
      ·
       rw [if_neg c13] at H
       exact absurd H (by simp)
     ·
      rw [if_neg c12] at H
      exact absurd H (by simp)
    ·
     rw [if_neg c11] at H
     have c11b0 := decide_eq_false c11
     clear c11
     simp only [Option.some.injEq, Prod.mk.injEq] at H
     obtain ⟨rfl, rfl, rfl⟩ := H
     go_wp2
     go_ret3
     exact ⟨ze, zl1 HB.out GE284.out⟩
 ·
  replace c4 := Bool.eq_false_iff.mpr c4
  subst c4
  rw [if_neg (show ¬ (false = true) by decide)] at H
  simp only [Option.some.injEq, Prod.mk.injEq] at H
  obtain ⟨rfl, rfl, rfl⟩ := H
  go_enter Tryz.func35, Tryz.ntmps35
  go_wp2_with (first | ((with_reducible refine gate_dst (N := 2) rfl ?_); refine box_event ?hg (N := 2) ?hd (cs := #[.slice A0_0 l0_0.length c0_0]) (t := 27) ?hr ?_; (case hd => rfl); (case hg => rfl); (case hr => exact zh); intro gb284 hg w25 hbox hb; have n0_ := am (below_step (zl HB.out) hb); have n1_ := am (hbox); have n2_ := am ((by rw [hg]; exact (below_size (zl HB.out)) : w.heap.size ≤ gb284)); have n3_ := am ((by rw [hg]; exact (below_size (zl HB.out)) : w.heap.size ≤ gb284)); clear HB; have HB := n0_; have BK284 := n1_; have GW284 := n2_; have GE284 := n3_; clear n0_ n1_ n2_ n3_; clear hb hbox hg; have hcz26_0 : w25.cell? ⟨gb284, 0, none⟩ = some (.slice A0_0 l0_0.length c0_0) := (blk_cell BK284.out 0).trans rfl; have hfz26_0 := blk_frozen BK284.out 0) | ((with_reducible refine gate_callee (f := 68) rfl ?_); refine goesL_ (some 13) rfl rfl Tryz.func68 (by kernel_rfl) rfl #[.agg #[.slice A0_0 l0_0.length c0_0], .int .i64 a1] rfl zm ?_; (with_reducible refine (types_Node.calls k _ _ l0_0 a1 false _ ?side1 ?side2 A3.out).mono ?_); (case side1 => exact zc (Kd.C_below HR0_0.out HB.out)); (case side2 => exact HC0_0.out); rintro e w27 ⟨rfl, hb⟩; refine ⟨_, rfl, ?_⟩; have n0_ := am (zbb BK284.out hb); have n1_ := am (below_step (zl1 HB.out GE284.out) hb); clear BK284 HB; have BK284 := n0_; have HB := n1_; clear n0_ n1_; (try clear hb); (try clear hb2); (try clear hk); (try clear hi)))
  go_ret3
  exact ⟨ze, zl1 HB.out GE284.out⟩
def types_Kids.f (k : Nat) (l0_0 : List (S24)) (a1 : Int) : Option (List Int × Int) := (types_Node.f k l0_0 a1).bind fun t141 => (if t141 = true then ((types_kids.f k l0_0 a1).bind fun t142 => (some (t142, 0))) else (some (([] : List Int), 500)))
theorem types_Kids.calls (k : Nat) (A0_0 : Option Addr) (c0_0 : Nat) (l0_0 : List (S24)) (a1 : Int) (r1 : List Int) (r2 : Int) (w : World) (hr0_0 : Kd.C k24 w A0_0 l0_0.length l0_0) (hc0_0 : l0_0.length ≤ c0_0) (h : types_Kids.f k l0_0 a1 = some (r1, r2)) :
  Calls Tryz.prog 96 #[.agg #[.slice A0_0 l0_0.length c0_0], .int .i64 a1] w fun e w' => ∃ v0_ : Value, e = .returned (.tuple #[v0_, .int .i64 r2]) ∧ Kd.R (Kd.int .i64) 3 w' w.heap.size (fun _ => True) v0_ r1 ∧ Below w.heap.size w w' := by
 have hu27 := Tryz.underlying27
 have HR0_0 := am hr0_0
 have HC0_0 := am hc0_0
 clear hr0_0 hc0_0
 have HB := am (Below.refl w.heap.size w)
 have H : ((types_Node.f k l0_0 a1).bind fun t141 => (if t141 = true then ((types_kids.f k l0_0 a1).bind fun t142 => (some (t142, 0))) else (some (([] : List Int), 500)))) = some (r1, r2) := h
 clear h
 replace H := zo H
 obtain ⟨t141, A30, H⟩ := H
 (try dsimp only at H)
 have A3 := am A30
 clear A30
 by_cases c4 : t141 = true
 ·
  subst c4
  rw [if_pos rfl] at H
  replace H := zo H
  obtain ⟨t142, A50, H⟩ := H
  (try dsimp only at H)
  have A5 := am A50
  clear A50
  simp only [Option.some.injEq, Prod.mk.injEq] at H
  obtain ⟨rfl, rfl⟩ := H
  go_enter Tryz.func96, Tryz.ntmps96
  go_wp2_with (first | ((with_reducible refine gate_dst (N := 2) rfl ?_); refine box_event ?hg (N := 2) ?hd (cs := #[.slice A0_0 l0_0.length c0_0]) (t := 27) ?hr ?_; (case hd => rfl); (case hg => rfl); (case hr => exact zh); intro gb140 hg w6 hbox hb; have n0_ := am (below_step (zl HB.out) hb); have n1_ := am (hbox); have n2_ := am ((by rw [hg]; exact (below_size (zl HB.out)) : w.heap.size ≤ gb140)); have n3_ := am ((by rw [hg]; exact (below_size (zl HB.out)) : w.heap.size ≤ gb140)); clear HB; have HB := n0_; have BK140 := n1_; have GW140 := n2_; have GE140 := n3_; clear n0_ n1_ n2_ n3_; clear hb hbox hg; have hcz7_0 : w6.cell? ⟨gb140, 0, none⟩ = some (.slice A0_0 l0_0.length c0_0) := (blk_cell BK140.out 0).trans rfl; have hfz7_0 := blk_frozen BK140.out 0) | ((with_reducible refine gate_callee (f := 68) rfl ?_); refine goesL_ (some 8) rfl rfl Tryz.func68 (by kernel_rfl) rfl #[.agg #[.slice A0_0 l0_0.length c0_0], .int .i64 a1] rfl zm ?_; (with_reducible refine (types_Node.calls k _ _ l0_0 a1 true _ ?side1 ?side2 A3.out).mono ?_); (case side1 => exact zc (Kd.C_below HR0_0.out HB.out)); (case side2 => exact HC0_0.out); rintro e w8 ⟨rfl, hb⟩; refine ⟨_, rfl, ?_⟩; have n0_ := am (zbb BK140.out hb); have n1_ := am (below_step (zl1 HB.out GE140.out) hb); clear BK140 HB; have BK140 := n0_; have HB := n1_; clear n0_ n1_; (try clear hb); (try clear hb2); (try clear hk); (try clear hi)) | ((with_reducible refine gate_callee (f := 126) rfl ?_); refine goesL_ (some 11) rfl rfl Tryz.func126 (by kernel_rfl) rfl #[.pointer (some ⟨gb140, 0, none⟩), .int .i64 a1] rfl zm ?_; (with_reducible refine (types_kids.calls k gb140 A0_0 c0_0 l0_0 a1 t142 _ ?side1 ?side2 ?side3 A5.out).mono ?_); (case side1 => exact zc (Kd.C_below HR0_0.out HB.out)); (case side2 => exact HC0_0.out); (case side3 => refine zb ?_; exact BK140.out); rintro e w9 ⟨v143, rfl, ho0, hb⟩; refine ⟨_, rfl, ?_⟩; have n0_ := am (Kd.R_lower ho0 (below_size (zl1 HB.out GE140.out))); have n1_ := am (zbb BK140.out hb); have n2_ := am (below_step (zl1 HB.out GE140.out) hb); clear BK140 HB; have HO144 := n0_; have BK140 := n1_; have HB := n2_; clear n0_ n1_ n2_; (try clear hb); (try clear hb2); (try clear hk); (try clear hi); (try clear ho0)))
  go_ret2
  exact ⟨_, ze, by refine zr ?_; exact HO144.out, zl1 HB.out GE140.out⟩
 ·
  replace c4 := Bool.eq_false_iff.mpr c4
  subst c4
  rw [if_neg (show ¬ (false = true) by decide)] at H
  simp only [Option.some.injEq, Prod.mk.injEq] at H
  obtain ⟨rfl, rfl⟩ := H
  go_enter Tryz.func96, Tryz.ntmps96
  go_wp2_with (first | ((with_reducible refine gate_dst (N := 2) rfl ?_); refine box_event ?hg (N := 2) ?hd (cs := #[.slice A0_0 l0_0.length c0_0]) (t := 27) ?hr ?_; (case hd => rfl); (case hg => rfl); (case hr => exact zh); intro gb140 hg w10 hbox hb; have n0_ := am (below_step (zl HB.out) hb); have n1_ := am (hbox); have n2_ := am ((by rw [hg]; exact (below_size (zl HB.out)) : w.heap.size ≤ gb140)); have n3_ := am ((by rw [hg]; exact (below_size (zl HB.out)) : w.heap.size ≤ gb140)); clear HB; have HB := n0_; have BK140 := n1_; have GW140 := n2_; have GE140 := n3_; clear n0_ n1_ n2_ n3_; clear hb hbox hg; have hcz11_0 : w10.cell? ⟨gb140, 0, none⟩ = some (.slice A0_0 l0_0.length c0_0) := (blk_cell BK140.out 0).trans rfl; have hfz11_0 := blk_frozen BK140.out 0) | ((with_reducible refine gate_callee (f := 68) rfl ?_); refine goesL_ (some 8) rfl rfl Tryz.func68 (by kernel_rfl) rfl #[.agg #[.slice A0_0 l0_0.length c0_0], .int .i64 a1] rfl zm ?_; (with_reducible refine (types_Node.calls k _ _ l0_0 a1 false _ ?side1 ?side2 A3.out).mono ?_); (case side1 => exact zc (Kd.C_below HR0_0.out HB.out)); (case side2 => exact HC0_0.out); rintro e w12 ⟨rfl, hb⟩; refine ⟨_, rfl, ?_⟩; have n0_ := am (zbb BK140.out hb); have n1_ := am (below_step (zl1 HB.out GE140.out) hb); clear BK140 HB; have BK140 := n0_; have HB := n1_; clear n0_ n1_; (try clear hb); (try clear hb2); (try clear hk); (try clear hi)))
  go_ret2
  exact ⟨_, ze, by first | exact Kd.R_nil _ _ _ _ _ | exact Kd.N_nil _ _ _ _ _ | exact Kd.V_nil _ _ _ _ _ | exact Kd.Q_nil _ _ _ _ _ | exact Kd.S_nil _ _ _ _ _, zl1 HB.out GE140.out⟩
end Go.Proofs.YtkcmkedboflklaaGreatDoor.Q
namespace Go.Proofs.YtkcmkedboflklaaGreatDoor.Q
open Go.RowKit Go.Proofs.YtkcmkedboflklaaGreatDoorW.PrintWords Go.Proofs.YtkcmkedboflklaaGreatDoorW.PrintLast Go.Proofs.YtkcmkedboflklaaGreatDoorW.PrintMore
def UpAt (t : List S24) (i : Int) : Prop := (i = 0 → (rd_T24 t i).f1 = -1) ∧ (0 < i → 0 ≤ (rd_T24 t i).f1 ∧ (rd_T24 t i).f1 < i)
theorem stands_some (t : List S24) (i : Int) (h0 : 0 ≤ i) (h1 : i < (t.length : Int)) : ∃ b, types_stands.f t i = some b ∧ (b = true → UpAt t i) := by
  unfold types_stands.f
  rw [if_pos h0, if_pos h1]
  by_cases e : i = 0
  · rw [if_pos e]
    exact ⟨_, rfl, fun h => ⟨fun _ => by simpa using h, fun h' => absurd e (by omega)⟩⟩
  · rw [if_neg e]
    by_cases a : (rd_T24 t i).f1 ≥ 0
    · rw [if_pos a]
      by_cases b : (rd_T24 t i).f1 < i
      · rw [if_pos b, if_pos (by omega), if_pos (by omega)]
        refine ⟨decide ((rd_T24 t (rd_T24 t i).f1).f0 = 3) || ((rd_T24 t (rd_T24 t i).f1).f0 == 4), ?_, fun _ => ⟨fun h => absurd h e, fun _ => ⟨a, b⟩⟩⟩
        unfold types_Inner.f
        by_cases c : (rd_T24 t (rd_T24 t i).f1).f0 = 3 <;> simp [c]
      · rw [if_neg b]; exact ⟨false, rfl, fun h => by cases h⟩
    · rw [if_neg a]; exact ⟨false, rfl, fun h => by cases h⟩
theorem kids_T (t : List S24) (hn : t.length ≤ 8) (a : Int) : ∃ ks, T (fun k => types_kids.f k t a) ks ∧ ∀ x ∈ ks, 0 < x ∧ x < (t.length : Int) ∧ (rd_T24 t x).f1 = a := by
  have main : ∀ n i (acc : List Int), i + n = t.length → acc.length ≤ i → (∀ x ∈ acc, 0 < x ∧ x < (t.length : Int) ∧ (rd_T24 t x).f1 = a) → ∃ ks, T (fun k => types_kids.l0 k a acc t (t.length : Int) (i : Int)) ks ∧ ∀ x ∈ ks, 0 < x ∧ x < (t.length : Int) ∧ (rd_T24 t x).f1 = a := by
    intro n
    induction n with
    | zero =>
      intro i acc hi ha h
      refine ⟨acc, T.succ ?_, h⟩
      simp only [types_kids.l0]
      exact T.ite' (by omega) (T.pure _)
    | succ n ih =>
      intro i acc hi ha h
      have hw : wrap64 ((i : Int) + 1) = ((i + 1 : Nat) : Int) := by rw [wrap64_id (by omega) (by omega)]; omega
      by_cases c : (i : Int) > 0
      · by_cases d : (rd_T24 t (i : Int)).f1 = a
        · obtain ⟨ks, h1, h2⟩ := ih (i + 1) (acc ++ [(i : Int)]) (by omega) (by simp; omega) (by
            intro x hx
            rcases List.mem_append.1 hx with hx | hx
            · exact h x hx
            · obtain rfl : x = (i : Int) := by simpa using hx
              exact ⟨c, by omega, d⟩)
          refine ⟨ks, T.succ ?_, h2⟩
          simp only [types_kids.l0]
          rw [hw]
          exact T.ite (by omega) (T.ite (by omega) (T.ite (by omega) (T.ite c (T.ite d (T.ite (by omega) h1)))))
        · obtain ⟨ks, h1, h2⟩ := ih (i + 1) acc (by omega) (by omega) h
          refine ⟨ks, T.succ ?_, h2⟩
          simp only [types_kids.l0]
          rw [hw]
          exact T.ite (by omega) (T.ite (by omega) (T.ite (by omega) (T.ite c (T.ite' d h1))))
      · obtain ⟨ks, h1, h2⟩ := ih (i + 1) acc (by omega) (by omega) h
        refine ⟨ks, T.succ ?_, h2⟩
        simp only [types_kids.l0]
        rw [hw]
        exact T.ite (by omega) (T.ite (by omega) (T.ite (by omega) (T.ite' c h1)))
  exact main t.length 0 [] (by omega) (by simp) (by simp)
theorem way_T (t : List S24) (hn : t.length ≤ 8) (hu : ∀ i : Int, 0 ≤ i → i < (t.length : Int) → UpAt t i) (a : Int) (h0 : 0 ≤ a) (h1 : a < (t.length : Int)) :
    ∃ l, T (fun k => types_way.f k t a) l ∧ ∀ x ∈ l, 0 ≤ x ∧ x < (t.length : Int) := by
  have main : ∀ n : Nat, ∀ i : Int, i < n → i < (t.length : Int) → ∀ acc : List Int, acc.length + n ≤ 100 → (∀ x ∈ acc, 0 ≤ x ∧ x < (t.length : Int)) → ∃ l, T (fun k => types_way.l0 k i acc t) l ∧ ∀ x ∈ l, 0 ≤ x ∧ x < (t.length : Int) := by
    intro n
    induction n with
    | zero =>
      intro i hi hl acc ha h
      refine ⟨acc, T.succ ?_, h⟩
      simp only [types_way.l0]
      exact T.ite' (by omega) (T.pure _)
    | succ n ih =>
      intro i hi hl acc ha h
      by_cases c : i ≥ 0
      · have hup := hu i c hl
        have hup2 : (rd_T24 t i).f1 < n ∧ (rd_T24 t i).f1 < (t.length : Int) := by
          by_cases e : i = 0
          · have := hup.1 e; omega
          · have := hup.2 (by omega); omega
        obtain ⟨l, g1, g2⟩ := ih (rd_T24 t i).f1 hup2.1 hup2.2 (acc ++ [i]) (by simp; omega) (by
          intro x hx
          rcases List.mem_append.1 hx with hx | hx
          · exact h x hx
          · obtain rfl : x = i := by simpa using hx
            exact ⟨c, hl⟩)
        refine ⟨l, T.succ ?_, g2⟩
        simp only [types_way.l0]
        exact T.ite c (T.ite (by omega) (T.ite c (T.ite hl g1)))
      · refine ⟨acc, T.succ ?_, h⟩
        simp only [types_way.l0]
        exact T.ite' c (T.pure _)
  exact main 8 a (by omega) h1 [] (by simp) (by simp)
/-- What a type that may be is known to be. -/
structure TOK (t : List S24) : Prop where
  len : 0 < t.length ∧ t.length ≤ 8
  up : ∀ i : Int, 0 ≤ i → i < (t.length : Int) → UpAt t i
  kind : ∀ i : Int, 0 ≤ i → i < (t.length : Int) → 0 ≤ (rd_T24 t i).f0 ∧ (rd_T24 t i).f0 ≤ 4
  one : ∀ i : Int, 0 ≤ i → i < (t.length : Int) → (rd_T24 t i).f0 = 3 → ∀ ks, T (fun k => types_kids.f k t i) ks → ks.length = 1
  deep : ∀ i : Int, 0 ≤ i → i < (t.length : Int) → ∀ l, T (fun k => types_way.f k t i) l → l.length ≤ 5
theorem May_l1 (t : List S24) (hn : t.length ≤ 8) (hu : ∀ i : Int, 0 ≤ i → i < (t.length : Int) → UpAt t i) : ∀ n i : Nat, i + n = t.length →
    ∃ b, T (fun k => types_May.l1 k t (t.length : Int) (i : Int) t) b ∧ (b = true → ∀ j : Int, (i : Int) ≤ j → j < (t.length : Int) →
      ((rd_T24 t j).f0 = 3 → ∀ ks, T (fun k => types_kids.f k t j) ks → ks.length = 1) ∧ ∀ l, T (fun k => types_way.f k t j) l → l.length ≤ 5) := by
  intro n
  induction n with
  | zero =>
    intro i hi
    refine ⟨true, T.succ ?_, fun _ j h1 h2 => by omega⟩
    simp only [types_May.l1]
    exact T.ite' (by omega) (T.pure _)
  | succ n ih =>
    intro i hi
    obtain ⟨ks, k1, _⟩ := kids_T t hn (i : Int)
    obtain ⟨l, l1, _⟩ := way_T t hn hu (i : Int) (by omega) (by omega)
    obtain ⟨b, b1, b2⟩ := ih (i + 1) (by omega)
    have hw : wrap64 ((i : Int) + 1) = ((i + 1 : Nat) : Int) := by rw [wrap64_id (by omega) (by omega)]; omega
    have W : ∃ b, T (fun k => (types_way.f k t (i : Int)).bind fun t122 => (if (t122.length : Int) > 5 then (some false) else (types_May.l1 k t (t.length : Int) ((i + 1 : Nat) : Int) t))) b ∧
        (b = true → l.length ≤ 5 ∧ ∀ j : Int, ((i + 1 : Nat) : Int) ≤ j → j < (t.length : Int) → ((rd_T24 t j).f0 = 3 → ∀ ks, T (fun k => types_kids.f k t j) ks → ks.length = 1) ∧ ∀ l, T (fun k => types_way.f k t j) l → l.length ≤ 5) := by
      by_cases c : (l.length : Int) > 5
      · exact ⟨false, T.bind l1 (T.ite c (T.pure _)), fun h => by cases h⟩
      · exact ⟨b, T.bind l1 (T.ite' c b1), fun h => ⟨by omega, b2 h⟩⟩
    obtain ⟨w, w1, w2⟩ := W
    have fin : ∀ hk : (rd_T24 t (i : Int)).f0 = 3 → ks.length = 1, w = true → ∀ j : Int, (i : Int) ≤ j → j < (t.length : Int) →
      ((rd_T24 t j).f0 = 3 → ∀ ks, T (fun k => types_kids.f k t j) ks → ks.length = 1) ∧ ∀ l, T (fun k => types_way.f k t j) l → l.length ≤ 5 := by
      intro hk hw j hj1 hj2
      by_cases e : j = i
      · subst e
        exact ⟨fun h3 ks' hks' => by rw [T.uniq hks' k1]; exact hk h3, fun l' hl' => by rw [T.uniq hl' l1]; exact (w2 hw).1⟩
      · exact (w2 hw).2 j (by omega) hj2
    by_cases e3 : (rd_T24 t (i : Int)).f0 = 3
    · by_cases e1 : (ks.length : Int) = 1
      · refine ⟨w, T.succ ?_, fin fun _ => by omega⟩
        simp only [types_May.l1]
        rw [hw]
        exact T.ite (by omega) (T.ite (by omega) (T.ite (by omega) (T.bind k1 (T.ite e3 (T.ite e1 (T.ite' (by omega) w1))))))
      · refine ⟨false, T.succ ?_, fun h => by cases h⟩
        simp only [types_May.l1]
        rw [hw]
        exact T.ite (by omega) (T.ite (by omega) (T.ite (by omega) (T.bind k1 (T.ite e3 (T.ite' e1 (T.pure _))))))
    · by_cases e4 : (rd_T24 t (i : Int)).f0 = 4
      · by_cases e0 : (ks.length : Int) = 0
        · refine ⟨false, T.succ ?_, fun h => by cases h⟩
          simp only [types_May.l1]
          rw [hw]
          exact T.ite (by omega) (T.ite (by omega) (T.ite (by omega) (T.bind k1 (T.ite' e3 (T.ite e4 (T.ite e0 (T.pure _)))))))
        · refine ⟨w, T.succ ?_, fin fun h => absurd h e3⟩
          simp only [types_May.l1]
          rw [hw]
          exact T.ite (by omega) (T.ite (by omega) (T.ite (by omega) (T.bind k1 (T.ite' e3 (T.ite e4 (T.ite' e0 w1))))))
      · refine ⟨w, T.succ ?_, fin fun h => absurd h e3⟩
        simp only [types_May.l1]
        rw [hw]
        exact T.ite (by omega) (T.ite (by omega) (T.ite (by omega) (T.bind k1 (T.ite' e3 (T.ite' e4 w1)))))
theorem May_l0 (t : List S24) (hn : t.length ≤ 8) (hp : 0 < t.length) : ∀ n i : Nat, i + n = t.length →
    (∀ j : Int, 0 ≤ j → j < (i : Int) → UpAt t j ∧ 0 ≤ (rd_T24 t j).f0 ∧ (rd_T24 t j).f0 ≤ 4) →
    ∃ b, T (fun k => types_May.l0 k t (t.length : Int) (i : Int) t) b ∧ (b = true → TOK t) := by
  intro n
  induction n with
  | zero =>
    intro i hi h
    have hu : ∀ j : Int, 0 ≤ j → j < (t.length : Int) → UpAt t j := fun j h1 h2 => (h j h1 (by omega)).1
    obtain ⟨b, b1, b2⟩ := May_l1 t hn hu t.length 0 (by omega)
    refine ⟨b, T.succ ?_, fun hb => ⟨⟨hp, hn⟩, hu, fun j h1 h2 => (h j h1 (by omega)).2, fun j h1 h2 => (b2 hb j (by omega) h2).1, fun j h1 h2 => (b2 hb j (by omega) h2).2⟩⟩
    simp only [types_May.l0]
    exact T.ite' (by omega) b1
  | succ n ih =>
    intro i hi h
    have hw : wrap64 ((i : Int) + 1) = ((i + 1 : Nat) : Int) := by rw [wrap64_id (by omega) (by omega)]; omega
    by_cases c1 : (rd_T24 t (i : Int)).f0 < 0
    · refine ⟨false, T.succ ?_, fun h => by cases h⟩
      simp only [types_May.l0]
      exact T.ite (by omega) (T.ite (by omega) (T.ite (by omega) (T.ite c1 (T.pure _))))
    by_cases c2 : (rd_T24 t (i : Int)).f0 > 4
    · refine ⟨false, T.succ ?_, fun h => by cases h⟩
      simp only [types_May.l0]
      exact T.ite (by omega) (T.ite (by omega) (T.ite (by omega) (T.ite' c1 (T.ite c2 (T.pure _)))))
    obtain ⟨s, s1, s2⟩ := stands_some t (i : Int) (by omega) (by omega)
    cases s with
    | false =>
      refine ⟨false, T.succ ?_, fun h => by cases h⟩
      simp only [types_May.l0]
      exact T.ite (by omega) (T.ite (by omega) (T.ite (by omega) (T.ite' c1 (T.ite' c2 (T.cbind s1 (T.ite' (by simp) (T.pure _)))))))
    | true =>
      obtain ⟨b, b1, b2⟩ := ih (i + 1) (by omega) (by
        intro j h1 h2
        by_cases e : j = i
        · subst e; exact ⟨s2 rfl, by omega, by omega⟩
        · exact h j h1 (by omega))
      refine ⟨b, T.succ ?_, b2⟩
      simp only [types_May.l0]
      rw [hw]
      exact T.ite (by omega) (T.ite (by omega) (T.ite (by omega) (T.ite' c1 (T.ite' c2 (T.cbind s1 (T.ite rfl b1))))))
theorem TMay_T (t : List S24) : ∃ b, T (fun k => types_May.f k t) b ∧ (b = true → TOK t) := by
  unfold types_May.f
  by_cases c : (t.length : Int) = 0
  · exact ⟨false, T.ite c (T.succ (by simp only [types_May.j0]; exact T.ite trivial (T.pure _))), fun h => by cases h⟩
  · by_cases d : (t.length : Int) > 8
    · exact ⟨false, T.ite' c (T.succ (by simp only [types_May.j0]; exact T.ite (by simpa using d) (T.pure _))), fun h => by cases h⟩
    · obtain ⟨b, b1, b2⟩ := May_l0 t (by omega) (by omega) t.length 0 (by omega) (fun j h1 h2 => by omega)
      exact ⟨b, T.ite' c (T.succ (by simp only [types_May.j0]; exact T.ite' (by simpa using d) b1)), b2⟩
theorem Node_T (t : List S24) (a : Int) : ∃ b, T (fun k => types_Node.f k t a) b ∧ (b = true → TOK t ∧ 0 ≤ a ∧ a < (t.length : Int)) := by
  obtain ⟨b, b1, b2⟩ := TMay_T t
  unfold types_Node.f
  cases b with
  | false => exact ⟨false, T.bind b1 (T.ite' (by simp) (T.pure _)), fun h => by cases h⟩
  | true =>
    by_cases c : a ≥ 0
    · exact ⟨_, T.bind b1 (T.ite rfl (T.ite c (T.pure _))), fun h => ⟨b2 rfl, c, by simpa using h⟩⟩
    · exact ⟨false, T.bind b1 (T.ite rfl (T.ite' c (T.pure _))), fun h => by cases h⟩
theorem Leaf_T (t : List S24) (a : Int) : ∃ b, T (fun k => types_Leaf.f k t a) b ∧ (b = true → TOK t ∧ 0 ≤ a ∧ a < (t.length : Int) ∧ 0 ≤ (rd_T24 t a).f0 ∧ (rd_T24 t a).f0 ≤ 2) := by
  obtain ⟨b, b1, b2⟩ := Node_T t a
  unfold types_Leaf.f
  cases b with
  | false => exact ⟨false, T.bind b1 (T.ite' (by simp) (T.pure _)), fun h => by cases h⟩
  | true =>
    obtain ⟨h1, h2, h3⟩ := b2 rfl
    have h4 := h1.kind a h2 h3
    refine ⟨!(decide ((rd_T24 t a).f0 = 3) || ((rd_T24 t a).f0 == 4)), T.bind b1 (T.ite rfl (T.ite h2 (T.ite h3 (T.cbind (a := (decide ((rd_T24 t a).f0 = 3) || ((rd_T24 t a).f0 == 4))) ?_ (T.pure _))))), fun h => ⟨h1, h2, h3, ?_⟩⟩
    · unfold types_Inner.f
      by_cases c : (rd_T24 t a).f0 = 3 <;> simp [c]
    · have h5 : ¬ (rd_T24 t a).f0 = 3 ∧ ¬ (rd_T24 t a).f0 = 4 := by simpa using h
      omega
theorem Kids_T (t : List S24) (a : Int) (ht : TOK t) (h0 : 0 ≤ a) (h1 : a < (t.length : Int)) (hnode : T (fun k => types_Node.f k t a) true) :
    ∃ ks, T (fun k => types_Kids.f k t a) (ks, 0) ∧ (∀ x ∈ ks, a < x ∧ x < (t.length : Int)) ∧ ((rd_T24 t a).f0 = 3 → ks.length = 1) := by
  obtain ⟨ks, k1, k2⟩ := kids_T t ht.len.2 a
  refine ⟨ks, ?_, fun x hx => ?_, fun h3 => ht.one a h0 h1 h3 ks k1⟩
  · unfold types_Kids.f
    exact T.bind hnode (T.ite rfl (T.bind k1 (T.pure _)))
  · obtain ⟨x1, x2, x3⟩ := k2 x hx
    have := (ht.up x (by omega) x2).2 x1
    omega
theorem Levels_T (t : List S24) (a : Int) : ∃ rep de e, T (fun k => types_Levels.f k t a) (rep, de, e) ∧ 0 ≤ rep ∧ rep ≤ 5 ∧ 0 ≤ de ∧ de ≤ 10 := by
  obtain ⟨b, b1, b2⟩ := Node_T t a
  unfold types_Levels.f
  cases b with
  | false => exact ⟨0, 0, 500, T.bind b1 (T.ite' (by simp) (T.pure _)), by omega, by omega, by omega, by omega⟩
  | true =>
    obtain ⟨ht, h2, h3⟩ := b2 rfl
    obtain ⟨l, l1, l2⟩ := way_T t ht.len.2 ht.up a h2 h3
    have hl := ht.deep a h2 h3 l l1
    have main : ∀ n i : Nat, i + n = l.length → ∀ rep de : Int, 0 ≤ rep → rep ≤ i → 0 ≤ de → de ≤ 2 * i → ∃ rep' de', T (fun k => types_Levels.l0 k rep de l (l.length : Int) (i : Int) t) (rep', de', 0) ∧ 0 ≤ rep' ∧ rep' ≤ 5 ∧ 0 ≤ de' ∧ de' ≤ 10 := by
      intro n
      induction n with
      | zero =>
        intro i hi rep de r1 r2 r3 r4
        refine ⟨rep, de, T.succ ?_, by omega, by omega, by omega, by omega⟩
        simp only [types_Levels.l0]
        exact T.ite' (by omega) (T.pure _)
      | succ n ih =>
        intro i hi rep de r1 r2 r3 r4
        have hi' : i < l.length := by omega
        have hm := l2 _ (List.getElem_mem hi')
        have hw : wrap64 ((i : Int) + 1) = ((i + 1 : Nat) : Int) := by rw [wrap64_id (by omega) (by omega)]; omega
        have go : ∀ rep2 de2 : Int, 0 ≤ rep2 → rep2 ≤ rep + 1 → 0 ≤ de2 → de2 ≤ de + 2 → ∃ rep' de', T (fun k => types_Levels.l0 k rep2 de2 l (l.length : Int) ((i + 1 : Nat) : Int) t) (rep', de', 0) ∧ 0 ≤ rep' ∧ rep' ≤ 5 ∧ 0 ≤ de' ∧ de' ≤ 10 :=
          fun rep2 de2 a1 a2 a3 a4 => ih (i + 1) (by omega) rep2 de2 a1 (by omega) a3 (by omega)
        by_cases c : (rd_T24 t l[i]).f0 = 3 <;> by_cases d : (rd_T24 t l[i]).f2 = true
        · obtain ⟨x, y, h4, h5⟩ := go (rep + 1) (de + 1 + 1) (by omega) (by omega) (by omega) (by omega)
          refine ⟨x, y, T.succ ?_, h5⟩
          simp only [types_Levels.l0]
          rw [hw, rd_get l i hi', wrap64_id (x := rep + 1) (by omega) (by omega), wrap64_id (x := de + 1) (by omega) (by omega), wrap64_id (x := de + 1 + 1) (by omega) (by omega)]
          exact T.ite (by omega) (T.ite (by omega) (T.ite (by omega) (T.ite hm.1 (T.ite hm.2 (T.ite c (T.ite d h4))))))
        · obtain ⟨x, y, h4, h5⟩ := go (rep + 1) (de + 1) (by omega) (by omega) (by omega) (by omega)
          refine ⟨x, y, T.succ ?_, h5⟩
          simp only [types_Levels.l0]
          rw [hw, rd_get l i hi', wrap64_id (x := rep + 1) (by omega) (by omega), wrap64_id (x := de + 1) (by omega) (by omega)]
          exact T.ite (by omega) (T.ite (by omega) (T.ite (by omega) (T.ite hm.1 (T.ite hm.2 (T.ite c (T.ite' d h4))))))
        · obtain ⟨x, y, h4, h5⟩ := go rep (de + 1) (by omega) (by omega) (by omega) (by omega)
          refine ⟨x, y, T.succ ?_, h5⟩
          simp only [types_Levels.l0]
          rw [hw, rd_get l i hi', wrap64_id (x := de + 1) (by omega) (by omega)]
          exact T.ite (by omega) (T.ite (by omega) (T.ite (by omega) (T.ite hm.1 (T.ite hm.2 (T.ite' c (T.ite d h4))))))
        · obtain ⟨x, y, h4, h5⟩ := go rep de (by omega) (by omega) (by omega) (by omega)
          refine ⟨x, y, T.succ ?_, h5⟩
          simp only [types_Levels.l0]
          rw [hw, rd_get l i hi']
          exact T.ite (by omega) (T.ite (by omega) (T.ite (by omega) (T.ite hm.1 (T.ite hm.2 (T.ite' c (T.ite' d h4))))))
    obtain ⟨x, y, h4, h5⟩ := main l.length 0 (by omega) 0 0 (by omega) (by omega) (by omega) (by omega)
    exact ⟨x, y, 0, T.bind b1 (T.ite rfl (T.bind l1 h4)), h5⟩
end Go.Proofs.YtkcmkedboflklaaGreatDoor.Q
namespace Go.Proofs.YtkcmkedboflklaaGreatDoor.Q
open Go.RowKit Go.Proofs.YtkcmkedboflklaaGreatDoorW.PrintWords Go.Proofs.YtkcmkedboflklaaGreatDoorW.PrintLast Go.Proofs.YtkcmkedboflklaaGreatDoorW.PrintMore
attribute [local go_sem] max2_int min2_int max_two min_two max_three min_three max_four min_four
set_option linter.unusedVariables false
set_option linter.unusedSimpArgs false
set_option maxHeartbeats 8000000
set_option maxRecDepth 100000

-- GIVEN strconv.Itoa name=strconv_Itoa rounds=0 g=1
-- GIVEN strings.Cut name=strings_Cut rounds=0 g=1
-- IMPORT Derived.Test.YtkcmkedboflklaaGreatDoorShelf
-- IMPORT Derived.Lib.AppendIntMem
/-! strconv.Itoa, strings.Cut by the shelf's contracts. -/
def strconv_Itoa.f (a0 : Int) : Option ByteArray := if -9223372036854775808 ≤ a0 ∧ a0 ≤ 9223372036854775807 then some ⟨(Lib.itoa a0).toArray⟩ else none
theorem strconv_Itoa.calls (a0 : Int) (r : ByteArray) (w : World) (hG : GL w) (h : strconv_Itoa.f a0 = some r) :
    Calls Tryz.prog 114 #[.int .i64 a0] w fun e w' => e = .returned (.string r) ∧ Below w.heap.size w w' := by
  unfold strconv_Itoa.f at h
  split at h
  · rename_i hb
    obtain rfl := Option.some.inj h
    refine (Go.Proofs.Tryz.strconv_Itoa a0 hb.1 hb.2 w hG.2.1).mono ?_
    rintro e w' ⟨rfl, k, os, rfl⟩
    exact ⟨rfl, Lib.below_grow _ w (Nat.le_refl _) k os⟩
  · cases h
def strings_Cut.f (a0 a1 : ByteArray) : Option (ByteArray × ByteArray × Bool) := if a0.size < 4294967281 then some (⟨(Lib.cut a0.data.toList a1.data.toList).1.toArray⟩, ⟨(Lib.cut a0.data.toList a1.data.toList).2.1.toArray⟩, (Lib.cut a0.data.toList a1.data.toList).2.2) else none
theorem strings_Cut.calls (a0 a1 : ByteArray) (r1 r2 : ByteArray) (r3 : Bool) (w : World) (hG : GL w) (h : strings_Cut.f a0 a1 = some (r1, r2, r3)) :
    Calls Tryz.prog 148 #[.string a0, .string a1] w fun e w' => e = .returned (.tuple #[.string r1, .string r2, .bool r3]) ∧ Below w.heap.size w w' := by
  unfold strings_Cut.f at h
  split at h
  · rename_i hb
    obtain ⟨m, hm⟩ := hG.1
    simp only [Option.some.injEq, Prod.mk.injEq] at h
    obtain ⟨rfl, rfl, rfl⟩ := h
    refine (Go.Proofs.Tryz.strings_Cut a0 a1 m w hb (by have h0 := World.var?_cell (g := 3) (by kernel_rfl) hm 0; simpa using h0)).mono ?_
    rintro e w' ⟨rfl, n, rfl⟩
    exact ⟨rfl, pw_below_drewN (Below.refl _ _) _⟩
  · cases h

/-- A state of type 140 at block g of W; what its slices lead to came in by w0. -/
def IsS140 (w0 W : World) (g : Nat) (f0 : ByteArray) (f1 : Bool) : Prop := W.heap[g]? = some (.cells #[.string f0, .bool f1] 140 (0, 0)) ∧ w0.heap.size ≤ g
theorem IsS140.grown {w0 W : World} {g : Nat} {f0 : ByteArray} {f1 : Bool} {W1 : World} {row : Option Nat} (h : IsS140 w0 W g f0 f1) (hw : W.grownBy W1 row) (hne : some g ≠ row) : IsS140 w0 W1 g f0 f1 := by
 obtain ⟨hb, hg⟩ := h
 exact ⟨blk_grown hb hw hne, hg⟩
theorem IsS140.own_neN {w0 W : World} {g : Nat} {f0 : ByteArray} {f1 : Bool} {α : Type} {d : Kd α} {e : Nat} {base : Nat} {ok : Nat → Prop} {v : Value} {xs : List α} (h : IsS140 w0 W g f0 f1) (ho : Kd.N d e W base ok v xs) (ht : e ≠ 140) : some g ≠ v.ownBlock := by
 obtain ⟨hb, hg⟩ := h
 exact Kd.N_ne ho hb ht
theorem IsS140.fresh {w0 W : World} {g : Nat} {f0 : ByteArray} {f1 : Bool} (h : IsS140 w0 W g f0 f1) : ∀ k, W.heap.size ≤ k → k ≠ g := by
 obtain ⟨hb, hg⟩ := h
 exact Kd.freshB hb
theorem IsS140.kept {w0 W : World} {g : Nat} {f0 : ByteArray} {f1 : Bool} {W1 : World} {S : Nat → Prop} (h : IsS140 w0 W g f0 f1) (hk : Kept W W1 S) (hne : ¬ S g) : IsS140 w0 W1 g f0 f1 := by
 obtain ⟨hb, hg⟩ := h
 exact ⟨blk_kept hb hk hne, hg⟩
theorem IsS140.below {w0 W : World} {g : Nat} {f0 : ByteArray} {f1 : Bool} {W1 : World} (h : IsS140 w0 W g f0 f1) (hw : Below W.heap.size W W1) : IsS140 w0 W1 g f0 f1 := h.grown (grown_of_below hw none) (by simp)
theorem IsS140.alloc {w0 W : World} {g : Nat} {f0 : ByteArray} {f1 : Bool} (h : IsS140 w0 W g f0 f1) (o : Obj) : IsS140 w0 (W.alloc o) g f0 f1 := h.below (below_alloc (Below.refl _ _) o)
theorem IsS140.drewN {w0 W : World} {g : Nat} {f0 : ByteArray} {f1 : Bool} (h : IsS140 w0 W g f0 f1) (m : Nat) : IsS140 w0 (W.drewN m) g f0 f1 := h
theorem IsS140.drew {w0 W : World} {g : Nat} {f0 : ByteArray} {f1 : Bool} (h : IsS140 w0 W g f0 f1) : IsS140 w0 W.drew g f0 f1 := h
theorem IsS140.at_ {w0 W : World} {g : Nat} {f0 : ByteArray} {f1 : Bool} {w' : World} {m : Nat} (hq : W.drewN m = w') (h : IsS140 w0 W g f0 f1) : IsS140 w0 w' g f0 f1 := by subst hq; exact IsS140.drewN h m
theorem IsS140.apart {w0 W : World} {g : Nat} {f0 : ByteArray} {f1 : Bool} {α : Type} {d : Kd α} {e : Nat} {base : Nat} {ok : Nat → Prop} {v : Value} {xs : List α} (h : IsS140 w0 W g f0 f1) (ho : d.R e W base ok v xs) (ht : ∀ q, q ∈ e :: d.E → q ≠ 140) : d.R e W base (fun k => ok k ∧ k ≠ g) v xs := by
 obtain ⟨hb, hg⟩ := h
 exact Kd.R_types ho hb ht
theorem IsS140.own_ne {w0 W : World} {g : Nat} {f0 : ByteArray} {f1 : Bool} {α : Type} {d : Kd α} {e : Nat} {base : Nat} {ok : Nat → Prop} {v : Value} {xs : List α} (h : IsS140 w0 W g f0 f1) (ho : d.R e W base ok v xs) (ht : e ≠ 140) : some g ≠ v.ownBlock := by
 obtain ⟨hb, hg⟩ := h
 exact Kd.R_ne ho hb ht
theorem IsS140.apartQ {w0 W : World} {g : Nat} {f0 : ByteArray} {f1 : Bool} {α : Type} {d : Kd α} {e : Nat} {base : Nat} {ok : Nat → Prop} {v : Value} {xs : List α} (h : IsS140 w0 W g f0 f1) (ho : d.Q e W base ok v xs) (ht : ∀ q, q ∈ e :: d.E → q ≠ 140) : d.Q e W base (fun k => ok k ∧ k ≠ g) v xs := by
 obtain ⟨hb, hg⟩ := h
 exact Kd.Q_types ho hb ht
theorem IsS140.own_neQ {w0 W : World} {g : Nat} {f0 : ByteArray} {f1 : Bool} {α : Type} {d : Kd α} {e : Nat} {base : Nat} {ok : Nat → Prop} {v : Value} {xs : List α} (h : IsS140 w0 W g f0 f1) (ho : d.Q e W base ok v xs) (ht : e ≠ 140) : some g ≠ v.ownBlock := by
 obtain ⟨hb, hg⟩ := h
 exact Kd.Q_ne ho hb ht
theorem IsS140.apartS {w0 W : World} {g : Nat} {f0 : ByteArray} {f1 : Bool} {α : Type} {d : Kd α} {e : Nat} {base : Nat} {ok : Nat → Prop} {v : Value} {xs : List α} (h : IsS140 w0 W g f0 f1) (ho : d.S e W base ok v xs) (ht : ∀ q, q ∈ e :: d.E → q ≠ 140) : d.S e W base (fun k => ok k ∧ k ≠ g) v xs := by
 obtain ⟨hb, hg⟩ := h
 exact Kd.S_types ho hb ht
theorem IsS140.own_neS {w0 W : World} {g : Nat} {f0 : ByteArray} {f1 : Bool} {α : Type} {d : Kd α} {e : Nat} {base : Nat} {ok : Nat → Prop} {v : Value} {xs : List α} (h : IsS140 w0 W g f0 f1) (ho : d.S e W base ok v xs) (ht : e ≠ 140) : some g ≠ v.ownBlock := by
 obtain ⟨hb, hg⟩ := h
 exact Kd.S_ne ho hb ht
theorem IsS140.lt {w0 W : World} {g : Nat} {f0 : ByteArray} {f1 : Bool} (h : IsS140 w0 W g f0 f1) : g < W.heap.size := by
 obtain ⟨hb, hg⟩ := h
 exact blk_lt hb
theorem IsS140.ge {w0 W : World} {g : Nat} {f0 : ByteArray} {f1 : Bool} (h : IsS140 w0 W g f0 f1) : w0.heap.size ≤ g := by
 obtain ⟨hb, hg⟩ := h
 exact hg
theorem IsS140.ne_blk {w0 W : World} {g : Nat} {f0 : ByteArray} {f1 : Bool} {a : Nat} {cs : Array Value} {t : TypeId} {fr : Nat × Nat} (h : IsS140 w0 W g f0 f1) (hb2 : W.heap[a]? = some (.cells cs t fr)) (ht : t ≠ 140) : g ≠ a := by
 obtain ⟨hb, hg⟩ := h
 rintro rfl
 rw [hb] at hb2
 injection hb2 with hb2
 injection hb2 with _ ht2
 exact ht ht2.symm
theorem IsS140.far {w0 W : World} {g : Nat} {f0 : ByteArray} {f1 : Bool} {p : Addr} (h : IsS140 w0 W g f0 f1) (hne : g ≠ p.block) (u : Value) : IsS140 w0 (W.setCell p u) g f0 f1 := by
 obtain ⟨hb, hg⟩ := h
 exact ⟨blk_far hb hne u, hg⟩
theorem cellS140_0 {W : World} {g : Nat} {f0 : ByteArray} {f1 : Bool} (h : W.heap[g]? = some (.cells #[.string f0, .bool f1] 140 (0, 0))) : W.cell? ⟨g, 0, none⟩ = some (.string f0) := (blk_cell h 0).trans rfl
theorem IsS140.set_0 {w0 W : World} {g : Nat} {f0 : ByteArray} {f1 : Bool} (h : IsS140 w0 W g f0 f1) (x : ByteArray) : IsS140 w0 (W.setCell ⟨g, 0, none⟩ (.string x)) g x f1 := by
 obtain ⟨hb, hg⟩ := h
 exact ⟨by simpa using blk_set hb 0 (.string x), hg⟩
theorem cellS140_1 {W : World} {g : Nat} {f0 : ByteArray} {f1 : Bool} (h : W.heap[g]? = some (.cells #[.string f0, .bool f1] 140 (0, 0))) : W.cell? ⟨g, 1, none⟩ = some (.bool f1) := (blk_cell h 1).trans rfl
theorem IsS140.set_1 {w0 W : World} {g : Nat} {f0 : ByteArray} {f1 : Bool} (h : IsS140 w0 W g f0 f1) (x : Bool) : IsS140 w0 (W.setCell ⟨g, 1, none⟩ (.bool x)) g f0 x := by
 obtain ⟨hb, hg⟩ := h
 exact ⟨by simpa using blk_set hb 1 (.bool x), hg⟩
theorem IsS140.new (w0 W : World) (f0 : ByteArray) (f1 : Bool) (hB : Below w0.heap.size w0 W) : IsS140 w0 (W.alloc (.cells #[.string f0, .bool f1] 140)) W.heap.size f0 f1 := ⟨by simpa using heap_alloc_new W _, hB.size⟩

def value_taker_fail.f (s0_0 : ByteArray) (s0_1 : Bool) : Option (Int × List ByteArray × ByteArray × Bool) := some (0, ([] : List ByteArray), s0_0, true)
theorem value_taker_fail.calls (g : Nat) (s0_0 : ByteArray) (s0_1 : Bool) (r1 : Int) (r2 : List ByteArray) (r3 : ByteArray) (r4 : Bool) (w0 w : World) (hI : IsS140 w0 w g s0_0 s0_1) (hB : Below w0.heap.size w0 w) (h : value_taker_fail.f s0_0 s0_1 = some (r1, r2, r3, r4)) :
  Calls Tryz.prog 131 #[.pointer (some ⟨g, 0, none⟩)] w fun e w' => ∃ v1_ : Value, e = .returned (.tuple #[.int .i64 r1, v1_]) ∧ Kd.R Kd.string 9 w' w.heap.size (fun _ => True) v1_ r2 ∧ IsS140 w0 w' g r3 r4 ∧ Below w0.heap.size w0 w' ∧ KeepBut w w' g none := by
 have HI0 := am hI
 have HK := am (KeepBut.refl w g none)
 have HL := am hB.size
 clear hI
 have HW0 := am hB.size
 have HB := am hB
 clear hB
 have H : (some (0, ([] : List ByteArray), s0_0, true)) = some (r1, r2, r3, r4) := h
 clear h
 simp only [Option.some.injEq, Prod.mk.injEq] at H
 obtain ⟨rfl, rfl, rfl, rfl⟩ := H
 obtain ⟨HGz2, hgz2⟩ := HI0.out
 have hcz2_0 := cellS140_0 HGz2
 have hcz2_1 := cellS140_1 HGz2
 have hfz2_0 := blk_frozen HGz2 0
 have hfz2_1 := blk_frozen HGz2 1
 clear HGz2 hgz2
 go_enter Tryz.func131, Tryz.ntmps131
 go_wp2
 go_ret2
 exact ⟨_, ze, by first | exact Kd.R_nil _ _ _ _ _ | exact Kd.N_nil _ _ _ _ _ | exact Kd.V_nil _ _ _ _ _ | exact Kd.Q_nil _ _ _ _ _ | exact Kd.S_nil _ _ _ _ _, by repeat (first | (with_reducible first | exact HI0.out | apply IsS140.alloc | apply IsS140.drewN | apply IsS140.drew | apply IsS140.set_0 | apply IsS140.set_1) | exact HI0.out), zl1 HB.out (IsS140.ge HI0.out), zk HK.out⟩
end Go.Proofs.YtkcmkedboflklaaGreatDoor.Q
