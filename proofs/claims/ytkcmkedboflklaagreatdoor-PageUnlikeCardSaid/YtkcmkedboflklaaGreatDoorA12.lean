/- Steps towards: PageUnlike: unlike columns have unlike pages, for every type, every leaf and every two columns; no condition beside the row's own (the library's listed variables hold what the program's text lays). -/
import Derived.Test.YtkcmkedboflklaaGreatDoorA2
import Derived.Test.YtkcmkedboflklaaGreatDoorA7
import Derived.Test.YtkcmkedboflklaaGreatDoorA10
import Derived.Test.YtkcmkedboflklaaGreatDoorA11
import Derived.Test.YtkcmkedboflklaaGreatDoorA4
import Derived.Test.YtkcmkedboflklaaGreatDoorA1
namespace Go.Proofs.YtkcmkedboflklaaGreatDoor.Q
open Go.RowKit Go.Proofs.YtkcmkedboflklaaGreatDoorW.PrintWords Go.Proofs.YtkcmkedboflklaaGreatDoorW.PrintLast Go.Proofs.YtkcmkedboflklaaGreatDoorW.PrintMore
attribute [local go_sem] max2_int min2_int max_two min_two max_three min_three max_four min_four
set_option linter.unusedVariables false
set_option linter.unusedSimpArgs false
set_option maxHeartbeats 8000000
set_option maxRecDepth 100000

mutual
def page_May.j0 : Nat → Int → Int → Bool → List (S24) → List Int → List Int → List ByteArray → Option (Bool)
 | 0, _, _, _, _, _, _, _ => none
 | k + 1, x1, x8, x51, x340000, x341000, x341001, x341002 => if x51 = true then (some false) else (page_May.l0 k x1 x8 x341002 (x341002.length : Int) 0 x340000 x341000 x341001 x341002)
def page_May.l0 : Nat → Int → Int → List ByteArray → Int → Int → List (S24) → List Int → List Int → List ByteArray → Option (Bool)
 | 0, _, _, _, _, _, _, _, _, _ => none
 | k + 1, x1, x8, x53, x54, x55, x340000, x341000, x341001, x341002 => if x55 < x54 then (if 0 ≤ x55 then (if x55 < (x53.length : Int) then ((value_Null.f).bind fun t349 => (if (rdOf ByteArray.empty x53 x55).toList = t349.toList then (some false) else ((value_Fits.f k x340000 x1 (rdOf ByteArray.empty x53 x55)).bind fun t350 => (if t350 = true then (page_May.l0 k x1 x8 x53 x54 (wrap64 (x55 + 1)) x340000 x341000 x341001 x341002) else (some false))))) else (none)) else (none)) else ((page_there.f k x341001 x8).bind fun t347 => (some ((x341002.length : Int) == t347)))
end
def page_May.f (k : Nat) (l0_0 : List (S24)) (a1 : Int) (l2_0 : List Int) (l2_1 : List Int) (l2_2 : List ByteArray) : Option (Bool) := (types_Levels.f k l0_0 a1).bind fun bt341 => ((types_Leaf.f k l0_0 a1).bind fun t344 => (if t344 = true then (if (l2_0.length : Int) = (l2_1.length : Int) then (if (l2_0.length : Int) > 4096 then (page_May.j0 k a1 bt341.2.1 true l0_0 l2_0 l2_1 l2_2) else ((page_within.f k l2_0 bt341.1).bind fun t345 => (if t345 = true then ((page_within.f k l2_1 bt341.2.1).bind fun t346 => (page_May.j0 k a1 bt341.2.1 (!t346) l0_0 l2_0 l2_1 l2_2)) else (page_May.j0 k a1 bt341.2.1 true l0_0 l2_0 l2_1 l2_2)))) else (page_May.j0 k a1 bt341.2.1 true l0_0 l2_0 l2_1 l2_2)) else (page_May.j0 k a1 bt341.2.1 true l0_0 l2_0 l2_1 l2_2)))
theorem page_May.calls (k : Nat) (A0_0 : Option Addr) (c0_0 : Nat) (l0_0 : List (S24)) (a1 : Int) (A2_0 : Option Addr) (c2_0 : Nat) (l2_0 : List Int) (A2_1 : Option Addr) (c2_1 : Nat) (l2_1 : List Int) (A2_2 : Option Addr) (c2_2 : Nat) (l2_2 : List ByteArray) (r : Bool) (w : World) (hr0_0 : Kd.C k24 w A0_0 l0_0.length l0_0) (hc0_0 : l0_0.length ≤ c0_0) (hr2_0 : Kd.C (Kd.int .i64) w A2_0 l2_0.length l2_0) (hc2_0 : l2_0.length ≤ c2_0) (hr2_1 : Kd.C (Kd.int .i64) w A2_1 l2_1.length l2_1) (hc2_1 : l2_1.length ≤ c2_1) (hr2_2 : Kd.C Kd.string w A2_2 l2_2.length l2_2) (hc2_2 : l2_2.length ≤ c2_2) (hG : GL w) (h : page_May.f k l0_0 a1 l2_0 l2_1 l2_2 = some r) :
  Calls Tryz.prog 34 #[.agg #[.slice A0_0 l0_0.length c0_0], .int .i64 a1, .agg #[.slice A2_0 l2_0.length c2_0, .slice A2_1 l2_1.length c2_1, .slice A2_2 l2_2.length c2_2]] w fun e w' => e = .returned (.bool r) ∧ Below w.heap.size w w' := by
 have hu27 := Tryz.underlying27
 have hu31 := Tryz.underlying31
 have HR0_0 := am hr0_0
 have HC0_0 := am hc0_0
 clear hr0_0 hc0_0
 have HR2_0 := am hr2_0
 have HC2_0 := am hc2_0
 clear hr2_0 hc2_0
 have HR2_1 := am hr2_1
 have HC2_1 := am hc2_1
 clear hr2_1 hc2_1
 have HR2_2 := am hr2_2
 have HC2_2 := am hc2_2
 clear hr2_2 hc2_2
 have HB := am (Below.refl w.heap.size w)
 have HG := am hG
 clear hG
 have H : ((types_Levels.f k l0_0 a1).bind fun bt341 => ((types_Leaf.f k l0_0 a1).bind fun t344 => (if t344 = true then (if (l2_0.length : Int) = (l2_1.length : Int) then (if (l2_0.length : Int) > 4096 then (page_May.j0 k a1 bt341.2.1 true l0_0 l2_0 l2_1 l2_2) else ((page_within.f k l2_0 bt341.1).bind fun t345 => (if t345 = true then ((page_within.f k l2_1 bt341.2.1).bind fun t346 => (page_May.j0 k a1 bt341.2.1 (!t346) l0_0 l2_0 l2_1 l2_2)) else (page_May.j0 k a1 bt341.2.1 true l0_0 l2_0 l2_1 l2_2)))) else (page_May.j0 k a1 bt341.2.1 true l0_0 l2_0 l2_1 l2_2)) else (page_May.j0 k a1 bt341.2.1 true l0_0 l2_0 l2_1 l2_2)))) = some r := h
 clear h
 replace H := zo H
 obtain ⟨⟨t341, t342, t343⟩, A40, H⟩ := H
 (try dsimp only at H)
 have A4 := am A40
 clear A40
 have HC5 := am H
 clear H
 go_enter Tryz.func34, Tryz.ntmps34
 go_upto_region 2 with (first | ((with_reducible refine gate_dst (N := 3) rfl ?_); refine box_event ?hg (N := 3) ?hd (cs := #[.slice A0_0 l0_0.length c0_0]) (t := 27) ?hr ?_; (case hd => rfl); (case hg => rfl); (case hr => exact zh); intro gb339 hg w6 hbox hb; have n0_ := am (below_step (zl HB.out) hb); have n1_ := am (hbox); have n2_ := am ((by rw [hg]; exact (below_size (zl HB.out)) : w.heap.size ≤ gb339)); have n3_ := am ((by rw [hg]; exact (below_size (zl HB.out)) : w.heap.size ≤ gb339)); clear HB; have HB := n0_; have BK339 := n1_; have GW339 := n2_; have GE339 := n3_; clear n0_ n1_ n2_ n3_; clear hb hbox hg) | ((with_reducible refine gate_dst (N := 5) rfl ?_); refine box_event ?hg (N := 5) ?hd (cs := #[.slice A2_0 l2_0.length c2_0, .slice A2_1 l2_1.length c2_1, .slice A2_2 l2_2.length c2_2]) (t := 31) ?hr ?_; (case hd => rfl); (case hg => rfl); (case hr => exact zh); intro gb340 hg w7 hbox hb; have n0_ := am (zbb BK339.out hb); have n1_ := am (below_step (zl1 HB.out GE339.out) hb); have n2_ := am (hbox); have n3_ := am ((by rw [hg]; exact (below_size (zl1 HB.out GE339.out)) : w.heap.size ≤ gb340)); have n4_ := am ((by rw [hg]; exact (below_size (zl1 HB.out GE339.out)) : w.heap.size ≤ gb340)); have n5_ := am ((by rw [hg]; exact Nat.ne_of_lt (blk_lt (g := gb339) (o := .cells #[.slice A0_0 l0_0.length c0_0] 27 (0, 0)) (zb BK339.out)) : gb339 ≠ gb340)); have n6_ := am ((by rw [hg]; exact Nat.ne_of_gt (blk_lt (g := gb339) (o := .cells #[.slice A0_0 l0_0.length c0_0] 27 (0, 0)) (zb BK339.out)) : gb340 ≠ gb339)); clear BK339 HB; have BK339 := n0_; have HB := n1_; have BK340 := n2_; have GW340 := n3_; have GE340 := n4_; have NB339_340 := n5_; have NB340_339 := n6_; clear n0_ n1_ n2_ n3_ n4_ n5_ n6_; clear hb hbox hg; have hnb8 := NB339_340.out; have hnc8 := NB340_339.out; have hcz9_0 : w7.cell? ⟨gb339, 0, none⟩ = some (.slice A0_0 l0_0.length c0_0) := (blk_cell BK339.out 0).trans rfl; have hfz9_0 := blk_frozen BK339.out 0) | (go_at_call 35; (with_reducible refine (types_Levels.calls k _ _ l0_0 a1 t341 t342 t343 _ ?side1 ?side2 A4.out).mono ?_); (case side1 => exact zc (Kd.C_below HR0_0.out HB.out)); (case side2 => exact HC0_0.out); rintro e w10 ⟨rfl, hb⟩; have n0_ := am (zbb BK339.out hb); have n1_ := am (zbb BK340.out hb); have n2_ := am (below_step (zl2 HB.out GE339.out GE340.out) hb); clear BK339 BK340 HB; have BK339 := n0_; have BK340 := n1_; have HB := n2_; clear n0_ n1_ n2_; (try clear hb); (try clear hb2); (try clear hk); (try clear hi)))
 repeat (go_quiet (first | ((with_reducible refine gate_dst (N := 3) rfl ?_); refine box_event ?hg (N := 3) ?hd (cs := #[.slice A0_0 l0_0.length c0_0]) (t := 27) ?hr ?_; (case hd => rfl); (case hg => rfl); (case hr => exact zh); intro gb339 hg w6 hbox hb; have n0_ := am (below_step (zl HB.out) hb); have n1_ := am (hbox); have n2_ := am ((by rw [hg]; exact (below_size (zl HB.out)) : w.heap.size ≤ gb339)); have n3_ := am ((by rw [hg]; exact (below_size (zl HB.out)) : w.heap.size ≤ gb339)); clear HB; have HB := n0_; have BK339 := n1_; have GW339 := n2_; have GE339 := n3_; clear n0_ n1_ n2_ n3_; clear hb hbox hg) | ((with_reducible refine gate_dst (N := 5) rfl ?_); refine box_event ?hg (N := 5) ?hd (cs := #[.slice A2_0 l2_0.length c2_0, .slice A2_1 l2_1.length c2_1, .slice A2_2 l2_2.length c2_2]) (t := 31) ?hr ?_; (case hd => rfl); (case hg => rfl); (case hr => exact zh); intro gb340 hg w7 hbox hb; have n0_ := am (zbb BK339.out hb); have n1_ := am (below_step (zl1 HB.out GE339.out) hb); have n2_ := am (hbox); have n3_ := am ((by rw [hg]; exact (below_size (zl1 HB.out GE339.out)) : w.heap.size ≤ gb340)); have n4_ := am ((by rw [hg]; exact (below_size (zl1 HB.out GE339.out)) : w.heap.size ≤ gb340)); have n5_ := am ((by rw [hg]; exact Nat.ne_of_lt (blk_lt (g := gb339) (o := .cells #[.slice A0_0 l0_0.length c0_0] 27 (0, 0)) (zb BK339.out)) : gb339 ≠ gb340)); have n6_ := am ((by rw [hg]; exact Nat.ne_of_gt (blk_lt (g := gb339) (o := .cells #[.slice A0_0 l0_0.length c0_0] 27 (0, 0)) (zb BK339.out)) : gb340 ≠ gb339)); clear BK339 HB; have BK339 := n0_; have HB := n1_; have BK340 := n2_; have GW340 := n3_; have GE340 := n4_; have NB339_340 := n5_; have NB340_339 := n6_; clear n0_ n1_ n2_ n3_ n4_ n5_ n6_; clear hb hbox hg; have hnb8 := NB339_340.out; have hnc8 := NB340_339.out; have hcz9_0 : w7.cell? ⟨gb339, 0, none⟩ = some (.slice A0_0 l0_0.length c0_0) := (blk_cell BK339.out 0).trans rfl; have hfz9_0 := blk_frozen BK339.out 0) | (go_at_call 35; (with_reducible refine (types_Levels.calls k _ _ l0_0 a1 t341 t342 t343 _ ?side1 ?side2 A4.out).mono ?_); (case side1 => exact zc (Kd.C_below HR0_0.out HB.out)); (case side2 => exact HC0_0.out); rintro e w10 ⟨rfl, hb⟩; have n0_ := am (zbb BK339.out hb); have n1_ := am (zbb BK340.out hb); have n2_ := am (below_step (zl2 HB.out GE339.out GE340.out) hb); clear BK339 BK340 HB; have BK339 := n0_; have BK340 := n1_; have HB := n2_; clear n0_ n1_ n2_; (try clear hb); (try clear hb2); (try clear hk); (try clear hi))); go_upto_region 2 with (first | ((with_reducible refine gate_dst (N := 3) rfl ?_); refine box_event ?hg (N := 3) ?hd (cs := #[.slice A0_0 l0_0.length c0_0]) (t := 27) ?hr ?_; (case hd => rfl); (case hg => rfl); (case hr => exact zh); intro gb339 hg w6 hbox hb; have n0_ := am (below_step (zl HB.out) hb); have n1_ := am (hbox); have n2_ := am ((by rw [hg]; exact (below_size (zl HB.out)) : w.heap.size ≤ gb339)); have n3_ := am ((by rw [hg]; exact (below_size (zl HB.out)) : w.heap.size ≤ gb339)); clear HB; have HB := n0_; have BK339 := n1_; have GW339 := n2_; have GE339 := n3_; clear n0_ n1_ n2_ n3_; clear hb hbox hg) | ((with_reducible refine gate_dst (N := 5) rfl ?_); refine box_event ?hg (N := 5) ?hd (cs := #[.slice A2_0 l2_0.length c2_0, .slice A2_1 l2_1.length c2_1, .slice A2_2 l2_2.length c2_2]) (t := 31) ?hr ?_; (case hd => rfl); (case hg => rfl); (case hr => exact zh); intro gb340 hg w7 hbox hb; have n0_ := am (zbb BK339.out hb); have n1_ := am (below_step (zl1 HB.out GE339.out) hb); have n2_ := am (hbox); have n3_ := am ((by rw [hg]; exact (below_size (zl1 HB.out GE339.out)) : w.heap.size ≤ gb340)); have n4_ := am ((by rw [hg]; exact (below_size (zl1 HB.out GE339.out)) : w.heap.size ≤ gb340)); have n5_ := am ((by rw [hg]; exact Nat.ne_of_lt (blk_lt (g := gb339) (o := .cells #[.slice A0_0 l0_0.length c0_0] 27 (0, 0)) (zb BK339.out)) : gb339 ≠ gb340)); have n6_ := am ((by rw [hg]; exact Nat.ne_of_gt (blk_lt (g := gb339) (o := .cells #[.slice A0_0 l0_0.length c0_0] 27 (0, 0)) (zb BK339.out)) : gb340 ≠ gb339)); clear BK339 HB; have BK339 := n0_; have HB := n1_; have BK340 := n2_; have GW340 := n3_; have GE340 := n4_; have NB339_340 := n5_; have NB340_339 := n6_; clear n0_ n1_ n2_ n3_ n4_ n5_ n6_; clear hb hbox hg; have hnb8 := NB339_340.out; have hnc8 := NB340_339.out; have hcz9_0 : w7.cell? ⟨gb339, 0, none⟩ = some (.slice A0_0 l0_0.length c0_0) := (blk_cell BK339.out 0).trans rfl; have hfz9_0 := blk_frozen BK339.out 0) | (go_at_call 35; (with_reducible refine (types_Levels.calls k _ _ l0_0 a1 t341 t342 t343 _ ?side1 ?side2 A4.out).mono ?_); (case side1 => exact zc (Kd.C_below HR0_0.out HB.out)); (case side2 => exact HC0_0.out); rintro e w10 ⟨rfl, hb⟩; have n0_ := am (zbb BK339.out hb); have n1_ := am (zbb BK340.out hb); have n2_ := am (below_step (zl2 HB.out GE339.out GE340.out) hb); clear BK339 BK340 HB; have BK339 := n0_; have BK340 := n1_; have HB := n2_; clear n0_ n1_ n2_; (try clear hb); (try clear hb2); (try clear hk); (try clear hi))))
 (try simp only [Act.put, List.setIfInBounds_toArray, List.set_cons_zero, List.set_cons_succ])
 go_cut [51] (fun v51 wc => ∃ (kq : Nat) (x51_4 : Bool), v51 = .bool x51_4 ∧ Aside0 (page_May.j0 kq a1 t342 x51_4 l0_0 l2_0 l2_1 l2_2 = some r) ∧ Aside0 (kq ≤ k) ∧ Aside0 (wc.heap[gb339]? = some (.cells #[(.slice A0_0 l0_0.length c0_0)] 27 (0, 0))) ∧ Aside0 (wc.heap[gb340]? = some (.cells #[(.slice A2_0 l2_0.length c2_0), (.slice A2_1 l2_1.length c2_1), (.slice A2_2 l2_2.length c2_2)] 31 (0, 0))) ∧ Aside0 (Below w.heap.size w wc))
 case first =>
  have H := HC5.out
  clear HC5
  replace H := zo H
  obtain ⟨t344, A110, H⟩ := H
  (try dsimp only at H)
  have A11 := am A110
  clear A110
  by_cases c12 : t344 = true
  ·
   subst c12
   rw [if_pos rfl] at H
   by_cases c13 : (l2_0.length : Int) = (l2_1.length : Int)
   ·
    rw [if_pos c13] at H
    have c13b0 := beq_iff_eq.mpr c13
    have c13b1 := bne_eq_false_iff_eq.mpr c13
    have c13b2 : (l2_0.length == l2_1.length) = true := by first | simpa using c13 | (simp at c13 ⊢; omega)
    clear c13
    (first | rw [c13b0] | (simp only [i64_w, i32_w]; rw [c13b0]) | skip)
    by_cases c14 : (l2_0.length : Int) > 4096
    ·
     rw [if_pos c14] at H
     have c14b0 : decide (4096 < (l2_0.length : Int)) = true := decide_eq_true c14
     have c14b1 : decide (4096 < l2_0.length) = true := decide_eq_true (by omega)
     clear c14
     have H' := am H
     clear H
     have hnb15 := NB339_340.out
     have hnc15 := NB340_339.out
     have hcz16_0 : w10.cell? ⟨gb339, 0, none⟩ = some (.slice A0_0 l0_0.length c0_0) := (blk_cell BK339.out 0).trans rfl
     have hfz16_0 := blk_frozen BK339.out 0
     go_wp2_with (first | (go_at_call 42; (with_reducible refine (types_Leaf.calls k _ _ l0_0 a1 true _ ?side1 ?side2 A11.out).mono ?_); (case side1 => exact zc (Kd.C_below HR0_0.out HB.out)); (case side2 => exact HC0_0.out); rintro e w17 ⟨rfl, hb⟩; have n0_ := am (zbb BK339.out hb); have n1_ := am (zbb BK340.out hb); have n2_ := am (below_step (zl2 HB.out GE339.out GE340.out) hb); clear BK339 BK340 HB; have BK339 := n0_; have BK340 := n1_; have HB := n2_; clear n0_ n1_ n2_; (try clear hb); (try clear hb2); (try clear hk); (try clear hi); have hcz18_0 : w17.cell? ⟨gb340, 0, none⟩ = some (.slice A2_0 l2_0.length c2_0) := (blk_cell BK340.out 0).trans rfl; have hcz18_1 : w17.cell? ⟨gb340, 1, none⟩ = some (.slice A2_1 l2_1.length c2_1) := (blk_cell BK340.out 1).trans rfl; have hcz18_2 : w17.cell? ⟨gb340, 2, none⟩ = some (.slice A2_2 l2_2.length c2_2) := (blk_cell BK340.out 2).trans rfl; have hfz18_0 := blk_frozen BK340.out 0; have hfz18_1 := blk_frozen BK340.out 1; have hfz18_2 := blk_frozen BK340.out 2))
     repeat (go_quiet (first | (go_at_call 42; (with_reducible refine (types_Leaf.calls k _ _ l0_0 a1 true _ ?side1 ?side2 A11.out).mono ?_); (case side1 => exact zc (Kd.C_below HR0_0.out HB.out)); (case side2 => exact HC0_0.out); rintro e w17 ⟨rfl, hb⟩; have n0_ := am (zbb BK339.out hb); have n1_ := am (zbb BK340.out hb); have n2_ := am (below_step (zl2 HB.out GE339.out GE340.out) hb); clear BK339 BK340 HB; have BK339 := n0_; have BK340 := n1_; have HB := n2_; clear n0_ n1_ n2_; (try clear hb); (try clear hb2); (try clear hk); (try clear hi); have hcz18_0 : w17.cell? ⟨gb340, 0, none⟩ = some (.slice A2_0 l2_0.length c2_0) := (blk_cell BK340.out 0).trans rfl; have hcz18_1 : w17.cell? ⟨gb340, 1, none⟩ = some (.slice A2_1 l2_1.length c2_1) := (blk_cell BK340.out 1).trans rfl; have hcz18_2 : w17.cell? ⟨gb340, 2, none⟩ = some (.slice A2_2 l2_2.length c2_2) := (blk_cell BK340.out 2).trans rfl; have hfz18_0 := blk_frozen BK340.out 0; have hfz18_1 := blk_frozen BK340.out 1; have hfz18_2 := blk_frozen BK340.out 2)); try go_wp2_with (first | (go_at_call 42; (with_reducible refine (types_Leaf.calls k _ _ l0_0 a1 true _ ?side1 ?side2 A11.out).mono ?_); (case side1 => exact zc (Kd.C_below HR0_0.out HB.out)); (case side2 => exact HC0_0.out); rintro e w17 ⟨rfl, hb⟩; have n0_ := am (zbb BK339.out hb); have n1_ := am (zbb BK340.out hb); have n2_ := am (below_step (zl2 HB.out GE339.out GE340.out) hb); clear BK339 BK340 HB; have BK339 := n0_; have BK340 := n1_; have HB := n2_; clear n0_ n1_ n2_; (try clear hb); (try clear hb2); (try clear hk); (try clear hi); have hcz18_0 : w17.cell? ⟨gb340, 0, none⟩ = some (.slice A2_0 l2_0.length c2_0) := (blk_cell BK340.out 0).trans rfl; have hcz18_1 : w17.cell? ⟨gb340, 1, none⟩ = some (.slice A2_1 l2_1.length c2_1) := (blk_cell BK340.out 1).trans rfl; have hcz18_2 : w17.cell? ⟨gb340, 2, none⟩ = some (.slice A2_2 l2_2.length c2_2) := (blk_cell BK340.out 2).trans rfl; have hfz18_0 := blk_frozen BK340.out 0; have hfz18_1 := blk_frozen BK340.out 1; have hfz18_2 := blk_frozen BK340.out 2)))
     go_meet
     case rel => exact ⟨_, (true), zs, H', ⟨by first | omega | exact Nat.le_refl _⟩, ⟨by refine zb ?_; exact BK339.out⟩, ⟨by refine zb ?_; exact BK340.out⟩, ⟨zl2 HB.out GE339.out GE340.out⟩⟩
    ·
     rw [if_neg c14] at H
     have c14b0 : decide (4096 < (l2_0.length : Int)) = false := decide_eq_false c14
     have c14b1 : decide (4096 < l2_0.length) = false := decide_eq_false (by omega)
     clear c14
     replace H := zo H
     obtain ⟨t345, A190, H⟩ := H
     (try dsimp only at H)
     have A19 := am A190
     clear A190
     by_cases c20 : t345 = true
     ·
      subst c20
      rw [if_pos rfl] at H
      replace H := zo H
      obtain ⟨t346, A210, H⟩ := H
      (try dsimp only at H)
      have A21 := am A210
      clear A210
      have H' := am H
      clear H
      have hnb22 := NB339_340.out
      have hnc22 := NB340_339.out
      have hcz23_0 : w10.cell? ⟨gb339, 0, none⟩ = some (.slice A0_0 l0_0.length c0_0) := (blk_cell BK339.out 0).trans rfl
      have hfz23_0 := blk_frozen BK339.out 0
      go_wp2_with (first | (go_at_call 42; (with_reducible refine (types_Leaf.calls k _ _ l0_0 a1 true _ ?side1 ?side2 A11.out).mono ?_); (case side1 => exact zc (Kd.C_below HR0_0.out HB.out)); (case side2 => exact HC0_0.out); rintro e w24 ⟨rfl, hb⟩; have n0_ := am (zbb BK339.out hb); have n1_ := am (zbb BK340.out hb); have n2_ := am (below_step (zl2 HB.out GE339.out GE340.out) hb); clear BK339 BK340 HB; have BK339 := n0_; have BK340 := n1_; have HB := n2_; clear n0_ n1_ n2_; (try clear hb); (try clear hb2); (try clear hk); (try clear hi); have hcz25_0 : w24.cell? ⟨gb340, 0, none⟩ = some (.slice A2_0 l2_0.length c2_0) := (blk_cell BK340.out 0).trans rfl; have hcz25_1 : w24.cell? ⟨gb340, 1, none⟩ = some (.slice A2_1 l2_1.length c2_1) := (blk_cell BK340.out 1).trans rfl; have hcz25_2 : w24.cell? ⟨gb340, 2, none⟩ = some (.slice A2_2 l2_2.length c2_2) := (blk_cell BK340.out 2).trans rfl; have hfz25_0 := blk_frozen BK340.out 0; have hfz25_1 := blk_frozen BK340.out 1; have hfz25_2 := blk_frozen BK340.out 2) | (go_at_call 65; (with_reducible refine (page_within.calls k _ _ l2_0 t341 true _ ?side1 ?side2 A19.out).mono ?_); (case side1 => exact zc (Kd.C_below HR2_0.out HB.out)); (case side2 => exact HC2_0.out); rintro e w' ⟨rfl, ⟨nd, rfl⟩⟩; (try exact zd)) | (go_at_call 65; (with_reducible refine (page_within.calls k _ _ l2_1 t342 t346 _ ?side1 ?side2 A21.out).mono ?_); (case side1 => exact zc (Kd.C_below HR2_1.out (zl2 HB.out GE339.out GE340.out))); (case side2 => exact HC2_1.out); rintro e w' ⟨rfl, ⟨nd, rfl⟩⟩; (try exact zd)))
      repeat (go_quiet (first | (go_at_call 42; (with_reducible refine (types_Leaf.calls k _ _ l0_0 a1 true _ ?side1 ?side2 A11.out).mono ?_); (case side1 => exact zc (Kd.C_below HR0_0.out HB.out)); (case side2 => exact HC0_0.out); rintro e w24 ⟨rfl, hb⟩; have n0_ := am (zbb BK339.out hb); have n1_ := am (zbb BK340.out hb); have n2_ := am (below_step (zl2 HB.out GE339.out GE340.out) hb); clear BK339 BK340 HB; have BK339 := n0_; have BK340 := n1_; have HB := n2_; clear n0_ n1_ n2_; (try clear hb); (try clear hb2); (try clear hk); (try clear hi); have hcz25_0 : w24.cell? ⟨gb340, 0, none⟩ = some (.slice A2_0 l2_0.length c2_0) := (blk_cell BK340.out 0).trans rfl; have hcz25_1 : w24.cell? ⟨gb340, 1, none⟩ = some (.slice A2_1 l2_1.length c2_1) := (blk_cell BK340.out 1).trans rfl; have hcz25_2 : w24.cell? ⟨gb340, 2, none⟩ = some (.slice A2_2 l2_2.length c2_2) := (blk_cell BK340.out 2).trans rfl; have hfz25_0 := blk_frozen BK340.out 0; have hfz25_1 := blk_frozen BK340.out 1; have hfz25_2 := blk_frozen BK340.out 2) | (go_at_call 65; (with_reducible refine (page_within.calls k _ _ l2_0 t341 true _ ?side1 ?side2 A19.out).mono ?_); (case side1 => exact zc (Kd.C_below HR2_0.out HB.out)); (case side2 => exact HC2_0.out); rintro e w' ⟨rfl, ⟨nd, rfl⟩⟩; (try exact zd)) | (go_at_call 65; (with_reducible refine (page_within.calls k _ _ l2_1 t342 t346 _ ?side1 ?side2 A21.out).mono ?_); (case side1 => exact zc (Kd.C_below HR2_1.out (zl2 HB.out GE339.out GE340.out))); (case side2 => exact HC2_1.out); rintro e w' ⟨rfl, ⟨nd, rfl⟩⟩; (try exact zd))); try go_wp2_with (first | (go_at_call 42; (with_reducible refine (types_Leaf.calls k _ _ l0_0 a1 true _ ?side1 ?side2 A11.out).mono ?_); (case side1 => exact zc (Kd.C_below HR0_0.out HB.out)); (case side2 => exact HC0_0.out); rintro e w24 ⟨rfl, hb⟩; have n0_ := am (zbb BK339.out hb); have n1_ := am (zbb BK340.out hb); have n2_ := am (below_step (zl2 HB.out GE339.out GE340.out) hb); clear BK339 BK340 HB; have BK339 := n0_; have BK340 := n1_; have HB := n2_; clear n0_ n1_ n2_; (try clear hb); (try clear hb2); (try clear hk); (try clear hi); have hcz25_0 : w24.cell? ⟨gb340, 0, none⟩ = some (.slice A2_0 l2_0.length c2_0) := (blk_cell BK340.out 0).trans rfl; have hcz25_1 : w24.cell? ⟨gb340, 1, none⟩ = some (.slice A2_1 l2_1.length c2_1) := (blk_cell BK340.out 1).trans rfl; have hcz25_2 : w24.cell? ⟨gb340, 2, none⟩ = some (.slice A2_2 l2_2.length c2_2) := (blk_cell BK340.out 2).trans rfl; have hfz25_0 := blk_frozen BK340.out 0; have hfz25_1 := blk_frozen BK340.out 1; have hfz25_2 := blk_frozen BK340.out 2) | (go_at_call 65; (with_reducible refine (page_within.calls k _ _ l2_0 t341 true _ ?side1 ?side2 A19.out).mono ?_); (case side1 => exact zc (Kd.C_below HR2_0.out HB.out)); (case side2 => exact HC2_0.out); rintro e w' ⟨rfl, ⟨nd, rfl⟩⟩; (try exact zd)) | (go_at_call 65; (with_reducible refine (page_within.calls k _ _ l2_1 t342 t346 _ ?side1 ?side2 A21.out).mono ?_); (case side1 => exact zc (Kd.C_below HR2_1.out (zl2 HB.out GE339.out GE340.out))); (case side2 => exact HC2_1.out); rintro e w' ⟨rfl, ⟨nd, rfl⟩⟩; (try exact zd))))
      go_meet
      case rel => exact ⟨_, (!t346), zs, H', ⟨by first | omega | exact Nat.le_refl _⟩, ⟨by refine zb ?_; exact BK339.out⟩, ⟨by refine zb ?_; exact BK340.out⟩, ⟨zl2 HB.out GE339.out GE340.out⟩⟩
     ·
      replace c20 := Bool.eq_false_iff.mpr c20
      subst c20
      rw [if_neg (show ¬ (false = true) by decide)] at H
      have H' := am H
      clear H
      have hnb26 := NB339_340.out
      have hnc26 := NB340_339.out
      have hcz27_0 : w10.cell? ⟨gb339, 0, none⟩ = some (.slice A0_0 l0_0.length c0_0) := (blk_cell BK339.out 0).trans rfl
      have hfz27_0 := blk_frozen BK339.out 0
      go_wp2_with (first | (go_at_call 42; (with_reducible refine (types_Leaf.calls k _ _ l0_0 a1 true _ ?side1 ?side2 A11.out).mono ?_); (case side1 => exact zc (Kd.C_below HR0_0.out HB.out)); (case side2 => exact HC0_0.out); rintro e w28 ⟨rfl, hb⟩; have n0_ := am (zbb BK339.out hb); have n1_ := am (zbb BK340.out hb); have n2_ := am (below_step (zl2 HB.out GE339.out GE340.out) hb); clear BK339 BK340 HB; have BK339 := n0_; have BK340 := n1_; have HB := n2_; clear n0_ n1_ n2_; (try clear hb); (try clear hb2); (try clear hk); (try clear hi); have hcz29_0 : w28.cell? ⟨gb340, 0, none⟩ = some (.slice A2_0 l2_0.length c2_0) := (blk_cell BK340.out 0).trans rfl; have hcz29_1 : w28.cell? ⟨gb340, 1, none⟩ = some (.slice A2_1 l2_1.length c2_1) := (blk_cell BK340.out 1).trans rfl; have hcz29_2 : w28.cell? ⟨gb340, 2, none⟩ = some (.slice A2_2 l2_2.length c2_2) := (blk_cell BK340.out 2).trans rfl; have hfz29_0 := blk_frozen BK340.out 0; have hfz29_1 := blk_frozen BK340.out 1; have hfz29_2 := blk_frozen BK340.out 2) | (go_at_call 65; (with_reducible refine (page_within.calls k _ _ l2_0 t341 false _ ?side1 ?side2 A19.out).mono ?_); (case side1 => exact zc (Kd.C_below HR2_0.out HB.out)); (case side2 => exact HC2_0.out); rintro e w' ⟨rfl, ⟨nd, rfl⟩⟩; (try exact zd)))
      repeat (go_quiet (first | (go_at_call 42; (with_reducible refine (types_Leaf.calls k _ _ l0_0 a1 true _ ?side1 ?side2 A11.out).mono ?_); (case side1 => exact zc (Kd.C_below HR0_0.out HB.out)); (case side2 => exact HC0_0.out); rintro e w28 ⟨rfl, hb⟩; have n0_ := am (zbb BK339.out hb); have n1_ := am (zbb BK340.out hb); have n2_ := am (below_step (zl2 HB.out GE339.out GE340.out) hb); clear BK339 BK340 HB; have BK339 := n0_; have BK340 := n1_; have HB := n2_; clear n0_ n1_ n2_; (try clear hb); (try clear hb2); (try clear hk); (try clear hi); have hcz29_0 : w28.cell? ⟨gb340, 0, none⟩ = some (.slice A2_0 l2_0.length c2_0) := (blk_cell BK340.out 0).trans rfl; have hcz29_1 : w28.cell? ⟨gb340, 1, none⟩ = some (.slice A2_1 l2_1.length c2_1) := (blk_cell BK340.out 1).trans rfl; have hcz29_2 : w28.cell? ⟨gb340, 2, none⟩ = some (.slice A2_2 l2_2.length c2_2) := (blk_cell BK340.out 2).trans rfl; have hfz29_0 := blk_frozen BK340.out 0; have hfz29_1 := blk_frozen BK340.out 1; have hfz29_2 := blk_frozen BK340.out 2) | (go_at_call 65; (with_reducible refine (page_within.calls k _ _ l2_0 t341 false _ ?side1 ?side2 A19.out).mono ?_); (case side1 => exact zc (Kd.C_below HR2_0.out HB.out)); (case side2 => exact HC2_0.out); rintro e w' ⟨rfl, ⟨nd, rfl⟩⟩; (try exact zd))); try go_wp2_with (first | (go_at_call 42; (with_reducible refine (types_Leaf.calls k _ _ l0_0 a1 true _ ?side1 ?side2 A11.out).mono ?_); (case side1 => exact zc (Kd.C_below HR0_0.out HB.out)); (case side2 => exact HC0_0.out); rintro e w28 ⟨rfl, hb⟩; have n0_ := am (zbb BK339.out hb); have n1_ := am (zbb BK340.out hb); have n2_ := am (below_step (zl2 HB.out GE339.out GE340.out) hb); clear BK339 BK340 HB; have BK339 := n0_; have BK340 := n1_; have HB := n2_; clear n0_ n1_ n2_; (try clear hb); (try clear hb2); (try clear hk); (try clear hi); have hcz29_0 : w28.cell? ⟨gb340, 0, none⟩ = some (.slice A2_0 l2_0.length c2_0) := (blk_cell BK340.out 0).trans rfl; have hcz29_1 : w28.cell? ⟨gb340, 1, none⟩ = some (.slice A2_1 l2_1.length c2_1) := (blk_cell BK340.out 1).trans rfl; have hcz29_2 : w28.cell? ⟨gb340, 2, none⟩ = some (.slice A2_2 l2_2.length c2_2) := (blk_cell BK340.out 2).trans rfl; have hfz29_0 := blk_frozen BK340.out 0; have hfz29_1 := blk_frozen BK340.out 1; have hfz29_2 := blk_frozen BK340.out 2) | (go_at_call 65; (with_reducible refine (page_within.calls k _ _ l2_0 t341 false _ ?side1 ?side2 A19.out).mono ?_); (case side1 => exact zc (Kd.C_below HR2_0.out HB.out)); (case side2 => exact HC2_0.out); rintro e w' ⟨rfl, ⟨nd, rfl⟩⟩; (try exact zd))))
      go_meet
      case rel => exact ⟨_, (true), zs, H', ⟨by first | omega | exact Nat.le_refl _⟩, ⟨by refine zb ?_; exact BK339.out⟩, ⟨by refine zb ?_; exact BK340.out⟩, ⟨zl2 HB.out GE339.out GE340.out⟩⟩
   ·
    rw [if_neg c13] at H
    have c13b0 := beq_eq_false_iff_ne.mpr c13
    have c13b1 := bne_iff_ne.mpr c13
    have c13b2 : (l2_0.length == l2_1.length) = false := by first | simpa using c13 | (simp at c13 ⊢; omega)
    (first | rw [c13b0] | (simp only [i64_w, i32_w]; rw [c13b0]) | skip)
    have H' := am H
    clear H
    have hnb30 := NB339_340.out
    have hnc30 := NB340_339.out
    have hcz31_0 : w10.cell? ⟨gb339, 0, none⟩ = some (.slice A0_0 l0_0.length c0_0) := (blk_cell BK339.out 0).trans rfl
    have hfz31_0 := blk_frozen BK339.out 0
    go_wp2_with (first | (go_at_call 42; (with_reducible refine (types_Leaf.calls k _ _ l0_0 a1 true _ ?side1 ?side2 A11.out).mono ?_); (case side1 => exact zc (Kd.C_below HR0_0.out HB.out)); (case side2 => exact HC0_0.out); rintro e w32 ⟨rfl, hb⟩; have n0_ := am (zbb BK339.out hb); have n1_ := am (zbb BK340.out hb); have n2_ := am (below_step (zl2 HB.out GE339.out GE340.out) hb); clear BK339 BK340 HB; have BK339 := n0_; have BK340 := n1_; have HB := n2_; clear n0_ n1_ n2_; (try clear hb); (try clear hb2); (try clear hk); (try clear hi); have hcz33_0 : w32.cell? ⟨gb340, 0, none⟩ = some (.slice A2_0 l2_0.length c2_0) := (blk_cell BK340.out 0).trans rfl; have hcz33_1 : w32.cell? ⟨gb340, 1, none⟩ = some (.slice A2_1 l2_1.length c2_1) := (blk_cell BK340.out 1).trans rfl; have hcz33_2 : w32.cell? ⟨gb340, 2, none⟩ = some (.slice A2_2 l2_2.length c2_2) := (blk_cell BK340.out 2).trans rfl; have hfz33_0 := blk_frozen BK340.out 0; have hfz33_1 := blk_frozen BK340.out 1; have hfz33_2 := blk_frozen BK340.out 2))
    repeat (go_quiet (first | (go_at_call 42; (with_reducible refine (types_Leaf.calls k _ _ l0_0 a1 true _ ?side1 ?side2 A11.out).mono ?_); (case side1 => exact zc (Kd.C_below HR0_0.out HB.out)); (case side2 => exact HC0_0.out); rintro e w32 ⟨rfl, hb⟩; have n0_ := am (zbb BK339.out hb); have n1_ := am (zbb BK340.out hb); have n2_ := am (below_step (zl2 HB.out GE339.out GE340.out) hb); clear BK339 BK340 HB; have BK339 := n0_; have BK340 := n1_; have HB := n2_; clear n0_ n1_ n2_; (try clear hb); (try clear hb2); (try clear hk); (try clear hi); have hcz33_0 : w32.cell? ⟨gb340, 0, none⟩ = some (.slice A2_0 l2_0.length c2_0) := (blk_cell BK340.out 0).trans rfl; have hcz33_1 : w32.cell? ⟨gb340, 1, none⟩ = some (.slice A2_1 l2_1.length c2_1) := (blk_cell BK340.out 1).trans rfl; have hcz33_2 : w32.cell? ⟨gb340, 2, none⟩ = some (.slice A2_2 l2_2.length c2_2) := (blk_cell BK340.out 2).trans rfl; have hfz33_0 := blk_frozen BK340.out 0; have hfz33_1 := blk_frozen BK340.out 1; have hfz33_2 := blk_frozen BK340.out 2)); try go_wp2_with (first | (go_at_call 42; (with_reducible refine (types_Leaf.calls k _ _ l0_0 a1 true _ ?side1 ?side2 A11.out).mono ?_); (case side1 => exact zc (Kd.C_below HR0_0.out HB.out)); (case side2 => exact HC0_0.out); rintro e w32 ⟨rfl, hb⟩; have n0_ := am (zbb BK339.out hb); have n1_ := am (zbb BK340.out hb); have n2_ := am (below_step (zl2 HB.out GE339.out GE340.out) hb); clear BK339 BK340 HB; have BK339 := n0_; have BK340 := n1_; have HB := n2_; clear n0_ n1_ n2_; (try clear hb); (try clear hb2); (try clear hk); (try clear hi); have hcz33_0 : w32.cell? ⟨gb340, 0, none⟩ = some (.slice A2_0 l2_0.length c2_0) := (blk_cell BK340.out 0).trans rfl; have hcz33_1 : w32.cell? ⟨gb340, 1, none⟩ = some (.slice A2_1 l2_1.length c2_1) := (blk_cell BK340.out 1).trans rfl; have hcz33_2 : w32.cell? ⟨gb340, 2, none⟩ = some (.slice A2_2 l2_2.length c2_2) := (blk_cell BK340.out 2).trans rfl; have hfz33_0 := blk_frozen BK340.out 0; have hfz33_1 := blk_frozen BK340.out 1; have hfz33_2 := blk_frozen BK340.out 2)))
    go_meet
    case rel => exact ⟨_, (true), zs, H', ⟨by first | omega | exact Nat.le_refl _⟩, ⟨by refine zb ?_; exact BK339.out⟩, ⟨by refine zb ?_; exact BK340.out⟩, ⟨zl2 HB.out GE339.out GE340.out⟩⟩
  ·
   replace c12 := Bool.eq_false_iff.mpr c12
   subst c12
   rw [if_neg (show ¬ (false = true) by decide)] at H
   have H' := am H
   clear H
   have hnb34 := NB339_340.out
   have hnc34 := NB340_339.out
   have hcz35_0 : w10.cell? ⟨gb339, 0, none⟩ = some (.slice A0_0 l0_0.length c0_0) := (blk_cell BK339.out 0).trans rfl
   have hfz35_0 := blk_frozen BK339.out 0
   go_wp2_with (first | (go_at_call 42; (with_reducible refine (types_Leaf.calls k _ _ l0_0 a1 false _ ?side1 ?side2 A11.out).mono ?_); (case side1 => exact zc (Kd.C_below HR0_0.out HB.out)); (case side2 => exact HC0_0.out); rintro e w36 ⟨rfl, hb⟩; have n0_ := am (zbb BK339.out hb); have n1_ := am (zbb BK340.out hb); have n2_ := am (below_step (zl2 HB.out GE339.out GE340.out) hb); clear BK339 BK340 HB; have BK339 := n0_; have BK340 := n1_; have HB := n2_; clear n0_ n1_ n2_; (try clear hb); (try clear hb2); (try clear hk); (try clear hi)))
   repeat (go_quiet (first | (go_at_call 42; (with_reducible refine (types_Leaf.calls k _ _ l0_0 a1 false _ ?side1 ?side2 A11.out).mono ?_); (case side1 => exact zc (Kd.C_below HR0_0.out HB.out)); (case side2 => exact HC0_0.out); rintro e w36 ⟨rfl, hb⟩; have n0_ := am (zbb BK339.out hb); have n1_ := am (zbb BK340.out hb); have n2_ := am (below_step (zl2 HB.out GE339.out GE340.out) hb); clear BK339 BK340 HB; have BK339 := n0_; have BK340 := n1_; have HB := n2_; clear n0_ n1_ n2_; (try clear hb); (try clear hb2); (try clear hk); (try clear hi))); try go_wp2_with (first | (go_at_call 42; (with_reducible refine (types_Leaf.calls k _ _ l0_0 a1 false _ ?side1 ?side2 A11.out).mono ?_); (case side1 => exact zc (Kd.C_below HR0_0.out HB.out)); (case side2 => exact HC0_0.out); rintro e w36 ⟨rfl, hb⟩; have n0_ := am (zbb BK339.out hb); have n1_ := am (zbb BK340.out hb); have n2_ := am (below_step (zl2 HB.out GE339.out GE340.out) hb); clear BK339 BK340 HB; have BK339 := n0_; have BK340 := n1_; have HB := n2_; clear n0_ n1_ n2_; (try clear hb); (try clear hb2); (try clear hk); (try clear hi))))
   go_meet
   case rel => exact ⟨_, (true), zs, H', ⟨by first | omega | exact Nat.le_refl _⟩, ⟨by refine zb ?_; exact BK339.out⟩, ⟨by refine zb ?_; exact BK340.out⟩, ⟨zl2 HB.out GE339.out GE340.out⟩⟩
 case rest =>
  clear HC5
  try clear c1
  try clear c2
  try clear p2
  try clear c3
  try clear c8
  try clear c12
  try clear c13
  try clear c13b0
  try clear c13b1
  try clear c13b2
  try clear c14
  try clear c14b0
  try clear c14b1
  try clear c15
  try clear c20
  try clear c22
  try clear c26
  try clear c30
  try clear c34
  try clear hcz16_0
  try clear hcz18_0
  try clear hcz18_1
  try clear hcz18_2
  try clear hcz23_0
  try clear hcz25_0
  try clear hcz25_1
  try clear hcz25_2
  try clear hcz27_0
  try clear hcz29_0
  try clear hcz29_1
  try clear hcz29_2
  try clear hcz31_0
  try clear hcz33_0
  try clear hcz33_1
  try clear hcz33_2
  try clear hcz35_0
  try clear hcz9_0
  try clear hfz16_0
  try clear hfz18_0
  try clear hfz18_1
  try clear hfz18_2
  try clear hfz23_0
  try clear hfz25_0
  try clear hfz25_1
  try clear hfz25_2
  try clear hfz27_0
  try clear hfz29_0
  try clear hfz29_1
  try clear hfz29_2
  try clear hfz31_0
  try clear hfz33_0
  try clear hfz33_1
  try clear hfz33_2
  try clear hfz35_0
  try clear hfz9_0
  obtain ⟨kq, x51_4, rfl, HA, HJ4, BK339, BK340, HB⟩ := hcut
  cases kq with
  | zero => exact absurd HA.out (by simp [page_May.j0])
  | succ kj4 =>
   have H := HA.out
   clear HA
   simp only [page_May.j0] at H
   by_cases c37 : x51_4 = true
   ·
    subst c37
    rw [if_pos rfl] at H
    obtain rfl := Option.some.inj H
    go_wp2
    repeat (go_quiet (fail); try go_wp2)
    go_ret
    exact ⟨ze, zl2 HB.out GE339.out GE340.out⟩
   ·
    replace c37 := Bool.eq_false_iff.mpr c37
    subst c37
    rw [if_neg (show ¬ (false = true) by decide)] at H
    have H' := am H
    clear H
    have hnb38 := NB340_339.out
    have hnc38 := NB339_340.out
    have hcz39_0 : wc.cell? ⟨gb340, 0, none⟩ = some (.slice A2_0 l2_0.length c2_0) := (blk_cell BK340.out 0).trans rfl
    have hcz39_1 : wc.cell? ⟨gb340, 1, none⟩ = some (.slice A2_1 l2_1.length c2_1) := (blk_cell BK340.out 1).trans rfl
    have hcz39_2 : wc.cell? ⟨gb340, 2, none⟩ = some (.slice A2_2 l2_2.length c2_2) := (blk_cell BK340.out 2).trans rfl
    have hfz39_0 := blk_frozen BK340.out 0
    have hfz39_1 := blk_frozen BK340.out 1
    have hfz39_2 := blk_frozen BK340.out 2
    go_wp2
    repeat (go_quiet (fail); try go_wp2)
    (try simp only [Act.put, List.setIfInBounds_toArray, List.set_cons_zero, List.set_cons_succ])
    go_loopg [55] kj4 (fun kq v55 w' => ∃ (x55_2 : Int), v55 = .int .i64 x55_2 ∧ Aside0 (page_May.l0 kq a1 t342 l2_2 (l2_2.length : Int) x55_2 l0_0 l2_0 l2_1 l2_2 = some r) ∧ Aside0 (kq ≤ kj4) ∧ Aside0 (w'.heap[gb339]? = some (.cells #[(.slice A0_0 l0_0.length c0_0)] 27 (0, 0))) ∧ Aside0 (w'.heap[gb340]? = some (.cells #[(.slice A2_0 l2_0.length c2_0), (.slice A2_1 l2_1.length c2_1), (.slice A2_2 l2_2.length c2_2)] 31 (0, 0))) ∧ Aside0 (Below w.heap.size w w'))
    case atStart => exact ⟨(0), zs, H', ⟨Nat.le_refl _⟩, ⟨by refine zb ?_; exact BK339.out⟩, ⟨by refine zb ?_; exact BK340.out⟩, ⟨zl2 HB.out GE339.out GE340.out⟩⟩
    case round =>
     clear H'
     try clear c1
     try clear c2
     try clear p2
     try clear c3
     try clear c8
     try clear c12
     try clear c13
     try clear c13b0
     try clear c13b1
     try clear c13b2
     try clear c14
     try clear c14b0
     try clear c14b1
     try clear c15
     try clear c20
     try clear c22
     try clear c26
     try clear c30
     try clear c34
     try clear c37
     try clear c38
     try clear hcz16_0
     try clear hcz18_0
     try clear hcz18_1
     try clear hcz18_2
     try clear hcz23_0
     try clear hcz25_0
     try clear hcz25_1
     try clear hcz25_2
     try clear hcz27_0
     try clear hcz29_0
     try clear hcz29_1
     try clear hcz29_2
     try clear hcz31_0
     try clear hcz33_0
     try clear hcz33_1
     try clear hcz33_2
     try clear hcz35_0
     try clear hcz39_0
     try clear hcz39_1
     try clear hcz39_2
     try clear hcz9_0
     try clear hfz16_0
     try clear hfz18_0
     try clear hfz18_1
     try clear hfz18_2
     try clear hfz23_0
     try clear hfz25_0
     try clear hfz25_1
     try clear hfz25_2
     try clear hfz27_0
     try clear hfz29_0
     try clear hfz29_1
     try clear hfz29_2
     try clear hfz31_0
     try clear hfz33_0
     try clear hfz33_1
     try clear hfz33_2
     try clear hfz35_0
     try clear hfz39_0
     try clear hfz39_1
     try clear hfz39_2
     try clear hfz9_0
     try clear p2
     obtain ⟨x55_2, rfl, HA, HK2, BK339, BK340, HB⟩ := hrel
     cases gk with
     | zero => exact absurd HA.out (by simp [page_May.l0])
     | succ k2 =>
      have H := HA.out
      clear HA
      simp only [page_May.l0] at H
      by_cases c40 : x55_2 < (l2_2.length : Int)
      ·
       rw [if_pos c40] at H
       have c40b0 := decide_eq_true c40
       clear c40
       by_cases c41 : 0 ≤ x55_2
       ·
        rw [if_pos c41] at H
        have c41b0 := decide_eq_true c41
        clear c41
        by_cases c42 : x55_2 < (l2_2.length : Int)
        ·
         rw [if_pos c42] at H
         have c42b0 := decide_eq_true c42
         clear c42
         replace H := zo H
         obtain ⟨t349, A430, H⟩ := H
         (try dsimp only at H)
         have A43 := am A430
         clear A430
         by_cases c44 : (rdOf ByteArray.empty l2_2 x55_2).toList = t349.toList
         ·
          rw [if_pos c44] at H
          have c44b0 := beq_iff_eq.mpr c44
          have c44b1 := bne_eq_false_iff_eq.mpr c44
          clear c44
          obtain rfl := Option.some.inj H
          have p348 : 0 ≤ (x55_2 : Int) := of_decide_eq_true za
          have q348 : x55_2 < (l2_2.length : Int) := of_decide_eq_true za
          obtain ⟨ad348, e348, hx348_0⟩ := Kd.at_string HR2_2.out x55_2 p348 q348
          cases e348
          replace hx348_0 := zq HB.out hx348_0
          replace p348 := eq_true p348
          replace q348 := eq_true q348
          go_wp2_with (first | (go_at_call 66; (with_reducible refine (value_Null.calls  t349 _ A43.out).mono ?_); rintro e w' ⟨rfl, ⟨nd, rfl⟩⟩; (try exact zd)))
          repeat (go_quiet (first | (go_at_call 66; (with_reducible refine (value_Null.calls  t349 _ A43.out).mono ?_); rintro e w' ⟨rfl, ⟨nd, rfl⟩⟩; (try exact zd))); try go_wp2_with (first | (go_at_call 66; (with_reducible refine (value_Null.calls  t349 _ A43.out).mono ?_); rintro e w' ⟨rfl, ⟨nd, rfl⟩⟩; (try exact zd))))
          go_ret
          exact ⟨ze, zl2 HB.out GE339.out GE340.out⟩
         ·
          rw [if_neg c44] at H
          have c44b0 := beq_eq_false_iff_ne.mpr c44
          have c44b1 := bne_iff_ne.mpr c44
          replace H := zo H
          obtain ⟨t350, A450, H⟩ := H
          (try dsimp only at H)
          have A45 := am A450
          clear A450
          by_cases c46 : t350 = true
          ·
           subst c46
           rw [if_pos rfl] at H
           have H' := am H
           clear H
           have p348 : 0 ≤ (x55_2 : Int) := of_decide_eq_true za
           have q348 : x55_2 < (l2_2.length : Int) := of_decide_eq_true za
           obtain ⟨ad348, e348, hx348_0⟩ := Kd.at_string HR2_2.out x55_2 p348 q348
           cases e348
           replace hx348_0 := zq HB.out hx348_0
           replace p348 := eq_true p348
           replace q348 := eq_true q348
           go_wp2_with (first | (go_at_call 66; (with_reducible refine (value_Null.calls  t349 _ A43.out).mono ?_); rintro e w' ⟨rfl, ⟨nd, rfl⟩⟩; (try exact zd); have hnb47 := NB339_340.out; have hnc47 := NB340_339.out; have hcz48_0 : wr.cell? ⟨gb339, 0, none⟩ = some (.slice A0_0 l0_0.length c0_0) := (blk_cell BK339.out 0).trans rfl; have hfz48_0 := blk_frozen BK339.out 0) | (go_at_call 67; (with_reducible refine (value_Fits.calls k2 _ _ l0_0 a1 (rdOf ByteArray.empty l2_2 x55_2) true _ ?side1 ?side2 ?side3 A45.out).mono ?_); (case side1 => exact zc (Kd.C_below HR0_0.out (zl2 HB.out GE339.out GE340.out))); (case side2 => exact HC0_0.out); (case side3 => exact GL.below HG.out (zl2 HB.out GE339.out GE340.out)); rintro e w49 ⟨rfl, hb⟩; have n0_ := am (zbb BK339.out hb); have n1_ := am (zbb BK340.out hb); have n2_ := am (below_step (zl2 HB.out GE339.out GE340.out) hb); clear BK339 BK340 HB; have BK339 := n0_; have BK340 := n1_; have HB := n2_; clear n0_ n1_ n2_; (try clear hb); (try clear hb2); (try clear hk); (try clear hi)))
           repeat (go_quiet (first | (go_at_call 66; (with_reducible refine (value_Null.calls  t349 _ A43.out).mono ?_); rintro e w' ⟨rfl, ⟨nd, rfl⟩⟩; (try exact zd); have hnb47 := NB339_340.out; have hnc47 := NB340_339.out; have hcz48_0 : wr.cell? ⟨gb339, 0, none⟩ = some (.slice A0_0 l0_0.length c0_0) := (blk_cell BK339.out 0).trans rfl; have hfz48_0 := blk_frozen BK339.out 0) | (go_at_call 67; (with_reducible refine (value_Fits.calls k2 _ _ l0_0 a1 (rdOf ByteArray.empty l2_2 x55_2) true _ ?side1 ?side2 ?side3 A45.out).mono ?_); (case side1 => exact zc (Kd.C_below HR0_0.out (zl2 HB.out GE339.out GE340.out))); (case side2 => exact HC0_0.out); (case side3 => exact GL.below HG.out (zl2 HB.out GE339.out GE340.out)); rintro e w49 ⟨rfl, hb⟩; have n0_ := am (zbb BK339.out hb); have n1_ := am (zbb BK340.out hb); have n2_ := am (below_step (zl2 HB.out GE339.out GE340.out) hb); clear BK339 BK340 HB; have BK339 := n0_; have BK340 := n1_; have HB := n2_; clear n0_ n1_ n2_; (try clear hb); (try clear hb2); (try clear hk); (try clear hi))); try go_wp2_with (first | (go_at_call 66; (with_reducible refine (value_Null.calls  t349 _ A43.out).mono ?_); rintro e w' ⟨rfl, ⟨nd, rfl⟩⟩; (try exact zd); have hnb47 := NB339_340.out; have hnc47 := NB340_339.out; have hcz48_0 : wr.cell? ⟨gb339, 0, none⟩ = some (.slice A0_0 l0_0.length c0_0) := (blk_cell BK339.out 0).trans rfl; have hfz48_0 := blk_frozen BK339.out 0) | (go_at_call 67; (with_reducible refine (value_Fits.calls k2 _ _ l0_0 a1 (rdOf ByteArray.empty l2_2 x55_2) true _ ?side1 ?side2 ?side3 A45.out).mono ?_); (case side1 => exact zc (Kd.C_below HR0_0.out (zl2 HB.out GE339.out GE340.out))); (case side2 => exact HC0_0.out); (case side3 => exact GL.below HG.out (zl2 HB.out GE339.out GE340.out)); rintro e w49 ⟨rfl, hb⟩; have n0_ := am (zbb BK339.out hb); have n1_ := am (zbb BK340.out hb); have n2_ := am (below_step (zl2 HB.out GE339.out GE340.out) hb); clear BK339 BK340 HB; have BK339 := n0_; have BK340 := n1_; have HB := n2_; clear n0_ n1_ n2_; (try clear hb); (try clear hb2); (try clear hk); (try clear hi))))
           go_roundg k2
           case measure => have := HJ4.out; have := HK2.out; omega
           case rel => exact ⟨(wrap64 (x55_2 + 1)), zs, H', ⟨by have := HJ4.out; have := HK2.out; omega⟩, ⟨by refine zb ?_; exact BK339.out⟩, ⟨by refine zb ?_; exact BK340.out⟩, ⟨zl2 HB.out GE339.out GE340.out⟩⟩
          ·
           replace c46 := Bool.eq_false_iff.mpr c46
           subst c46
           rw [if_neg (show ¬ (false = true) by decide)] at H
           obtain rfl := Option.some.inj H
           have p348 : 0 ≤ (x55_2 : Int) := of_decide_eq_true za
           have q348 : x55_2 < (l2_2.length : Int) := of_decide_eq_true za
           obtain ⟨ad348, e348, hx348_0⟩ := Kd.at_string HR2_2.out x55_2 p348 q348
           cases e348
           replace hx348_0 := zq HB.out hx348_0
           replace p348 := eq_true p348
           replace q348 := eq_true q348
           go_wp2_with (first | (go_at_call 66; (with_reducible refine (value_Null.calls  t349 _ A43.out).mono ?_); rintro e w' ⟨rfl, ⟨nd, rfl⟩⟩; (try exact zd); have hnb50 := NB339_340.out; have hnc50 := NB340_339.out; have hcz51_0 : wr.cell? ⟨gb339, 0, none⟩ = some (.slice A0_0 l0_0.length c0_0) := (blk_cell BK339.out 0).trans rfl; have hfz51_0 := blk_frozen BK339.out 0) | (go_at_call 67; (with_reducible refine (value_Fits.calls k2 _ _ l0_0 a1 (rdOf ByteArray.empty l2_2 x55_2) false _ ?side1 ?side2 ?side3 A45.out).mono ?_); (case side1 => exact zc (Kd.C_below HR0_0.out (zl2 HB.out GE339.out GE340.out))); (case side2 => exact HC0_0.out); (case side3 => exact GL.below HG.out (zl2 HB.out GE339.out GE340.out)); rintro e w52 ⟨rfl, hb⟩; have n0_ := am (zbb BK339.out hb); have n1_ := am (zbb BK340.out hb); have n2_ := am (below_step (zl2 HB.out GE339.out GE340.out) hb); clear BK339 BK340 HB; have BK339 := n0_; have BK340 := n1_; have HB := n2_; clear n0_ n1_ n2_; (try clear hb); (try clear hb2); (try clear hk); (try clear hi)))
           repeat (go_quiet (first | (go_at_call 66; (with_reducible refine (value_Null.calls  t349 _ A43.out).mono ?_); rintro e w' ⟨rfl, ⟨nd, rfl⟩⟩; (try exact zd); have hnb50 := NB339_340.out; have hnc50 := NB340_339.out; have hcz51_0 : wr.cell? ⟨gb339, 0, none⟩ = some (.slice A0_0 l0_0.length c0_0) := (blk_cell BK339.out 0).trans rfl; have hfz51_0 := blk_frozen BK339.out 0) | (go_at_call 67; (with_reducible refine (value_Fits.calls k2 _ _ l0_0 a1 (rdOf ByteArray.empty l2_2 x55_2) false _ ?side1 ?side2 ?side3 A45.out).mono ?_); (case side1 => exact zc (Kd.C_below HR0_0.out (zl2 HB.out GE339.out GE340.out))); (case side2 => exact HC0_0.out); (case side3 => exact GL.below HG.out (zl2 HB.out GE339.out GE340.out)); rintro e w52 ⟨rfl, hb⟩; have n0_ := am (zbb BK339.out hb); have n1_ := am (zbb BK340.out hb); have n2_ := am (below_step (zl2 HB.out GE339.out GE340.out) hb); clear BK339 BK340 HB; have BK339 := n0_; have BK340 := n1_; have HB := n2_; clear n0_ n1_ n2_; (try clear hb); (try clear hb2); (try clear hk); (try clear hi))); try go_wp2_with (first | (go_at_call 66; (with_reducible refine (value_Null.calls  t349 _ A43.out).mono ?_); rintro e w' ⟨rfl, ⟨nd, rfl⟩⟩; (try exact zd); have hnb50 := NB339_340.out; have hnc50 := NB340_339.out; have hcz51_0 : wr.cell? ⟨gb339, 0, none⟩ = some (.slice A0_0 l0_0.length c0_0) := (blk_cell BK339.out 0).trans rfl; have hfz51_0 := blk_frozen BK339.out 0) | (go_at_call 67; (with_reducible refine (value_Fits.calls k2 _ _ l0_0 a1 (rdOf ByteArray.empty l2_2 x55_2) false _ ?side1 ?side2 ?side3 A45.out).mono ?_); (case side1 => exact zc (Kd.C_below HR0_0.out (zl2 HB.out GE339.out GE340.out))); (case side2 => exact HC0_0.out); (case side3 => exact GL.below HG.out (zl2 HB.out GE339.out GE340.out)); rintro e w52 ⟨rfl, hb⟩; have n0_ := am (zbb BK339.out hb); have n1_ := am (zbb BK340.out hb); have n2_ := am (below_step (zl2 HB.out GE339.out GE340.out) hb); clear BK339 BK340 HB; have BK339 := n0_; have BK340 := n1_; have HB := n2_; clear n0_ n1_ n2_; (try clear hb); (try clear hb2); (try clear hk); (try clear hi))))
           go_ret
           exact ⟨ze, zl2 HB.out GE339.out GE340.out⟩
        ·
         rw [if_neg c42] at H
         exact absurd H (by simp)
       ·
        rw [if_neg c41] at H
        exact absurd H (by simp)
      ·
       rw [if_neg c40] at H
       have c40b0 := decide_eq_false c40
       clear c40
       replace H := zo H
       obtain ⟨t347, A530, H⟩ := H
       (try dsimp only at H)
       have A53 := am A530
       clear A530
       obtain rfl := Option.some.inj H
       have hnb54 := NB340_339.out
       have hnc54 := NB339_340.out
       have hcz55_0 : wr.cell? ⟨gb340, 0, none⟩ = some (.slice A2_0 l2_0.length c2_0) := (blk_cell BK340.out 0).trans rfl
       have hcz55_1 : wr.cell? ⟨gb340, 1, none⟩ = some (.slice A2_1 l2_1.length c2_1) := (blk_cell BK340.out 1).trans rfl
       have hcz55_2 : wr.cell? ⟨gb340, 2, none⟩ = some (.slice A2_2 l2_2.length c2_2) := (blk_cell BK340.out 2).trans rfl
       have hfz55_0 := blk_frozen BK340.out 0
       have hfz55_1 := blk_frozen BK340.out 1
       have hfz55_2 := blk_frozen BK340.out 2
       go_wp2_with (first | (go_at_call 48; (with_reducible refine (page_there.calls k2 _ _ l2_1 t342 t347 _ ?side1 ?side2 A53.out).mono ?_); (case side1 => exact zc (Kd.C_below HR2_1.out HB.out)); (case side2 => exact HC2_1.out); rintro e w' ⟨rfl, ⟨nd, rfl⟩⟩; (try exact zd)))
       repeat (go_quiet (first | (go_at_call 48; (with_reducible refine (page_there.calls k2 _ _ l2_1 t342 t347 _ ?side1 ?side2 A53.out).mono ?_); (case side1 => exact zc (Kd.C_below HR2_1.out HB.out)); (case side2 => exact HC2_1.out); rintro e w' ⟨rfl, ⟨nd, rfl⟩⟩; (try exact zd))); try go_wp2_with (first | (go_at_call 48; (with_reducible refine (page_there.calls k2 _ _ l2_1 t342 t347 _ ?side1 ?side2 A53.out).mono ?_); (case side1 => exact zc (Kd.C_below HR2_1.out HB.out)); (case side2 => exact HC2_1.out); rintro e w' ⟨rfl, ⟨nd, rfl⟩⟩; (try exact zd))))
       go_ret
       exact ⟨ze, zl2 HB.out GE339.out GE340.out⟩

end Go.Proofs.YtkcmkedboflklaaGreatDoor.Q
namespace Go.Proofs.YtkcmkedboflklaaGreatDoor.Q
open Go.RowKit Go.Proofs.YtkcmkedboflklaaGreatDoorW.PrintWords Go.Proofs.YtkcmkedboflklaaGreatDoorW.PrintLast Go.Proofs.YtkcmkedboflklaaGreatDoorW.PrintMore
/-- What a value that fits says. -/
def FitOK (t : List S24) (a : Int) (v : ByteArray) : Prop := ∃ kind parts, T (fun k => value_Parts.f k v) (kind, parts, 0) ∧ PartsOK v kind parts ∧ v.size ≤ 65536 ∧ (kind = -1 ∨ kind = (rd_T24 t a).f0)
theorem FitsL0_T (t : List S24) (kind : Int) (parts : List ByteArray) (ks : List Int) (hp : parts.length ≤ 200001) (h1 : kind = 3 → 0 < ks.length)
    (hkid : ∀ kid ∈ ks, ∀ v : ByteArray, ∃ b, T (fun k => value_Fits_1.f k kid v t) b) :
    ∀ n i : Nat, i + n = parts.length → ∃ b, T (fun k => value_Fits.l0 k kind parts ks parts (parts.length : Int) (i : Int) t) b := by
  intro n
  induction n with
  | zero =>
    intro i hi
    refine ⟨decide ((parts.length : Int) ≤ 64), T.succ ?_⟩
    simp only [value_Fits.l0]
    exact T.ite' (by omega) (T.pure _)
  | succ n ih2 =>
    intro i hi
    have hw : wrap64 ((i : Int) + 1) = ((i + 1 : Nat) : Int) := by rw [wrap64_id (by omega) (by omega)]; omega
    obtain ⟨b, hb2⟩ := ih2 (i + 1) (by omega)
    by_cases k3' : kind = 3
    · have h00 : 0 < ks.length := h1 k3'
      obtain ⟨c, hc⟩ := hkid ks[0] (List.getElem_mem h00) (rdOf ByteArray.empty parts (i : Int))
      have hr0 : rd ks 0 = ks[0] := rd_get ks 0 h00
      cases c with
      | false =>
        refine ⟨false, T.succ ?_⟩
        simp only [value_Fits.l0]
        rw [hr0]
        exact T.ite (by omega) (T.ite (by omega) (T.ite (by omega) (T.ite k3' (T.ite (by omega) (T.bind hc (T.ite' (by simp) (T.pure _)))))))
      | true =>
        refine ⟨b, T.succ ?_⟩
        simp only [value_Fits.l0]
        rw [hr0, hw]
        exact T.ite (by omega) (T.ite (by omega) (T.ite (by omega) (T.ite k3' (T.ite (by omega) (T.bind hc (T.ite rfl hb2))))))
    · refine ⟨b, T.succ ?_⟩
      simp only [value_Fits.l0]
      rw [hw]
      exact T.ite (by omega) (T.ite (by omega) (T.ite (by omega) (T.ite' k3' hb2)))
theorem FitsAll_T (t : List S24) (parts : List ByteArray) (ks : List Int) (hp : parts.length ≤ 200001)
    (hkid : ∀ kid ∈ ks, ∀ v : ByteArray, ∃ b, T (fun k => value_Fits_1.f k kid v t) b) :
    ∀ n i : Nat, (i : Int) + n = mn (ks.length : Int) (parts.length : Int) → ∃ b, T (fun k => value_all_int_string.l0 k ks parts (mn (ks.length : Int) (parts.length : Int)) (i : Int) t) b := by
  have hmn : mn (ks.length : Int) (parts.length : Int) ≤ ks.length ∧ mn (ks.length : Int) (parts.length : Int) ≤ parts.length := by unfold mn; omega
  intro n
  induction n with
  | zero =>
    intro i hi
    refine ⟨((ks.length : Int) == (parts.length : Int)), T.succ ?_⟩
    simp only [value_all_int_string.l0]
    exact T.ite' (by omega) (T.pure _)
  | succ n ih2 =>
    intro i hi
    have hi1 : i < ks.length := by omega
    obtain ⟨b, hb⟩ := hkid ks[i] (List.getElem_mem hi1) (rdOf ByteArray.empty parts (i : Int))
    cases b with
    | false =>
      refine ⟨false, T.succ ?_⟩
      simp only [value_all_int_string.l0]
      rw [rd_get ks i hi1]
      exact T.ite (by omega) (T.ite (by omega) (T.ite (by omega) (T.ite (by omega) (T.bind hb (T.ite' (by simp) (T.pure _))))))
    | true =>
      obtain ⟨b, hb2⟩ := ih2 (i + 1) (by omega)
      refine ⟨b, T.succ ?_⟩
      simp only [value_all_int_string.l0]
      rw [rd_get ks i hi1, show wrap64 ((i : Int) + 1) = ((i + 1 : Nat) : Int) by rw [wrap64_id (by omega) (by omega)]; omega]
      exact T.ite (by omega) (T.ite (by omega) (T.ite (by omega) (T.ite (by omega) (T.bind hb (T.ite rfl hb2)))))
set_option maxHeartbeats 1000000 in
theorem Fits_T (t : List S24) : ∀ m : Nat, ∀ (a : Int) (v : ByteArray), (t.length : Int) - a ≤ m → ∃ b, T (fun k => value_Fits.f k t a v) b ∧ (b = true → FitOK t a v) := by
  intro m
  induction m with
  | zero =>
    intro a v hm
    obtain ⟨b, b1, b2⟩ := Node_T t a
    cases b with
    | false =>
      refine ⟨false, T.succ ?_, fun h => (by cases h)⟩
      simp only [value_Fits.f]
      exact T.bind b1 (T.ite' (by simp) (T.pure _))
    | true => have := b2 rfl; omega
  | succ m ih =>
    intro a v hm
    obtain ⟨b, b1, b2⟩ := Node_T t a
    cases b with
    | false =>
      refine ⟨false, T.succ ?_, fun h => (by cases h)⟩
      simp only [value_Fits.f]
      exact T.bind b1 (T.ite' (by simp) (T.pure _))
    | true =>
      obtain ⟨ht, h0, h1⟩ := b2 rfl
      obtain ⟨kind, parts, e, p1, p2⟩ := Parts_T v
      obtain ⟨ks, k1, k2, k3⟩ := Kids_T t a ht h0 h1 b1
      have hkid : ∀ (kid : Int) (v : ByteArray), a < kid → ∃ b, T (fun k => value_Fits_1.f k kid v t) b := by
        intro kid v hk
        obtain ⟨b, h2, h3⟩ := ih kid v (by omega)
        refine ⟨b, T.succ ?_⟩
        simp only [value_Fits_1.f]
        exact T.bind h2 (T.pure _)
      -- the way through j0
      have hj : ∀ x36 : Bool, (x36 = false → e = 0) → (x36 = true → e = 0 → kind = -1) → ∃ b, T (fun k => value_Fits.j0 k a kind parts e x36 t (rd_T24 t a).f0 (rd_T24 t a).f1 (rd_T24 t a).f2) b ∧ (b = true → e = 0 ∧ (kind = -1 ∨ kind = (rd_T24 t a).f0)) := by
        intro x36 hx hy
        cases x36 with
        | true =>
          by_cases he : e = 0
          · refine ⟨(rd_T24 t a).f2, T.succ ?_, fun _ => ⟨he, Or.inl (hy rfl he)⟩⟩
            simp only [value_Fits.j0]
            exact T.ite trivial (T.ite he (T.pure _))
          · refine ⟨false, T.succ ?_, fun h => (by cases h)⟩
            simp only [value_Fits.j0]
            exact T.ite trivial (T.ite' he (T.pure _))
        | false =>
          have he := hx rfl
          obtain ⟨⟨po0, po1, po2, po3, po4⟩, hv⟩ := p2 he
          by_cases hk : kind = (rd_T24 t a).f0
          · by_cases k2' : kind = 2
            · obtain ⟨x, x1, x2⟩ := po2 k2'
              refine ⟨decide (((rdOf ByteArray.empty parts 0).size : Int) ≤ 16), T.succ ?_, fun _ => ⟨he, Or.inr hk⟩⟩
              simp only [value_Fits.j0]
              exact T.ite' (by simp) (T.bind k1 (T.ite hk (T.ite k2' (T.ite (by rw [x1]; simp) (T.pure _)))))
            by_cases k4 : kind = 4
            · have hall := FitsAll_T t parts ks po4 (fun kid hm v => hkid kid v (k2 _ hm).1)
              obtain ⟨b, hb⟩ := hall (mn (ks.length : Int) (parts.length : Int)).toNat 0 (by
                have : 0 ≤ mn (ks.length : Int) (parts.length : Int) := by unfold mn; omega
                omega)
              refine ⟨b, T.succ ?_, fun _ => ⟨he, Or.inr hk⟩⟩
              simp only [value_Fits.j0]
              refine T.ite' (by simp) (T.bind k1 (T.ite hk (T.ite' k2' (T.ite k4 (T.bind (T.succ ?_) (T.pure _))))))
              simp only [value_all_int_string.f]
              exact hb
            · have hl0 := FitsL0_T t kind parts ks po4 (fun h => by have := k3 (hk ▸ h); omega) (fun kid hm v => hkid kid v (k2 _ hm).1)
              obtain ⟨b, hb⟩ := hl0 parts.length 0 (by omega)
              refine ⟨b, T.succ ?_, fun _ => ⟨he, Or.inr hk⟩⟩
              simp only [value_Fits.j0]
              exact T.ite' (by simp) (T.bind k1 (T.ite hk (T.ite' k2' (T.ite' k4 hb))))
          · refine ⟨false, T.succ ?_, fun h => (by cases h)⟩
            simp only [value_Fits.j0]
            exact T.ite' (by simp) (T.bind k1 (T.ite' hk (T.pure _)))
      by_cases he : e = 0
      · obtain ⟨b, c1, c2⟩ := hj (kind == -1) (fun _ => he) (fun h _ => by simpa using h)
        refine ⟨b, T.succ ?_, fun h => ?_⟩
        · simp only [value_Fits.f]
          exact T.bind b1 (T.ite rfl (T.bind p1 (T.ite h0 (T.ite h1 (T.ite he c1)))))
        · exact ⟨kind, parts, he ▸ p1, (p2 he).1, (p2 he).2, (c2 h).2⟩
      · obtain ⟨b, c1, c2⟩ := hj true (fun h => (by cases h)) (fun _ h => absurd h he)
        refine ⟨b, T.succ ?_, fun h => absurd (c2 h).1 he⟩
        simp only [value_Fits.f]
        exact T.bind b1 (T.ite rfl (T.bind p1 (T.ite h0 (T.ite h1 (T.ite' he c1)))))
theorem within_T (xs : List Int) (h : xs.length < 9223372036854775808) (m : Int) : ∃ b, T (fun k => page_within.f k xs m) b ∧ (b = true → ∀ x ∈ xs, 0 ≤ x ∧ x ≤ m) := by
  have main : ∀ n i : Nat, i + n = xs.length → (∀ x ∈ xs.take i, 0 ≤ x ∧ x ≤ m) → ∃ b, T (fun k => page_within.l0 k m xs (xs.length : Int) (i : Int)) b ∧ (b = true → ∀ x ∈ xs, 0 ≤ x ∧ x ≤ m) := by
    intro n
    induction n with
    | zero =>
      intro i hi hx
      refine ⟨true, T.succ ?_, fun _ => ?_⟩
      · simp only [page_within.l0]
        exact T.ite' (by omega) (T.pure _)
      · rwa [List.take_of_length_le (by omega)] at hx
    | succ n ih =>
      intro i hi hx
      have hi' : i < xs.length := by omega
      by_cases c1 : xs[i] < 0
      · refine ⟨false, T.succ ?_, fun h => (by cases h)⟩
        simp only [page_within.l0]
        rw [rd_get xs i hi']
        exact T.ite (by omega) (T.ite (by omega) (T.ite (by omega) (T.ite c1 (T.pure _))))
      by_cases c2 : xs[i] > m
      · refine ⟨false, T.succ ?_, fun h => (by cases h)⟩
        simp only [page_within.l0]
        rw [rd_get xs i hi']
        exact T.ite (by omega) (T.ite (by omega) (T.ite (by omega) (T.ite' c1 (T.ite c2 (T.pure _)))))
      obtain ⟨b, b1, b2⟩ := ih (i + 1) (by omega) (by
        intro x hx'
        rw [List.take_succ_eq_append_getElem hi'] at hx'
        rcases List.mem_append.1 hx' with h | h
        · exact hx x h
        · obtain rfl : x = xs[i] := by simpa using h
          omega)
      refine ⟨b, T.succ ?_, b2⟩
      simp only [page_within.l0]
      rw [rd_get xs i hi', show wrap64 ((i : Int) + 1) = ((i + 1 : Nat) : Int) by rw [wrap64_id (by omega) (by omega)]; omega]
      exact T.ite (by omega) (T.ite (by omega) (T.ite (by omega) (T.ite' c1 (T.ite' c2 b1))))
  exact main xs.length 0 (by omega) (by simp)
theorem there_T (xs : List Int) (h : xs.length < 9223372036854775808) (m : Int) : T (fun k => page_there.f k xs m) ((xs.count m : Nat) : Int) := by
  have main : ∀ n i : Nat, i + n = xs.length → ∀ c : Nat, c ≤ i → T (fun k => page_there.l0 k m (c : Int) xs (xs.length : Int) (i : Int)) ((c + (xs.drop i).count m : Nat) : Int) := by
    intro n
    induction n with
    | zero =>
      intro i hi c hc
      refine T.succ ?_
      simp only [page_there.l0]
      rw [List.drop_of_length_le (by omega)]
      exact T.ite' (by omega) (T.pure _)
    | succ n ih =>
      intro i hi c hc
      have hi' : i < xs.length := by omega
      refine T.succ ?_
      simp only [page_there.l0]
      rw [rd_get xs i hi', show wrap64 ((i : Int) + 1) = ((i + 1 : Nat) : Int) by rw [wrap64_id (by omega) (by omega)]; omega, show wrap64 ((c : Int) + 1) = ((c + 1 : Nat) : Int) by rw [wrap64_id (by omega) (by omega)]; omega]
      rw [List.drop_eq_getElem_cons hi', List.count_cons]
      refine T.ite (by omega) (T.ite (by omega) (T.ite (by omega) ?_))
      by_cases e : xs[i] = m
      · refine T.ite e (T.eq (ih (i + 1) (by omega) (c + 1) (by omega)) ?_)
        rw [if_pos (by simpa using e)]; omega
      · refine T.ite' e (T.eq (ih (i + 1) (by omega) c (by omega)) ?_)
        rw [if_neg (by simpa using e)]; omega
  have := main xs.length 0 (by omega) 0 (by omega)
  simpa [page_there.f] using this
/-- What a column that may be says. -/
structure ColOK (t : List S24) (leaf rep de : Int) (reps defs : List Int) (vals : List ByteArray) : Prop where
  len : reps.length = defs.length ∧ reps.length ≤ 4096
  rin : ∀ x ∈ reps, 0 ≤ x ∧ x ≤ rep
  din : ∀ x ∈ defs, 0 ≤ x ∧ x ≤ de
  vin : ∀ v ∈ vals, FitOK t leaf v ∧ ls v ≠ [110]
  many : vals.length = defs.count de
  kind : 0 ≤ (rd_T24 t leaf).f0 ∧ (rd_T24 t leaf).f0 ≤ 2
theorem PMay_T (t : List S24) (leaf : Int) (reps defs : List Int) (vals : List ByteArray) (hr : reps.length < 9223372036854775808) (hd : defs.length < 9223372036854775808) (hv : vals.length < 9223372036854775808) :
    ∃ rep de e b, T (fun k => types_Levels.f k t leaf) (rep, de, e) ∧ 0 ≤ rep ∧ rep ≤ 5 ∧ 0 ≤ de ∧ de ≤ 10 ∧ T (fun k => page_May.f k t leaf reps defs vals) b ∧ (b = true → ColOK t leaf rep de reps defs vals) := by
  obtain ⟨rep, de, e, l1, l2, l3, l4, l5⟩ := Levels_T t leaf
  obtain ⟨lf, f1, f2⟩ := Leaf_T t leaf
  have hj : T (fun k => page_May.j0 k leaf de true t reps defs vals) false := by
    refine T.succ ?_
    simp only [page_May.j0]
    exact T.ite trivial (T.pure _)
  suffices h : ∃ b, T (fun k => page_May.f k t leaf reps defs vals) b ∧ (b = true → ColOK t leaf rep de reps defs vals) by
    obtain ⟨b, b1, b2⟩ := h
    exact ⟨rep, de, e, b, l1, l2, l3, l4, l5, b1, b2⟩
  unfold page_May.f
  cases lf with
  | false => exact ⟨false, T.bind l1 (T.bind f1 (T.ite' (by simp) hj)), fun h => (by cases h)⟩
  | true =>
    by_cases c1 : ¬ (reps.length : Int) = (defs.length : Int)
    · exact ⟨false, T.bind l1 (T.bind f1 (T.ite rfl (T.ite' c1 hj))), fun h => (by cases h)⟩
    have c1 := Decidable.not_not.1 c1
    by_cases c2 : (reps.length : Int) > 4096
    · exact ⟨false, T.bind l1 (T.bind f1 (T.ite rfl (T.ite c1 (T.ite c2 hj)))), fun h => (by cases h)⟩
    obtain ⟨a, a1, a2⟩ := within_T reps hr rep
    obtain ⟨d, d1, d2⟩ := within_T defs hd de
    cases a with
    | false => exact ⟨false, T.bind l1 (T.bind f1 (T.ite rfl (T.ite c1 (T.ite' c2 (T.bind a1 (T.ite' (by simp) hj)))))), fun h => (by cases h)⟩
    | true =>
      cases d with
      | false => exact ⟨false, T.bind l1 (T.bind f1 (T.ite rfl (T.ite c1 (T.ite' c2 (T.bind a1 (T.ite rfl (T.bind d1 hj))))))), fun h => (by cases h)⟩
      | true =>
        have hl : ∀ n i : Nat, i + n = vals.length → (∀ v ∈ vals.take i, FitOK t leaf v ∧ ls v ≠ [110]) →
            ∃ b, T (fun k => page_May.l0 k leaf de vals (vals.length : Int) (i : Int) t reps defs vals) b ∧ (b = true → (∀ v ∈ vals, FitOK t leaf v ∧ ls v ≠ [110]) ∧ vals.length = defs.count de) := by
          intro n
          induction n with
          | zero =>
            intro i hi hx
            refine ⟨((vals.length : Int) == ((defs.count de : Nat) : Int)), T.succ ?_, fun h => ⟨?_, ?_⟩⟩
            · simp only [page_May.l0]
              exact T.ite' (by omega) (T.bind (there_T defs hd de) (T.pure _))
            · rwa [List.take_of_length_le (by omega)] at hx
            · have := eq_of_beq h
              omega
          | succ n ih =>
            intro i hi hx
            have hi' : i < vals.length := by omega
            by_cases hnull : (vals[i]).toList = (⟨#[110]⟩ : ByteArray).toList
            · refine ⟨false, T.succ ?_, fun h => (by cases h)⟩
              simp only [page_May.l0]
              rw [rdOf_get _ vals i hi']
              exact T.ite (by omega) (T.ite (by omega) (T.ite (by omega) (T.cbind (a := (⟨#[110]⟩ : ByteArray)) rfl (T.ite hnull (T.pure _)))))
            obtain ⟨b, b1, b2⟩ := Fits_T t ((t.length : Int) - leaf).toNat leaf vals[i] (by omega)
            cases b with
            | false =>
              refine ⟨false, T.succ ?_, fun h => (by cases h)⟩
              simp only [page_May.l0]
              rw [rdOf_get _ vals i hi']
              exact T.ite (by omega) (T.ite (by omega) (T.ite (by omega) (T.cbind (a := (⟨#[110]⟩ : ByteArray)) rfl (T.ite' hnull (T.bind b1 (T.ite' (by simp) (T.pure _)))))))
            | true =>
              obtain ⟨c, e1, e2⟩ := ih (i + 1) (by omega) (by
                intro v hv'
                rw [List.take_succ_eq_append_getElem hi'] at hv'
                rcases List.mem_append.1 hv' with h | h
                · exact hx v h
                · obtain rfl : v = vals[i] := by simpa using h
                  refine ⟨b2 rfl, fun h => hnull ?_⟩
                  rw [toList_ls, h, toList_ls])
              refine ⟨c, T.succ ?_, e2⟩
              simp only [page_May.l0]
              rw [rdOf_get _ vals i hi', show wrap64 ((i : Int) + 1) = ((i + 1 : Nat) : Int) by rw [wrap64_id (by omega) (by omega)]; omega]
              exact T.ite (by omega) (T.ite (by omega) (T.ite (by omega) (T.cbind (a := (⟨#[110]⟩ : ByteArray)) rfl (T.ite' hnull (T.bind b1 (T.ite rfl e1))))))
        obtain ⟨b, b1, b2⟩ := hl vals.length 0 (by omega) (by simp)
        obtain ⟨x1, x2, x3, x4⟩ := f2 rfl
        refine ⟨b, T.bind l1 (T.bind f1 (T.ite rfl (T.ite c1 (T.ite' c2 (T.bind a1 (T.ite rfl (T.bind d1 (T.succ ?_)))))))), fun h => ⟨⟨by omega, by omega⟩, a2 rfl, d2 rfl, (b2 h).1, (b2 h).2, x4⟩⟩
        simp only [page_May.j0]
        exact T.ite' (by simp) b1
end Go.Proofs.YtkcmkedboflklaaGreatDoor.Q
namespace Go.Proofs.YtkcmkedboflklaaGreatDoor.Q
open Go.RowKit Go.Proofs.YtkcmkedboflklaaGreatDoorW.PrintWords Go.Proofs.YtkcmkedboflklaaGreatDoorW.PrintLast Go.Proofs.YtkcmkedboflklaaGreatDoorW.PrintMore
attribute [local go_sem] max2_int min2_int max_two min_two max_three min_three max_four min_four
set_option linter.unusedVariables false
set_option linter.unusedSimpArgs false
set_option maxHeartbeats 8000000
set_option maxRecDepth 100000

-- GIVEN math/bits.Len name=bits_Len rounds=0 g=0
-- IMPORT Derived.Test.YtkcmkedboflklaaGreatDoorShelf
/-! math/bits.Len by the shelf's contract. -/
def bits_Len.f (a0 : Int) : Option Int := if 0 ≤ a0 ∧ a0 ≤ 18446744073709551615 then some (Lib.bitLen a0.toNat : Int) else none
theorem bits_Len.calls (a0 : Int) (r : Int) (w : World) (h : bits_Len.f a0 = some r) :
    Calls Tryz.prog 47 #[.int .u64 a0] w fun e w' => e = .returned (.int .i64 r) ∧ Below w.heap.size w w' := by
  unfold bits_Len.f at h
  split at h
  · rename_i h1
    injection h with h
    subst h
    refine (Go.Proofs.Tryz.bits_Len a0 w h1.1 h1.2).mono ?_
    rintro e w' ⟨rfl, rfl⟩
    exact ⟨rfl, Below.refl _ _⟩
  · cases h

end Go.Proofs.YtkcmkedboflklaaGreatDoor.Q
