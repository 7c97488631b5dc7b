/- Steps towards: PageUnlike: unlike columns have unlike pages, for every type, every leaf and every two columns; no condition beside the row's own (the library's listed variables hold what the program's text lays). -/
import Derived.Lib.BitFns
import Derived.Test.YtkcmkedboflklaaGreatDoorA2
import Derived.Test.YtkcmkedboflklaaGreatDoorA4
import Derived.Test.YtkcmkedboflklaaGreatDoorA12
import Derived.Test.YtkcmkedboflklaaGreatDoorA7
import Derived.Test.YtkcmkedboflklaaGreatDoorA13
namespace Go.Proofs.YtkcmkedboflklaaGreatDoor.Q
open Go.RowKit Go.Proofs.YtkcmkedboflklaaGreatDoorW.PrintWords Go.Proofs.YtkcmkedboflklaaGreatDoorW.PrintLast Go.Proofs.YtkcmkedboflklaaGreatDoorW.PrintMore
attribute [local go_sem] max2_int min2_int max_two min_two max_three min_three max_four min_four
set_option linter.unusedVariables false
set_option linter.unusedSimpArgs false
set_option maxHeartbeats 8000000
set_option maxRecDepth 100000

mutual
def page_Put.l0 : Nat → ByteArray → ByteArray → List Int → Int → Int → List Int → List Int → List ByteArray → ByteArray → Option (ByteArray × Int)
 | 0, _, _, _, _, _, _, _, _, _ => none
 | k + 1, x11, x12, x45, x46, x47, x439000, x439001, x439002, x446000 => if x47 < x46 then (if 0 ≤ x47 then (if x47 < (x45.length : Int) then ((num_Word.f k (rd x45 x47) 4).bind fun t450 => ((Builder_WriteString.f x446000 t450).bind fun bt451 => (page_Put.l0 k x11 x12 x45 x46 (wrap64 (x47 + 1)) x439000 x439001 x439002 bt451.2.2))) else (none)) else (none)) else (if x11.size + x12.size ≤ 9223372036854775807 then ((Builder_WriteString.f x446000 (x11 ++ x12)).bind fun bt454 => (page_Put.l1 k x439002 (x439002.length : Int) 0 bt454.2.2)) else (none))
def page_Put.l1 : Nat → List ByteArray → Int → Int → ByteArray → Option (ByteArray × Int)
 | 0, _, _, _, _ => none
 | k + 1, x60, x61, x62, x446000 => if x62 < x61 then (if 0 ≤ x62 then (if x62 < (x60.length : Int) then ((page_bytes.f k (rdOf ByteArray.empty x60 x62)).bind fun t458 => ((Builder_WriteString.f x446000 t458).bind fun bt459 => (page_Put.l1 k x60 x61 (wrap64 (x62 + 1)) bt459.2.2))) else (none)) else (none)) else ((Builder_String.f x446000).bind fun bt462 => ((crc_Sum.f k bt462.1).bind fun t464 => ((num_Word.f k t464 4).bind fun t465 => ((Builder_String.f bt462.2).bind fun bt466 => (if t465.size + bt466.1.size ≤ 9223372036854775807 then (some (t465 ++ bt466.1, 0)) else (none))))))
end
def page_Put.f (k : Nat) (l0_0 : List (S24)) (a1 : Int) (l2_0 : List Int) (l2_1 : List Int) (l2_2 : List ByteArray) : Option (ByteArray × Int) := (page_May.f k l0_0 a1 l2_0 l2_1 l2_2).bind fun t439 => (if t439 = true then ((types_Levels.f k l0_0 a1).bind fun bt440 => ((page_levels.f k l2_0 bt440.1).bind fun t443 => ((page_levels.f k l2_1 bt440.2.1).bind fun t444 => ((some (([(l2_0.length : Int), (t443.size : Int), (t444.size : Int)] : List Int) : List Int)).bind fun y446 => (page_Put.l0 k t443 t444 y446 (y446.length : Int) 0 l2_0 l2_1 l2_2 (⟨#[]⟩ : ByteArray)))))) else (some ((⟨#[]⟩ : ByteArray), 2200)))
def page_Put.T4 : Bool × List (List Nat × List Nat) := (true, [([], []), ([0], [0]), ([], []), ([1, 2], [1, 2]), ([], []), ([4], [4]), ([], []), ([5, 6, 3], [5, 6]), ([3, 7, 0, 1, 2, 3], [3]), ([7, 8, 0, 1, 2, 3, 4, 5, 6, 7, 8], [7])])
def page_Put.B4 : List Nat := [0, 1, 0, 7, 0, 16, 0, 127, 255, 511]
theorem page_Put.tab4 : rtab .any (opsOf Tryz.f14 4) = page_Put.T4 := by kernel_rfl
theorem page_Put.bits4 : waitsOk page_Put.T4.2 page_Put.B4 = true := by kernel_rfl
theorem page_Put.calls (k : Nat) (A0_0 : Option Addr) (c0_0 : Nat) (l0_0 : List (S24)) (a1 : Int) (A2_0 : Option Addr) (c2_0 : Nat) (l2_0 : List Int) (A2_1 : Option Addr) (c2_1 : Nat) (l2_1 : List Int) (A2_2 : Option Addr) (c2_2 : Nat) (l2_2 : List ByteArray) (r1 : ByteArray) (r2 : Int) (w : World) (hr0_0 : Kd.C k24 w A0_0 l0_0.length l0_0) (hc0_0 : l0_0.length ≤ c0_0) (hr2_0 : Kd.C (Kd.int .i64) w A2_0 l2_0.length l2_0) (hc2_0 : l2_0.length ≤ c2_0) (hr2_1 : Kd.C (Kd.int .i64) w A2_1 l2_1.length l2_1) (hc2_1 : l2_1.length ≤ c2_1) (hr2_2 : Kd.C Kd.string w A2_2 l2_2.length l2_2) (hc2_2 : l2_2.length ≤ c2_2) (hG : GL w) (h : page_Put.f k l0_0 a1 l2_0 l2_1 l2_2 = some (r1, r2)) :
  Calls Tryz.prog 14 #[.agg #[.slice A0_0 l0_0.length c0_0], .int .i64 a1, .agg #[.slice A2_0 l2_0.length c2_0, .slice A2_1 l2_1.length c2_1, .slice A2_2 l2_2.length c2_2]] w fun e w' => e = .returned (.tuple #[.string r1, .int .i64 r2]) ∧ Below w.heap.size w w' := by
 have hu27 := Tryz.underlying27
 have hu31 := Tryz.underlying31
 have hu73 := Tryz.underlying73
 have HR0_0 := am hr0_0
 have HC0_0 := am hc0_0
 clear hr0_0 hc0_0
 have HR2_0 := am hr2_0
 have HC2_0 := am hc2_0
 clear hr2_0 hc2_0
 have HR2_1 := am hr2_1
 have HC2_1 := am hc2_1
 clear hr2_1 hc2_1
 have HR2_2 := am hr2_2
 have HC2_2 := am hc2_2
 clear hr2_2 hc2_2
 have HB := am (Below.refl w.heap.size w)
 have HG := am hG
 clear hG
 have H : ((page_May.f k l0_0 a1 l2_0 l2_1 l2_2).bind fun t439 => (if t439 = true then ((types_Levels.f k l0_0 a1).bind fun bt440 => ((page_levels.f k l2_0 bt440.1).bind fun t443 => ((page_levels.f k l2_1 bt440.2.1).bind fun t444 => ((some (([(l2_0.length : Int), (t443.size : Int), (t444.size : Int)] : List Int) : List Int)).bind fun y446 => (page_Put.l0 k t443 t444 y446 (y446.length : Int) 0 l2_0 l2_1 l2_2 (⟨#[]⟩ : ByteArray)))))) else (some ((⟨#[]⟩ : ByteArray), 2200)))) = some (r1, r2) := h
 clear h
 replace H := zo H
 obtain ⟨t439, A40, H⟩ := H
 (try dsimp only at H)
 have A4 := am A40
 clear A40
 by_cases c5 : t439 = true
 ·
  subst c5
  rw [if_pos rfl] at H
  replace H := zo H
  obtain ⟨⟨t440, t441, t442⟩, A60, H⟩ := H
  (try dsimp only at H)
  have A6 := am A60
  clear A60
  replace H := zo H
  obtain ⟨t443, A70, H⟩ := H
  (try dsimp only at H)
  have A7 := am A70
  clear A70
  replace H := zo H
  obtain ⟨t444, A80, H⟩ := H
  (try dsimp only at H)
  have A8 := am A80
  clear A80
  obtain ⟨y446, hy446⟩ : ∃ y_ : List Int, y_ = (([(l2_0.length : Int), (t443.size : Int), (t444.size : Int)] : List Int)) := ⟨_, rfl⟩
  replace H : (page_Put.l0 k t443 t444 y446 (y446.length : Int) 0 l2_0 l2_1 l2_2 (⟨#[]⟩ : ByteArray)) = some (r1, r2) := by first | (rw [hy446]; with_reducible exact H) | (have H2_ := (Option.bind_some _ _).symm.trans H; rw [hy446]; with_reducible exact H2_) | (have H2_ := (Option.bind_some _ _).symm.trans H; with_reducible exact H2_) | with_reducible exact H | (rw [hy446]; exact H) | exact H
  have Ny446 := am hy446
  clear hy446
  have H' := am H
  clear H
  go_enter Tryz.func14, Tryz.ntmps14
  try go_wp2_with (first | ((with_reducible refine gate_dst (N := 3) rfl ?_); refine box_event ?hg (N := 3) ?hd (cs := #[.slice A0_0 l0_0.length c0_0]) (t := 27) ?hr ?_; (case hd => rfl); (case hg => rfl); (case hr => exact zh); intro gb437 hg w9 hbox hb; have n0_ := am (below_step (zl HB.out) hb); have n1_ := am (hbox); have n2_ := am ((by rw [hg]; exact (below_size (zl HB.out)) : w.heap.size ≤ gb437)); have n3_ := am ((by rw [hg]; exact (below_size (zl HB.out)) : w.heap.size ≤ gb437)); clear HB; have HB := n0_; have BK437 := n1_; have GW437 := n2_; have GE437 := n3_; clear n0_ n1_ n2_ n3_; clear hb hbox hg) | ((with_reducible refine gate_dst (N := 5) rfl ?_); refine box_event ?hg (N := 5) ?hd (cs := #[.slice A2_0 l2_0.length c2_0, .slice A2_1 l2_1.length c2_1, .slice A2_2 l2_2.length c2_2]) (t := 31) ?hr ?_; (case hd => rfl); (case hg => rfl); (case hr => exact zh); intro gb438 hg w10 hbox hb; have n0_ := am (zbb BK437.out hb); have n1_ := am (below_step (zl1 HB.out GE437.out) hb); have n2_ := am (hbox); have n3_ := am ((by rw [hg]; exact (below_size (zl1 HB.out GE437.out)) : w.heap.size ≤ gb438)); have n4_ := am ((by rw [hg]; exact (below_size (zl1 HB.out GE437.out)) : w.heap.size ≤ gb438)); have n5_ := am ((by rw [hg]; exact Nat.ne_of_lt (blk_lt (g := gb437) (o := .cells #[.slice A0_0 l0_0.length c0_0] 27 (0, 0)) (zb BK437.out)) : gb437 ≠ gb438)); have n6_ := am ((by rw [hg]; exact Nat.ne_of_gt (blk_lt (g := gb437) (o := .cells #[.slice A0_0 l0_0.length c0_0] 27 (0, 0)) (zb BK437.out)) : gb438 ≠ gb437)); clear BK437 HB; have BK437 := n0_; have HB := n1_; have BK438 := n2_; have GW438 := n3_; have GE438 := n4_; have NB437_438 := n5_; have NB438_437 := n6_; clear n0_ n1_ n2_ n3_ n4_ n5_ n6_; clear hb hbox hg; have hnb11 := NB437_438.out; have hnc11 := NB438_437.out; have hcz12_0 : w10.cell? ⟨gb437, 0, none⟩ = some (.slice A0_0 l0_0.length c0_0) := (blk_cell BK437.out 0).trans rfl; have hfz12_0 := blk_frozen BK437.out 0; have hcz13_0 : w10.cell? ⟨gb438, 0, none⟩ = some (.slice A2_0 l2_0.length c2_0) := (blk_cell BK438.out 0).trans rfl; have hcz13_1 : w10.cell? ⟨gb438, 1, none⟩ = some (.slice A2_1 l2_1.length c2_1) := (blk_cell BK438.out 1).trans rfl; have hcz13_2 : w10.cell? ⟨gb438, 2, none⟩ = some (.slice A2_2 l2_2.length c2_2) := (blk_cell BK438.out 2).trans rfl; have hfz13_0 := blk_frozen BK438.out 0; have hfz13_1 := blk_frozen BK438.out 1; have hfz13_2 := blk_frozen BK438.out 2) | ((with_reducible refine gate_callee (f := 34) rfl ?_); refine goesL_ (some 21) rfl rfl Tryz.func34 (by kernel_rfl) rfl #[.agg #[.slice A0_0 l0_0.length c0_0], .int .i64 a1, .agg #[.slice A2_0 l2_0.length c2_0, .slice A2_1 l2_1.length c2_1, .slice A2_2 l2_2.length c2_2]] rfl zm ?_; (with_reducible refine (page_May.calls k _ _ l0_0 a1 _ _ l2_0 _ _ l2_1 _ _ l2_2 true _ ?side1 ?side2 ?side3 ?side4 ?side5 ?side6 ?side7 ?side8 ?side9 A4.out).mono ?_); (case side1 => exact zc (Kd.C_below HR0_0.out HB.out)); (case side2 => exact HC0_0.out); (case side3 => exact zc (Kd.C_below HR2_0.out HB.out)); (case side4 => exact HC2_0.out); (case side5 => exact zc (Kd.C_below HR2_1.out HB.out)); (case side6 => exact HC2_1.out); (case side7 => exact zc (Kd.C_below HR2_2.out HB.out)); (case side8 => exact HC2_2.out); (case side9 => exact GL.below HG.out (zl2 HB.out GE437.out GE438.out)); rintro e w14 ⟨rfl, hb⟩; refine ⟨_, rfl, ?_⟩; have n0_ := am (zbb BK437.out hb); have n1_ := am (zbb BK438.out hb); have n2_ := am (below_step (zl2 HB.out GE437.out GE438.out) hb); clear BK437 BK438 HB; have BK437 := n0_; have BK438 := n1_; have HB := n2_; clear n0_ n1_ n2_; (try clear hb); (try clear hb2); (try clear hk); (try clear hi); have hcz15_0 : w14.cell? ⟨gb437, 0, none⟩ = some (.slice A0_0 l0_0.length c0_0) := (blk_cell BK437.out 0).trans rfl; have hfz15_0 := blk_frozen BK437.out 0) | ((with_reducible refine gate_callee (f := 35) rfl ?_); refine goesL_ (some 26) rfl rfl Tryz.func35 (by kernel_rfl) rfl #[.agg #[.slice A0_0 l0_0.length c0_0], .int .i64 a1] rfl zm ?_; (with_reducible refine (types_Levels.calls k _ _ l0_0 a1 t440 t441 t442 _ ?side1 ?side2 A6.out).mono ?_); (case side1 => exact zc (Kd.C_below HR0_0.out HB.out)); (case side2 => exact HC0_0.out); rintro e w16 ⟨rfl, hb⟩; refine ⟨_, rfl, ?_⟩; have n0_ := am (zbb BK437.out hb); have n1_ := am (zbb BK438.out hb); have n2_ := am (below_step (zl2 HB.out GE437.out GE438.out) hb); clear BK437 BK438 HB; have BK437 := n0_; have BK438 := n1_; have HB := n2_; clear n0_ n1_ n2_; (try clear hb); (try clear hb2); (try clear hk); (try clear hi)))
  have n0_ := am (blk_drew BK437.out)
  have n1_ := am (blk_drew BK438.out)
  have n2_ := am (below_drew1 HB.out)
  clear BK437
  clear BK438
  clear HB
  have BK437 := n0_
  have BK438 := n1_
  have HB := n2_
  clear n0_ n1_ n2_
  refine start_ (n := 10) (S := fun w' => w'.cell? ⟨gb438, 0, none⟩ = some (.slice A2_0 l2_0.length c2_0) ∧ w'.cell? ⟨gb438, 1, none⟩ = some (.slice A2_1 l2_1.length c2_1) ∧ w'.cell? ⟨gb438, 2, none⟩ = some (.slice A2_2 l2_2.length c2_2)) (ds := []) #[false, false, false, false, false, false, false, false, false, false] (by kernel_rfl) rfl rfl ⟨(blk_cell BK438.out 0).trans rfl, (blk_cell BK438.out 1).trans rfl, (blk_cell BK438.out 2).trans rfl⟩ (fun hHeld => ?_); refine with_tabW page_Put.tab4 page_Put.bits4 (fun HT_ HW_ => ?_)
  generalize w16.drew = w17 at BK437 BK438 HB hHeld ⊢
  refine pure_ (i := 0) (N := some 30) (v := ?_) (a' := ?_) #[true, false, false, false, false, false, false, false, false, false] rfl rfl (any_of HT_.out (by kernel_rfl)) (fun _ _ _ h => h) (Or.inl ⟨by rfl, ?_⟩) ?_ ?_
  rotate_left
  ·
   intro w'
   go_simp
   with_reducible rfl
  rotate_left
  ·
   simp only [Act.put, List.setIfInBounds_toArray, List.set_cons_zero, List.set_cons_succ, i64_w, i32_w]
   rfl
  refine pure_ (i := 2) (N := some 32) (v := ?_) (a' := ?_) #[true, false, true, false, false, false, false, false, false, false] rfl rfl (any_of HT_.out (by kernel_rfl)) (fun _ _ _ h => h) (Or.inl ⟨by rfl, ?_⟩) ?_ ?_
  rotate_left
  ·
   intro w'
   go_simp
   with_reducible rfl
  rotate_left
  ·
   simp only [Act.put, List.setIfInBounds_toArray, List.set_cons_zero, List.set_cons_succ, i64_w, i32_w]
   rfl
  refine pure_ (i := 4) (N := some 34) (v := ?_) (a' := ?_) #[true, false, true, false, true, false, false, false, false, false] rfl rfl (any_of HT_.out (by kernel_rfl)) (fun _ _ _ h => h) (Or.inl ⟨by rfl, ?_⟩) ?_ ?_
  rotate_left
  ·
   intro w'
   go_simp
   with_reducible rfl
  rotate_left
  ·
   simp only [Act.put, List.setIfInBounds_toArray, List.set_cons_zero, List.set_cons_succ, i64_w, i32_w]
   rfl
  refine pure_ (i := 6) (N := some 36) (v := ?_) (a' := ?_) #[true, false, true, false, true, false, true, false, false, false] rfl rfl (any_of HT_.out (by kernel_rfl)) (fun _ _ _ h => h) (Or.inl ⟨by rfl, ?_⟩) ?_ ?_
  rotate_left
  ·
   intro w'
   go_simp
   with_reducible rfl
  rotate_left
  ·
   simp only [Act.put, List.setIfInBounds_toArray, List.set_cons_zero, List.set_cons_succ, i64_w, i32_w]
   rfl
  refine take_ (i := 1) (N := some 31) (v := ?_) (a' := ?_) #[true, true, true, false, true, false, true, false, false, false] rfl rfl (take_ofW HT_.out HW_.out (by kernel_rfl)) (fun _ _ _ h => h) (Or.inl ⟨by rfl, ?_⟩) hHeld ?_ ?_
  rotate_left
  ·
   rintro w' ⟨s0, s1, s2⟩
   go_simp
   with_reducible rfl
  rotate_left
  ·
   simp only [Act.put, List.setIfInBounds_toArray, List.set_cons_zero, List.set_cons_succ, i64_w, i32_w]
   rfl
  refine take_ (i := 5) (N := some 35) (v := ?_) (a' := ?_) #[true, true, true, false, true, true, true, false, false, false] rfl rfl (take_ofW HT_.out HW_.out (by kernel_rfl)) (fun _ _ _ h => h) (Or.inl ⟨by rfl, ?_⟩) hHeld ?_ ?_
  rotate_left
  ·
   rintro w' ⟨s0, s1, s2⟩
   go_simp
   with_reducible rfl
  rotate_left
  ·
   simp only [Act.put, List.setIfInBounds_toArray, List.set_cons_zero, List.set_cons_succ, i64_w, i32_w]
   rfl
  refine one_ (i := 3) (N := some 33) #[true, true, true, true, true, true, true, false, false, false] rfl rfl (one_of HT_.out (by kernel_rfl)) (by decide) (fun K hK => ?_)
  refine goes_ Tryz.func36 (by kernel_rfl) rfl #[.slice A2_0 l2_0.length c2_0, .int .i64 t440] (by rfl) rfl rfl zm ?_
  with_reducible refine (page_levels.calls k _ _ l2_0 t440 t443 _ ?side1 ?side2 A7.out).mono ?_
  (case side1 => exact zc (Kd.C_below HR2_0.out HB.out))
  (case side2 => exact HC2_0.out)
  rintro e w18 ⟨rfl, hb⟩
  refine ⟨_, rfl, ?_⟩
  have n0_ := am (zbb BK437.out hb)
  have n1_ := am (zbb BK438.out hb)
  have n2_ := am (below_step (zl2 HB.out GE437.out GE438.out) hb)
  clear BK437
  clear BK438
  clear HB
  have BK437 := n0_
  have BK438 := n1_
  have HB := n2_
  clear n0_ n1_ n2_
  (try clear hb)
  (try clear hb2)
  (try clear hk)
  (try clear hi)
  refine hK.out _ _ ⟨(blk_cell BK438.out 0).trans rfl, (blk_cell BK438.out 1).trans rfl, (blk_cell BK438.out 2).trans rfl⟩ (fun hHeld => ?_)
  clear hK K
  refine norm_ (a' := ?_) ?_ ?_
  rotate_left
  ·
   show Act.put _ (some 33) _ = _
   simp only [Act.put, List.setIfInBounds_toArray, List.set_cons_zero, List.set_cons_succ, i64_w, i32_w]
   rfl
  refine one_ (i := 7) (N := some 37) #[true, true, true, true, true, true, true, true, false, false] rfl rfl (one_of HT_.out (by kernel_rfl)) (by decide) (fun K hK => ?_)
  refine goes_ Tryz.func36 (by kernel_rfl) rfl #[.slice A2_1 l2_1.length c2_1, .int .i64 t441] (by rfl) rfl rfl zm ?_
  with_reducible refine (page_levels.calls k _ _ l2_1 t441 t444 _ ?side1 ?side2 A8.out).mono ?_
  (case side1 => exact zc (Kd.C_below HR2_1.out HB.out))
  (case side2 => exact HC2_1.out)
  rintro e w19 ⟨rfl, hb⟩
  refine ⟨_, rfl, ?_⟩
  have n0_ := am (zbb BK437.out hb)
  have n1_ := am (zbb BK438.out hb)
  have n2_ := am (below_step (zl2 HB.out GE437.out GE438.out) hb)
  clear BK437
  clear BK438
  clear HB
  have BK437 := n0_
  have BK438 := n1_
  have HB := n2_
  clear n0_ n1_ n2_
  (try clear hb)
  (try clear hb2)
  (try clear hk)
  (try clear hi)
  refine hK.out _ _ ⟨(blk_cell BK438.out 0).trans rfl, (blk_cell BK438.out 1).trans rfl, (blk_cell BK438.out 2).trans rfl⟩ (fun hHeld => ?_)
  clear hK K
  refine norm_ (a' := ?_) ?_ ?_
  rotate_left
  ·
   show Act.put _ (some 37) _ = _
   simp only [Act.put, List.setIfInBounds_toArray, List.set_cons_zero, List.set_cons_succ, i64_w, i32_w]
   rfl
  refine pure_ (i := 8) (N := some 11) (v := ?_) (a' := ?_) #[true, true, true, true, true, true, true, true, true, false] rfl rfl (any_of HT_.out (by kernel_rfl)) (fun _ _ _ h => h) (Or.inl ⟨by rfl, ?_⟩) ?_ ?_
  rotate_left
  ·
   intro w'
   go_simp
   with_reducible rfl
  rotate_left
  ·
   simp only [Act.put, List.setIfInBounds_toArray, List.set_cons_zero, List.set_cons_succ, i64_w, i32_w]
   rfl
  refine pure_ (i := 9) (N := some 12) (v := ?_) (a' := ?_) #[true, true, true, true, true, true, true, true, true, true] rfl rfl (any_of HT_.out (by kernel_rfl)) (fun _ _ _ h => h) (Or.inl ⟨by rfl, ?_⟩) ?_ ?_
  rotate_left
  ·
   intro w'
   go_simp
   with_reducible rfl
  rotate_left
  ·
   simp only [Act.put, List.setIfInBounds_toArray, List.set_cons_zero, List.set_cons_succ, i64_w, i32_w]
   rfl
  refine done_ (done_of HT_.out (by kernel_rfl)) ?_
  try go_wp2_with (first | ((with_reducible refine gate_dst (N := 13) rfl ?_); refine box_event ?hg (N := 13) ?hd (cs := #[.pointer none, .slice none 0 0]) (t := 73) ?hr ?_; (case hd => rfl); (case hg => rfl); (case hr => exact zh); intro gb445 hg w20 hbox hb; have n0_ := am (zbb BK437.out hb); have n1_ := am (zbb BK438.out hb); have n2_ := am (below_step (zl2 HB.out GE437.out GE438.out) hb); have n3_ := am (hbox); have n4_ := am ((by rw [hg]; exact (below_size (zl2 HB.out GE437.out GE438.out)) : w.heap.size ≤ gb445)); have n5_ := am ((by rw [hg]; exact (below_size (zl2 HB.out GE437.out GE438.out)) : w.heap.size ≤ gb445)); have n6_ := am ((show IsS73 w _ gb445 (⟨#[]⟩ : ByteArray) from bd_new hbox (by rw [hg]; exact (below_size (zl2 HB.out GE437.out GE438.out))))); have n7_ := am ((by rw [hg]; exact Nat.ne_of_lt (blk_lt (g := gb437) (o := .cells #[.slice A0_0 l0_0.length c0_0] 27 (0, 0)) (zb BK437.out)) : gb437 ≠ gb445)); have n8_ := am ((by rw [hg]; exact Nat.ne_of_gt (blk_lt (g := gb437) (o := .cells #[.slice A0_0 l0_0.length c0_0] 27 (0, 0)) (zb BK437.out)) : gb445 ≠ gb437)); have n9_ := am ((by rw [hg]; exact Nat.ne_of_lt (blk_lt (g := gb438) (o := .cells #[.slice A2_0 l2_0.length c2_0, .slice A2_1 l2_1.length c2_1, .slice A2_2 l2_2.length c2_2] 31 (0, 0)) (zb BK438.out)) : gb438 ≠ gb445)); have n10_ := am ((by rw [hg]; exact Nat.ne_of_gt (blk_lt (g := gb438) (o := .cells #[.slice A2_0 l2_0.length c2_0, .slice A2_1 l2_1.length c2_1, .slice A2_2 l2_2.length c2_2] 31 (0, 0)) (zb BK438.out)) : gb445 ≠ gb438)); clear BK437 BK438 HB; have BK437 := n0_; have BK438 := n1_; have HB := n2_; have BK445 := n3_; have GW445 := n4_; have GE445 := n5_; have HI445 := n6_; have NB437_445 := n7_; have NB445_437 := n8_; have NB438_445 := n9_; have NB445_438 := n10_; clear n0_ n1_ n2_ n3_ n4_ n5_ n6_ n7_ n8_ n9_ n10_; clear hb hbox hg; have hnb21 := NB438_445.out; have hnc21 := NB445_438.out; have hcz22_0 : w20.cell? ⟨gb438, 0, none⟩ = some (.slice A2_0 l2_0.length c2_0) := (blk_cell BK438.out 0).trans rfl; have hcz22_1 : w20.cell? ⟨gb438, 1, none⟩ = some (.slice A2_1 l2_1.length c2_1) := (blk_cell BK438.out 1).trans rfl; have hcz22_2 : w20.cell? ⟨gb438, 2, none⟩ = some (.slice A2_2 l2_2.length c2_2) := (blk_cell BK438.out 2).trans rfl; have hfz22_0 := blk_frozen BK438.out 0; have hfz22_1 := blk_frozen BK438.out 1; have hfz22_2 := blk_frozen BK438.out 2) | ((with_reducible refine gate_dst (N := 45) rfl ?_); refine Kd.R_lit (Kd.int .i64) _ 3 ?hg (N := 45) ?hd (xs := ([(l2_0.length : Int), (t443.size : Int), (t444.size : Int)] : List Int)) (inner := [.int .i64 (l2_0.length : Int), .int .i64 (t443.size : Int), .int .i64 (t444.size : Int)]) (ok := fun _ => True) (okp := fun _ => True) ?hr ?hp (fun _ hk => hk) trivial (Below.refl _ _) (Nat.le_refl _) (by simp) ?_; (case hd => rfl); (case hg => rfl); (case hr => exact zh); (case hp => exact (Reps.one (show Kd.M (Kd.int .i64) _ _ _ (l2_0.length : Int) [.int .i64 (l2_0.length : Int)] from rfl) (Reps.one (show Kd.M (Kd.int .i64) _ _ _ (t443.size : Int) [.int .i64 (t443.size : Int)] from rfl) (Reps.one (show Kd.M (Kd.int .i64) _ _ _ (t444.size : Int) [.int .i64 (t444.size : Int)] from rfl) (Reps.none _ _))))); intro v447 w23 ho24 hb hg_ hnew_; clear hg_ hnew_; (first | rw [← Ny446.out] at ho24 | (simp only [Int.reduceToNat] at ho24; rw [← Ny446.out] at ho24)); have n0_ := am (Kd.R_lower ho24 (below_size (zl3 HB.out (IsS73.ge HI445.out) GE437.out GE438.out))); have n1_ := am (zbb BK437.out hb); have n2_ := am (zbb BK438.out hb); have n3_ := am (IsS73.below (by repeat (first | (with_reducible first | exact HI445.out | apply IsS73.alloc | apply IsS73.drewN | apply IsS73.drew | apply IsS73.set_0 | refine IsS73.far ?_ NB445_437.out _ | refine IsS73.far ?_ NB445_438.out _) | exact HI445.out)) hb); have n4_ := am (below_step (zl3 HB.out (IsS73.ge HI445.out) GE437.out GE438.out) hb); clear BK437 BK438; clear HI445 HB; have HO448 := n0_; have BK437 := n1_; have BK438 := n2_; have HI445 := n3_; have HB := n4_; clear n0_ n1_ n2_ n3_ n4_; clear hb ho24; obtain ⟨Ao25, co25, eo25⟩ := Kd.R_slice HO448.out; subst eo25))
  (try simp only [Act.put, List.setIfInBounds_toArray, List.set_cons_zero, List.set_cons_succ])
  go_loopg [47] k (fun kq v47 w' => ∃ (x47_1 : Int) (x446000_1 : ByteArray), v47 = .int .i64 x47_1 ∧ Aside0 (page_Put.l0 kq t443 t444 y446 (y446.length : Int) x47_1 l2_0 l2_1 l2_2 x446000_1 = some (r1, r2)) ∧ Aside0 (kq ≤ k) ∧ Aside0 (Kd.R (Kd.int .i64) 3 w' w.heap.size (fun _ => True) (.slice Ao25 y446.length co25) y446) ∧ Aside0 (w'.heap[gb437]? = some (.cells #[(.slice A0_0 l0_0.length c0_0)] 27 (0, 0))) ∧ Aside0 (w'.heap[gb438]? = some (.cells #[(.slice A2_0 l2_0.length c2_0), (.slice A2_1 l2_1.length c2_1), (.slice A2_2 l2_2.length c2_2)] 31 (0, 0))) ∧ Aside0 (IsS73 w w' gb445 x446000_1) ∧ Aside0 (Below w.heap.size w w'))
  case atStart => exact ⟨(0), ((⟨#[]⟩ : ByteArray)), zs, H', ⟨Nat.le_refl _⟩, ⟨by refine zr ?_; exact HO448.out⟩, ⟨by refine zb ?_; exact BK437.out⟩, ⟨by refine zb ?_; exact BK438.out⟩, ⟨by repeat (first | (with_reducible first | exact HI445.out | apply IsS73.alloc | apply IsS73.drewN | apply IsS73.drew | apply IsS73.set_0 | refine IsS73.far ?_ NB445_437.out _ | refine IsS73.far ?_ NB445_438.out _) | exact HI445.out)⟩, ⟨zl3 HB.out (IsS73.ge HI445.out) GE437.out GE438.out⟩⟩
  case round =>
   clear H'
   try clear c1
   try clear c2
   try clear p2
   try clear c3
   try clear c5
   try clear c11
   try clear c14
   try clear c21
   try clear hcz12_0
   try clear hcz13_0
   try clear hcz13_1
   try clear hcz13_2
   try clear hcz15_0
   try clear hcz22_0
   try clear hcz22_1
   try clear hcz22_2
   try clear hfz12_0
   try clear hfz13_0
   try clear hfz13_1
   try clear hfz13_2
   try clear hfz15_0
   try clear hfz22_0
   try clear hfz22_1
   try clear hfz22_2
   obtain ⟨x47_1, x446000_1, rfl, HA, HK1, HO_45, BK437, BK438, HI445, HB⟩ := hrel
   cases gk with
   | zero => exact absurd HA.out (by simp [page_Put.l0])
   | succ k1 =>
    have H := HA.out
    clear HA
    simp only [page_Put.l0] at H
    by_cases c26 : x47_1 < (y446.length : Int)
    ·
     rw [if_pos c26] at H
     have c26b0 := decide_eq_true c26
     clear c26
     by_cases c27 : 0 ≤ x47_1
     ·
      rw [if_pos c27] at H
      have c27b0 := decide_eq_true c27
      clear c27
      by_cases c28 : x47_1 < (y446.length : Int)
      ·
       rw [if_pos c28] at H
       have c28b0 := decide_eq_true c28
       clear c28
       replace H := zo H
       obtain ⟨t450, A290, H⟩ := H
       (try dsimp only at H)
       have A29 := am A290
       clear A290
       replace H := zo H
       obtain ⟨⟨t451, t452, t453⟩, A300, H⟩ := H
       (try dsimp only at H)
       have A30 := am A300
       clear A300
       have H' := am H
       clear H
       have p449 : 0 ≤ (x47_1 : Int) := of_decide_eq_true za
       have q449 : x47_1 < (y446.length : Int) := of_decide_eq_true za
       obtain ⟨ad449, e449, hx449_0⟩ := Kd.at_int (Kd.R_reads' HO_45.out).2.2 x47_1 p449 q449
       cases e449
       replace p449 := eq_true p449
       replace q449 := eq_true q449
       go_wp2_with (first | ((with_reducible refine gate_callee (f := 38) rfl ?_); refine goesL_ (some 52) rfl rfl Tryz.func38 (by kernel_rfl) rfl #[.int .i64 (rd y446 x47_1), .int .i64 4] rfl zm ?_; (with_reducible refine (num_Word.calls k1 (rd y446 x47_1) 4 t450 _ A29.out).mono ?_); rintro e w31 ⟨rfl, hb⟩; refine ⟨_, rfl, ?_⟩; have n0_ := am (Kd.R_below (zr HO_45.out) hb); have n1_ := am (zbb BK437.out hb); have n2_ := am (zbb BK438.out hb); have n3_ := am (IsS73.below (by repeat (first | (with_reducible first | exact HI445.out | apply IsS73.alloc | apply IsS73.drewN | apply IsS73.drew | apply IsS73.set_0 | refine IsS73.far ?_ NB445_437.out _ | refine IsS73.far ?_ NB445_438.out _) | exact HI445.out)) hb); have n4_ := am (below_step (zl3 HB.out (IsS73.ge HI445.out) GE437.out GE438.out) hb); clear HO_45 BK437; clear BK438 HI445 HB; have HO_45 := n0_; have BK437 := n1_; have BK438 := n2_; have HI445 := n3_; have HB := n4_; clear n0_ n1_ n2_ n3_ n4_; (try clear hb); (try clear hb2); (try clear hk); (try clear hi)) | ((with_reducible refine gate_callee (f := 37) rfl ?_); refine goesL_ (some 53) rfl rfl Tryz.func37 (by kernel_rfl) rfl #[.pointer (some ⟨gb445, 0, none⟩), .string t450] rfl zm ?_; (with_reducible refine (Builder_WriteString.calls gb445 x446000_1 t450 t451 t452 t453 w _ ?side1 ?side2 A30.out).mono ?_); (case side1 => repeat (first | (with_reducible first | exact HI445.out | apply IsS73.alloc | apply IsS73.drewN | apply IsS73.drew | apply IsS73.set_0 | refine IsS73.far ?_ NB445_437.out _ | refine IsS73.far ?_ NB445_438.out _) | exact HI445.out)); (case side2 => exact zl3 HB.out (IsS73.ge HI445.out) GE437.out GE438.out); rintro e w32 ⟨rfl, hi, hb, hk⟩; refine ⟨_, rfl, ?_⟩; have n0_ := am (R_bd (zr HO_45.out) hk (by decide)); have n1_ := am (BdKeep.blk hk.2 (zb BK437.out) NB437_445.out (by decide)); have n2_ := am (BdKeep.blk hk.2 (zb BK438.out) NB438_445.out (by decide)); have n3_ := am (hb); have n4_ := am (hi); clear HO_45 BK437; clear BK438 HB HI445; have HO_45 := n0_; have BK437 := n1_; have BK438 := n2_; have HB := n3_; have HI445 := n4_; clear n0_ n1_ n2_ n3_ n4_; (try clear hb); (try clear hb2); (try clear hk); (try clear hi); (try simp only [errW_none, errW_some])))
       go_roundg k1
       case measure => have := HK1.out; omega
       case rel => exact ⟨(wrap64 (x47_1 + 1)), (t453), zs, H', ⟨by have := HK1.out; omega⟩, ⟨by refine zr ?_; exact HO_45.out⟩, ⟨by refine zb ?_; exact BK437.out⟩, ⟨by refine zb ?_; exact BK438.out⟩, ⟨by repeat (first | (with_reducible first | exact HI445.out | apply IsS73.alloc | apply IsS73.drewN | apply IsS73.drew | apply IsS73.set_0 | refine IsS73.far ?_ NB445_437.out _ | refine IsS73.far ?_ NB445_438.out _) | exact HI445.out)⟩, ⟨zl3 HB.out (IsS73.ge HI445.out) GE437.out GE438.out⟩⟩
      ·
       rw [if_neg c28] at H
       exact absurd H (by simp)
     ·
      rw [if_neg c27] at H
      exact absurd H (by simp)
    ·
     rw [if_neg c26] at H
     have c26b0 := decide_eq_false c26
     clear c26
     by_cases c33 : t443.size + t444.size ≤ 9223372036854775807
     ·
      rw [if_pos c33] at H
      have c33b0 := eq_true c33
      have c33b1 := decide_eq_true c33
      try have c33b2 : (9223372036854775807 < t443.size + t444.size) = False := eq_false (Nat.not_lt.2 c33)
      replace H := zo H
      obtain ⟨⟨t454, t455, t456⟩, A340, H⟩ := H
      (try dsimp only at H)
      have A34 := am A340
      clear A340
      have H' := am H
      clear H
      go_wp2_with (first | ((with_reducible refine gate_callee (f := 37) rfl ?_); refine goesL_ (some 58) rfl rfl Tryz.func37 (by kernel_rfl) rfl #[.pointer (some ⟨gb445, 0, none⟩), .string (t443 ++ t444)] rfl zm ?_; (with_reducible refine (Builder_WriteString.calls gb445 x446000_1 (t443 ++ t444) t454 t455 t456 w _ ?side1 ?side2 A34.out).mono ?_); (case side1 => repeat (first | (with_reducible first | exact HI445.out | apply IsS73.alloc | apply IsS73.drewN | apply IsS73.drew | apply IsS73.set_0 | refine IsS73.far ?_ NB445_437.out _ | refine IsS73.far ?_ NB445_438.out _) | exact HI445.out)); (case side2 => exact zl3 HB.out (IsS73.ge HI445.out) GE437.out GE438.out); rintro e w35 ⟨rfl, hi, hb, hk⟩; refine ⟨_, rfl, ?_⟩; have n0_ := am (R_bd (zr HO_45.out) hk (by decide)); have n1_ := am (BdKeep.blk hk.2 (zb BK437.out) NB437_445.out (by decide)); have n2_ := am (BdKeep.blk hk.2 (zb BK438.out) NB438_445.out (by decide)); have n3_ := am (hb); have n4_ := am (hi); clear HO_45 BK437; clear BK438 HB HI445; have HO_45 := n0_; have BK437 := n1_; have BK438 := n2_; have HB := n3_; have HI445 := n4_; clear n0_ n1_ n2_ n3_ n4_; (try clear hb); (try clear hb2); (try clear hk); (try clear hi); (try simp only [errW_none, errW_some]); have hnb36 := NB438_437.out; have hnc36 := NB437_438.out; have hnb37 := NB438_445.out; have hnc37 := NB445_438.out; have hcz38_0 : w35.cell? ⟨gb438, 0, none⟩ = some (.slice A2_0 l2_0.length c2_0) := (blk_cell BK438.out 0).trans rfl; have hcz38_1 : w35.cell? ⟨gb438, 1, none⟩ = some (.slice A2_1 l2_1.length c2_1) := (blk_cell BK438.out 1).trans rfl; have hcz38_2 : w35.cell? ⟨gb438, 2, none⟩ = some (.slice A2_2 l2_2.length c2_2) := (blk_cell BK438.out 2).trans rfl; have hfz38_0 := blk_frozen BK438.out 0; have hfz38_1 := blk_frozen BK438.out 1; have hfz38_2 := blk_frozen BK438.out 2))
      (try simp only [Act.put, List.setIfInBounds_toArray, List.set_cons_zero, List.set_cons_succ])
      go_loopg [62] k1 (fun kq v62 w' => ∃ (x62_2 : Int) (x446000_2 : ByteArray), v62 = .int .i64 x62_2 ∧ Aside0 (page_Put.l1 kq l2_2 (l2_2.length : Int) x62_2 x446000_2 = some (r1, r2)) ∧ Aside0 (kq ≤ k1) ∧ Aside0 (w'.heap[gb437]? = some (.cells #[(.slice A0_0 l0_0.length c0_0)] 27 (0, 0))) ∧ Aside0 (w'.heap[gb438]? = some (.cells #[(.slice A2_0 l2_0.length c2_0), (.slice A2_1 l2_1.length c2_1), (.slice A2_2 l2_2.length c2_2)] 31 (0, 0))) ∧ Aside0 (IsS73 w w' gb445 x446000_2) ∧ Aside0 (Below w.heap.size w w'))
      case atStart => exact ⟨(0), (t456), zs, H', ⟨Nat.le_refl _⟩, ⟨by refine zb ?_; exact BK437.out⟩, ⟨by refine zb ?_; exact BK438.out⟩, ⟨by repeat (first | (with_reducible first | exact HI445.out | apply IsS73.alloc | apply IsS73.drewN | apply IsS73.drew | apply IsS73.set_0 | refine IsS73.far ?_ NB445_437.out _ | refine IsS73.far ?_ NB445_438.out _) | exact HI445.out)⟩, ⟨zl3 HB.out (IsS73.ge HI445.out) GE437.out GE438.out⟩⟩
      case round =>
       clear H'
       try clear c1
       try clear c2
       try clear p2
       try clear c3
       try clear p4
       try clear q4
       try clear hx4
       try clear c5
       try clear p6
       try clear c11
       try clear c14
       try clear c21
       try clear c26
       try clear c26b0
       try clear c27
       try clear c27b0
       try clear c28
       try clear c28b0
       try clear c33
       try clear c33b0
       try clear c33b1
       try clear c33b2
       try clear c34
       try clear c35
       try clear c36
       try clear c37
       try clear c38
       try clear hcz12_0
       try clear hcz13_0
       try clear hcz13_1
       try clear hcz13_2
       try clear hcz15_0
       try clear hcz22_0
       try clear hcz22_1
       try clear hcz22_2
       try clear hcz38_0
       try clear hcz38_1
       try clear hcz38_2
       try clear hfz12_0
       try clear hfz13_0
       try clear hfz13_1
       try clear hfz13_2
       try clear hfz15_0
       try clear hfz22_0
       try clear hfz22_1
       try clear hfz22_2
       try clear hfz38_0
       try clear hfz38_1
       try clear hfz38_2
       try clear hx449_0
       try clear p2
       try clear p449
       try clear q449
       obtain ⟨x62_2, x446000_2, rfl, HA, HK2, BK437, BK438, HI445, HB⟩ := hrel
       cases gk with
       | zero => exact absurd HA.out (by simp [page_Put.l1])
       | succ k2 =>
        have H := HA.out
        clear HA
        simp only [page_Put.l1] at H
        by_cases c39 : x62_2 < (l2_2.length : Int)
        ·
         rw [if_pos c39] at H
         have c39b0 := decide_eq_true c39
         clear c39
         by_cases c40 : 0 ≤ x62_2
         ·
          rw [if_pos c40] at H
          have c40b0 := decide_eq_true c40
          clear c40
          by_cases c41 : x62_2 < (l2_2.length : Int)
          ·
           rw [if_pos c41] at H
           have c41b0 := decide_eq_true c41
           clear c41
           replace H := zo H
           obtain ⟨t458, A420, H⟩ := H
           (try dsimp only at H)
           have A42 := am A420
           clear A420
           replace H := zo H
           obtain ⟨⟨t459, t460, t461⟩, A430, H⟩ := H
           (try dsimp only at H)
           have A43 := am A430
           clear A430
           have H' := am H
           clear H
           have p457 : 0 ≤ (x62_2 : Int) := of_decide_eq_true za
           have q457 : x62_2 < (l2_2.length : Int) := of_decide_eq_true za
           obtain ⟨ad457, e457, hx457_0⟩ := Kd.at_string HR2_2.out x62_2 p457 q457
           cases e457
           replace hx457_0 := zq HB.out hx457_0
           replace p457 := eq_true p457
           replace q457 := eq_true q457
           go_wp2_with (first | ((with_reducible refine gate_callee (f := 39) rfl ?_); refine goesL_ (some 67) rfl rfl Tryz.func39 (by kernel_rfl) rfl #[.string (rdOf ByteArray.empty l2_2 x62_2)] rfl zm ?_; (with_reducible refine (page_bytes.calls k2 (rdOf ByteArray.empty l2_2 x62_2) t458 _ ?side1 A42.out).mono ?_); (case side1 => exact GL.below HG.out (zl3 HB.out (IsS73.ge HI445.out) GE437.out GE438.out)); rintro e w44 ⟨rfl, hb⟩; refine ⟨_, rfl, ?_⟩; have n0_ := am (zbb BK437.out hb); have n1_ := am (zbb BK438.out hb); have n2_ := am (IsS73.below (by repeat (first | (with_reducible first | exact HI445.out | apply IsS73.alloc | apply IsS73.drewN | apply IsS73.drew | apply IsS73.set_0 | refine IsS73.far ?_ NB445_437.out _ | refine IsS73.far ?_ NB445_438.out _) | exact HI445.out)) hb); have n3_ := am (below_step (zl3 HB.out (IsS73.ge HI445.out) GE437.out GE438.out) hb); clear BK437 BK438; clear HI445 HB; have BK437 := n0_; have BK438 := n1_; have HI445 := n2_; have HB := n3_; clear n0_ n1_ n2_ n3_; (try clear hb); (try clear hb2); (try clear hk); (try clear hi)) | ((with_reducible refine gate_callee (f := 37) rfl ?_); refine goesL_ (some 68) rfl rfl Tryz.func37 (by kernel_rfl) rfl #[.pointer (some ⟨gb445, 0, none⟩), .string t458] rfl zm ?_; (with_reducible refine (Builder_WriteString.calls gb445 x446000_2 t458 t459 t460 t461 w _ ?side1 ?side2 A43.out).mono ?_); (case side1 => repeat (first | (with_reducible first | exact HI445.out | apply IsS73.alloc | apply IsS73.drewN | apply IsS73.drew | apply IsS73.set_0 | refine IsS73.far ?_ NB445_437.out _ | refine IsS73.far ?_ NB445_438.out _) | exact HI445.out)); (case side2 => exact zl3 HB.out (IsS73.ge HI445.out) GE437.out GE438.out); rintro e w45 ⟨rfl, hi, hb, hk⟩; refine ⟨_, rfl, ?_⟩; have n0_ := am (BdKeep.blk hk.2 (zb BK437.out) NB437_445.out (by decide)); have n1_ := am (BdKeep.blk hk.2 (zb BK438.out) NB438_445.out (by decide)); have n2_ := am (hb); have n3_ := am (hi); clear BK437 BK438; clear HB HI445; have BK437 := n0_; have BK438 := n1_; have HB := n2_; have HI445 := n3_; clear n0_ n1_ n2_ n3_; (try clear hb); (try clear hb2); (try clear hk); (try clear hi); (try simp only [errW_none, errW_some])))
           go_roundg k2
           case measure => have := HK1.out; have := HK2.out; omega
           case rel => exact ⟨(wrap64 (x62_2 + 1)), (t461), zs, H', ⟨by have := HK1.out; have := HK2.out; omega⟩, ⟨by refine zb ?_; exact BK437.out⟩, ⟨by refine zb ?_; exact BK438.out⟩, ⟨by repeat (first | (with_reducible first | exact HI445.out | apply IsS73.alloc | apply IsS73.drewN | apply IsS73.drew | apply IsS73.set_0 | refine IsS73.far ?_ NB445_437.out _ | refine IsS73.far ?_ NB445_438.out _) | exact HI445.out)⟩, ⟨zl3 HB.out (IsS73.ge HI445.out) GE437.out GE438.out⟩⟩
          ·
           rw [if_neg c41] at H
           exact absurd H (by simp)
         ·
          rw [if_neg c40] at H
          exact absurd H (by simp)
        ·
         rw [if_neg c39] at H
         have c39b0 := decide_eq_false c39
         clear c39
         replace H := zo H
         obtain ⟨⟨t462, t463⟩, A460, H⟩ := H
         (try dsimp only at H)
         have A46 := am A460
         clear A460
         replace H := zo H
         obtain ⟨t464, A470, H⟩ := H
         (try dsimp only at H)
         have A47 := am A470
         clear A470
         replace H := zo H
         obtain ⟨t465, A480, H⟩ := H
         (try dsimp only at H)
         have A48 := am A480
         clear A480
         replace H := zo H
         obtain ⟨⟨t466, t467⟩, A490, H⟩ := H
         (try dsimp only at H)
         have A49 := am A490
         clear A490
         by_cases c50 : t465.size + t466.size ≤ 9223372036854775807
         ·
          rw [if_pos c50] at H
          have c50b0 := eq_true c50
          have c50b1 := decide_eq_true c50
          try have c50b2 : (9223372036854775807 < t465.size + t466.size) = False := eq_false (Nat.not_lt.2 c50)
          simp only [Option.some.injEq, Prod.mk.injEq] at H
          obtain ⟨rfl, rfl⟩ := H
          go_wp2_with (first | ((with_reducible refine gate_callee (f := 41) rfl ?_); refine goesL_ (some 70) rfl rfl Tryz.func41 (by kernel_rfl) rfl #[.pointer (some ⟨gb445, 0, none⟩)] rfl zm ?_; (with_reducible refine (Builder_String.calls gb445 x446000_2 t462 t463 w _ ?side1 ?side2 A46.out).mono ?_); (case side1 => repeat (first | (with_reducible first | exact HI445.out | apply IsS73.alloc | apply IsS73.drewN | apply IsS73.drew | apply IsS73.set_0 | refine IsS73.far ?_ NB445_437.out _ | refine IsS73.far ?_ NB445_438.out _) | exact HI445.out)); (case side2 => exact zl3 HB.out (IsS73.ge HI445.out) GE437.out GE438.out); rintro e w51 ⟨rfl, hi, hb, hk⟩; refine ⟨_, rfl, ?_⟩; have n0_ := am (BdKeep.blk hk (zb BK437.out) NB437_445.out (by decide)); have n1_ := am (BdKeep.blk hk (zb BK438.out) NB438_445.out (by decide)); have n2_ := am (hb); have n3_ := am (hi); clear BK437 BK438; clear HB HI445; have BK437 := n0_; have BK438 := n1_; have HB := n2_; have HI445 := n3_; clear n0_ n1_ n2_ n3_; (try clear hb); (try clear hb2); (try clear hk); (try clear hi)) | ((with_reducible refine gate_callee (f := 40) rfl ?_); refine goesL_ (some 71) rfl rfl Tryz.func40 (by kernel_rfl) rfl #[.string t462] rfl zm ?_; (with_reducible refine (crc_Sum.calls k2 t462 t464 _ A47.out).mono ?_); rintro e w' ⟨rfl, ⟨nd, rfl⟩⟩; refine ⟨_, rfl, ?_⟩) | ((with_reducible refine gate_callee (f := 38) rfl ?_); refine goesL_ (some 72) rfl rfl Tryz.func38 (by kernel_rfl) rfl #[.int .i64 t464, .int .i64 4] rfl zm ?_; (with_reducible refine (num_Word.calls k2 t464 4 t465 _ A48.out).mono ?_); rintro e w52 ⟨rfl, hb⟩; refine ⟨_, rfl, ?_⟩; have n0_ := am (zbb BK437.out hb); have n1_ := am (zbb BK438.out hb); have n2_ := am (IsS73.below (by repeat (first | (with_reducible first | exact HI445.out | apply IsS73.alloc | apply IsS73.drewN | apply IsS73.drew | apply IsS73.set_0 | refine IsS73.far ?_ NB445_437.out _ | refine IsS73.far ?_ NB445_438.out _) | exact HI445.out)) hb); have n3_ := am (below_step (zl3 HB.out (IsS73.ge HI445.out) GE437.out GE438.out) hb); clear BK437 BK438; clear HI445 HB; have BK437 := n0_; have BK438 := n1_; have HI445 := n2_; have HB := n3_; clear n0_ n1_ n2_ n3_; (try clear hb); (try clear hb2); (try clear hk); (try clear hi)) | ((with_reducible refine gate_callee (f := 41) rfl ?_); refine goesL_ (some 73) rfl rfl Tryz.func41 (by kernel_rfl) rfl #[.pointer (some ⟨gb445, 0, none⟩)] rfl zm ?_; (with_reducible refine (Builder_String.calls gb445 t463 t466 t467 w _ ?side1 ?side2 A49.out).mono ?_); (case side1 => repeat (first | (with_reducible first | exact HI445.out | apply IsS73.alloc | apply IsS73.drewN | apply IsS73.drew | apply IsS73.set_0 | refine IsS73.far ?_ NB445_437.out _ | refine IsS73.far ?_ NB445_438.out _) | exact HI445.out)); (case side2 => exact zl3 HB.out (IsS73.ge HI445.out) GE437.out GE438.out); rintro e w53 ⟨rfl, hi, hb, hk⟩; refine ⟨_, rfl, ?_⟩; have n0_ := am (BdKeep.blk hk (zb BK437.out) NB437_445.out (by decide)); have n1_ := am (BdKeep.blk hk (zb BK438.out) NB438_445.out (by decide)); have n2_ := am (hb); have n3_ := am (hi); clear BK437 BK438; clear HB HI445; have BK437 := n0_; have BK438 := n1_; have HB := n2_; have HI445 := n3_; clear n0_ n1_ n2_ n3_; (try clear hb); (try clear hb2); (try clear hk); (try clear hi)))
          go_ret2
          exact ⟨ze, zl3 HB.out (IsS73.ge HI445.out) GE437.out GE438.out⟩
         ·
          rw [if_neg c50] at H
          exact absurd H (by simp)
     ·
      rw [if_neg c33] at H
      exact absurd H (by simp)
 ·
  replace c5 := Bool.eq_false_iff.mpr c5
  subst c5
  rw [if_neg (show ¬ (false = true) by decide)] at H
  simp only [Option.some.injEq, Prod.mk.injEq] at H
  obtain ⟨rfl, rfl⟩ := H
  go_enter Tryz.func14, Tryz.ntmps14
  go_wp2_with (first | ((with_reducible refine gate_dst (N := 3) rfl ?_); refine box_event ?hg (N := 3) ?hd (cs := #[.slice A0_0 l0_0.length c0_0]) (t := 27) ?hr ?_; (case hd => rfl); (case hg => rfl); (case hr => exact zh); intro gb437 hg w54 hbox hb; have n0_ := am (below_step (zl HB.out) hb); have n1_ := am (hbox); have n2_ := am ((by rw [hg]; exact (below_size (zl HB.out)) : w.heap.size ≤ gb437)); have n3_ := am ((by rw [hg]; exact (below_size (zl HB.out)) : w.heap.size ≤ gb437)); clear HB; have HB := n0_; have BK437 := n1_; have GW437 := n2_; have GE437 := n3_; clear n0_ n1_ n2_ n3_; clear hb hbox hg) | ((with_reducible refine gate_dst (N := 5) rfl ?_); refine box_event ?hg (N := 5) ?hd (cs := #[.slice A2_0 l2_0.length c2_0, .slice A2_1 l2_1.length c2_1, .slice A2_2 l2_2.length c2_2]) (t := 31) ?hr ?_; (case hd => rfl); (case hg => rfl); (case hr => exact zh); intro gb438 hg w55 hbox hb; have n0_ := am (zbb BK437.out hb); have n1_ := am (below_step (zl1 HB.out GE437.out) hb); have n2_ := am (hbox); have n3_ := am ((by rw [hg]; exact (below_size (zl1 HB.out GE437.out)) : w.heap.size ≤ gb438)); have n4_ := am ((by rw [hg]; exact (below_size (zl1 HB.out GE437.out)) : w.heap.size ≤ gb438)); have n5_ := am ((by rw [hg]; exact Nat.ne_of_lt (blk_lt (g := gb437) (o := .cells #[.slice A0_0 l0_0.length c0_0] 27 (0, 0)) (zb BK437.out)) : gb437 ≠ gb438)); have n6_ := am ((by rw [hg]; exact Nat.ne_of_gt (blk_lt (g := gb437) (o := .cells #[.slice A0_0 l0_0.length c0_0] 27 (0, 0)) (zb BK437.out)) : gb438 ≠ gb437)); clear BK437 HB; have BK437 := n0_; have HB := n1_; have BK438 := n2_; have GW438 := n3_; have GE438 := n4_; have NB437_438 := n5_; have NB438_437 := n6_; clear n0_ n1_ n2_ n3_ n4_ n5_ n6_; clear hb hbox hg; have hnb56 := NB437_438.out; have hnc56 := NB438_437.out; have hcz57_0 : w55.cell? ⟨gb437, 0, none⟩ = some (.slice A0_0 l0_0.length c0_0) := (blk_cell BK437.out 0).trans rfl; have hfz57_0 := blk_frozen BK437.out 0; have hcz58_0 : w55.cell? ⟨gb438, 0, none⟩ = some (.slice A2_0 l2_0.length c2_0) := (blk_cell BK438.out 0).trans rfl; have hcz58_1 : w55.cell? ⟨gb438, 1, none⟩ = some (.slice A2_1 l2_1.length c2_1) := (blk_cell BK438.out 1).trans rfl; have hcz58_2 : w55.cell? ⟨gb438, 2, none⟩ = some (.slice A2_2 l2_2.length c2_2) := (blk_cell BK438.out 2).trans rfl; have hfz58_0 := blk_frozen BK438.out 0; have hfz58_1 := blk_frozen BK438.out 1; have hfz58_2 := blk_frozen BK438.out 2) | ((with_reducible refine gate_callee (f := 34) rfl ?_); refine goesL_ (some 21) rfl rfl Tryz.func34 (by kernel_rfl) rfl #[.agg #[.slice A0_0 l0_0.length c0_0], .int .i64 a1, .agg #[.slice A2_0 l2_0.length c2_0, .slice A2_1 l2_1.length c2_1, .slice A2_2 l2_2.length c2_2]] rfl zm ?_; (with_reducible refine (page_May.calls k _ _ l0_0 a1 _ _ l2_0 _ _ l2_1 _ _ l2_2 false _ ?side1 ?side2 ?side3 ?side4 ?side5 ?side6 ?side7 ?side8 ?side9 A4.out).mono ?_); (case side1 => exact zc (Kd.C_below HR0_0.out HB.out)); (case side2 => exact HC0_0.out); (case side3 => exact zc (Kd.C_below HR2_0.out HB.out)); (case side4 => exact HC2_0.out); (case side5 => exact zc (Kd.C_below HR2_1.out HB.out)); (case side6 => exact HC2_1.out); (case side7 => exact zc (Kd.C_below HR2_2.out HB.out)); (case side8 => exact HC2_2.out); (case side9 => exact GL.below HG.out (zl2 HB.out GE437.out GE438.out)); rintro e w59 ⟨rfl, hb⟩; refine ⟨_, rfl, ?_⟩; have n0_ := am (zbb BK437.out hb); have n1_ := am (zbb BK438.out hb); have n2_ := am (below_step (zl2 HB.out GE437.out GE438.out) hb); clear BK437 BK438 HB; have BK437 := n0_; have BK438 := n1_; have HB := n2_; clear n0_ n1_ n2_; (try clear hb); (try clear hb2); (try clear hk); (try clear hi)))
  go_ret2
  exact ⟨ze, zl2 HB.out GE437.out GE438.out⟩

end Go.Proofs.YtkcmkedboflklaaGreatDoor.Q
namespace Go.Proofs.YtkcmkedboflklaaGreatDoor.Q
open Go.RowKit Go.Proofs.YtkcmkedboflklaaGreatDoorW.PrintWords Go.Proofs.YtkcmkedboflklaaGreatDoorW.PrintLast Go.Proofs.YtkcmkedboflklaaGreatDoorW.PrintMore
theorem Word1_T (x : Int) : T (fun k => num_Word.f k x 1) (bs (wordL x 1)) := Word_T x 1 (by omega)
theorem Word4_T (x : Int) : T (fun k => num_Word.f k x 4) (bs (wordL x 4)) := Word_T x 4 (by omega)
theorem Word8_T (x : Int) : T (fun k => num_Word.f k x 8) (bs (wordL x 8)) := Word_T x 8 (by omega)
/-- A value's bytes, by its kind. -/
inductive VB : Int → ByteArray → List UInt8 → Prop
  | int (v d : ByteArray) : ls v = 105 :: (ls d ++ [59]) → atoiB d = true → strconv_Itoa.f (atoiV d) = some d → VB 0 v (wordL (atoiV d) 8)
  | bool (v : ByteArray) (c : UInt8) : c = 116 ∨ c = 102 → ls v = [c] → VB 1 v (wordL (if c = 116 then 1 else 0) 1)
  | bytes (v x : ByteArray) : ls v = 115 :: (Lib.itoa (x.size : Int) ++ 58 :: ls x) → x.size ≤ 65536 → VB 2 v (wordL (x.size : Int) 4 ++ ls x)
theorem VB_inj {kind : Int} {v v' : ByteArray} {o o' r r' : List UInt8} (h : VB kind v o) (h' : VB kind v' o') (e : o ++ r = o' ++ r') : v = v' ∧ r = r' := by
  cases h with
  | int _ d h1 h2 h3 =>
    cases h' with
    | int _ d' h1' h2' h3' =>
      obtain ⟨e1, e2⟩ := List.append_inj e (by rw [wordL_length, wordL_length])
      have e3 := wordL_inj _ _ _ e1
      have b1 := atoiV_bounds d h2
      have b2 := atoiV_bounds d' h2'
      have e4 : atoiV d = atoiV d' := by
        rw [show (256 : Int) ^ 8 = 18446744073709551616 by decide] at e3
        omega
      rw [e4, h3'] at h3
      have e5 := Option.some.inj h3
      subst e5
      exact ⟨ls_inj (by rw [h1, h1']), e2⟩
  | bool _ c h1 h2 =>
    cases h' with
    | bool _ c' h1' h2' =>
      obtain ⟨e1, e2⟩ := List.append_inj e (by rw [wordL_length, wordL_length])
      have e3 := wordL_inj _ _ _ e1
      have e4 : c = c' := by
        rcases h1 with h1 | h1 <;> rcases h1' with h1' | h1' <;> subst h1 h1' <;> first | rfl | (exfalso; revert e3; decide)
      subst e4
      exact ⟨ls_inj (by rw [h2, h2']), e2⟩
  | bytes _ x h1 h2 =>
    cases h' with
    | bytes _ x' h1' h2' =>
      rw [List.append_assoc, List.append_assoc] at e
      obtain ⟨e1, e2⟩ := List.append_inj e (by rw [wordL_length, wordL_length])
      have e3 := wordL_inj _ _ _ e1
      have e4 : x.size = x'.size := by
        rw [show (256 : Int) ^ 4 = 4294967296 by decide] at e3
        omega
      obtain ⟨e5, e6⟩ := List.append_inj e2 (by rw [ls_length, ls_length]; exact e4)
      have e7 := ls_inj e5
      subst e7
      exact ⟨ls_inj (by rw [h1, h1']), e6⟩
theorem bytes_T (t : List S24) (leaf : Int) (v : ByteArray) (h : FitOK t leaf v) (hn : ls v ≠ [110]) (hk : 0 ≤ (rd_T24 t leaf).f0 ∧ (rd_T24 t leaf).f0 ≤ 2) :
    ∃ o, T (fun k => page_bytes.f k v) (bs o) ∧ VB (rd_T24 t leaf).f0 v o ∧ o.length ≤ 70000 := by
  obtain ⟨kind, parts, p1, ⟨q0, q1, q2, q3, q4⟩, p3, p4⟩ := h
  have hkk : kind = (rd_T24 t leaf).f0 := by
    rcases p4 with h | h
    · exact absurd (q3 h) hn
    · exact h
  unfold page_bytes.f
  by_cases k0 : kind = 0
  · obtain ⟨d, d1, d2, d3, d4⟩ := q0 k0
    have hd : d.size ≤ 65536 := by
      have := congrArg List.length d4
      rw [ls_length, List.length_cons, List.length_append, ls_length] at this
      omega
    have hr : rdOf ByteArray.empty parts 0 = d := by rw [d1]; rfl
    refine ⟨wordL (atoiV d) 8, ?_, ?_, by rw [wordL_length]; omega⟩
    · refine T.bind p1 (T.ite k0 (T.ite (by rw [d1]; simp) ?_))
      simp only [hr]
      refine T.cbind (a := (atoiV d, none)) ?_ (T.bind (Word8_T _) (T.pure _))
      unfold strconv_Atoi.f
      rw [if_pos ⟨by omega, d2⟩]
    · rw [← hkk, k0]; exact VB.int v d d4 d2 d3
  by_cases k1 : kind = 1
  · obtain ⟨c, d1, d2, d3⟩ := q1 k1
    have hr : rdOf ByteArray.empty parts 0 = bs [c] := by rw [d1]; rfl
    have hbt : bt (bs [c]) 0 = (c.toNat : Int) := bt_ls (bs [c]) 0 (by simp [ls])
    refine ⟨wordL (if c = 116 then 1 else 0) 1, ?_, ?_, by rw [wordL_length]; omega⟩
    · refine T.bind p1 (T.ite' k0 (T.ite k1 (T.ite (by rw [d1]; simp) ?_)))
      simp only [hr]
      refine T.ite (by rw [bs_size]; simp) ?_
      rw [hbt, wrap64_id (by have := c.toNat_lt; omega) (by have := c.toNat_lt; omega)]
      refine T.bind (there_T [(c.toNat : Int)] (by simp) 116) ?_
      have e : (([(c.toNat : Int)].count 116 : Nat) : Int) = if c = 116 then 1 else 0 := by
        rcases d2 with h | h <;> subst h <;> decide
      rw [e]
      exact T.bind (Word1_T _) (T.pure _)
    · rw [← hkk, k1]; exact VB.bool v c d2 d3
  · have k2 : kind = 2 := by omega
    obtain ⟨x, d1, d2⟩ := q2 k2
    have hx : x.size ≤ 65536 := by
      have := congrArg List.length d2
      rw [ls_length, List.length_cons, List.length_append, List.length_cons, ls_length] at this
      omega
    have hr : rdOf ByteArray.empty parts 0 = x := by rw [d1]; rfl
    refine ⟨wordL (x.size : Int) 4 ++ ls x, ?_, ?_, by rw [List.length_append, wordL_length, ls_length]; omega⟩
    · refine T.bind p1 (T.ite' k0 (T.ite' k1 (T.ite (by rw [d1]; simp) ?_)))
      simp only [hr]
      refine T.bind (Word4_T _) (T.ite (by rw [bs_size, wordL_length]; omega) (T.const ?_))
      rw [← bs_ls x, bs_append]
    · rw [← hkk, k2]; exact VB.bytes v x d2 hx
/-- Values' bytes, one behind the other. -/
inductive VS (kind : Int) : List ByteArray → List UInt8 → Prop
  | nil : VS kind [] []
  | cons (v : ByteArray) (vs : List ByteArray) (o r : List UInt8) : VB kind v o → VS kind vs r → VS kind (v :: vs) (o ++ r)
theorem VS_inj {kind : Int} : ∀ {vs vs' : List ByteArray} {o o' : List UInt8}, VS kind vs o → VS kind vs' o' → o = o' → vs.length = vs'.length → vs = vs' := by
  intro vs vs' o o' h
  induction h generalizing vs' o' with
  | nil => intro _ _ hl; exact (List.length_eq_zero_iff.1 hl.symm).symm
  | cons v vs o r h1 h2 ih =>
    intro h' e hl
    cases h' with
    | nil => simp at hl
    | cons v' vs2 o2 r2 h1' h2' =>
      obtain ⟨e1, e2⟩ := VB_inj h1 h1' e
      rw [e1, ih h2' e2 (by simpa using hl)]
/-- How wide a level's numbers are. -/
def wOf (m : Int) : Nat := Lib.bitLen m.toNat
theorem wOf_ok (m : Int) (h0 : 0 ≤ m) (h1 : m ≤ 10) : wOf m ≤ 4 ∧ m < 2 ^ wOf m := by
  have h : ∀ v : Fin 11, Lib.bitLen v.val ≤ 4 ∧ v.val < 2 ^ Lib.bitLen v.val := by decide +kernel
  have := h ⟨m.toNat, by omega⟩
  refine ⟨this.1, ?_⟩
  have h2 : ((m.toNat : Nat) : Int) < ((2 ^ Lib.bitLen m.toNat : Nat) : Int) := Int.ofNat_lt.2 this.2
  rw [Int.toNat_of_nonneg h0] at h2
  unfold wOf
  simpa using h2
theorem levels_T (xs : List Int) (m : Int) (h0 : 0 ≤ m) (h1 : m ≤ 10) (hl : xs.length ≤ 4096) (hx : ∀ x ∈ xs, 0 ≤ x ∧ x ≤ m) :
    ∃ b, HP (wOf m) xs b ∧ b.length ≤ 30 * xs.length ∧ T (fun k => page_levels.f k xs m) (bs b) ∧ InW (wOf m) xs := by
  have hw := wOf_ok m h0 h1
  have hi : InW (wOf m) xs := fun x h => by have := hx x h; omega
  obtain ⟨b, b1, b2, b3⟩ := HPut_T (wOf m) (by omega) xs hl hi
  refine ⟨b, b1, b2, ?_, hi⟩
  unfold page_levels.f
  refine T.cbind (a := (wOf m : Int)) ?_ (T.bind b3 (T.pure _))
  have e : IntKind.u64.wrap m = m := by rw [IntKind.wrap_u64]; omega
  unfold bits_Len.f
  rw [e, if_pos (by omega)]; rfl
/-- A page's body. -/
def PB (kind rep de : Int) (reps defs : List Int) (vals : List ByteArray) (body : List UInt8) : Prop :=
  ∃ rb db vb, HP (wOf rep) reps rb ∧ HP (wOf de) defs db ∧ VS kind vals vb ∧ rb.length ≤ 200000 ∧ db.length ≤ 200000 ∧
    body = wordL (reps.length : Int) 4 ++ (wordL (rb.length : Int) 4 ++ (wordL (db.length : Int) 4 ++ (rb ++ (db ++ vb))))
theorem word4_inj {x y : Nat} (hx : x < 4294967296) (hy : y < 4294967296) (h : wordL (x : Int) 4 = wordL (y : Int) 4) : x = y := by
  have e3 := wordL_inj _ _ _ h
  rw [show (256 : Int) ^ 4 = 4294967296 by decide] at e3
  omega
theorem PB_inj {t : List S24} {leaf rep de : Int} {reps defs reps' defs' : List Int} {vals vals' : List ByteArray} {body : List UInt8} (h0 : 0 ≤ rep) (h1 : rep ≤ 10) (h2 : 0 ≤ de) (h3 : de ≤ 10)
    (hc : ColOK t leaf rep de reps defs vals) (hc' : ColOK t leaf rep de reps' defs' vals')
    (h : PB (rd_T24 t leaf).f0 rep de reps defs vals body) (h' : PB (rd_T24 t leaf).f0 rep de reps' defs' vals' body) : reps = reps' ∧ defs = defs' ∧ vals = vals' := by
  obtain ⟨rb, db, vb, a1, a2, a3, a4, a5, a6⟩ := h
  obtain ⟨rb', db', vb', b1, b2, b3, b4, b5, b6⟩ := h'
  have hl := hc.len
  have hl' := hc'.len
  rw [a6] at b6
  obtain ⟨c1, c2⟩ := List.append_inj b6 (by rw [wordL_length, wordL_length])
  obtain ⟨c3, c4⟩ := List.append_inj c2 (by rw [wordL_length, wordL_length])
  obtain ⟨c5, c6⟩ := List.append_inj c4 (by rw [wordL_length, wordL_length])
  have d1 := word4_inj (by omega) (by omega) c1
  have d2 := word4_inj (by omega) (by omega) c3
  have d3 := word4_inj (by omega) (by omega) c5
  obtain ⟨c7, c8⟩ := List.append_inj c6 d2
  obtain ⟨c9, c10⟩ := List.append_inj c8 d3
  have w1 := wOf_ok rep h0 h1
  have w2 := wOf_ok de h2 h3
  have e1 := HP_inj (by omega) a1 b1 c7 d1 (fun x hx => by have := hc.rin x hx; omega) (fun x hx => by have := hc'.rin x hx; omega)
  have e2 := HP_inj (by omega) a2 b2 c9 (by omega) (fun x hx => by have := hc.din x hx; omega) (fun x hx => by have := hc'.din x hx; omega)
  refine ⟨e1, e2, VS_inj a3 b3 c10 ?_⟩
  rw [hc.many, hc'.many, e2]
theorem Put_l1 (t : List S24) (leaf rep de : Int) (reps defs : List Int) (vals : List ByteArray) (hc : ColOK t leaf rep de reps defs vals) (hl : vals.length ≤ 4096) :
    ∀ n i : Nat, i + n = vals.length → ∀ acc : List UInt8, acc.length + 70000 * n ≤ 1000000000 →
    ∃ r, VS (rd_T24 t leaf).f0 (vals.drop i) r ∧ r.length ≤ 70000 * n ∧ T (fun k => page_Put.l1 k vals (vals.length : Int) (i : Int) (bs acc)) (bs (wordL (crcV (bs (acc ++ r))) 4 ++ (acc ++ r)), 0) := by
  intro n
  induction n with
  | zero =>
    intro i hi acc ha
    refine ⟨[], by rw [List.drop_of_length_le (by omega)]; exact VS.nil, by simp, T.succ ?_⟩
    simp only [page_Put.l1, List.append_nil]
    refine T.ite' (by omega) (T.cbind (a := (bs acc, bs acc)) rfl (T.bind (crc_T (bs acc) (by rw [bs_size]; omega)) (T.bind (Word4_T _) (T.cbind (a := (bs acc, bs acc)) rfl (T.ite ?_ (T.const ?_))))))
    · rw [bs_size, bs_size, wordL_length]; omega
    · rw [bs_append]
  | succ n ih =>
    intro i hi acc ha
    have hi' : i < vals.length := by omega
    have hv := hc.vin vals[i] (List.getElem_mem hi')
    obtain ⟨o, o1, o2, o3⟩ := bytes_T t leaf vals[i] hv.1 hv.2 hc.kind
    obtain ⟨r, r1, r0, r2⟩ := ih (i + 1) (by omega) (acc ++ o) (by rw [List.length_append]; omega)
    refine ⟨o ++ r, ?_, by rw [List.length_append]; omega, T.succ ?_⟩
    · rw [List.drop_eq_getElem_cons hi']; exact VS.cons _ _ _ _ o2 r1
    · simp only [page_Put.l1]
      rw [rdOf_get _ vals i hi', show wrap64 ((i : Int) + 1) = ((i + 1 : Nat) : Int) by rw [wrap64_id (by omega) (by omega)]; omega]
      refine T.ite (by omega) (T.ite (by omega) (T.ite (by omega) (T.bind o1 (T.cbind (WS _ _ (by omega)) ?_))))
      refine T.eq r2 ?_
      rw [List.append_assoc]
theorem Put_l0 (rb db : List UInt8) (ys : List Int) (hy : ys.length ≤ 1000) (reps defs : List Int) (vals : List ByteArray) (res : ByteArray × Int) (hrb : rb.length ≤ 200000) (hdb : db.length ≤ 200000) :
    ∀ n i : Nat, i + n = ys.length → ∀ acc : List UInt8, acc.length + 4 * n ≤ 1000000 →
    T (fun k => page_Put.l1 k vals (vals.length : Int) 0 (bs (acc ++ ((ys.drop i).flatMap (fun y => wordL y 4) ++ (rb ++ db))))) res →
    T (fun k => page_Put.l0 k (bs rb) (bs db) ys (ys.length : Int) (i : Int) reps defs vals (bs acc)) res := by
  intro n
  induction n with
  | zero =>
    intro i hi acc ha h
    refine T.succ ?_
    simp only [page_Put.l0]
    rw [List.drop_of_length_le (by omega)] at h
    refine T.ite' (by omega) (T.ite (by rw [bs_size, bs_size]; omega) ?_)
    rw [bs_append]
    exact T.cbind (WS _ _ (by rw [List.length_append]; omega)) h
  | succ n ih =>
    intro i hi acc ha h
    have hi' : i < ys.length := by omega
    refine T.succ ?_
    simp only [page_Put.l0]
    rw [rd_get ys i hi', show wrap64 ((i : Int) + 1) = ((i + 1 : Nat) : Int) by rw [wrap64_id (by omega) (by omega)]; omega]
    refine T.ite (by omega) (T.ite (by omega) (T.ite (by omega) (T.bind (Word4_T _) (T.cbind (WS _ _ (by rw [wordL_length]; omega)) ?_))))
    refine ih (i + 1) (by omega) _ (by rw [List.length_append, wordL_length]; omega) ?_
    rw [List.drop_eq_getElem_cons hi', List.flatMap_cons, List.append_assoc, ← List.append_assoc] at h
    exact h
/-- page.Put's answer: a refusal with no text, or the page. -/
theorem PagePut_T (t : List S24) (leaf : Int) (reps defs : List Int) (vals : List ByteArray) (hr : reps.length < 9223372036854775808) (hd : defs.length < 9223372036854775808) (hv : vals.length < 9223372036854775808) :
    ∃ rep de er s e, T (fun k => types_Levels.f k t leaf) (rep, de, er) ∧ 0 ≤ rep ∧ rep ≤ 10 ∧ 0 ≤ de ∧ de ≤ 10 ∧ T (fun k => page_Put.f k t leaf reps defs vals) (s, e) ∧
      ((e = 2200 ∧ s = bs []) ∨ (e = 0 ∧ ColOK t leaf rep de reps defs vals ∧ ∃ body, PB (rd_T24 t leaf).f0 rep de reps defs vals body ∧ s = bs (wordL (crcV (bs body)) 4 ++ body) ∧ body.length < 1000000000)) := by
  obtain ⟨rep, de, er, b, l1, l2, l3, l4, l5, b1, b2⟩ := PMay_T t leaf reps defs vals hr hd hv
  cases b with
  | false =>
    refine ⟨rep, de, er, bs [], 2200, l1, l2, by omega, l4, l5, ?_, Or.inl ⟨rfl, rfl⟩⟩
    unfold page_Put.f
    exact T.bind b1 (T.ite' (by simp) (T.pure _))
  | true =>
    have hc := b2 rfl
    have hl := hc.len
    have hcount : vals.length ≤ 4096 := by
      rw [hc.many]
      have := List.count_le_length (a := de) (l := defs)
      omega
    obtain ⟨rb, r1, r2, r3, _⟩ := levels_T reps rep l2 (by omega) hl.2 hc.rin
    obtain ⟨db, d1, d2, d3, _⟩ := levels_T defs de l4 l5 (by omega) hc.din
    obtain ⟨vb, v1, v0, v2⟩ := Put_l1 t leaf rep de reps defs vals hc hcount vals.length 0 (by omega) (wordL (reps.length : Int) 4 ++ (wordL (rb.length : Int) 4 ++ (wordL (db.length : Int) 4 ++ (rb ++ db)))) (by
      simp only [List.length_append, wordL_length]; omega)
    refine ⟨rep, de, er, _, 0, l1, l2, by omega, l4, l5, ?_, Or.inr ⟨rfl, hc, _, ⟨rb, db, vb, r1, d1, by simpa using v1, by omega, by omega, rfl⟩, rfl, by simp only [List.length_append, wordL_length]; omega⟩⟩
    unfold page_Put.f
    refine T.bind b1 (T.ite rfl (T.bind l1 (T.bind r3 (T.bind d3 (T.cbind rfl ?_)))))
    have hh := Put_l0 rb db [(reps.length : Int), (rb.length : Int), (db.length : Int)] (by simp) reps defs vals _ (by omega) (by omega) 3 0 rfl [] (by simp) (by
      have e : ([] : List UInt8) ++ (([(reps.length : Int), (rb.length : Int), (db.length : Int)].drop 0).flatMap (fun y => wordL y 4) ++ (rb ++ db)) = wordL (reps.length : Int) 4 ++ (wordL (rb.length : Int) 4 ++ (wordL (db.length : Int) 4 ++ (rb ++ db))) := by simp
      rw [e]; exact v2)
    simp only [List.append_assoc] at hh
    rw [bs_size, bs_size]
    exact hh
end Go.Proofs.YtkcmkedboflklaaGreatDoor.Q
namespace Go.Proofs.YtkcmkedboflklaaGreatDoor.Q
open Go.RowKit Go.Proofs.YtkcmkedboflklaaGreatDoorW.PrintWords Go.Proofs.YtkcmkedboflklaaGreatDoorW.PrintLast Go.Proofs.YtkcmkedboflklaaGreatDoorW.PrintMore
attribute [local go_sem] max2_int min2_int max_two min_two max_three min_three max_four min_four
set_option linter.unusedVariables false
set_option linter.unusedSimpArgs false
set_option maxHeartbeats 8000000
set_option maxRecDepth 100000

def quiverlaw0_Num.f (a0 : Int) : Option (Int) := some a0
theorem quiverlaw0_Num.calls (a0 : Int) (r : Int) (w : World) (h : quiverlaw0_Num.f a0 = some r) :
  Calls Tryz.prog 15 #[.int .i64 a0] w fun e w' => e = .returned (.int .i64 r) ∧ Drawn0 w w' := by
 have H : (some a0) = some r := h
 clear h
 obtain rfl := Option.some.inj H
 go_enter Tryz.func15, Tryz.ntmps15
 go_wp2
 go_ret
 exact ⟨by first | rfl | (simp; done) | (simp [*]; done), by repeat (first | exact Drawn0.refl _ | apply Drawn0.step)⟩

def quiverlaw22_ints.f  : Option ((List (S24))) := some (([(⟨0, (-1), true⟩ : S24)] : List (S24)))
theorem quiverlaw22_ints.calls  (r : List (S24)) (w : World) (h : quiverlaw22_ints.f  = some r) :
  Calls Tryz.prog 16 #[] w fun e w' => ∃ v0_ : Value, e = .returned (.agg #[v0_]) ∧ Kd.R k24 24 w' w.heap.size (fun _ => True) v0_ r ∧ Below w.heap.size w w' := by
 have hu27 := Tryz.underlying27
 have hu24 := Tryz.underlying24
 have HB := am (Below.refl w.heap.size w)
 have H : (some (([(⟨0, (-1), true⟩ : S24)] : List (S24)))) = some r := h
 clear h
 obtain ⟨y469, hy469⟩ : ∃ y_ : List (S24), y_ = (([(⟨0, (-1), true⟩ : S24)] : List (S24))) := ⟨_, rfl⟩
 replace H : (some y469) = some r := by first | (rw [hy469]; with_reducible exact H) | (have H2_ := (Option.bind_some _ _).symm.trans H; rw [hy469]; with_reducible exact H2_) | (have H2_ := (Option.bind_some _ _).symm.trans H; with_reducible exact H2_) | with_reducible exact H | (rw [hy469]; exact H) | exact H
 have Ny469 := am hy469
 clear hy469
 obtain rfl := Option.some.inj H
 go_enter Tryz.func16, Tryz.ntmps16
 go_wp2_with (first | ((with_reducible refine gate_dst (N := 0) rfl ?_); refine box_event ?hg (N := 0) ?hd (cs := #[.slice none 0 0]) (t := 27) ?hr ?_; (case hd => rfl); (case hg => rfl); (case hr => exact zh); intro gb468 hg w1 hbox hb; have n0_ := am (below_step (zl HB.out) hb); have n1_ := am (hbox); have n2_ := am ((by rw [hg]; exact (below_size (zl HB.out)) : w.heap.size ≤ gb468)); have n3_ := am ((by rw [hg]; exact (below_size (zl HB.out)) : w.heap.size ≤ gb468)); clear HB; have HB := n0_; have BK468 := n1_; have GW468 := n2_; have GE468 := n3_; clear n0_ n1_ n2_ n3_; clear hb hbox hg) | ((with_reducible refine gate_dst (N := 2) rfl ?_); refine Kd.R_lit k24 _ 24 ?hg (N := 2) ?hd (xs := ([(⟨0, (-1), true⟩ : S24)] : List (S24))) (inner := [.int .i64 0, .int .i64 (-1), .bool true]) (ok := fun _ => True) (okp := fun _ => True) ?hr ?hp (fun _ hk => hk) trivial (Below.refl _ _) (Nat.le_refl _) (by simp) ?_; (case hd => rfl); (case hg => rfl); (case hr => exact zh); (case hp => exact (Reps.c3 (show Kd.M k24 _ _ _ (⟨0, (-1), true⟩ : S24) [.int .i64 0, .int .i64 (-1), .bool true] from (k24_mkM _ _ _ (⟨0, (-1), true⟩ : S24) )) (Reps.none _ _))); intro v470 w2 ho3 hb hg_ hnew_; clear hg_ hnew_; (first | rw [← Ny469.out] at ho3 | (simp only [Int.reduceToNat] at ho3; rw [← Ny469.out] at ho3)); have n0_ := am (Kd.R_lower ho3 (below_size (zl1 HB.out GE468.out))); have n1_ := am (zbb BK468.out hb); have n2_ := am (below_step (zl1 HB.out GE468.out) hb); clear BK468 HB; have HO471 := n0_; have BK468 := n1_; have HB := n2_; clear n0_ n1_ n2_; clear hb ho3; obtain ⟨Ao4, co4, eo4⟩ := Kd.R_slice HO471.out; subst eo4; have hcz5_0 : w2.cell? ⟨gb468, 0, none⟩ = some (.slice none 0 0) := (blk_cell BK468.out 0).trans rfl; have hfz5_0 := blk_frozen BK468.out 0))
 refine bodyPost_ret (results_cell_row rfl _ _ gb468 27 #[.slice Ao4 y469.length co4] (0, 0) _ rfl (by refine zb ?_; refine blk_put (cs := #[.slice none 0 0]) ?_ 0 _ rfl; refine zb ?_; exact BK468.out) Tryz.underlying27 rfl (by kernel_rfl)) rfl ?_
 exact ⟨_, ze, by refine zr ?_; exact Kd.R_mono (zf1 _ HO471.out BK468.out) (fun _ hk => trivial), zl1 HB.out GE468.out⟩
def bits_On.f (a0 : ByteArray) (a1 : Int) : Option (Bool) := if 0 ≤ (wrap64 (Int.tdiv a1 8)) then (if (wrap64 (Int.tdiv a1 8)) < (a0.size : Int) then (if 0 ≤ (Int.tmod a1 8) then (some ((Go.bits .and .u8 (shr .u8 (bt a0 (wrap64 (Int.tdiv a1 8))) (Int.tmod a1 8)) 1) == 1)) else (none)) else (none)) else (none)
theorem bits_On.calls (a0 : ByteArray) (a1 : Int) (r : Bool) (w : World) (h : bits_On.f a0 a1 = some r) :
  Calls Tryz.prog 113 #[.string a0, .int .i64 a1] w fun e w' => e = .returned (.bool r) ∧ Drawn0 w w' := by
 have H : (if 0 ≤ (wrap64 (Int.tdiv a1 8)) then (if (wrap64 (Int.tdiv a1 8)) < (a0.size : Int) then (if 0 ≤ (Int.tmod a1 8) then (some ((Go.bits .and .u8 (shr .u8 (bt a0 (wrap64 (Int.tdiv a1 8))) (Int.tmod a1 8)) 1) == 1)) else (none)) else (none)) else (none)) = some r := h
 clear h
 obtain ⟨ji3, hji3⟩ : ∃ j_ : Int, (wrap64 (Int.tdiv a1 8)) = j_ := ⟨_, rfl⟩
 replace H : (if 0 ≤ (ji3) then (if (ji3) < (a0.size : Int) then (if 0 ≤ (Int.tmod a1 8) then (some ((Go.bits .and .u8 (shr .u8 (bt a0 (ji3)) (Int.tmod a1 8)) 1) == 1)) else (none)) else (none)) else (none)) = some r := by first | (rw [hji3] at H; exact H) | (simp only [hji3] at H ⊢; exact H)
 have hji3w : (IntKind.i64.wrap (Int.tdiv a1 8)) = ji3 := (i64_w _).trans hji3
 by_cases c4 : 0 ≤ (ji3)
 ·
  rw [if_pos c4] at H
  have c4b0 := decide_eq_true c4
  clear c4
  by_cases c5 : (ji3) < (a0.size : Int)
  ·
   rw [if_pos c5] at H
   have c5b0 := decide_eq_true c5
   clear c5
   obtain ⟨ji7, hji7⟩ : ∃ j_ : Int, (Int.tmod a1 8) = j_ := ⟨_, rfl⟩
   replace H : (if 0 ≤ (ji7) then (some ((Go.bits .and .u8 (shr .u8 (bt a0 (ji3)) (ji7)) 1) == 1)) else (none)) = some r := by first | (rw [hji7] at H; exact H) | (simp only [hji7] at H ⊢; exact H)
   by_cases c8 : 0 ≤ (ji7)
   ·
    rw [if_pos c8] at H
    have c8b0 := eq_true c8
    have c8b1 := decide_eq_true c8
    clear c8
    obtain ⟨ji9, hji9⟩ : ∃ j_ : Int, (shr .u8 (bt a0 (ji3)) (ji7)) = j_ := ⟨_, rfl⟩
    replace H : (some ((Go.bits .and .u8 (ji9) 1) == 1)) = some r := by first | (rw [hji9] at H; exact H) | (simp only [hji9] at H ⊢; exact H)
    have hji9_ : ((bt a0 (ji3)) / 2 ^ min (ji7).toNat 8) = ji9 := hji9
    have hji9z : (ji7) ≤ 8 → ((bt a0 (ji3)) / 2 ^ (ji7).toNat) = ji9 := shr_small hji9
    obtain rfl := Option.some.inj H
    have p6 : 0 ≤ ((ji3) : Int) := of_decide_eq_true za
    have q6 : (ji3) < (a0.size : Int) := of_decide_eq_true za
    have hx6 := bt_at a0 (ji3)
    replace p6 := eq_true p6
    replace q6 := eq_true q6
    go_enter Tryz.func113, Tryz.ntmps113
    go_wp2
    go_ret
    exact ⟨by first | rfl | (simp; done) | (simp only [← hji3, ← hji7, ← hji9] <;> (first | rfl | simp)) | (simp [*]; done), by repeat (first | exact Drawn0.refl _ | apply Drawn0.step)⟩
   ·
    rw [if_neg c8] at H
    exact absurd H (by simp)
  ·
   rw [if_neg c5] at H
   exact absurd H (by simp)
 ·
  rw [if_neg c4] at H
  exact absurd H (by simp)
end Go.Proofs.YtkcmkedboflklaaGreatDoor.Q
