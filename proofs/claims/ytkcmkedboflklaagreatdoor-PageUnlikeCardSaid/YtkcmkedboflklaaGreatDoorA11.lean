/- Steps towards: PageUnlike: unlike columns have unlike pages, for every type, every leaf and every two columns; no condition beside the row's own (the library's listed variables hold what the program's text lays). -/
import Derived.Test.YtkcmkedboflklaaGreatDoorA2
import Derived.Test.YtkcmkedboflklaaGreatDoorA7
import Derived.Test.YtkcmkedboflklaaGreatDoorA9
namespace Go.Proofs.YtkcmkedboflklaaGreatDoor.Q
open Go.RowKit Go.Proofs.YtkcmkedboflklaaGreatDoorW.PrintWords Go.Proofs.YtkcmkedboflklaaGreatDoorW.PrintLast Go.Proofs.YtkcmkedboflklaaGreatDoorW.PrintMore
attribute [local go_sem] max2_int min2_int max_two min_two max_three min_three max_four min_four
set_option linter.unusedVariables false
set_option linter.unusedSimpArgs false
set_option maxHeartbeats 8000000
set_option maxRecDepth 100000


mutual
def value_Fits.j0 : Nat → Int → Int → List ByteArray → Int → Bool → List (S24) → Int → Int → Bool → Option (Bool)
 | 0, _, _, _, _, _, _, _, _, _ => none
 | k + 1, x1, x7, x8, x9, x36, x318000, x326000, x326001, x326002 => if x36 = true then (if x9 = 0 then (some x326002) else (some false)) else ((types_Kids.f k x318000 x1).bind fun bt326 => (if x7 = x326000 then (if x7 = 2 then (if 0 < (x8.length : Int) then (some (decide (((rdOf ByteArray.empty x8 0).size : Int) ≤ 16))) else (none)) else (if x7 = 4 then ((value_all_int_string.f k bt326.1 x8 x318000).bind fun t331 => (some t331)) else (value_Fits.l0 k x7 x8 bt326.1 x8 (x8.length : Int) 0 x318000))) else (some false)))
def value_Fits.l0 : Nat → Int → List ByteArray → List Int → List ByteArray → Int → Int → List (S24) → Option (Bool)
 | 0, _, _, _, _, _, _, _ => none
 | k + 1, x7, x8, x11, x70, x71, x72, x318000 => if x72 < x71 then (if 0 ≤ x72 then (if x72 < (x70.length : Int) then (if x7 = 3 then (if 0 < (x11.length : Int) then ((value_Fits_1.f k (rd x11 0) (rdOf ByteArray.empty x70 x72) x318000).bind fun t334 => (if t334 = true then (value_Fits.l0 k x7 x8 x11 x70 x71 (wrap64 (x72 + 1)) x318000) else (some false))) else (none)) else (value_Fits.l0 k x7 x8 x11 x70 x71 (wrap64 (x72 + 1)) x318000)) else (none)) else (none)) else (some (decide ((x8.length : Int) ≤ 64)))
def value_Fits.f : Nat → List (S24) → Int → ByteArray → Option (Bool)
 | 0, _, _, _ => none
 | k + 1, l0_0, a1, a2 => (types_Node.f k l0_0 a1).bind fun t318 => (if t318 = true then ((value_Parts.f k a2).bind fun bt319 => (if 0 ≤ a1 then (if a1 < (l0_0.length : Int) then (if bt319.2.2 = 0 then (value_Fits.j0 k a1 bt319.1 bt319.2.1 bt319.2.2 (bt319.1 == (-1)) l0_0 ((rd_T24 l0_0 a1).f0) ((rd_T24 l0_0 a1).f1) ((rd_T24 l0_0 a1).f2)) else (value_Fits.j0 k a1 bt319.1 bt319.2.1 bt319.2.2 true l0_0 ((rd_T24 l0_0 a1).f0) ((rd_T24 l0_0 a1).f1) ((rd_T24 l0_0 a1).f2))) else (none)) else (none))) else (some false))
def value_Fits_1.f : Nat → Int → ByteArray → List (S24) → Option (Bool)
 | 0, _, _, _ => none
 | k + 1, a0, a1, l2_0 => (value_Fits.f k l2_0 a0 a1).bind fun t335 => (some t335)
def value_all_int_string.l0 : Nat → List Int → List ByteArray → Int → Int → List (S24) → Option (Bool)
 | 0, _, _, _, _, _ => none
 | k + 1, x0, x1, x12, x13, x3000 => if x13 < x12 then (if 0 ≤ x13 then (if x13 < (x0.length : Int) then (if x13 < (x1.length : Int) then ((value_Fits_1.f k (rd x0 x13) (rdOf ByteArray.empty x1 x13) x3000).bind fun t338 => (if t338 = true then (value_all_int_string.l0 k x0 x1 x12 (wrap64 (x13 + 1)) x3000) else (some false))) else (none)) else (none)) else (none)) else (some ((x0.length : Int) == (x1.length : Int)))
def value_all_int_string.f : Nat → List Int → List ByteArray → List (S24) → Option (Bool)
 | 0, _, _, _ => none
 | k + 1, l0, l1, l2_0 => value_all_int_string.l0 k l0 l1 (mn (l0.length : Int) (l1.length : Int)) 0 l2_0
end
abbrev value_Fits.Con (k : Nat) : Prop := ∀ (A0_0 : Option Addr) (c0_0 : Nat) (l0_0 : List (S24)) (a1 : Int) (a2 : ByteArray) (r : Bool) (w : World) (hr0_0 : Kd.C k24 w A0_0 l0_0.length l0_0) (hc0_0 : l0_0.length ≤ c0_0) (hG : GL w) (h : value_Fits.f k l0_0 a1 a2 = some r),
  Calls Tryz.prog 67 #[.agg #[.slice A0_0 l0_0.length c0_0], .int .i64 a1, .string a2] w fun e w' => e = .returned (.bool r) ∧ Below w.heap.size w w'
abbrev value_Fits_1.Con (k : Nat) : Prop := ∀ (a0 : Int) (a1 : ByteArray) (g2 : Nat) (A2_0 : Option Addr) (c2_0 : Nat) (l2_0 : List (S24)) (r : Bool) (w : World) (hr2_0 : Kd.C k24 w A2_0 l2_0.length l2_0) (hc2_0 : l2_0.length ≤ c2_0) (hb2 : w.heap[g2]? = some (.cells #[.slice A2_0 l2_0.length c2_0] 27 (0, 0))) (hG : GL w) (h : value_Fits_1.f k a0 a1 l2_0 = some r),
  Calls Tryz.prog 97 #[.int .i64 a0, .string a1, .pointer (some ⟨g2, 0, none⟩)] w fun e w' => e = .returned (.bool r) ∧ Below w.heap.size w w'
abbrev value_all_int_string.Con (k : Nat) : Prop := ∀ (A0 : Option Addr) (c0 : Nat) (l0 : List Int) (A1 : Option Addr) (c1 : Nat) (l1 : List ByteArray) (g2 : Nat) (A2_0 : Option Addr) (c2_0 : Nat) (l2_0 : List (S24)) (r : Bool) (w : World) (hr0 : Kd.C (Kd.int .i64) w A0 l0.length l0) (hc0 : l0.length ≤ c0) (hr1 : Kd.C Kd.string w A1 l1.length l1) (hc1 : l1.length ≤ c1) (hr2_0 : Kd.C k24 w A2_0 l2_0.length l2_0) (hc2_0 : l2_0.length ≤ c2_0) (hb2 : w.heap[g2]? = some (.cells #[.slice A2_0 l2_0.length c2_0] 27 (0, 0))) (hG : GL w) (h : value_all_int_string.f k l0 l1 l2_0 = some r),
  Calls Tryz.prog 98 #[.slice A0 l0.length c0, .slice A1 l1.length c1, .func (.func 97) #[] #[.pointer (some ⟨g2, 0, none⟩)]] w fun e w' => e = .returned (.bool r) ∧ Below w.heap.size w w'
theorem value_Fits.step (k : Nat) (ih_value_Fits : ∀ k_ < k, value_Fits.Con k_) (ih_value_Fits_1 : ∀ k_ < k, value_Fits_1.Con k_) (ih_value_all_int_string : ∀ k_ < k, value_all_int_string.Con k_) : value_Fits.Con k := by
 intro A0_0 c0_0 l0_0 a1 a2 r w hr0_0 hc0_0 hG h
 cases k with
 | zero => exact absurd h (by simp [value_Fits.f])
 | succ k =>
 simp only [value_Fits.f] at h
 have hu27 := Tryz.underlying27
 have hu24 := Tryz.underlying24
 have HR0_0 := am hr0_0
 have HC0_0 := am hc0_0
 clear hr0_0 hc0_0
 have HB := am (Below.refl w.heap.size w)
 have HG := am hG
 clear hG
 have H : ((types_Node.f k l0_0 a1).bind fun t318 => (if t318 = true then ((value_Parts.f k a2).bind fun bt319 => (if 0 ≤ a1 then (if a1 < (l0_0.length : Int) then (if bt319.2.2 = 0 then (value_Fits.j0 k a1 bt319.1 bt319.2.1 bt319.2.2 (bt319.1 == (-1)) l0_0 ((rd_T24 l0_0 a1).f0) ((rd_T24 l0_0 a1).f1) ((rd_T24 l0_0 a1).f2)) else (value_Fits.j0 k a1 bt319.1 bt319.2.1 bt319.2.2 true l0_0 ((rd_T24 l0_0 a1).f0) ((rd_T24 l0_0 a1).f1) ((rd_T24 l0_0 a1).f2))) else (none)) else (none))) else (some false))) = some r := h
 clear h
 replace H := zo H
 obtain ⟨t318, A40, H⟩ := H
 (try dsimp only at H)
 have A4 := am A40
 clear A40
 by_cases c5 : t318 = true
 ·
  subst c5
  rw [if_pos rfl] at H
  replace H := zo H
  obtain ⟨⟨t319, t320, t321⟩, A60, H⟩ := H
  (try dsimp only at H)
  have A6 := am A60
  clear A60
  by_cases c7 : 0 ≤ a1
  ·
   rw [if_pos c7] at H
   have c7b0 := decide_eq_true c7
   clear c7
   by_cases c8 : a1 < (l0_0.length : Int)
   ·
    rw [if_pos c8] at H
    have c8b0 := decide_eq_true c8
    clear c8
    have HC9 := am H
    clear H
    go_enter Tryz.func67, Tryz.ntmps67
    go_upto_region 5 with (first | ((with_reducible refine gate_dst (N := 3) rfl ?_); refine box_event ?hg (N := 3) ?hd (cs := #[.slice A0_0 l0_0.length c0_0]) (t := 27) ?hr ?_; (case hd => rfl); (case hg => rfl); (case hr => exact zh); intro gb317 hg w10 hbox hb; have n0_ := am (below_step (zl HB.out) hb); have n1_ := am (hbox); have n2_ := am ((by rw [hg]; exact (below_size (zl HB.out)) : w.heap.size ≤ gb317)); have n3_ := am ((by rw [hg]; exact (below_size (zl HB.out)) : w.heap.size ≤ gb317)); clear HB; have HB := n0_; have BK317 := n1_; have GW317 := n2_; have GE317 := n3_; clear n0_ n1_ n2_ n3_; clear hb hbox hg; have hcz11_0 : w10.cell? ⟨gb317, 0, none⟩ = some (.slice A0_0 l0_0.length c0_0) := (blk_cell BK317.out 0).trans rfl; have hfz11_0 := blk_frozen BK317.out 0) | ((with_reducible refine gate_callee (f := 68) rfl ?_); refine goesL_ (some 18) rfl rfl Tryz.func68 (by kernel_rfl) rfl #[.agg #[.slice A0_0 l0_0.length c0_0], .int .i64 a1] rfl zm ?_; (with_reducible refine (types_Node.calls k _ _ l0_0 a1 true _ ?side1 ?side2 A4.out).mono ?_); (case side1 => exact zc (Kd.C_below HR0_0.out HB.out)); (case side2 => exact HC0_0.out); rintro e w12 ⟨rfl, hb⟩; refine ⟨_, rfl, ?_⟩; have n0_ := am (zbb BK317.out hb); have n1_ := am (below_step (zl1 HB.out GE317.out) hb); clear BK317 HB; have BK317 := n0_; have HB := n1_; clear n0_ n1_; (try clear hb); (try clear hb2); (try clear hk); (try clear hi)) | ((with_reducible refine gate_callee (f := 72) rfl ?_); refine goesL_ (some 22) rfl rfl Tryz.func72 (by kernel_rfl) rfl #[.string a2] rfl zm ?_; (with_reducible refine (value_Parts.calls k a2 t319 t320 t321 _ ?side1 A6.out).mono ?_); (case side1 => exact GL.below HG.out (zl1 HB.out GE317.out)); rintro e w13 ⟨v322, rfl, ho0, hb⟩; refine ⟨_, rfl, ?_⟩; have n0_ := am (Kd.R_lower ho0 (below_size (zl1 HB.out GE317.out))); have n1_ := am (zbb BK317.out hb); have n2_ := am (below_step (zl1 HB.out GE317.out) hb); clear BK317 HB; have HO323 := n0_; have BK317 := n1_; have HB := n2_; clear n0_ n1_ n2_; (try clear hb); (try clear hb2); (try clear hk); (try clear hi); (try clear ho0); have hcz14_0 : w13.cell? ⟨gb317, 0, none⟩ = some (.slice A0_0 l0_0.length c0_0) := (blk_cell BK317.out 0).trans rfl; have hfz14_0 := blk_frozen BK317.out 0; have p324 : 0 ≤ (a1 : Int) := of_decide_eq_true za; have q324 : a1 < (l0_0.length : Int) := of_decide_eq_true za; obtain ⟨ad324, e324, hx324_0, hx324_1, hx324_2⟩ := at_T24 HR0_0.out a1 p324 q324; cases e324; replace hx324_0 := zq HB.out hx324_0; replace hx324_1 := zq HB.out hx324_1; replace hx324_2 := zq HB.out hx324_2; replace p324 := eq_true p324; replace q324 := eq_true q324) | ((with_reducible refine gate_dst (N := 10) rfl ?_); refine box_event ?hg (N := 10) ?hd (cs := #[.int .i64 0, .int .i64 0, .bool false]) (t := 24) ?hr ?_; (case hd => rfl); (case hg => rfl); (case hr => exact zh); intro gb325 hg w15 hbox hb; have n0_ := am (Kd.R_below (zr HO323.out) hb); have n1_ := am (zbb BK317.out hb); have n2_ := am (below_step (zl1 HB.out GE317.out) hb); have n3_ := am (hbox); have n4_ := am ((by rw [hg]; exact (below_size (zl1 HB.out GE317.out)) : w.heap.size ≤ gb325)); have n5_ := am ((by rw [hg]; exact (below_size (zl1 HB.out GE317.out)) : w.heap.size ≤ gb325)); have n6_ := am ((by rw [hg]; exact Nat.ne_of_lt (blk_lt (g := gb317) (o := .cells #[.slice (some ad324) l0_0.length c0_0] 27 (0, 0)) (zb BK317.out)) : gb317 ≠ gb325)); have n7_ := am ((by rw [hg]; exact Nat.ne_of_gt (blk_lt (g := gb317) (o := .cells #[.slice (some ad324) l0_0.length c0_0] 27 (0, 0)) (zb BK317.out)) : gb325 ≠ gb317)); clear HO323 BK317 HB; have HO323 := n0_; have BK317 := n1_; have HB := n2_; have BK325 := n3_; have GW325 := n4_; have GE325 := n5_; have NB317_325 := n6_; have NB325_317 := n7_; clear n0_ n1_ n2_ n3_ n4_ n5_ n6_ n7_; clear hb hbox hg; have hnb16 := NB325_317.out; have hnc16 := NB317_325.out; have hcz17_0 : w15.cell? ⟨gb325, 0, none⟩ = some (.int .i64 0) := (blk_cell BK325.out 0).trans rfl; have hcz17_1 : w15.cell? ⟨gb325, 1, none⟩ = some (.int .i64 0) := (blk_cell BK325.out 1).trans rfl; have hcz17_2 : w15.cell? ⟨gb325, 2, none⟩ = some (.bool false) := (blk_cell BK325.out 2).trans rfl; have hfz17_0 := blk_frozen BK325.out 0; have hfz17_1 := blk_frozen BK325.out 1; have hfz17_2 := blk_frozen BK325.out 2))
    (try simp only [Act.put, List.setIfInBounds_toArray, List.set_cons_zero, List.set_cons_succ])
    go_cut [36] (fun v36 wc => ∃ (kq : Nat) (x36_8 : Bool), v36 = .bool x36_8 ∧ Aside0 (value_Fits.j0 kq a1 t319 t320 t321 x36_8 l0_0 ((rd_T24 l0_0 a1).f0) ((rd_T24 l0_0 a1).f1) ((rd_T24 l0_0 a1).f2) = some r) ∧ Aside0 (kq ≤ k) ∧ Aside0 (Kd.R Kd.string 9 wc w.heap.size (fun _ => True) v322 t320) ∧ Aside0 (wc.heap[gb317]? = some (.cells #[(.slice (some ad324) l0_0.length c0_0)] 27 (0, 0))) ∧ Aside0 (wc.heap[gb325]? = some (.cells #[.int .i64 ((rd_T24 l0_0 a1).f0), .int .i64 ((rd_T24 l0_0 a1).f1), .bool ((rd_T24 l0_0 a1).f2)] 24 (0, 0))) ∧ Aside0 (Below w.heap.size w wc))
    case first =>
     have H := HC9.out
     clear HC9
     by_cases c18 : t321 = 0
     ·
      rw [if_pos c18] at H
      have c18b0 := beq_iff_eq.mpr c18
      have c18b1 := bne_eq_false_iff_eq.mpr c18
      clear c18
      (first | rw [c18b0] | (simp only [i64_w, i32_w]; rw [c18b0]) | skip)
      have H' := am H
      clear H
      go_wp2
      go_meet
      case rel => exact ⟨_, ((t319 == (-1))), zs, H', ⟨by first | omega | exact Nat.le_refl _⟩, ⟨by refine zr ?_; exact Kd.R_mono (zf3 _ _ _ HO323.out BK325.out) (fun _ hk => trivial)⟩, ⟨by refine zb ?_; refine blk_far ?_ NB317_325.out _; refine zb ?_; refine blk_far ?_ NB317_325.out _; refine zb ?_; refine blk_far ?_ NB317_325.out _; refine zb ?_; exact BK317.out⟩, ⟨by refine zb ?_; refine blk_put (cs := #[.int .i64 ((rd_T24 l0_0 a1).f0), .int .i64 ((rd_T24 l0_0 a1).f1), .bool false]) ?_ 2 _ rfl; refine zb ?_; refine blk_put (cs := #[.int .i64 ((rd_T24 l0_0 a1).f0), .int .i64 0, .bool false]) ?_ 1 _ rfl; refine zb ?_; refine blk_put (cs := #[.int .i64 0, .int .i64 0, .bool false]) ?_ 0 _ rfl; refine zb ?_; exact BK325.out⟩, ⟨zl2 HB.out GE317.out GE325.out⟩⟩
     ·
      rw [if_neg c18] at H
      have c18b0 := beq_eq_false_iff_ne.mpr c18
      have c18b1 := bne_iff_ne.mpr c18
      (first | rw [c18b0] | (simp only [i64_w, i32_w]; rw [c18b0]) | skip)
      have H' := am H
      clear H
      go_wp2
      go_meet
      case rel => exact ⟨_, (true), zs, H', ⟨by first | omega | exact Nat.le_refl _⟩, ⟨by refine zr ?_; exact Kd.R_mono (zf3 _ _ _ HO323.out BK325.out) (fun _ hk => trivial)⟩, ⟨by refine zb ?_; refine blk_far ?_ NB317_325.out _; refine zb ?_; refine blk_far ?_ NB317_325.out _; refine zb ?_; refine blk_far ?_ NB317_325.out _; refine zb ?_; exact BK317.out⟩, ⟨by refine zb ?_; refine blk_put (cs := #[.int .i64 ((rd_T24 l0_0 a1).f0), .int .i64 ((rd_T24 l0_0 a1).f1), .bool false]) ?_ 2 _ rfl; refine zb ?_; refine blk_put (cs := #[.int .i64 ((rd_T24 l0_0 a1).f0), .int .i64 0, .bool false]) ?_ 1 _ rfl; refine zb ?_; refine blk_put (cs := #[.int .i64 0, .int .i64 0, .bool false]) ?_ 0 _ rfl; refine zb ?_; exact BK325.out⟩, ⟨zl2 HB.out GE317.out GE325.out⟩⟩
    case rest =>
     clear HC9
     try clear c1
     try clear p2
     try clear p3
     try clear q3
     try clear hx3
     try clear c5
     try clear c6
     try clear c7
     try clear c7b0
     try clear c8
     try clear c8b0
     try clear c16
     try clear c18
     try clear c18b0
     try clear c18b1
     try clear hcz11_0
     try clear hcz14_0
     try clear hcz17_0
     try clear hcz17_1
     try clear hcz17_2
     try clear hfz11_0
     try clear hfz14_0
     try clear hfz17_0
     try clear hfz17_1
     try clear hfz17_2
     try clear hx324_0
     try clear hx324_1
     try clear hx324_2
     try clear p324
     try clear q324
     obtain ⟨kq, x36_8, rfl, HA, HJ8, HO_8, BK317, BK325, HB⟩ := hcut
     cases kq with
     | zero => exact absurd HA.out (by simp [value_Fits.j0])
     | succ kj8 =>
      have H := HA.out
      clear HA
      simp only [value_Fits.j0] at H
      by_cases c19 : x36_8 = true
      ·
       subst c19
       rw [if_pos rfl] at H
       by_cases c20 : t321 = 0
       ·
        rw [if_pos c20] at H
        have c20b0 := beq_iff_eq.mpr c20
        have c20b1 := bne_eq_false_iff_eq.mpr c20
        clear c20
        obtain rfl := Option.some.inj H
        have hnb21 := NB325_317.out
        have hnc21 := NB317_325.out
        have hcz22_0 : wc.cell? ⟨gb325, 0, none⟩ = some (.int .i64 ((rd_T24 l0_0 a1).f0)) := (blk_cell BK325.out 0).trans rfl
        have hcz22_1 : wc.cell? ⟨gb325, 1, none⟩ = some (.int .i64 ((rd_T24 l0_0 a1).f1)) := (blk_cell BK325.out 1).trans rfl
        have hcz22_2 : wc.cell? ⟨gb325, 2, none⟩ = some (.bool ((rd_T24 l0_0 a1).f2)) := (blk_cell BK325.out 2).trans rfl
        have hfz22_0 := blk_frozen BK325.out 0
        have hfz22_1 := blk_frozen BK325.out 1
        have hfz22_2 := blk_frozen BK325.out 2
        go_wp2
        go_ret
        exact ⟨ze, zl2 HB.out GE317.out GE325.out⟩
       ·
        rw [if_neg c20] at H
        have c20b0 := beq_eq_false_iff_ne.mpr c20
        have c20b1 := bne_iff_ne.mpr c20
        obtain rfl := Option.some.inj H
        go_wp2
        go_ret
        exact ⟨ze, zl2 HB.out GE317.out GE325.out⟩
      ·
       replace c19 := Bool.eq_false_iff.mpr c19
       subst c19
       rw [if_neg (show ¬ (false = true) by decide)] at H
       replace H := zo H
       obtain ⟨⟨t326, t329⟩, A230, H⟩ := H
       (try dsimp only at H)
       have A23 := am A230
       clear A230
       by_cases c24 : t319 = ((rd_T24 l0_0 a1).f0)
       ·
        rw [if_pos c24] at H
        have c24b0 := beq_iff_eq.mpr c24
        have c24b1 := bne_eq_false_iff_eq.mpr c24
        clear c24
        by_cases c25 : t319 = 2
        ·
         rw [if_pos c25] at H
         have c25b0 := beq_iff_eq.mpr c25
         have c25b1 := bne_eq_false_iff_eq.mpr c25
         clear c25
         by_cases c26 : 0 < (t320.length : Int)
         ·
          rw [if_pos c26] at H
          have c26b0 := decide_eq_true c26
          have c26b1 : decide (0 < t320.length) = true := decide_eq_true (by omega)
          clear c26
          obtain rfl := Option.some.inj H
          have hnb27 := NB317_325.out
          have hnc27 := NB325_317.out
          have hcz28_0 : wc.cell? ⟨gb317, 0, none⟩ = some (.slice (some ad324) l0_0.length c0_0) := (blk_cell BK317.out 0).trans rfl
          have hfz28_0 := blk_frozen BK317.out 0
          go_wp2_with (first | ((with_reducible refine gate_callee (f := 96) rfl ?_); refine goesL_ (some 46) rfl rfl Tryz.func96 (by kernel_rfl) rfl #[.agg #[.slice (some ad324) l0_0.length c0_0], .int .i64 a1] rfl zm ?_; (with_reducible refine (types_Kids.calls kj8 _ _ l0_0 a1 t326 t329 _ ?side1 ?side2 A23.out).mono ?_); (case side1 => exact zc (Kd.C_below HR0_0.out HB.out)); (case side2 => exact HC0_0.out); rintro e w29 ⟨v327, rfl, ho0, hb⟩; refine ⟨_, rfl, ?_⟩; have n0_ := am (Kd.R_below (zr HO_8.out) hb); have n1_ := am (Kd.R_lower ho0 (below_size (zl2 HB.out GE317.out GE325.out))); have n2_ := am (zbb BK317.out hb); have n3_ := am (zbb BK325.out hb); have n4_ := am (below_step (zl2 HB.out GE317.out GE325.out) hb); clear HO_8 BK317; clear BK325 HB; have HO_8 := n0_; have HO328 := n1_; have BK317 := n2_; have BK325 := n3_; have HB := n4_; clear n0_ n1_ n2_ n3_ n4_; (try clear hb); (try clear hb2); (try clear hk); (try clear hi); (try clear ho0); have hcz30_0 : w29.cell? ⟨gb325, 0, none⟩ = some (.int .i64 ((rd_T24 l0_0 a1).f0)) := (blk_cell BK325.out 0).trans rfl; have hcz30_1 : w29.cell? ⟨gb325, 1, none⟩ = some (.int .i64 ((rd_T24 l0_0 a1).f1)) := (blk_cell BK325.out 1).trans rfl; have hcz30_2 : w29.cell? ⟨gb325, 2, none⟩ = some (.bool ((rd_T24 l0_0 a1).f2)) := (blk_cell BK325.out 2).trans rfl; have hfz30_0 := blk_frozen BK325.out 0; have hfz30_1 := blk_frozen BK325.out 1; have hfz30_2 := blk_frozen BK325.out 2; obtain ⟨Ao31, co31, eo31⟩ := Kd.R_slice HO_8.out; subst eo31; have p330 : 0 ≤ (0 : Int) := (by omega); have q330 : 0 < (t320.length : Int) := of_decide_eq_true za; obtain ⟨ad330, e330, hx330_0⟩ := Kd.at_string (Kd.R_reads' HO_8.out).2.2 0 p330 q330; cases e330; have qi330 : (0 < t320.length) = True := eq_true (by omega); (try rw [show ((0 : Int)).toNat = 0 from rfl] at hx330_0); (try rw [Addr.add_zero'] at hx330_0); replace p330 := eq_true p330; replace q330 := eq_true q330))
          go_ret
          exact ⟨ze, zl2 HB.out GE317.out GE325.out⟩
         ·
          rw [if_neg c26] at H
          exact absurd H (by simp)
        ·
         rw [if_neg c25] at H
         have c25b0 := beq_eq_false_iff_ne.mpr c25
         have c25b1 := bne_iff_ne.mpr c25
         by_cases c32 : t319 = 4
         ·
          rw [if_pos c32] at H
          have c32b0 := beq_iff_eq.mpr c32
          have c32b1 := bne_eq_false_iff_eq.mpr c32
          clear c32
          replace H := zo H
          obtain ⟨t331, A330, H⟩ := H
          (try dsimp only at H)
          have A33 := am A330
          clear A330
          obtain rfl := Option.some.inj H
          have hnb34 := NB317_325.out
          have hnc34 := NB325_317.out
          have hcz35_0 : wc.cell? ⟨gb317, 0, none⟩ = some (.slice (some ad324) l0_0.length c0_0) := (blk_cell BK317.out 0).trans rfl
          have hfz35_0 := blk_frozen BK317.out 0
          go_wp2_with (first | ((with_reducible refine gate_callee (f := 96) rfl ?_); refine goesL_ (some 46) rfl rfl Tryz.func96 (by kernel_rfl) rfl #[.agg #[.slice (some ad324) l0_0.length c0_0], .int .i64 a1] rfl zm ?_; (with_reducible refine (types_Kids.calls kj8 _ _ l0_0 a1 t326 t329 _ ?side1 ?side2 A23.out).mono ?_); (case side1 => exact zc (Kd.C_below HR0_0.out HB.out)); (case side2 => exact HC0_0.out); rintro e w36 ⟨v327, rfl, ho0, hb⟩; refine ⟨_, rfl, ?_⟩; have n0_ := am (Kd.R_below (zr HO_8.out) hb); have n1_ := am (Kd.R_lower ho0 (below_size (zl2 HB.out GE317.out GE325.out))); have n2_ := am (zbb BK317.out hb); have n3_ := am (zbb BK325.out hb); have n4_ := am (below_step (zl2 HB.out GE317.out GE325.out) hb); clear HO_8 BK317; clear BK325 HB; have HO_8 := n0_; have HO328 := n1_; have BK317 := n2_; have BK325 := n3_; have HB := n4_; clear n0_ n1_ n2_ n3_ n4_; (try clear hb); (try clear hb2); (try clear hk); (try clear hi); (try clear ho0); have hcz37_0 : w36.cell? ⟨gb325, 0, none⟩ = some (.int .i64 ((rd_T24 l0_0 a1).f0)) := (blk_cell BK325.out 0).trans rfl; have hcz37_1 : w36.cell? ⟨gb325, 1, none⟩ = some (.int .i64 ((rd_T24 l0_0 a1).f1)) := (blk_cell BK325.out 1).trans rfl; have hcz37_2 : w36.cell? ⟨gb325, 2, none⟩ = some (.bool ((rd_T24 l0_0 a1).f2)) := (blk_cell BK325.out 2).trans rfl; have hfz37_0 := blk_frozen BK325.out 0; have hfz37_1 := blk_frozen BK325.out 1; have hfz37_2 := blk_frozen BK325.out 2; obtain ⟨Ao38, co38, eo38⟩ := Kd.R_slice HO328.out; subst eo38; obtain ⟨Ao39, co39, eo39⟩ := Kd.R_slice HO_8.out; subst eo39) | ((with_reducible refine gate_callee (f := 98) rfl ?_); refine goesL_ (some 69) rfl rfl Tryz.func98 (by kernel_rfl) rfl #[.slice Ao38 t326.length co38, .slice Ao39 t320.length co39, .func (.func 97) #[] #[.pointer (some ⟨gb317, 0, none⟩)]] rfl zm ?_; (with_reducible refine (ih_value_all_int_string kj8 (by have := HJ8.out; omega) _ _ t326 _ _ t320 gb317 (some ad324) c0_0 l0_0 t331 _ ?side1 ?side2 ?side3 ?side4 ?side5 ?side6 ?side7 ?side8 A33.out).mono ?_); (case side1 => exact zc (Kd.R_reads' HO328.out).2.2); (case side2 => exact (Kd.R_reads' HO328.out).2.1); (case side3 => exact zc (Kd.R_reads' HO_8.out).2.2); (case side4 => exact (Kd.R_reads' HO_8.out).2.1); (case side5 => exact zc (Kd.C_below HR0_0.out HB.out)); (case side6 => exact HC0_0.out); (case side7 => refine zb ?_; exact BK317.out); (case side8 => exact GL.below HG.out (zl2 HB.out GE317.out GE325.out)); rintro e w40 ⟨rfl, hb⟩; refine ⟨_, rfl, ?_⟩; have n0_ := am (Kd.R_below (zr HO_8.out) hb); have n1_ := am (Kd.R_below (zr HO328.out) hb); have n2_ := am (zbb BK317.out hb); have n3_ := am (zbb BK325.out hb); have n4_ := am (below_step (zl2 HB.out GE317.out GE325.out) hb); clear HO_8 HO328; clear BK317 BK325 HB; have HO_8 := n0_; have HO328 := n1_; have BK317 := n2_; have BK325 := n3_; have HB := n4_; clear n0_ n1_ n2_ n3_ n4_; (try clear hb); (try clear hb2); (try clear hk); (try clear hi)))
          go_ret
          exact ⟨ze, zl2 HB.out GE317.out GE325.out⟩
         ·
          rw [if_neg c32] at H
          have c32b0 := beq_eq_false_iff_ne.mpr c32
          have c32b1 := bne_iff_ne.mpr c32
          have H' := am H
          clear H
          have hnb41 := NB317_325.out
          have hnc41 := NB325_317.out
          have hcz42_0 : wc.cell? ⟨gb317, 0, none⟩ = some (.slice (some ad324) l0_0.length c0_0) := (blk_cell BK317.out 0).trans rfl
          have hfz42_0 := blk_frozen BK317.out 0
          go_wp2_with (first | ((with_reducible refine gate_callee (f := 96) rfl ?_); refine goesL_ (some 46) rfl rfl Tryz.func96 (by kernel_rfl) rfl #[.agg #[.slice (some ad324) l0_0.length c0_0], .int .i64 a1] rfl zm ?_; (with_reducible refine (types_Kids.calls kj8 _ _ l0_0 a1 t326 t329 _ ?side1 ?side2 A23.out).mono ?_); (case side1 => exact zc (Kd.C_below HR0_0.out HB.out)); (case side2 => exact HC0_0.out); rintro e w43 ⟨v327, rfl, ho0, hb⟩; refine ⟨_, rfl, ?_⟩; have n0_ := am (Kd.R_below (zr HO_8.out) hb); have n1_ := am (Kd.R_lower ho0 (below_size (zl2 HB.out GE317.out GE325.out))); have n2_ := am (zbb BK317.out hb); have n3_ := am (zbb BK325.out hb); have n4_ := am (below_step (zl2 HB.out GE317.out GE325.out) hb); clear HO_8 BK317; clear BK325 HB; have HO_8 := n0_; have HO328 := n1_; have BK317 := n2_; have BK325 := n3_; have HB := n4_; clear n0_ n1_ n2_ n3_ n4_; (try clear hb); (try clear hb2); (try clear hk); (try clear hi); (try clear ho0); have hcz44_0 : w43.cell? ⟨gb325, 0, none⟩ = some (.int .i64 ((rd_T24 l0_0 a1).f0)) := (blk_cell BK325.out 0).trans rfl; have hcz44_1 : w43.cell? ⟨gb325, 1, none⟩ = some (.int .i64 ((rd_T24 l0_0 a1).f1)) := (blk_cell BK325.out 1).trans rfl; have hcz44_2 : w43.cell? ⟨gb325, 2, none⟩ = some (.bool ((rd_T24 l0_0 a1).f2)) := (blk_cell BK325.out 2).trans rfl; have hfz44_0 := blk_frozen BK325.out 0; have hfz44_1 := blk_frozen BK325.out 1; have hfz44_2 := blk_frozen BK325.out 2; obtain ⟨Ao45, co45, eo45⟩ := Kd.R_slice HO_8.out; subst eo45))
          (try simp only [Act.put, List.setIfInBounds_toArray, List.set_cons_zero, List.set_cons_succ])
          go_loopg [72] kj8 (fun kq v72 w' => ∃ (x72_2 : Int), v72 = .int .i64 x72_2 ∧ Aside0 (value_Fits.l0 kq t319 t320 t326 t320 (t320.length : Int) x72_2 l0_0 = some r) ∧ Aside0 (kq ≤ kj8) ∧ Aside0 (Kd.R Kd.string 9 w' w.heap.size (fun _ => True) (.slice Ao45 t320.length co45) t320) ∧ Aside0 (Kd.R (Kd.int .i64) 3 w' w.heap.size (fun _ => True) v327 t326) ∧ Aside0 (Kd.R Kd.string 9 w' w.heap.size (fun _ => True) (.slice Ao45 t320.length co45) t320) ∧ Aside0 (w'.heap[gb317]? = some (.cells #[(.slice (some ad324) l0_0.length c0_0)] 27 (0, 0))) ∧ Aside0 (w'.heap[gb325]? = some (.cells #[.int .i64 ((rd_T24 l0_0 a1).f0), .int .i64 ((rd_T24 l0_0 a1).f1), .bool ((rd_T24 l0_0 a1).f2)] 24 (0, 0))) ∧ Aside0 (Below w.heap.size w w'))
          case atStart => exact ⟨(0), zs, H', ⟨Nat.le_refl _⟩, ⟨by refine zr ?_; exact HO_8.out⟩, ⟨by refine zr ?_; exact HO328.out⟩, ⟨by refine zr ?_; exact HO_8.out⟩, ⟨by refine zb ?_; exact BK317.out⟩, ⟨by refine zb ?_; exact BK325.out⟩, ⟨zl2 HB.out GE317.out GE325.out⟩⟩
          case round =>
           clear H'
           try clear c1
           try clear c2
           try clear p2
           try clear c3
           try clear p3
           try clear q3
           try clear hx3
           try clear qi3
           try clear c4
           try clear c5
           try clear c6
           try clear c7
           try clear c7b0
           try clear c8
           try clear c8b0
           try clear c9
           try clear c16
           try clear c18
           try clear c18b0
           try clear c18b1
           try clear c19
           try clear c20
           try clear c20b0
           try clear c20b1
           try clear c21
           try clear c24
           try clear c24b0
           try clear c24b1
           try clear c25
           try clear c25b0
           try clear c25b1
           try clear c26
           try clear c26b0
           try clear c26b1
           try clear c27
           try clear c32
           try clear c32b0
           try clear c32b1
           try clear p32
           try clear q32
           try clear hx32
           try clear p33
           try clear q33
           try clear hx33
           try clear qi33
           try clear c34
           try clear c41
           try clear hcz11_0
           try clear hcz14_0
           try clear hcz17_0
           try clear hcz17_1
           try clear hcz17_2
           try clear hcz22_0
           try clear hcz22_1
           try clear hcz22_2
           try clear hcz28_0
           try clear hcz30_0
           try clear hcz30_1
           try clear hcz30_2
           try clear hcz35_0
           try clear hcz37_0
           try clear hcz37_1
           try clear hcz37_2
           try clear hcz42_0
           try clear hcz44_0
           try clear hcz44_1
           try clear hcz44_2
           try clear hfz11_0
           try clear hfz14_0
           try clear hfz17_0
           try clear hfz17_1
           try clear hfz17_2
           try clear hfz22_0
           try clear hfz22_1
           try clear hfz22_2
           try clear hfz28_0
           try clear hfz30_0
           try clear hfz30_1
           try clear hfz30_2
           try clear hfz35_0
           try clear hfz37_0
           try clear hfz37_1
           try clear hfz37_2
           try clear hfz42_0
           try clear hfz44_0
           try clear hfz44_1
           try clear hfz44_2
           try clear hx324_0
           try clear hx324_1
           try clear hx324_2
           try clear hx330_0
           try clear p2
           try clear p3
           try clear p324
           try clear p330
           try clear q3
           try clear q324
           try clear q330
           obtain ⟨x72_2, rfl, HA, HK2, HO_8, HO_11, HO_70, BK317, BK325, HB⟩ := hrel
           cases gk with
           | zero => exact absurd HA.out (by simp [value_Fits.l0])
           | succ k2 =>
            have H := HA.out
            clear HA
            simp only [value_Fits.l0] at H
            by_cases c46 : x72_2 < (t320.length : Int)
            ·
             rw [if_pos c46] at H
             have c46b0 := decide_eq_true c46
             clear c46
             by_cases c47 : 0 ≤ x72_2
             ·
              rw [if_pos c47] at H
              have c47b0 := decide_eq_true c47
              clear c47
              by_cases c48 : x72_2 < (t320.length : Int)
              ·
               rw [if_pos c48] at H
               have c48b0 := decide_eq_true c48
               clear c48
               by_cases c49 : t319 = 3
               ·
                rw [if_pos c49] at H
                have c49b0 := beq_iff_eq.mpr c49
                have c49b1 := bne_eq_false_iff_eq.mpr c49
                clear c49
                by_cases c50 : 0 < (t326.length : Int)
                ·
                 rw [if_pos c50] at H
                 have c50b0 := decide_eq_true c50
                 have c50b1 : decide (0 < t326.length) = true := decide_eq_true (by omega)
                 clear c50
                 replace H := zo H
                 obtain ⟨t334, A510, H⟩ := H
                 (try dsimp only at H)
                 have A51 := am A510
                 clear A510
                 by_cases c52 : t334 = true
                 ·
                  subst c52
                  rw [if_pos rfl] at H
                  have H' := am H
                  clear H
                  have p332 : 0 ≤ (x72_2 : Int) := of_decide_eq_true za
                  have q332 : x72_2 < (t320.length : Int) := of_decide_eq_true za
                  obtain ⟨ad332, e332, hx332_0⟩ := Kd.at_string (Kd.R_reads' HO_70.out).2.2 x72_2 p332 q332
                  cases e332
                  replace p332 := eq_true p332
                  replace q332 := eq_true q332
                  obtain ⟨Ao53, co53, eo53⟩ := Kd.R_slice HO_11.out
                  subst eo53
                  have p333 : 0 ≤ (0 : Int) := (by omega)
                  have q333 : 0 < (t326.length : Int) := of_decide_eq_true za
                  obtain ⟨ad333, e333, hx333_0⟩ := Kd.at_int (Kd.R_reads' HO_11.out).2.2 0 p333 q333
                  cases e333
                  have qi333 : (0 < t326.length) = True := eq_true (by omega)
                  (try rw [show ((0 : Int)).toNat = 0 from rfl] at hx333_0)
                  (try rw [Addr.add_zero'] at hx333_0)
                  replace p333 := eq_true p333
                  replace q333 := eq_true q333
                  go_wp2_with (first | (go_at_call 97; (with_reducible refine (ih_value_Fits_1 k2 (by have := HJ8.out; have := HK2.out; omega) (rd t326 0) (rdOf ByteArray.empty t320 x72_2) gb317 (some ad324) c0_0 l0_0 true _ ?side1 ?side2 ?side3 ?side4 A51.out).mono ?_); (case side1 => exact zc (Kd.C_below HR0_0.out HB.out)); (case side2 => exact HC0_0.out); (case side3 => refine zb ?_; exact BK317.out); (case side4 => exact GL.below HG.out (zl2 HB.out GE317.out GE325.out)); rintro e w54 ⟨rfl, hb⟩; have n0_ := am (Kd.R_below (zr HO_8.out) hb); have n1_ := am (Kd.R_below (zr HO_11.out) hb); have n2_ := am (Kd.R_below (zr HO_70.out) hb); have n3_ := am (zbb BK317.out hb); have n4_ := am (zbb BK325.out hb); have n5_ := am (below_step (zl2 HB.out GE317.out GE325.out) hb); clear HO_8 HO_11; clear HO_70 BK317; clear BK325 HB; have HO_8 := n0_; have HO_11 := n1_; have HO_70 := n2_; have BK317 := n3_; have BK325 := n4_; have HB := n5_; clear n0_ n1_ n2_ n3_ n4_ n5_; (try clear hb); (try clear hb2); (try clear hk); (try clear hi)))
                  go_roundg k2
                  case measure => have := HJ8.out; have := HK2.out; omega
                  case rel => exact ⟨(wrap64 (x72_2 + 1)), zs, H', ⟨by have := HJ8.out; have := HK2.out; omega⟩, ⟨by refine zr ?_; exact HO_8.out⟩, ⟨by refine zr ?_; exact HO_11.out⟩, ⟨by refine zr ?_; exact HO_70.out⟩, ⟨by refine zb ?_; exact BK317.out⟩, ⟨by refine zb ?_; exact BK325.out⟩, ⟨zl2 HB.out GE317.out GE325.out⟩⟩
                 ·
                  replace c52 := Bool.eq_false_iff.mpr c52
                  subst c52
                  rw [if_neg (show ¬ (false = true) by decide)] at H
                  obtain rfl := Option.some.inj H
                  have p332 : 0 ≤ (x72_2 : Int) := of_decide_eq_true za
                  have q332 : x72_2 < (t320.length : Int) := of_decide_eq_true za
                  obtain ⟨ad332, e332, hx332_0⟩ := Kd.at_string (Kd.R_reads' HO_70.out).2.2 x72_2 p332 q332
                  cases e332
                  replace p332 := eq_true p332
                  replace q332 := eq_true q332
                  obtain ⟨Ao55, co55, eo55⟩ := Kd.R_slice HO_11.out
                  subst eo55
                  have p333 : 0 ≤ (0 : Int) := (by omega)
                  have q333 : 0 < (t326.length : Int) := of_decide_eq_true za
                  obtain ⟨ad333, e333, hx333_0⟩ := Kd.at_int (Kd.R_reads' HO_11.out).2.2 0 p333 q333
                  cases e333
                  have qi333 : (0 < t326.length) = True := eq_true (by omega)
                  (try rw [show ((0 : Int)).toNat = 0 from rfl] at hx333_0)
                  (try rw [Addr.add_zero'] at hx333_0)
                  replace p333 := eq_true p333
                  replace q333 := eq_true q333
                  go_wp2_with (first | (go_at_call 97; (with_reducible refine (ih_value_Fits_1 k2 (by have := HJ8.out; have := HK2.out; omega) (rd t326 0) (rdOf ByteArray.empty t320 x72_2) gb317 (some ad324) c0_0 l0_0 false _ ?side1 ?side2 ?side3 ?side4 A51.out).mono ?_); (case side1 => exact zc (Kd.C_below HR0_0.out HB.out)); (case side2 => exact HC0_0.out); (case side3 => refine zb ?_; exact BK317.out); (case side4 => exact GL.below HG.out (zl2 HB.out GE317.out GE325.out)); rintro e w56 ⟨rfl, hb⟩; have n0_ := am (Kd.R_below (zr HO_8.out) hb); have n1_ := am (Kd.R_below (zr HO_11.out) hb); have n2_ := am (Kd.R_below (zr HO_70.out) hb); have n3_ := am (zbb BK317.out hb); have n4_ := am (zbb BK325.out hb); have n5_ := am (below_step (zl2 HB.out GE317.out GE325.out) hb); clear HO_8 HO_11; clear HO_70 BK317; clear BK325 HB; have HO_8 := n0_; have HO_11 := n1_; have HO_70 := n2_; have BK317 := n3_; have BK325 := n4_; have HB := n5_; clear n0_ n1_ n2_ n3_ n4_ n5_; (try clear hb); (try clear hb2); (try clear hk); (try clear hi)))
                  go_ret
                  exact ⟨ze, zl2 HB.out GE317.out GE325.out⟩
                ·
                 rw [if_neg c50] at H
                 exact absurd H (by simp)
               ·
                rw [if_neg c49] at H
                have c49b0 := beq_eq_false_iff_ne.mpr c49
                have c49b1 := bne_iff_ne.mpr c49
                have H' := am H
                clear H
                have p332 : 0 ≤ (x72_2 : Int) := of_decide_eq_true za
                have q332 : x72_2 < (t320.length : Int) := of_decide_eq_true za
                obtain ⟨ad332, e332, hx332_0⟩ := Kd.at_string (Kd.R_reads' HO_70.out).2.2 x72_2 p332 q332
                cases e332
                replace p332 := eq_true p332
                replace q332 := eq_true q332
                go_wp2
                go_roundg k2
                case measure => have := HJ8.out; have := HK2.out; omega
                case rel => exact ⟨(wrap64 (x72_2 + 1)), zs, H', ⟨by have := HJ8.out; have := HK2.out; omega⟩, ⟨by refine zr ?_; exact HO_8.out⟩, ⟨by refine zr ?_; exact HO_11.out⟩, ⟨by refine zr ?_; exact HO_70.out⟩, ⟨by refine zb ?_; exact BK317.out⟩, ⟨by refine zb ?_; exact BK325.out⟩, ⟨zl2 HB.out GE317.out GE325.out⟩⟩
              ·
               rw [if_neg c48] at H
               exact absurd H (by simp)
             ·
              rw [if_neg c47] at H
              exact absurd H (by simp)
            ·
             rw [if_neg c46] at H
             have c46b0 := decide_eq_false c46
             clear c46
             obtain rfl := Option.some.inj H
             go_wp2
             go_ret
             exact ⟨ze, zl2 HB.out GE317.out GE325.out⟩
       ·
        rw [if_neg c24] at H
        have c24b0 := beq_eq_false_iff_ne.mpr c24
        have c24b1 := bne_iff_ne.mpr c24
        obtain rfl := Option.some.inj H
        have hnb57 := NB317_325.out
        have hnc57 := NB325_317.out
        have hcz58_0 : wc.cell? ⟨gb317, 0, none⟩ = some (.slice (some ad324) l0_0.length c0_0) := (blk_cell BK317.out 0).trans rfl
        have hfz58_0 := blk_frozen BK317.out 0
        go_wp2_with (first | ((with_reducible refine gate_callee (f := 96) rfl ?_); refine goesL_ (some 46) rfl rfl Tryz.func96 (by kernel_rfl) rfl #[.agg #[.slice (some ad324) l0_0.length c0_0], .int .i64 a1] rfl zm ?_; (with_reducible refine (types_Kids.calls kj8 _ _ l0_0 a1 t326 t329 _ ?side1 ?side2 A23.out).mono ?_); (case side1 => exact zc (Kd.C_below HR0_0.out HB.out)); (case side2 => exact HC0_0.out); rintro e w59 ⟨v327, rfl, ho0, hb⟩; refine ⟨_, rfl, ?_⟩; have n0_ := am (Kd.R_below (zr HO_8.out) hb); have n1_ := am (Kd.R_lower ho0 (below_size (zl2 HB.out GE317.out GE325.out))); have n2_ := am (zbb BK317.out hb); have n3_ := am (zbb BK325.out hb); have n4_ := am (below_step (zl2 HB.out GE317.out GE325.out) hb); clear HO_8 BK317; clear BK325 HB; have HO_8 := n0_; have HO328 := n1_; have BK317 := n2_; have BK325 := n3_; have HB := n4_; clear n0_ n1_ n2_ n3_ n4_; (try clear hb); (try clear hb2); (try clear hk); (try clear hi); (try clear ho0); have hcz60_0 : w59.cell? ⟨gb325, 0, none⟩ = some (.int .i64 ((rd_T24 l0_0 a1).f0)) := (blk_cell BK325.out 0).trans rfl; have hcz60_1 : w59.cell? ⟨gb325, 1, none⟩ = some (.int .i64 ((rd_T24 l0_0 a1).f1)) := (blk_cell BK325.out 1).trans rfl; have hcz60_2 : w59.cell? ⟨gb325, 2, none⟩ = some (.bool ((rd_T24 l0_0 a1).f2)) := (blk_cell BK325.out 2).trans rfl; have hfz60_0 := blk_frozen BK325.out 0; have hfz60_1 := blk_frozen BK325.out 1; have hfz60_2 := blk_frozen BK325.out 2))
        go_ret
        exact ⟨ze, zl2 HB.out GE317.out GE325.out⟩
   ·
    rw [if_neg c8] at H
    exact absurd H (by simp)
  ·
   rw [if_neg c7] at H
   exact absurd H (by simp)
 ·
  replace c5 := Bool.eq_false_iff.mpr c5
  subst c5
  rw [if_neg (show ¬ (false = true) by decide)] at H
  obtain rfl := Option.some.inj H
  go_enter Tryz.func67, Tryz.ntmps67
  go_wp2_with (first | ((with_reducible refine gate_dst (N := 3) rfl ?_); refine box_event ?hg (N := 3) ?hd (cs := #[.slice A0_0 l0_0.length c0_0]) (t := 27) ?hr ?_; (case hd => rfl); (case hg => rfl); (case hr => exact zh); intro gb317 hg w61 hbox hb; have n0_ := am (below_step (zl HB.out) hb); have n1_ := am (hbox); have n2_ := am ((by rw [hg]; exact (below_size (zl HB.out)) : w.heap.size ≤ gb317)); have n3_ := am ((by rw [hg]; exact (below_size (zl HB.out)) : w.heap.size ≤ gb317)); clear HB; have HB := n0_; have BK317 := n1_; have GW317 := n2_; have GE317 := n3_; clear n0_ n1_ n2_ n3_; clear hb hbox hg; have hcz62_0 : w61.cell? ⟨gb317, 0, none⟩ = some (.slice A0_0 l0_0.length c0_0) := (blk_cell BK317.out 0).trans rfl; have hfz62_0 := blk_frozen BK317.out 0) | ((with_reducible refine gate_callee (f := 68) rfl ?_); refine goesL_ (some 18) rfl rfl Tryz.func68 (by kernel_rfl) rfl #[.agg #[.slice A0_0 l0_0.length c0_0], .int .i64 a1] rfl zm ?_; (with_reducible refine (types_Node.calls k _ _ l0_0 a1 false _ ?side1 ?side2 A4.out).mono ?_); (case side1 => exact zc (Kd.C_below HR0_0.out HB.out)); (case side2 => exact HC0_0.out); rintro e w63 ⟨rfl, hb⟩; refine ⟨_, rfl, ?_⟩; have n0_ := am (zbb BK317.out hb); have n1_ := am (below_step (zl1 HB.out GE317.out) hb); clear BK317 HB; have BK317 := n0_; have HB := n1_; clear n0_ n1_; (try clear hb); (try clear hb2); (try clear hk); (try clear hi)))
  go_ret
  exact ⟨ze, zl1 HB.out GE317.out⟩

theorem value_Fits_1.step (k : Nat) (ih_value_Fits : ∀ k_ < k, value_Fits.Con k_) (ih_value_Fits_1 : ∀ k_ < k, value_Fits_1.Con k_) (ih_value_all_int_string : ∀ k_ < k, value_all_int_string.Con k_) : value_Fits_1.Con k := by
 intro a0 a1 g2 A2_0 c2_0 l2_0 r w hr2_0 hc2_0 hb2 hG h
 cases k with
 | zero => exact absurd h (by simp [value_Fits_1.f])
 | succ k =>
 simp only [value_Fits_1.f] at h
 have hu27 := Tryz.underlying27
 have HR2_0 := am hr2_0
 have HC2_0 := am hc2_0
 clear hr2_0 hc2_0
 have BK2 := am hb2
 clear hb2
 have HB := am (Below.refl w.heap.size w)
 have HG := am hG
 clear hG
 have H : ((value_Fits.f k l2_0 a0 a1).bind fun t335 => (some t335)) = some r := h
 clear h
 replace H := zo H
 obtain ⟨t335, A40, H⟩ := H
 (try dsimp only at H)
 have A4 := am A40
 clear A40
 obtain rfl := Option.some.inj H
 have hcz5_0 : w.cell? ⟨g2, 0, none⟩ = some (.slice A2_0 l2_0.length c2_0) := (blk_cell BK2.out 0).trans rfl
 have hfz5_0 := blk_frozen BK2.out 0
 go_enter Tryz.func97, Tryz.ntmps97
 go_wp2_with (first | ((with_reducible refine gate_callee (f := 67) rfl ?_); refine goesL_ (some 9) rfl rfl Tryz.func67 (by kernel_rfl) rfl #[.agg #[.slice A2_0 l2_0.length c2_0], .int .i64 a0, .string a1] rfl zm ?_; (with_reducible refine (ih_value_Fits k (by omega) _ _ l2_0 a0 a1 t335 _ ?side1 ?side2 ?side3 A4.out).mono ?_); (case side1 => repeat (first | exact HR2_0.out | (with_reducible refine Kd.C_alloc ?_ _) | (with_reducible refine Kd.C_drewN ?_ _) | (with_reducible refine Kd.C_drew ?_))); (case side2 => exact HC2_0.out); (case side3 => exact GL.below HG.out (zl HB.out)); rintro e w6 ⟨rfl, hb⟩; refine ⟨_, rfl, ?_⟩; have n0_ := am (zbb BK2.out hb); have n1_ := am (below_step (zl HB.out) hb); clear BK2 HB; have BK2 := n0_; have HB := n1_; clear n0_ n1_; (try clear hb); (try clear hb2); (try clear hk); (try clear hi)))
 go_ret
 exact ⟨ze, zl HB.out⟩

def value_all_int_string.T4 : Bool × List (List Nat × List Nat) := (true, [([], []), ([], []), ([], []), ([1, 2], [1, 2]), ([3], [3]), ([], []), ([], []), ([5, 6], [5, 6]), ([7], [7]), ([0, 4, 8], [0, 4, 8]), ([9], [9])])
def value_all_int_string.B4 : List Nat := [0, 0, 0, 6, 14, 0, 0, 96, 224, 511, 1023]
theorem value_all_int_string.tab4 : rtab .any (opsOf Tryz.f98 4) = value_all_int_string.T4 := by kernel_rfl
theorem value_all_int_string.bits4 : waitsOk value_all_int_string.T4.2 value_all_int_string.B4 = true := by kernel_rfl
theorem value_all_int_string.step (k : Nat) (ih_value_Fits : ∀ k_ < k, value_Fits.Con k_) (ih_value_Fits_1 : ∀ k_ < k, value_Fits_1.Con k_) (ih_value_all_int_string : ∀ k_ < k, value_all_int_string.Con k_) : value_all_int_string.Con k := by
 intro A0 c0 l0 A1 c1 l1 g2 A2_0 c2_0 l2_0 r w hr0 hc0 hr1 hc1 hr2_0 hc2_0 hb2 hG h
 cases k with
 | zero => exact absurd h (by simp [value_all_int_string.f])
 | succ k =>
 simp only [value_all_int_string.f] at h
 have HR0 := am hr0
 have HC0 := am hc0
 clear hr0 hc0
 have HR1 := am hr1
 have HC1 := am hc1
 clear hr1 hc1
 have HR2_0 := am hr2_0
 have HC2_0 := am hc2_0
 clear hr2_0 hc2_0
 have BK2 := am hb2
 clear hb2
 have HB := am (Below.refl w.heap.size w)
 have HG := am hG
 clear hG
 have H : (value_all_int_string.l0 k l0 l1 (mn (l0.length : Int) (l1.length : Int)) 0 l2_0) = some r := h
 clear h
 obtain ⟨ji4, hji4⟩ : ∃ j_ : Int, (mn (l0.length : Int) (l1.length : Int)) = j_ := ⟨_, rfl⟩
 replace H : (value_all_int_string.l0 k l0 l1 ji4 0 l2_0) = some r := by first | (rw [hji4] at H; exact H) | (simp only [hji4] at H ⊢; exact H)
 (try (have hji4l : 0 ≤ ji4 := by (rw [← hji4]; unfold mn; (repeat' split) <;> omega)))
 (try (have hji4m : 0 ≤ ji4 := by omega))
 have hji4_ : (if (l1.length : Int) < (l0.length : Int) then (l1.length : Int) else (l0.length : Int)) = ji4 := hji4
 have hji4n : (if l1.length < l0.length then (l1.length : Int) else (l0.length : Int)) = ji4 := by have e_ := hji4_; simp only [Int.ofNat_lt] at e_; exact e_
 have H' := am H
 clear H
 go_enter Tryz.func98, Tryz.ntmps98
 go_wp2
 (try simp only [Act.put, List.setIfInBounds_toArray, List.set_cons_zero, List.set_cons_succ])
 go_loopg [13] k (fun kq v13 w' => ∃ (x13_1 : Int), v13 = .int .i64 x13_1 ∧ Aside0 (value_all_int_string.l0 kq l0 l1 ji4 x13_1 l2_0 = some r) ∧ Aside0 (kq ≤ k) ∧ Aside0 (w'.heap[g2]? = some (.cells #[(.slice A2_0 l2_0.length c2_0)] 27 (0, 0))) ∧ Aside0 (Below w.heap.size w w'))
 case atStart => exact ⟨(0), zs, H', ⟨Nat.le_refl _⟩, ⟨by refine zb ?_; exact BK2.out⟩, ⟨zl HB.out⟩⟩
 case round =>
  clear H'
  try clear c1
  try clear c2
  try clear p2
  obtain ⟨x13_1, rfl, HA, HK1, BK2, HB⟩ := hrel
  cases gk with
  | zero => exact absurd HA.out (by simp [value_all_int_string.l0])
  | succ k1 =>
   have H := HA.out
   clear HA
   simp only [value_all_int_string.l0] at H
   by_cases c5 : x13_1 < ji4
   ·
    rw [if_pos c5] at H
    have c5b0 := decide_eq_true c5
    clear c5
    by_cases c6 : 0 ≤ x13_1
    ·
     rw [if_pos c6] at H
     have c6b0 := decide_eq_true c6
     clear c6
     by_cases c7 : x13_1 < (l0.length : Int)
     ·
      rw [if_pos c7] at H
      have c7b0 := decide_eq_true c7
      clear c7
      by_cases c8 : x13_1 < (l1.length : Int)
      ·
       rw [if_pos c8] at H
       have c8b0 := decide_eq_true c8
       clear c8
       replace H := zo H
       obtain ⟨t338, A90, H⟩ := H
       (try dsimp only at H)
       have A9 := am A90
       clear A90
       by_cases c10 : t338 = true
       ·
        subst c10
        rw [if_pos rfl] at H
        have H' := am H
        clear H
        try go_wp2
        have n0_ := am (blk_drew BK2.out)
        have n1_ := am (below_drew1 HB.out)
        clear BK2
        clear HB
        have BK2 := n0_
        have HB := n1_
        clear n0_ n1_
        have p336 : 0 ≤ (x13_1 : Int) := of_decide_eq_true za
        have q336 : x13_1 < (l0.length : Int) := of_decide_eq_true za
        obtain ⟨ad336, e336, hx336_0⟩ := Kd.at_int HR0.out x13_1 p336 q336
        have hw336_0 := hx336_0
        cases e336
        replace hx336_0 := zq HB.out hx336_0
        replace p336 := eq_true p336
        replace q336 := eq_true q336
        have p337 : 0 ≤ (x13_1 : Int) := of_decide_eq_true za
        have q337 : x13_1 < (l1.length : Int) := of_decide_eq_true za
        obtain ⟨ad337, e337, hx337_0⟩ := Kd.at_string HR1.out x13_1 p337 q337
        have hw337_0 := hx337_0
        cases e337
        replace hx337_0 := zq HB.out hx337_0
        replace p337 := eq_true p337
        replace q337 := eq_true q337
        refine start_ (n := 11) (S := fun w' => w'.cell? (ad336.add (x13_1).toNat) = some (.int .i64 (rd l0 x13_1)) ∧ w'.cell? (ad337.add (x13_1).toNat) = some (.string (rdOf ByteArray.empty l1 x13_1))) (ds := []) #[false, false, false, false, false, false, false, false, false, false, false] (by kernel_rfl) rfl rfl ⟨((HB.out.cell (World.block_lt_of_cell? w _ hw336_0)).trans hw336_0), ((HB.out.cell (World.block_lt_of_cell? w _ hw337_0)).trans hw337_0)⟩ (fun hHeld => ?_); refine with_tabW value_all_int_string.tab4 value_all_int_string.bits4 (fun HT_ HW_ => ?_)
        generalize wr.drew = w11 at BK2 HB hx336_0 hx337_0 hHeld ⊢
        refine pure_ (i := 0) (N := some 16) (v := ?_) (a' := ?_) #[true, false, false, false, false, false, false, false, false, false, false] rfl rfl (any_of HT_.out (by kernel_rfl)) (fun _ _ _ h => h) (Or.inl ⟨by rfl, ?_⟩) ?_ ?_
        rotate_left
        ·
         intro w'
         go_simp
         with_reducible rfl
        rotate_left
        ·
         simp only [Act.put, List.setIfInBounds_toArray, List.set_cons_zero, List.set_cons_succ, i64_w, i32_w]
         rfl
        refine pure_ (i := 1) (N := some 17) (v := ?_) (a' := ?_) #[true, true, false, false, false, false, false, false, false, false, false] rfl rfl (any_of HT_.out (by kernel_rfl)) (fun _ _ _ h => h) (Or.inl ⟨by rfl, ?_⟩) ?_ ?_
        rotate_left
        ·
         intro w'
         go_simp
         with_reducible rfl
        rotate_left
        ·
         simp only [Act.put, List.setIfInBounds_toArray, List.set_cons_zero, List.set_cons_succ, i64_w, i32_w]
         rfl
        refine pure_ (i := 2) (N := some 18) (v := ?_) (a' := ?_) #[true, true, true, false, false, false, false, false, false, false, false] rfl rfl (any_of HT_.out (by kernel_rfl)) (fun _ _ _ h => h) (Or.inl ⟨by rfl, ?_⟩) ?_ ?_
        rotate_left
        ·
         intro w'
         go_simp
         with_reducible rfl
        rotate_left
        ·
         simp only [Act.put, List.setIfInBounds_toArray, List.set_cons_zero, List.set_cons_succ, i64_w, i32_w]
         rfl
        refine pure_ (i := 3) (N := some 19) (v := ?_) (a' := ?_) #[true, true, true, true, false, false, false, false, false, false, false] rfl rfl (any_of HT_.out (by kernel_rfl)) (fun _ _ _ h => h) (Or.inl ⟨by rfl, ?_⟩) ?_ ?_
        rotate_left
        ·
         intro w'
         go_simp
         with_reducible rfl
        rotate_left
        ·
         simp only [Act.put, List.setIfInBounds_toArray, List.set_cons_zero, List.set_cons_succ, i64_w, i32_w]
         rfl
        refine pure_ (i := 5) (N := some 21) (v := ?_) (a' := ?_) #[true, true, true, true, false, true, false, false, false, false, false] rfl rfl (any_of HT_.out (by kernel_rfl)) (fun _ _ _ h => h) (Or.inl ⟨by rfl, ?_⟩) ?_ ?_
        rotate_left
        ·
         intro w'
         go_simp
         with_reducible rfl
        rotate_left
        ·
         simp only [Act.put, List.setIfInBounds_toArray, List.set_cons_zero, List.set_cons_succ, i64_w, i32_w]
         rfl
        refine pure_ (i := 6) (N := some 22) (v := ?_) (a' := ?_) #[true, true, true, true, false, true, true, false, false, false, false] rfl rfl (any_of HT_.out (by kernel_rfl)) (fun _ _ _ h => h) (Or.inl ⟨by rfl, ?_⟩) ?_ ?_
        rotate_left
        ·
         intro w'
         go_simp
         with_reducible rfl
        rotate_left
        ·
         simp only [Act.put, List.setIfInBounds_toArray, List.set_cons_zero, List.set_cons_succ, i64_w, i32_w]
         rfl
        refine pure_ (i := 7) (N := some 23) (v := ?_) (a' := ?_) #[true, true, true, true, false, true, true, true, false, false, false] rfl rfl (any_of HT_.out (by kernel_rfl)) (fun _ _ _ h => h) (Or.inl ⟨by rfl, ?_⟩) ?_ ?_
        rotate_left
        ·
         intro w'
         go_simp
         with_reducible rfl
        rotate_left
        ·
         simp only [Act.put, List.setIfInBounds_toArray, List.set_cons_zero, List.set_cons_succ, i64_w, i32_w]
         rfl
        refine take_ (i := 4) (N := some 20) (v := ?_) (a' := ?_) #[true, true, true, true, true, true, true, true, false, false, false] rfl rfl (take_ofW HT_.out HW_.out (by kernel_rfl)) (fun _ _ _ h => h) (Or.inl ⟨by rfl, ?_⟩) hHeld ?_ ?_
        rotate_left
        ·
         rintro w' ⟨s0, s1⟩
         go_simp
         with_reducible rfl
        rotate_left
        ·
         simp only [Act.put, List.setIfInBounds_toArray, List.set_cons_zero, List.set_cons_succ, i64_w, i32_w]
         rfl
        refine take_ (i := 8) (N := some 24) (v := ?_) (a' := ?_) #[true, true, true, true, true, true, true, true, true, false, false] rfl rfl (take_ofW HT_.out HW_.out (by kernel_rfl)) (fun _ _ _ h => h) (Or.inl ⟨by rfl, ?_⟩) hHeld ?_ ?_
        rotate_left
        ·
         rintro w' ⟨s0, s1⟩
         go_simp
         with_reducible rfl
        rotate_left
        ·
         simp only [Act.put, List.setIfInBounds_toArray, List.set_cons_zero, List.set_cons_succ, i64_w, i32_w]
         rfl
        refine one_ (i := 9) (N := some 25) #[true, true, true, true, true, true, true, true, true, true, false] rfl rfl (one_of HT_.out (by kernel_rfl)) (by decide) (fun K hK => ?_)
        refine goesV_ #[.pointer (some ⟨g2, 0, none⟩)] Tryz.func97 (by kernel_rfl) rfl #[.int .i64 (rd l0 x13_1), .string (rdOf ByteArray.empty l1 x13_1), .pointer (some ⟨g2, 0, none⟩)] (by rfl) rfl rfl (by rfl) (by (try simp only [List.map_toArray, List.map_cons, List.map_nil]); first | done | rfl | (simp; done)) ?_
        with_reducible refine (ih_value_Fits_1 k1 (by have := HK1.out; omega) (rd l0 x13_1) (rdOf ByteArray.empty l1 x13_1) g2 A2_0 c2_0 l2_0 true _ ?side1 ?side2 ?side3 ?side4 A9.out).mono ?_
        (case side1 => exact zc (Kd.C_below HR2_0.out HB.out))
        (case side2 => exact HC2_0.out)
        (case side3 => refine zb ?_; exact BK2.out)
        (case side4 => exact GL.below HG.out (zl HB.out))
        rintro e w12 ⟨rfl, hb⟩
        refine ⟨_, rfl, ?_⟩
        have n0_ := am (zbb BK2.out hb)
        have n1_ := am (below_step (zl HB.out) hb)
        clear BK2
        clear HB
        have BK2 := n0_
        have HB := n1_
        clear n0_ n1_
        (try clear hb)
        (try clear hb2)
        (try clear hk)
        (try clear hi)
        refine hK.out _ _ ⟨((HB.out.cell (World.block_lt_of_cell? w _ hw336_0)).trans hw336_0), ((HB.out.cell (World.block_lt_of_cell? w _ hw337_0)).trans hw337_0)⟩ (fun hHeld => ?_)
        clear hK K
        refine norm_ (a' := ?_) ?_ ?_
        rotate_left
        ·
         show Act.put _ (some 25) _ = _
         simp only [Act.put, List.setIfInBounds_toArray, List.set_cons_zero, List.set_cons_succ, i64_w, i32_w]
         rfl
        refine pure_ (i := 10) (N := some 26) (v := ?_) (a' := ?_) #[true, true, true, true, true, true, true, true, true, true, true] rfl rfl (any_of HT_.out (by kernel_rfl)) (fun _ _ _ h => h) (Or.inl ⟨by rfl, ?_⟩) ?_ ?_
        rotate_left
        ·
         intro w'
         go_simp
         with_reducible rfl
        rotate_left
        ·
         simp only [Act.put, List.setIfInBounds_toArray, List.set_cons_zero, List.set_cons_succ, i64_w, i32_w]
         rfl
        refine done_ (done_of HT_.out (by kernel_rfl)) ?_
        try go_wp2
        go_roundg k1
        case measure => have := HK1.out; omega
        case rel => exact ⟨(wrap64 (x13_1 + 1)), zs, H', ⟨by have := HK1.out; omega⟩, ⟨by refine zb ?_; exact BK2.out⟩, ⟨zl HB.out⟩⟩
       ·
        replace c10 := Bool.eq_false_iff.mpr c10
        subst c10
        rw [if_neg (show ¬ (false = true) by decide)] at H
        obtain rfl := Option.some.inj H
        try go_wp2
        have n0_ := am (blk_drew BK2.out)
        have n1_ := am (below_drew1 HB.out)
        clear BK2
        clear HB
        have BK2 := n0_
        have HB := n1_
        clear n0_ n1_
        have p336 : 0 ≤ (x13_1 : Int) := of_decide_eq_true za
        have q336 : x13_1 < (l0.length : Int) := of_decide_eq_true za
        obtain ⟨ad336, e336, hx336_0⟩ := Kd.at_int HR0.out x13_1 p336 q336
        have hw336_0 := hx336_0
        cases e336
        replace hx336_0 := zq HB.out hx336_0
        replace p336 := eq_true p336
        replace q336 := eq_true q336
        have p337 : 0 ≤ (x13_1 : Int) := of_decide_eq_true za
        have q337 : x13_1 < (l1.length : Int) := of_decide_eq_true za
        obtain ⟨ad337, e337, hx337_0⟩ := Kd.at_string HR1.out x13_1 p337 q337
        have hw337_0 := hx337_0
        cases e337
        replace hx337_0 := zq HB.out hx337_0
        replace p337 := eq_true p337
        replace q337 := eq_true q337
        refine start_ (n := 11) (S := fun w' => w'.cell? (ad336.add (x13_1).toNat) = some (.int .i64 (rd l0 x13_1)) ∧ w'.cell? (ad337.add (x13_1).toNat) = some (.string (rdOf ByteArray.empty l1 x13_1))) (ds := []) #[false, false, false, false, false, false, false, false, false, false, false] (by kernel_rfl) rfl rfl ⟨((HB.out.cell (World.block_lt_of_cell? w _ hw336_0)).trans hw336_0), ((HB.out.cell (World.block_lt_of_cell? w _ hw337_0)).trans hw337_0)⟩ (fun hHeld => ?_); refine with_tabW value_all_int_string.tab4 value_all_int_string.bits4 (fun HT_ HW_ => ?_)
        generalize wr.drew = w13 at BK2 HB hx336_0 hx337_0 hHeld ⊢
        refine pure_ (i := 0) (N := some 16) (v := ?_) (a' := ?_) #[true, false, false, false, false, false, false, false, false, false, false] rfl rfl (any_of HT_.out (by kernel_rfl)) (fun _ _ _ h => h) (Or.inl ⟨by rfl, ?_⟩) ?_ ?_
        rotate_left
        ·
         intro w'
         go_simp
         with_reducible rfl
        rotate_left
        ·
         simp only [Act.put, List.setIfInBounds_toArray, List.set_cons_zero, List.set_cons_succ, i64_w, i32_w]
         rfl
        refine pure_ (i := 1) (N := some 17) (v := ?_) (a' := ?_) #[true, true, false, false, false, false, false, false, false, false, false] rfl rfl (any_of HT_.out (by kernel_rfl)) (fun _ _ _ h => h) (Or.inl ⟨by rfl, ?_⟩) ?_ ?_
        rotate_left
        ·
         intro w'
         go_simp
         with_reducible rfl
        rotate_left
        ·
         simp only [Act.put, List.setIfInBounds_toArray, List.set_cons_zero, List.set_cons_succ, i64_w, i32_w]
         rfl
        refine pure_ (i := 2) (N := some 18) (v := ?_) (a' := ?_) #[true, true, true, false, false, false, false, false, false, false, false] rfl rfl (any_of HT_.out (by kernel_rfl)) (fun _ _ _ h => h) (Or.inl ⟨by rfl, ?_⟩) ?_ ?_
        rotate_left
        ·
         intro w'
         go_simp
         with_reducible rfl
        rotate_left
        ·
         simp only [Act.put, List.setIfInBounds_toArray, List.set_cons_zero, List.set_cons_succ, i64_w, i32_w]
         rfl
        refine pure_ (i := 3) (N := some 19) (v := ?_) (a' := ?_) #[true, true, true, true, false, false, false, false, false, false, false] rfl rfl (any_of HT_.out (by kernel_rfl)) (fun _ _ _ h => h) (Or.inl ⟨by rfl, ?_⟩) ?_ ?_
        rotate_left
        ·
         intro w'
         go_simp
         with_reducible rfl
        rotate_left
        ·
         simp only [Act.put, List.setIfInBounds_toArray, List.set_cons_zero, List.set_cons_succ, i64_w, i32_w]
         rfl
        refine pure_ (i := 5) (N := some 21) (v := ?_) (a' := ?_) #[true, true, true, true, false, true, false, false, false, false, false] rfl rfl (any_of HT_.out (by kernel_rfl)) (fun _ _ _ h => h) (Or.inl ⟨by rfl, ?_⟩) ?_ ?_
        rotate_left
        ·
         intro w'
         go_simp
         with_reducible rfl
        rotate_left
        ·
         simp only [Act.put, List.setIfInBounds_toArray, List.set_cons_zero, List.set_cons_succ, i64_w, i32_w]
         rfl
        refine pure_ (i := 6) (N := some 22) (v := ?_) (a' := ?_) #[true, true, true, true, false, true, true, false, false, false, false] rfl rfl (any_of HT_.out (by kernel_rfl)) (fun _ _ _ h => h) (Or.inl ⟨by rfl, ?_⟩) ?_ ?_
        rotate_left
        ·
         intro w'
         go_simp
         with_reducible rfl
        rotate_left
        ·
         simp only [Act.put, List.setIfInBounds_toArray, List.set_cons_zero, List.set_cons_succ, i64_w, i32_w]
         rfl
        refine pure_ (i := 7) (N := some 23) (v := ?_) (a' := ?_) #[true, true, true, true, false, true, true, true, false, false, false] rfl rfl (any_of HT_.out (by kernel_rfl)) (fun _ _ _ h => h) (Or.inl ⟨by rfl, ?_⟩) ?_ ?_
        rotate_left
        ·
         intro w'
         go_simp
         with_reducible rfl
        rotate_left
        ·
         simp only [Act.put, List.setIfInBounds_toArray, List.set_cons_zero, List.set_cons_succ, i64_w, i32_w]
         rfl
        refine take_ (i := 4) (N := some 20) (v := ?_) (a' := ?_) #[true, true, true, true, true, true, true, true, false, false, false] rfl rfl (take_ofW HT_.out HW_.out (by kernel_rfl)) (fun _ _ _ h => h) (Or.inl ⟨by rfl, ?_⟩) hHeld ?_ ?_
        rotate_left
        ·
         rintro w' ⟨s0, s1⟩
         go_simp
         with_reducible rfl
        rotate_left
        ·
         simp only [Act.put, List.setIfInBounds_toArray, List.set_cons_zero, List.set_cons_succ, i64_w, i32_w]
         rfl
        refine take_ (i := 8) (N := some 24) (v := ?_) (a' := ?_) #[true, true, true, true, true, true, true, true, true, false, false] rfl rfl (take_ofW HT_.out HW_.out (by kernel_rfl)) (fun _ _ _ h => h) (Or.inl ⟨by rfl, ?_⟩) hHeld ?_ ?_
        rotate_left
        ·
         rintro w' ⟨s0, s1⟩
         go_simp
         with_reducible rfl
        rotate_left
        ·
         simp only [Act.put, List.setIfInBounds_toArray, List.set_cons_zero, List.set_cons_succ, i64_w, i32_w]
         rfl
        refine one_ (i := 9) (N := some 25) #[true, true, true, true, true, true, true, true, true, true, false] rfl rfl (one_of HT_.out (by kernel_rfl)) (by decide) (fun K hK => ?_)
        refine goesV_ #[.pointer (some ⟨g2, 0, none⟩)] Tryz.func97 (by kernel_rfl) rfl #[.int .i64 (rd l0 x13_1), .string (rdOf ByteArray.empty l1 x13_1), .pointer (some ⟨g2, 0, none⟩)] (by rfl) rfl rfl (by rfl) (by (try simp only [List.map_toArray, List.map_cons, List.map_nil]); first | done | rfl | (simp; done)) ?_
        with_reducible refine (ih_value_Fits_1 k1 (by have := HK1.out; omega) (rd l0 x13_1) (rdOf ByteArray.empty l1 x13_1) g2 A2_0 c2_0 l2_0 false _ ?side1 ?side2 ?side3 ?side4 A9.out).mono ?_
        (case side1 => exact zc (Kd.C_below HR2_0.out HB.out))
        (case side2 => exact HC2_0.out)
        (case side3 => refine zb ?_; exact BK2.out)
        (case side4 => exact GL.below HG.out (zl HB.out))
        rintro e w14 ⟨rfl, hb⟩
        refine ⟨_, rfl, ?_⟩
        have n0_ := am (zbb BK2.out hb)
        have n1_ := am (below_step (zl HB.out) hb)
        clear BK2
        clear HB
        have BK2 := n0_
        have HB := n1_
        clear n0_ n1_
        (try clear hb)
        (try clear hb2)
        (try clear hk)
        (try clear hi)
        refine hK.out _ _ ⟨((HB.out.cell (World.block_lt_of_cell? w _ hw336_0)).trans hw336_0), ((HB.out.cell (World.block_lt_of_cell? w _ hw337_0)).trans hw337_0)⟩ (fun hHeld => ?_)
        clear hK K
        refine norm_ (a' := ?_) ?_ ?_
        rotate_left
        ·
         show Act.put _ (some 25) _ = _
         simp only [Act.put, List.setIfInBounds_toArray, List.set_cons_zero, List.set_cons_succ, i64_w, i32_w]
         rfl
        refine pure_ (i := 10) (N := some 26) (v := ?_) (a' := ?_) #[true, true, true, true, true, true, true, true, true, true, true] rfl rfl (any_of HT_.out (by kernel_rfl)) (fun _ _ _ h => h) (Or.inl ⟨by rfl, ?_⟩) ?_ ?_
        rotate_left
        ·
         intro w'
         go_simp
         with_reducible rfl
        rotate_left
        ·
         simp only [Act.put, List.setIfInBounds_toArray, List.set_cons_zero, List.set_cons_succ, i64_w, i32_w]
         rfl
        refine done_ (done_of HT_.out (by kernel_rfl)) ?_
        try go_wp2
        go_ret
        exact ⟨by first | rfl | (simp [errW_none, errW_some] <;> rfl) | (simp only [← hji4]; first | rfl | (simp [errW_none, errW_some] <;> rfl)) | (simp [*, errW_none, errW_some] <;> rfl), zl HB.out⟩
      ·
       rw [if_neg c8] at H
       exact absurd H (by simp)
     ·
      rw [if_neg c7] at H
      exact absurd H (by simp)
    ·
     rw [if_neg c6] at H
     exact absurd H (by simp)
   ·
    rw [if_neg c5] at H
    have c5b0 := decide_eq_false c5
    clear c5
    obtain rfl := Option.some.inj H
    go_wp2
    go_ret
    exact ⟨by first | rfl | (simp [errW_none, errW_some] <;> rfl) | (simp only [← hji4]; first | rfl | (simp [errW_none, errW_some] <;> rfl)) | (simp [*, errW_none, errW_some] <;> rfl), zl HB.out⟩

theorem value_Fits.all (k : Nat) : value_Fits.Con k ∧ value_Fits_1.Con k ∧ value_all_int_string.Con k := by
 induction k using Nat.strongRecOn with
 | _ k ih => exact ⟨value_Fits.step k (fun k_ h_ => (ih k_ h_).1) (fun k_ h_ => (ih k_ h_).2.1) (fun k_ h_ => (ih k_ h_).2.2), value_Fits_1.step k (fun k_ h_ => (ih k_ h_).1) (fun k_ h_ => (ih k_ h_).2.1) (fun k_ h_ => (ih k_ h_).2.2), value_all_int_string.step k (fun k_ h_ => (ih k_ h_).1) (fun k_ h_ => (ih k_ h_).2.1) (fun k_ h_ => (ih k_ h_).2.2)⟩
theorem value_Fits.calls (k : Nat) : value_Fits.Con k := (value_Fits.all k).1
theorem value_Fits_1.calls (k : Nat) : value_Fits_1.Con k := (value_Fits.all k).2.1
theorem value_all_int_string.calls (k : Nat) : value_all_int_string.Con k := (value_Fits.all k).2.2

end Go.Proofs.YtkcmkedboflklaaGreatDoor.Q
