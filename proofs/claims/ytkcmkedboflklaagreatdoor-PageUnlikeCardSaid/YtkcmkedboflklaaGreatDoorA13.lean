/- Steps towards: PageUnlike: unlike columns have unlike pages, for every type, every leaf and every two columns; no condition beside the row's own (the library's listed variables hold what the program's text lays). -/
import Derived.Test.YtkcmkedboflklaaGreatDoorA2
import Derived.Test.YtkcmkedboflklaaGreatDoorA12
import Derived.Test.YtkcmkedboflklaaGreatDoorA4
import Derived.Test.YtkcmkedboflklaaGreatDoorA8
import Derived.Test.YtkcmkedboflklaaGreatDoorA10
import Derived.Test.YtkcmkedboflklaaGreatDoorA9
namespace Go.Proofs.YtkcmkedboflklaaGreatDoor.Q
open Go.RowKit Go.Proofs.YtkcmkedboflklaaGreatDoorW.PrintWords Go.Proofs.YtkcmkedboflklaaGreatDoorW.PrintLast Go.Proofs.YtkcmkedboflklaaGreatDoorW.PrintMore
attribute [local go_sem] max2_int min2_int max_two min_two max_three min_three max_four min_four
set_option linter.unusedVariables false
set_option linter.unusedSimpArgs false
set_option maxHeartbeats 8000000
set_option maxRecDepth 100000

def page_levels.f (k : Nat) (l0 : List Int) (a1 : Int) : Option (ByteArray) := (bits_Len.f (IntKind.u64.wrap (a1))).bind fun t416 => ((hybrid_Put.f k l0 t416).bind fun bt417 => (some bt417.1))
theorem page_levels.calls (k : Nat) (A0 : Option Addr) (c0 : Nat) (l0 : List Int) (a1 : Int) (r : ByteArray) (w : World) (hr0 : Kd.C (Kd.int .i64) w A0 l0.length l0) (hc0 : l0.length ≤ c0) (h : page_levels.f k l0 a1 = some r) :
  Calls Tryz.prog 36 #[.slice A0 l0.length c0, .int .i64 a1] w fun e w' => e = .returned (.string r) ∧ Below w.heap.size w w' := by
 have HR0 := am hr0
 have HC0 := am hc0
 clear hr0 hc0
 have HB := am (Below.refl w.heap.size w)
 have H : ((bits_Len.f (IntKind.u64.wrap (a1))).bind fun t416 => ((hybrid_Put.f k l0 t416).bind fun bt417 => (some bt417.1))) = some r := h
 clear h
 replace H := zo H
 obtain ⟨t416, A30, H⟩ := H
 (try dsimp only at H)
 have A3 := am A30
 clear A30
 replace H := zo H
 obtain ⟨⟨t417, t418⟩, A40, H⟩ := H
 (try dsimp only at H)
 have A4 := am A40
 clear A40
 obtain rfl := Option.some.inj H
 go_enter Tryz.func36, Tryz.ntmps36
 go_wp2_with (first | ((with_reducible refine gate_callee (f := 47) rfl ?_); refine goesL_ (some 11) rfl rfl Tryz.func47 (by kernel_rfl) rfl #[.int .u64 (IntKind.u64.wrap (a1))] rfl zm ?_; (with_reducible refine (bits_Len.calls (IntKind.u64.wrap (a1)) t416 _ A3.out).mono ?_); rintro e w5 ⟨rfl, hb⟩; refine ⟨_, rfl, ?_⟩; have n0_ := am (below_step (zl HB.out) hb); clear HB; have HB := n0_; clear n0_; (try clear hb); (try clear hb2); (try clear hk); (try clear hi)) | ((with_reducible refine gate_callee (f := 70) rfl ?_); refine goesL_ (some 12) rfl rfl Tryz.func70 (by kernel_rfl) rfl #[.slice A0 l0.length c0, .int .i64 t416] rfl zm ?_; (with_reducible refine (hybrid_Put.calls k (fun k_ => k_ < w.heap.size) _ _ l0 t416 t417 t418 _ ?side1 A4.out).mono ?_); (case side1 => exact Kd.V_mk HC0.out (Kd.F_below (Kd.C_F (Kd.heap_int .i64) HR0.out) (zl HB.out))); rintro e w6 ⟨rfl, hb⟩; refine ⟨_, rfl, ?_⟩; have n0_ := am (below_step (zl HB.out) hb); clear HB; have HB := n0_; clear n0_; (try clear hb); (try clear hb2); (try clear hk); (try clear hi)))
 go_ret
 exact ⟨ze, zl HB.out⟩

-- GIVEN strconv.Atoi name=strconv_Atoi rounds=0 g=0
-- IMPORT Derived.Test.YtkcmkedboflklaaGreatDoorGNumber
/-! strconv.Atoi where it is a number: another text's error is not told. -/
def strconv_Atoi.f (a0 : ByteArray) : Option (Int × Option Int) := if a0.size ≤ 281474976710656 ∧ atoiB a0 = true then some (atoiV a0, none) else none
theorem strconv_Atoi.calls (a0 : ByteArray) (r1 : Int) (r2 : Option Int) (w : World) (h : strconv_Atoi.f a0 = some (r1, r2)) :
    Calls Tryz.prog 73 #[.string a0] w fun e w' => e = .returned (.tuple #[.int .i64 r1, errW r2]) ∧ Below w.heap.size w w' := by
  unfold strconv_Atoi.f at h
  split at h
  · rename_i h1
    simp only [Option.some.injEq, Prod.mk.injEq] at h
    obtain ⟨rfl, rfl⟩ := h
    exact Atoi_yes a0 h1.1 h1.2 w
  · cases h
def page_bytes.f (k : Nat) (a0 : ByteArray) : Option (ByteArray) := (value_Parts.f k a0).bind fun bt419 => (if bt419.1 = 0 then (if 0 < (bt419.2.1.length : Int) then ((strconv_Atoi.f (rdOf ByteArray.empty bt419.2.1 0)).bind fun bt425 => ((num_Word.f k bt425.1 8).bind fun t427 => (some t427))) else (none)) else (if bt419.1 = 1 then (if 0 < (bt419.2.1.length : Int) then (if 0 < ((rdOf ByteArray.empty bt419.2.1 0).size : Int) then ((page_there.f k (([wrap64 (bt (rdOf ByteArray.empty bt419.2.1 0) 0)] : List Int)) 116).bind fun t432 => ((num_Word.f k t432 1).bind fun t433 => (some t433))) else (none)) else (none)) else (if 0 < (bt419.2.1.length : Int) then ((num_Word.f k ((rdOf ByteArray.empty bt419.2.1 0).size : Int) 4).bind fun t435 => (if t435.size + (rdOf ByteArray.empty bt419.2.1 0).size ≤ 9223372036854775807 then (some (t435 ++ (rdOf ByteArray.empty bt419.2.1 0))) else (none))) else (none))))
def page_bytes.T8 : Bool × List (List Nat × List Nat) := (true, [([], []), ([0], [0]), ([1], [1]), ([2], [2]), ([3], [3]), ([], []), ([5], [5]), ([6], [6]), ([4, 7], [4, 7]), ([8, 4, 0, 1, 2, 3, 4, 5, 6, 7, 8], [8])])
def page_bytes.B8 : List Nat := [0, 1, 3, 7, 15, 0, 32, 96, 255, 511]
theorem page_bytes.tab8 : rtab .any (opsOf Tryz.f39 8) = page_bytes.T8 := by kernel_rfl
theorem page_bytes.bits8 : waitsOk page_bytes.T8.2 page_bytes.B8 = true := by kernel_rfl
theorem page_bytes.calls (k : Nat) (a0 : ByteArray) (r : ByteArray) (w : World) (hG : GL w) (h : page_bytes.f k a0 = some r) :
  Calls Tryz.prog 39 #[.string a0] w fun e w' => e = .returned (.string r) ∧ Below w.heap.size w w' := by
 have HB := am (Below.refl w.heap.size w)
 have HG := am hG
 clear hG
 have H : ((value_Parts.f k a0).bind fun bt419 => (if bt419.1 = 0 then (if 0 < (bt419.2.1.length : Int) then ((strconv_Atoi.f (rdOf ByteArray.empty bt419.2.1 0)).bind fun bt425 => ((num_Word.f k bt425.1 8).bind fun t427 => (some t427))) else (none)) else (if bt419.1 = 1 then (if 0 < (bt419.2.1.length : Int) then (if 0 < ((rdOf ByteArray.empty bt419.2.1 0).size : Int) then ((page_there.f k (([wrap64 (bt (rdOf ByteArray.empty bt419.2.1 0) 0)] : List Int)) 116).bind fun t432 => ((num_Word.f k t432 1).bind fun t433 => (some t433))) else (none)) else (none)) else (if 0 < (bt419.2.1.length : Int) then ((num_Word.f k ((rdOf ByteArray.empty bt419.2.1 0).size : Int) 4).bind fun t435 => (if t435.size + (rdOf ByteArray.empty bt419.2.1 0).size ≤ 9223372036854775807 then (some (t435 ++ (rdOf ByteArray.empty bt419.2.1 0))) else (none))) else (none))))) = some r := h
 clear h
 replace H := zo H
 obtain ⟨⟨t419, t420, t421⟩, A20, H⟩ := H
 (try dsimp only at H)
 have A2 := am A20
 clear A20
 by_cases c3 : t419 = 0
 ·
  rw [if_pos c3] at H
  have c3b0 := beq_iff_eq.mpr c3
  have c3b1 := bne_eq_false_iff_eq.mpr c3
  clear c3
  by_cases c4 : 0 < (t420.length : Int)
  ·
   rw [if_pos c4] at H
   have c4b0 := decide_eq_true c4
   have c4b1 : decide (0 < t420.length) = true := decide_eq_true (by omega)
   clear c4
   replace H := zo H
   obtain ⟨⟨t425, t426⟩, A50, H⟩ := H
   (try dsimp only at H)
   have A5 := am A50
   clear A50
   replace H := zo H
   obtain ⟨t427, A60, H⟩ := H
   (try dsimp only at H)
   have A6 := am A60
   clear A60
   obtain rfl := Option.some.inj H
   go_enter Tryz.func39, Tryz.ntmps39
   go_wp2_with (first | ((with_reducible refine gate_callee (f := 72) rfl ?_); refine goesL_ (some 10) rfl rfl Tryz.func72 (by kernel_rfl) rfl #[.string a0] rfl zm ?_; (with_reducible refine (value_Parts.calls k a0 t419 t420 t421 _ ?side1 A2.out).mono ?_); (case side1 => exact GL.below HG.out (zl HB.out)); rintro e w7 ⟨v422, rfl, ho0, hb⟩; refine ⟨_, rfl, ?_⟩; have n0_ := am (Kd.R_lower ho0 (below_size (zl HB.out))); have n1_ := am (below_step (zl HB.out) hb); clear HB; have HO423 := n0_; have HB := n1_; clear n0_ n1_; (try clear hb); (try clear hb2); (try clear hk); (try clear hi); (try clear ho0); obtain ⟨Ao8, co8, eo8⟩ := Kd.R_slice HO423.out; subst eo8; have p424 : 0 ≤ (0 : Int) := (by omega); have q424 : 0 < (t420.length : Int) := of_decide_eq_true za; obtain ⟨ad424, e424, hx424_0⟩ := Kd.at_string (Kd.R_reads' HO423.out).2.2 0 p424 q424; cases e424; have qi424 : (0 < t420.length) = True := eq_true (by omega); (try rw [show ((0 : Int)).toNat = 0 from rfl] at hx424_0); (try rw [Addr.add_zero'] at hx424_0); replace p424 := eq_true p424; replace q424 := eq_true q424) | ((with_reducible refine gate_callee (f := 73) rfl ?_); refine goesL_ (some 21) rfl rfl Tryz.func73 (by kernel_rfl) rfl #[.string (rdOf ByteArray.empty t420 0)] rfl zm ?_; (with_reducible refine (strconv_Atoi.calls (rdOf ByteArray.empty t420 0) t425 t426 _ A5.out).mono ?_); rintro e w9 ⟨rfl, hb⟩; refine ⟨_, rfl, ?_⟩; have n0_ := am (Kd.R_below (zr HO423.out) hb); have n1_ := am (below_step (zl HB.out) hb); clear HO423 HB; have HO423 := n0_; have HB := n1_; clear n0_ n1_; (try clear hb); (try clear hb2); (try clear hk); (try clear hi); (try simp only [errW_none, errW_some])) | ((with_reducible refine gate_callee (f := 38) rfl ?_); refine goesL_ (some 25) rfl rfl Tryz.func38 (by kernel_rfl) rfl #[.int .i64 t425, .int .i64 8] rfl zm ?_; (with_reducible refine (num_Word.calls k t425 8 t427 _ A6.out).mono ?_); rintro e w10 ⟨rfl, hb⟩; refine ⟨_, rfl, ?_⟩; have n0_ := am (Kd.R_below (zr HO423.out) hb); have n1_ := am (below_step (zl HB.out) hb); clear HO423 HB; have HO423 := n0_; have HB := n1_; clear n0_ n1_; (try clear hb); (try clear hb2); (try clear hk); (try clear hi)))
   go_ret
   exact ⟨ze, zl HB.out⟩
  ·
   rw [if_neg c4] at H
   exact absurd H (by simp)
 ·
  rw [if_neg c3] at H
  have c3b0 := beq_eq_false_iff_ne.mpr c3
  have c3b1 := bne_iff_ne.mpr c3
  by_cases c11 : t419 = 1
  ·
   rw [if_pos c11] at H
   have c11b0 := beq_iff_eq.mpr c11
   have c11b1 := bne_eq_false_iff_eq.mpr c11
   clear c11
   by_cases c12 : 0 < (t420.length : Int)
   ·
    rw [if_pos c12] at H
    have c12b0 := decide_eq_true c12
    have c12b1 : decide (0 < t420.length) = true := decide_eq_true (by omega)
    clear c12
    by_cases c13 : 0 < ((rdOf ByteArray.empty t420 0).size : Int)
    ·
     rw [if_pos c13] at H
     have c13b0 := decide_eq_true c13
     have c13b1 : decide (0 < (rdOf ByteArray.empty t420 0).size) = true := decide_eq_true (by omega)
     clear c13
     obtain ⟨y429, hy429⟩ : ∃ y_ : List Int, y_ = (([wrap64 (bt (rdOf ByteArray.empty t420 0) 0)] : List Int)) := ⟨_, rfl⟩
     replace H : ((page_there.f k y429 116).bind fun t432 => ((num_Word.f k t432 1).bind fun t433 => (some t433))) = some r := by first | (rw [hy429]; with_reducible exact H) | (have H2_ := (Option.bind_some _ _).symm.trans H; rw [hy429]; with_reducible exact H2_) | (have H2_ := (Option.bind_some _ _).symm.trans H; with_reducible exact H2_) | with_reducible exact H | (rw [hy429]; exact H) | exact H
     have Ny429 := am hy429
     clear hy429
     replace H := zo H
     obtain ⟨t432, A150, H⟩ := H
     (try dsimp only at H)
     have A15 := am A150
     clear A150
     replace H := zo H
     obtain ⟨t433, A160, H⟩ := H
     (try dsimp only at H)
     have A16 := am A160
     clear A160
     obtain rfl := Option.some.inj H
     go_enter Tryz.func39, Tryz.ntmps39
     go_wp2_with (first | ((with_reducible refine gate_callee (f := 72) rfl ?_); refine goesL_ (some 10) rfl rfl Tryz.func72 (by kernel_rfl) rfl #[.string a0] rfl zm ?_; (with_reducible refine (value_Parts.calls k a0 t419 t420 t421 _ ?side1 A2.out).mono ?_); (case side1 => exact GL.below HG.out (zl HB.out)); rintro e w17 ⟨v422, rfl, ho0, hb⟩; refine ⟨_, rfl, ?_⟩; have n0_ := am (Kd.R_lower ho0 (below_size (zl HB.out))); have n1_ := am (below_step (zl HB.out) hb); clear HB; have HO423 := n0_; have HB := n1_; clear n0_ n1_; (try clear hb); (try clear hb2); (try clear hk); (try clear hi); (try clear ho0); obtain ⟨Ao18, co18, eo18⟩ := Kd.R_slice HO423.out; subst eo18; have p428 : 0 ≤ (0 : Int) := (by omega); have q428 : 0 < (t420.length : Int) := of_decide_eq_true za; obtain ⟨ad428, e428, hx428_0⟩ := Kd.at_string (Kd.R_reads' HO423.out).2.2 0 p428 q428; cases e428; have qi428 : (0 < t420.length) = True := eq_true (by omega); (try rw [show ((0 : Int)).toNat = 0 from rfl] at hx428_0); (try rw [Addr.add_zero'] at hx428_0); replace p428 := eq_true p428; replace q428 := eq_true q428; have p14 : 0 ≤ (0 : Int) := (by omega); have q14 : 0 < (rdOf ByteArray.empty t420 0).size := (by have : (0 : Int) < ((rdOf ByteArray.empty t420 0).size : Int) := of_decide_eq_true za; omega); have hx14 : ∀ h : 0 < (rdOf ByteArray.empty t420 0).size, (((rdOf ByteArray.empty t420 0)[0]'h).toNat : Int) = bt (rdOf ByteArray.empty t420 0) 0 := bt_at (rdOf ByteArray.empty t420 0) 0; clear p14; have qi14 : (0 < ((rdOf ByteArray.empty t420 0).size : Int)) = True := eq_true (of_decide_eq_true za); replace q14 := eq_true q14) | ((with_reducible refine gate_dst (N := 33) rfl ?_); refine Kd.R_lit (Kd.int .i64) _ 3 ?hg (N := 33) ?hd (xs := ([wrap64 (bt (rdOf ByteArray.empty t420 0) 0)] : List Int)) (inner := [.int .i64 (wrap64 (bt (rdOf ByteArray.empty t420 0) 0))]) (ok := fun _ => True) (okp := fun _ => True) ?hr ?hp (fun _ hk => hk) trivial (Below.refl _ _) (Nat.le_refl _) (by simp) ?_; (case hd => rfl); (case hg => rfl); (case hr => exact zh); (case hp => exact (Reps.one (show Kd.M (Kd.int .i64) _ _ _ (wrap64 (bt (rdOf ByteArray.empty t420 0) 0)) [.int .i64 (wrap64 (bt (rdOf ByteArray.empty t420 0) 0))] from rfl) (Reps.none _ _))); intro v430 w19 ho20 hb hg_ hnew_; clear hg_ hnew_; (first | rw [← Ny429.out] at ho20 | (simp only [Int.reduceToNat] at ho20; rw [← Ny429.out] at ho20)); have n0_ := am (Kd.R_below (zr HO423.out) hb); have n1_ := am (Kd.R_lower ho20 (below_size (zl HB.out))); have n2_ := am (below_step (zl HB.out) hb); clear HO423 HB; have HO423 := n0_; have HO431 := n1_; have HB := n2_; clear n0_ n1_ n2_; clear hb ho20; obtain ⟨Ao21, co21, eo21⟩ := Kd.R_slice HO431.out; subst eo21) | ((with_reducible refine gate_callee (f := 48) rfl ?_); refine goesL_ (some 34) rfl rfl Tryz.func48 (by kernel_rfl) rfl #[.slice Ao21 y429.length co21, .int .i64 116] rfl zm ?_; (with_reducible refine (page_there.calls k _ _ y429 116 t432 _ ?side1 ?side2 A15.out).mono ?_); (case side1 => exact zc (Kd.R_reads' HO431.out).2.2); (case side2 => exact (Kd.R_reads' HO431.out).2.1); rintro e w' ⟨rfl, ⟨nd, rfl⟩⟩; refine ⟨_, rfl, ?_⟩) | ((with_reducible refine gate_callee (f := 38) rfl ?_); refine goesL_ (some 35) rfl rfl Tryz.func38 (by kernel_rfl) rfl #[.int .i64 t432, .int .i64 1] rfl zm ?_; (with_reducible refine (num_Word.calls k t432 1 t433 _ A16.out).mono ?_); rintro e w22 ⟨rfl, hb⟩; refine ⟨_, rfl, ?_⟩; have n0_ := am (Kd.R_below (zr HO423.out) hb); have n1_ := am (Kd.R_below (zr HO431.out) hb); have n2_ := am (below_step (zl HB.out) hb); clear HO423 HO431 HB; have HO423 := n0_; have HO431 := n1_; have HB := n2_; clear n0_ n1_ n2_; (try clear hb); (try clear hb2); (try clear hk); (try clear hi)))
     go_ret
     exact ⟨ze, zl HB.out⟩
    ·
     rw [if_neg c13] at H
     exact absurd H (by simp)
   ·
    rw [if_neg c12] at H
    exact absurd H (by simp)
  ·
   rw [if_neg c11] at H
   have c11b0 := beq_eq_false_iff_ne.mpr c11
   have c11b1 := bne_iff_ne.mpr c11
   by_cases c23 : 0 < (t420.length : Int)
   ·
    rw [if_pos c23] at H
    have c23b0 := decide_eq_true c23
    have c23b1 : decide (0 < t420.length) = true := decide_eq_true (by omega)
    clear c23
    replace H := zo H
    obtain ⟨t435, A240, H⟩ := H
    (try dsimp only at H)
    have A24 := am A240
    clear A240
    by_cases c25 : t435.size + (rdOf ByteArray.empty t420 0).size ≤ 9223372036854775807
    ·
     rw [if_pos c25] at H
     have c25b0 := eq_true c25
     have c25b1 := decide_eq_true c25
     try have c25b2 : (9223372036854775807 < t435.size + (rdOf ByteArray.empty t420 0).size) = False := eq_false (Nat.not_lt.2 c25)
     obtain rfl := Option.some.inj H
     go_enter Tryz.func39, Tryz.ntmps39
     try go_wp2_with (first | ((with_reducible refine gate_callee (f := 72) rfl ?_); refine goesL_ (some 10) rfl rfl Tryz.func72 (by kernel_rfl) rfl #[.string a0] rfl zm ?_; (with_reducible refine (value_Parts.calls k a0 t419 t420 t421 _ ?side1 A2.out).mono ?_); (case side1 => exact GL.below HG.out (zl HB.out)); rintro e w26 ⟨v422, rfl, ho0, hb⟩; refine ⟨_, rfl, ?_⟩; have n0_ := am (Kd.R_lower ho0 (below_size (zl HB.out))); have n1_ := am (below_step (zl HB.out) hb); clear HB; have HO423 := n0_; have HB := n1_; clear n0_ n1_; (try clear hb); (try clear hb2); (try clear hk); (try clear hi); (try clear ho0)))
     have n0_ := am (Kd.R_drew HO423.out)
     have n1_ := am (below_drew1 HB.out)
     clear HO423
     clear HB
     have HO423 := n0_
     have HB := n1_
     clear n0_ n1_
     obtain ⟨Ao28, co28, eo28⟩ := Kd.R_slice HO423.out
     (first | subst eo28 | (injection eo28 with f1_ f2_ f3_; have f4_ := f1_.symm; have f5_ := f3_.symm; clear f1_ f2_ f3_; subst f4_; subst f5_))
     have p434 : 0 ≤ (0 : Int) := (by omega)
     have q434 : 0 < (t420.length : Int) := of_decide_eq_true za
     obtain ⟨ad434, e434, hx434_0⟩ := Kd.at_string (Kd.R_reads' HO423.out).2.2 0 p434 q434
     cases e434
     have qi434 : (0 < t420.length) = True := eq_true (by omega)
     (try rw [show ((0 : Int)).toNat = 0 from rfl] at hx434_0)
     (try rw [Addr.add_zero'] at hx434_0)
     replace p434 := eq_true p434
     replace q434 := eq_true q434
     have p436 : 0 ≤ (0 : Int) := (by omega)
     have q436 : 0 < (t420.length : Int) := of_decide_eq_true za
     obtain ⟨ad436, e436, hx436_0⟩ := Kd.at_string (Kd.R_reads' HO423.out).2.2 0 p436 q436
     obtain rfl : ad434 = ad436 := (by injection e436)
     have qi436 : (0 < t420.length) = True := eq_true (by omega)
     (try rw [show ((0 : Int)).toNat = 0 from rfl] at hx436_0)
     (try rw [Addr.add_zero'] at hx436_0)
     replace p436 := eq_true p436
     replace q436 := eq_true q436
     refine start_ (n := 10) (S := fun w' => w'.cell? ad434 = some (.string (rdOf ByteArray.empty t420 0)) ∧ w'.cell? ad434 = some (.string (rdOf ByteArray.empty t420 0))) (ds := []) #[false, false, false, false, false, false, false, false, false, false] (by kernel_rfl) rfl rfl ⟨hx434_0, hx436_0⟩ (fun hHeld => ?_); refine with_tabW page_bytes.tab8 page_bytes.bits8 (fun HT_ HW_ => ?_)
     generalize w26.drew = w27 at HO423 HB hx434_0 hx436_0 hHeld ⊢
     refine pure_ (i := 0) (N := some 36) (v := ?_) (a' := ?_) #[true, false, false, false, false, false, false, false, false, false] rfl rfl (any_of HT_.out (by kernel_rfl)) (fun _ _ _ h => h) (Or.inl ⟨by rfl, ?_⟩) ?_ ?_
     rotate_left
     ·
      intro w'
      go_simp
      with_reducible rfl
     rotate_left
     ·
      simp only [Act.put, List.setIfInBounds_toArray, List.set_cons_zero, List.set_cons_succ, i64_w, i32_w]
      rfl
     refine pure_ (i := 1) (N := some 37) (v := ?_) (a' := ?_) #[true, true, false, false, false, false, false, false, false, false] rfl rfl (any_of HT_.out (by kernel_rfl)) (fun _ _ _ h => h) (Or.inl ⟨by rfl, ?_⟩) ?_ ?_
     rotate_left
     ·
      intro w'
      go_simp
      with_reducible rfl
     rotate_left
     ·
      simp only [Act.put, List.setIfInBounds_toArray, List.set_cons_zero, List.set_cons_succ, i64_w, i32_w]
      rfl
     refine pure_ (i := 5) (N := some 41) (v := ?_) (a' := ?_) #[true, true, false, false, false, true, false, false, false, false] rfl rfl (any_of HT_.out (by kernel_rfl)) (fun _ _ _ h => h) (Or.inl ⟨by rfl, ?_⟩) ?_ ?_
     rotate_left
     ·
      intro w'
      go_simp
      with_reducible rfl
     rotate_left
     ·
      simp only [Act.put, List.setIfInBounds_toArray, List.set_cons_zero, List.set_cons_succ, i64_w, i32_w]
      rfl
     refine pure_ (i := 6) (N := some 42) (v := ?_) (a' := ?_) #[true, true, false, false, false, true, true, false, false, false] rfl rfl (any_of HT_.out (by kernel_rfl)) (fun _ _ _ h => h) (Or.inl ⟨by rfl, ?_⟩) ?_ ?_
     rotate_left
     ·
      intro w'
      go_simp
      with_reducible rfl
     rotate_left
     ·
      simp only [Act.put, List.setIfInBounds_toArray, List.set_cons_zero, List.set_cons_succ, i64_w, i32_w]
      rfl
     refine take_ (i := 2) (N := some 38) (v := ?_) (a' := ?_) #[true, true, true, false, false, true, true, false, false, false] rfl rfl (take_ofW HT_.out HW_.out (by kernel_rfl)) (fun _ _ _ h => h) (Or.inl ⟨by rfl, ?_⟩) hHeld ?_ ?_
     rotate_left
     ·
      rintro w' ⟨s0, s1⟩
      go_simp
      with_reducible rfl
     rotate_left
     ·
      simp only [Act.put, List.setIfInBounds_toArray, List.set_cons_zero, List.set_cons_succ, i64_w, i32_w]
      rfl
     refine pure_ (i := 3) (N := some 39) (v := ?_) (a' := ?_) #[true, true, true, true, false, true, true, false, false, false] rfl rfl (any_of HT_.out (by kernel_rfl)) (fun _ _ _ h => h) (Or.inl ⟨by rfl, ?_⟩) ?_ ?_
     rotate_left
     ·
      intro w'
      go_simp
      with_reducible rfl
     rotate_left
     ·
      simp only [Act.put, List.setIfInBounds_toArray, List.set_cons_zero, List.set_cons_succ, i64_w, i32_w]
      rfl
     refine take_ (i := 7) (N := some 43) (v := ?_) (a' := ?_) #[true, true, true, true, false, true, true, true, false, false] rfl rfl (take_ofW HT_.out HW_.out (by kernel_rfl)) (fun _ _ _ h => h) (Or.inl ⟨by rfl, ?_⟩) hHeld ?_ ?_
     rotate_left
     ·
      rintro w' ⟨s0, s1⟩
      go_simp
      with_reducible rfl
     rotate_left
     ·
      simp only [Act.put, List.setIfInBounds_toArray, List.set_cons_zero, List.set_cons_succ, i64_w, i32_w]
      rfl
     refine one_ (i := 4) (N := some 40) #[true, true, true, true, true, true, true, true, false, false] rfl rfl (one_of HT_.out (by kernel_rfl)) (by decide) (fun K hK => ?_)
     refine goes_ Tryz.func38 (by kernel_rfl) rfl #[.int .i64 ((rdOf ByteArray.empty t420 0).size : Int), .int .i64 4] (by rfl) rfl rfl zm ?_
     with_reducible refine (num_Word.calls k ((rdOf ByteArray.empty t420 0).size : Int) 4 t435 _ A24.out).mono ?_
     rintro e w29 ⟨rfl, hb⟩
     have HS0_ := (hb.cell (World.block_lt_of_cell? _ _ (hHeld.1))).trans (hHeld.1)
     have HS1_ := (hb.cell (World.block_lt_of_cell? _ _ (hHeld.2))).trans (hHeld.2)
     refine ⟨_, rfl, ?_⟩
     have n0_ := am (Kd.R_below (zr HO423.out) hb)
     have n1_ := am (below_step (zl HB.out) hb)
     clear HO423
     clear HB
     have HO423 := n0_
     have HB := n1_
     clear n0_ n1_
     (try clear hb)
     (try clear hb2)
     (try clear hk)
     (try clear hi)
     refine hK.out _ _ ⟨HS0_, HS1_⟩ (fun hHeld => ?_)
     clear hK K
     refine norm_ (a' := ?_) ?_ ?_
     rotate_left
     ·
      show Act.put _ (some 40) _ = _
      simp only [Act.put, List.setIfInBounds_toArray, List.set_cons_zero, List.set_cons_succ, i64_w, i32_w]
      rfl
     refine pure_ (i := 8) (N := some 44) (v := ?_) (a' := ?_) #[true, true, true, true, true, true, true, true, true, false] rfl rfl (any_of HT_.out (by kernel_rfl)) (fun _ _ _ h => h) (Or.inl ⟨by rfl, ?_⟩) ?_ ?_
     rotate_left
     ·
      intro w'
      go_simp
      with_reducible rfl
     rotate_left
     ·
      simp only [Act.put, List.setIfInBounds_toArray, List.set_cons_zero, List.set_cons_succ, i64_w, i32_w]
      rfl
     refine pure_ (i := 9) (N := some 2) (v := ?_) (a' := ?_) #[true, true, true, true, true, true, true, true, true, true] rfl rfl (any_of HT_.out (by kernel_rfl)) (fun _ _ _ h => h) (Or.inl ⟨by rfl, ?_⟩) ?_ ?_
     rotate_left
     ·
      intro w'
      go_simp
      with_reducible rfl
     rotate_left
     ·
      simp only [Act.put, List.setIfInBounds_toArray, List.set_cons_zero, List.set_cons_succ, i64_w, i32_w]
      rfl
     refine done_ (done_of HT_.out (by kernel_rfl)) ?_
     try go_wp2
     go_ret
     exact ⟨ze, zl HB.out⟩
    ·
     rw [if_neg c25] at H
     exact absurd H (by simp)
   ·
    rw [if_neg c23] at H
    exact absurd H (by simp)
end Go.Proofs.YtkcmkedboflklaaGreatDoor.Q
