/- Steps towards: PageUnlike: unlike columns have unlike pages, for every type, every leaf and every two columns; no condition beside the row's own (the library's listed variables hold what the program's text lays). -/
import Derived.Test.YtkcmkedboflklaaGreatDoorA2
namespace Go.Proofs.YtkcmkedboflklaaGreatDoor.Q
open Go.RowKit Go.Proofs.YtkcmkedboflklaaGreatDoorW.PrintWords Go.Proofs.YtkcmkedboflklaaGreatDoorW.PrintLast Go.Proofs.YtkcmkedboflklaaGreatDoorW.PrintMore
attribute [local go_sem] max2_int min2_int max_two min_two max_three min_three max_four min_four
set_option linter.unusedVariables false
set_option linter.unusedSimpArgs false
set_option maxHeartbeats 8000000
set_option maxRecDepth 100000

def bits_Of.l0 : Nat → List Int → List Bool → Int → Int → Option (ByteArray)
 | 0, _, _, _, _ => none
 | k + 1, x3, x10, x11, x12 => if x12 < x11 then (if 0 ≤ x12 then (if x12 < (x10.length : Int) then (if rdOf false x10 x12 = true then (if 0 ≤ (wrap64 (Int.tdiv x12 8)) then (if (wrap64 (Int.tdiv x12 8)) < (x3.length : Int) then (if 0 ≤ (Int.tmod x12 8) then (bits_Of.l0 k (x3.set ((wrap64 (Int.tdiv x12 8)) : Int).toNat (Go.bits .or .u8 (rd x3 (wrap64 (Int.tdiv x12 8))) (shl .u8 1 (Int.tmod x12 8)))) x10 x11 (wrap64 (x12 + 1))) else (none)) else (none)) else (none)) else (bits_Of.l0 k x3 x10 x11 (wrap64 (x12 + 1)))) else (none)) else (none)) else (some (strOfNums x3))
def bits_Of.f (k : Nat) (l0 : List Bool) : Option (ByteArray) := (bits_Bytes.f (l0.length : Int)).bind fun t368 => (if 0 ≤ t368 then (if (t368 : Int).toNat ≤ 281474976710656 then (bits_Of.l0 k (List.replicate (t368 : Int).toNat 0) l0 (l0.length : Int) 0) else (none)) else (none))
def bits_Of.T6 : Bool × List (List Nat × List Nat) := (true, [([], []), ([], []), ([1], [1]), ([0, 2], [0, 2]), ([3], [3]), ([], []), ([5], [5]), ([6], [6]), ([4, 7], [4, 7]), ([0, 2, 0, 1, 2, 3, 4, 5, 6, 7, 8], [0, 2]), ([9, 8, 0, 1, 2, 3, 4, 5, 6, 7, 8], [8, 9])])
def bits_Of.B6 : List Nat := [0, 0, 2, 7, 15, 0, 32, 96, 255, 511, 1023]
theorem bits_Of.tab6 : rtab .any (opsOf Tryz.f130 6) = bits_Of.T6 := by kernel_rfl
theorem bits_Of.bits6 : waitsOk bits_Of.T6.2 bits_Of.B6 = true := by kernel_rfl
theorem bits_Of.calls (k : Nat) (A0 : Option Addr) (c0 : Nat) (l0 : List Bool) (r : ByteArray) (w : World) (hr0 : Kd.C Kd.bool w A0 l0.length l0) (hc0 : l0.length ≤ c0) (h : bits_Of.f k l0 = some r) :
  Calls Tryz.prog 130 #[.slice A0 l0.length c0] w fun e w' => e = .returned (.string r) ∧ Below w.heap.size w w' := by
 have HR0 := am hr0
 have HC0 := am hc0
 clear hr0 hc0
 have HB := am (Below.refl w.heap.size w)
 have H : ((bits_Bytes.f (l0.length : Int)).bind fun t368 => (if 0 ≤ t368 then (if (t368 : Int).toNat ≤ 281474976710656 then (bits_Of.l0 k (List.replicate (t368 : Int).toNat 0) l0 (l0.length : Int) 0) else (none)) else (none))) = some r := h
 clear h
 replace H := zo H
 obtain ⟨t368, A20, H⟩ := H
 (try dsimp only at H)
 have A2 := am A20
 clear A20
 by_cases c3 : 0 ≤ t368
 ·
  rw [if_pos c3] at H
  have c3b0 := eq_true c3
  have c3b1 := decide_eq_true c3
  clear c3
  by_cases c4 : (t368 : Int).toNat ≤ 281474976710656
  ·
   rw [if_pos c4] at H
   have c4b0 := eq_true c4
   have c4b1 := decide_eq_true c4
   clear c4
   obtain ⟨y369, hy369⟩ : ∃ y_ : List Int, y_ = (List.replicate (t368 : Int).toNat 0) := ⟨_, rfl⟩
   replace H : (bits_Of.l0 k y369 l0 (l0.length : Int) 0) = some r := by first | (rw [hy369]; with_reducible exact H) | (have H2_ := (Option.bind_some _ _).symm.trans H; rw [hy369]; with_reducible exact H2_) | (have H2_ := (Option.bind_some _ _).symm.trans H; with_reducible exact H2_) | with_reducible exact H | (rw [hy369]; exact H) | exact H
   have Ny369 := am hy369
   clear hy369
   have H' := am H
   clear H
   go_enter Tryz.func130, Tryz.ntmps130
   go_wp2_with (first | ((with_reducible refine gate_callee (f := 103) rfl ?_); refine goesL_ (some 8) rfl rfl Tryz.func103 (by kernel_rfl) rfl #[.int .i64 (l0.length : Int)] rfl zm ?_; (with_reducible refine (bits_Bytes.calls (l0.length : Int) t368 _ A2.out).mono ?_); rintro e w' ⟨rfl, ⟨nd, rfl⟩⟩; refine ⟨_, rfl, ?_⟩) | ((with_reducible refine gate_dst (N := 9) rfl ?_); refine Kd.R_make (Kd.int .u8) _ 5 rfl (N := 9) rfl 71 _ _ rfl t368 rfl rfl Tryz.underlying71 (.int .u8 0) 1 info5 rfl (by decide) (by omega) 0 (ok := fun _ => True) (okp := fun _ => True) rfl (fun _ hk => hk) trivial (of_decide_eq_true za) (Nat.le_trans (Nat.mul_le_mul_right _ (of_decide_eq_true za : t368.toNat ≤ 281474976710656)) (by omega)) (Below.refl _ _) (Nat.le_refl _) ?_; intro v370 w5 ho6 hb hg_ hnew_; clear hg_ hnew_; (first | rw [← Ny369.out] at ho6 | (simp only [Int.reduceToNat] at ho6; rw [← Ny369.out] at ho6)); have n0_ := am (Kd.R_lower ho6 (below_size (zl HB.out))); have n1_ := am (below_step (zl HB.out) hb); clear HB; have HO371 := n0_; have HB := n1_; clear n0_ n1_; clear hb ho6))
   (try simp only [Act.put, List.setIfInBounds_toArray, List.set_cons_zero, List.set_cons_succ])
   go_loopg [12] k (fun kq v12 w' => ∃ (x3_1 : List Int) (x12_1 : Int), v12 = .int .i64 x12_1 ∧ Aside0 (bits_Of.l0 kq x3_1 l0 (l0.length : Int) x12_1 = some r) ∧ Aside0 (kq ≤ k) ∧ Aside0 (Kd.R (Kd.int .u8) 5 w' w.heap.size (fun _ => True) v370 x3_1) ∧ Aside0 (Below w.heap.size w w'))
   case atStart => exact ⟨(y369), (0), zs, H', ⟨Nat.le_refl _⟩, ⟨by refine zr ?_; exact HO371.out⟩, ⟨zl HB.out⟩⟩
   case round =>
    clear H'
    try clear c1
    try clear p2
    try clear c3
    try clear c3b0
    try clear c3b1
    try clear c4
    try clear c4b0
    try clear c4b1
    obtain ⟨x3_1, x12_1, rfl, HA, HK1, HO_3, HB⟩ := hrel
    cases gk with
    | zero => exact absurd HA.out (by simp [bits_Of.l0])
    | succ k1 =>
     have H := HA.out
     clear HA
     simp only [bits_Of.l0] at H
     by_cases c7 : x12_1 < (l0.length : Int)
     ·
      rw [if_pos c7] at H
      have c7b0 := decide_eq_true c7
      clear c7
      by_cases c8 : 0 ≤ x12_1
      ·
       rw [if_pos c8] at H
       have c8b0 := decide_eq_true c8
       clear c8
       by_cases c9 : x12_1 < (l0.length : Int)
       ·
        rw [if_pos c9] at H
        have c9b0 := decide_eq_true c9
        clear c9
        obtain ⟨bq10, hbq10⟩ : ∃ b_ : Bool, b_ = (rdOf false l0 x12_1) := ⟨_, rfl⟩
        replace H : (if bq10 = true then (if 0 ≤ (wrap64 (Int.tdiv x12_1 8)) then (if (wrap64 (Int.tdiv x12_1 8)) < (x3_1.length : Int) then (if 0 ≤ (Int.tmod x12_1 8) then (bits_Of.l0 k1 (x3_1.set ((wrap64 (Int.tdiv x12_1 8)) : Int).toNat (Go.bits .or .u8 (rd x3_1 (wrap64 (Int.tdiv x12_1 8))) (shl .u8 1 (Int.tmod x12_1 8)))) l0 (l0.length : Int) (wrap64 (x12_1 + 1))) else (none)) else (none)) else (none)) else (bits_Of.l0 k1 x3_1 l0 (l0.length : Int) (wrap64 (x12_1 + 1)))) = some r := by rw [← hbq10] at H; exact H
        have Nbq10 := am hbq10
        clear hbq10
        by_cases c11 : bq10 = true
        ·
         subst c11
         rw [if_pos rfl] at H
         obtain ⟨ji12, hji12⟩ : ∃ j_ : Int, (wrap64 (Int.tdiv x12_1 8)) = j_ := ⟨_, rfl⟩
         replace H : (if 0 ≤ (ji12) then (if (ji12) < (x3_1.length : Int) then (if 0 ≤ (Int.tmod x12_1 8) then (bits_Of.l0 k1 (x3_1.set ((ji12) : Int).toNat (Go.bits .or .u8 (rd x3_1 (ji12)) (shl .u8 1 (Int.tmod x12_1 8)))) l0 (l0.length : Int) (wrap64 (x12_1 + 1))) else (none)) else (none)) else (none)) = some r := by first | (rw [hji12] at H; exact H) | (simp only [hji12] at H ⊢; exact H)
         have hji12w : (IntKind.i64.wrap (Int.tdiv x12_1 8)) = ji12 := (i64_w _).trans hji12
         by_cases c13 : 0 ≤ (ji12)
         ·
          rw [if_pos c13] at H
          have c13b0 := decide_eq_true c13
          clear c13
          by_cases c14 : (ji12) < (x3_1.length : Int)
          ·
           rw [if_pos c14] at H
           have c14b0 := decide_eq_true c14
           clear c14
           obtain ⟨ji15, hji15⟩ : ∃ j_ : Int, (Int.tmod x12_1 8) = j_ := ⟨_, rfl⟩
           replace H : (if 0 ≤ (ji15) then (bits_Of.l0 k1 (x3_1.set ((ji12) : Int).toNat (Go.bits .or .u8 (rd x3_1 (ji12)) (shl .u8 1 (ji15)))) l0 (l0.length : Int) (wrap64 (x12_1 + 1))) else (none)) = some r := by first | (rw [hji15] at H; exact H) | (simp only [hji15] at H ⊢; exact H)
           by_cases c16 : 0 ≤ (ji15)
           ·
            rw [if_pos c16] at H
            have c16b0 := eq_true c16
            have c16b1 := decide_eq_true c16
            clear c16
            obtain ⟨ji17, hji17⟩ : ∃ j_ : Int, (shl .u8 1 (ji15)) = j_ := ⟨_, rfl⟩
            replace H : (bits_Of.l0 k1 (x3_1.set ((ji12) : Int).toNat (Go.bits .or .u8 (rd x3_1 (ji12)) (ji17))) l0 (l0.length : Int) (wrap64 (x12_1 + 1))) = some r := by first | (rw [hji17] at H; exact H) | (simp only [hji17] at H ⊢; exact H)
            have hji17_ : (IntKind.u8.wrap (1 * 2 ^ min (ji15).toNat 8)) = ji17 := hji17
            have hji17z : (ji15) ≤ 8 → (IntKind.u8.wrap (1 * 2 ^ (ji15).toNat)) = ji17 := shl_small hji17
            have hji17u : (IntKind.u8.wrap (2 ^ min (ji15).toNat 8)) = ji17 := by have h_ := hji17_; rw [Int.one_mul] at h_; exact h_
            have hji17v : (ji15) ≤ 8 → (IntKind.u8.wrap (2 ^ (ji15).toNat)) = ji17 := fun hle_ => by have h_ := hji17z hle_; rw [Int.one_mul] at h_; exact h_
            obtain ⟨y374, hy374⟩ : ∃ y_ : List Int, y_ = (x3_1.set ((ji12) : Int).toNat (Go.bits .or .u8 (rd x3_1 (ji12)) (ji17))) := ⟨_, rfl⟩
            replace H : (bits_Of.l0 k1 y374 l0 (l0.length : Int) (wrap64 (x12_1 + 1))) = some r := by first | (rw [hy374]; with_reducible exact H) | (have H2_ := (Option.bind_some _ _).symm.trans H; rw [hy374]; with_reducible exact H2_) | (have H2_ := (Option.bind_some _ _).symm.trans H; with_reducible exact H2_) | with_reducible exact H | (rw [hy374]; exact H) | exact H
            have Ny374 := am hy374
            clear hy374
            have H' := am H
            clear H
            have p372 : 0 ≤ (x12_1 : Int) := of_decide_eq_true za
            have q372 : x12_1 < (l0.length : Int) := of_decide_eq_true za
            obtain ⟨ad372, e372, hx372_0⟩ := Kd.at_bool HR0.out x12_1 p372 q372
            (try rw [← Nbq10.out] at hx372_0)
            cases e372
            replace hx372_0 := zq HB.out hx372_0
            replace p372 := eq_true p372
            replace q372 := eq_true q372
            try go_wp2
            have n0_ := am (Kd.R_drew HO_3.out)
            have n1_ := am (below_drew1 HB.out)
            clear HO_3
            clear HB
            have HO_3 := n0_
            have HB := n1_
            clear n0_ n1_
            obtain ⟨Ao20, co20, eo20⟩ := Kd.R_slice HO_3.out
            (first | subst eo20 | (injection eo20 with f1_ f2_ f3_; have f4_ := f1_.symm; have f5_ := f3_.symm; clear f1_ f2_ f3_; subst f4_; subst f5_))
            have p373 : 0 ≤ ((ji12) : Int) := of_decide_eq_true za
            have q373 : (ji12) < (x3_1.length : Int) := of_decide_eq_true za
            obtain ⟨ad373, e373, hx373_0⟩ := Kd.at_int (Kd.R_reads' HO_3.out).2.2 (ji12) p373 q373
            cases e373
            replace p373 := eq_true p373
            replace q373 := eq_true q373
            have p18 : 0 ≤ ((ji12) : Int) := of_decide_eq_true za
            have q18 : ((ji12) : Int) < ((x3_1.length : Int) : Int) := of_decide_eq_true za
            obtain ⟨go18, co18, eo18, gb18, gl18, cl18, HG18⟩ := Kd.R_form HO_3.out (by omega)
            (first | cases eo18 | (injection eo18 with ea_ en_ ec_; (first | subst ea_ | (injection ea_ with ea_; subst ea_)); subst ec_; clear en_))
            have GB18 := am gb18
            have GG18 := am HG18
            clear gb18 gl18 HG18
            (first | simp only [add_plain] at hx373_0 | skip)
            obtain ⟨hx18_0, hf18_0⟩ := Kd.R_celln 0 HO_3.out ((ji12) : Int) p18 q18
            replace p18 := eq_true p18
            replace q18 := eq_true q18
            have HP21 := Kd.R_putn HO_3.out ((ji12) : Int) (Go.bits .or .u8 (rd x3_1 (ji12)) (ji17))
            rw [← Ny374.out] at HP21
            have HQ21 := am HP21
            clear HP21
            refine start_ (n := 11) (S := fun w' => w'.cell? ⟨go18, ((ji12)).toNat, none⟩ = some (.int .u8 (rd x3_1 (ji12)))) (ds := [10]) #[false, false, false, false, false, false, false, false, false, false, false] (by kernel_rfl) rfl rfl (hx373_0) (fun hHeld => ?_); refine with_tabW bits_Of.tab6 bits_Of.bits6 (fun HT_ HW_ => ?_)
            generalize wr.drew = w19 at HO_3 HB GG18 HQ21 hf18_0 hx18_0 hx373_0 hHeld ⊢
            refine pure_ (i := 0) (N := some 18) (v := ?_) (a' := ?_) #[true, false, false, false, false, false, false, false, false, false, false] rfl rfl (any_of HT_.out (by kernel_rfl)) (fun _ _ _ h => h) (Or.inl ⟨by rfl, ?_⟩) ?_ ?_
            rotate_left
            ·
             intro w'
             go_simp
             with_reducible rfl
            rotate_left
            ·
             simp only [Act.put, List.setIfInBounds_toArray, List.set_cons_zero, List.set_cons_succ, i64_w, i32_w]
             rfl
            refine pure_ (i := 1) (N := some 19) (v := ?_) (a' := ?_) #[true, true, false, false, false, false, false, false, false, false, false] rfl rfl (any_of HT_.out (by kernel_rfl)) (fun _ _ _ h => h) (Or.inl ⟨by rfl, ?_⟩) ?_ ?_
            rotate_left
            ·
             intro w'
             go_simp
             with_reducible rfl
            rotate_left
            ·
             simp only [Act.put, List.setIfInBounds_toArray, List.set_cons_zero, List.set_cons_succ, i64_w, i32_w]
             rfl
            refine pure_ (i := 2) (N := some 20) (v := ?_) (a' := ?_) #[true, true, true, false, false, false, false, false, false, false, false] rfl rfl (any_of HT_.out (by kernel_rfl)) (fun _ _ _ h => h) (Or.inl ⟨by rfl, ?_⟩) ?_ ?_
            rotate_left
            ·
             intro w'
             go_simp
             with_reducible rfl
            rotate_left
            ·
             simp only [Act.put, List.setIfInBounds_toArray, List.set_cons_zero, List.set_cons_succ, i64_w, i32_w]
             rfl
            refine pure_ (i := 3) (N := some 21) (v := ?_) (a' := ?_) #[true, true, true, true, false, false, false, false, false, false, false] rfl rfl (any_of HT_.out (by kernel_rfl)) (fun _ _ _ h => h) (Or.inl ⟨by rfl, ?_⟩) ?_ ?_
            rotate_left
            ·
             intro w'
             go_simp
             with_reducible rfl
            rotate_left
            ·
             simp only [Act.put, List.setIfInBounds_toArray, List.set_cons_zero, List.set_cons_succ, i64_w, i32_w]
             rfl
            refine pure_ (i := 5) (N := some 23) (v := ?_) (a' := ?_) #[true, true, true, true, false, true, false, false, false, false, false] rfl rfl (any_of HT_.out (by kernel_rfl)) (fun _ _ _ h => h) (Or.inl ⟨by rfl, ?_⟩) ?_ ?_
            rotate_left
            ·
             intro w'
             go_simp
             with_reducible rfl
            rotate_left
            ·
             simp only [Act.put, List.setIfInBounds_toArray, List.set_cons_zero, List.set_cons_succ, i64_w, i32_w]
             rfl
            refine pure_ (i := 6) (N := some 24) (v := ?_) (a' := ?_) #[true, true, true, true, false, true, true, false, false, false, false] rfl rfl (any_of HT_.out (by kernel_rfl)) (fun _ _ _ h => h) (Or.inl ⟨by rfl, ?_⟩) ?_ ?_
            rotate_left
            ·
             intro w'
             go_simp
             with_reducible rfl
            rotate_left
            ·
             simp only [Act.put, List.setIfInBounds_toArray, List.set_cons_zero, List.set_cons_succ, i64_w, i32_w]
             rfl
            refine pure_ (i := 7) (N := some 25) (v := ?_) (a' := ?_) #[true, true, true, true, false, true, true, true, false, false, false] rfl rfl (any_of HT_.out (by kernel_rfl)) (fun _ _ _ h => h) (Or.inl ⟨by rfl, ?_⟩) ?_ ?_
            rotate_left
            ·
             intro w'
             go_simp
             with_reducible rfl
            rotate_left
            ·
             simp only [Act.put, List.setIfInBounds_toArray, List.set_cons_zero, List.set_cons_succ, i64_w, i32_w]
             rfl
            refine take_ (i := 4) (N := some 22) (v := ?_) (a' := ?_) #[true, true, true, true, true, true, true, true, false, false, false] rfl rfl (take_ofW HT_.out HW_.out (by kernel_rfl)) (fun _ _ _ h => h) (Or.inl ⟨by rfl, ?_⟩) hHeld ?_ ?_
            rotate_left
            ·
             intro w' s0
             go_simp
             with_reducible rfl
            rotate_left
            ·
             simp only [Act.put, List.setIfInBounds_toArray, List.set_cons_zero, List.set_cons_succ, i64_w, i32_w]
             rfl
            refine pure_ (i := 8) (N := some 26) (v := ?_) (a' := ?_) #[true, true, true, true, true, true, true, true, true, false, false] rfl rfl (any_of HT_.out (by kernel_rfl)) (fun _ _ _ h => h) (Or.inl ⟨by rfl, ?_⟩) ?_ ?_
            rotate_left
            ·
             intro w'
             go_simp
             with_reducible rfl
            rotate_left
            ·
             simp only [Act.put, List.setIfInBounds_toArray, List.set_cons_zero, List.set_cons_succ, i64_w, i32_w]
             rfl
            refine pure_ (i := 9) (N := some 27) (v := ?_) (a' := ?_) #[true, true, true, true, true, true, true, true, true, true, false] rfl rfl (any_of HT_.out (by kernel_rfl)) (fun _ _ _ h => h) (Or.inl ⟨by rfl, ?_⟩) ?_ ?_
            rotate_left
            ·
             intro w'
             go_simp
             with_reducible rfl
            rotate_left
            ·
             simp only [Act.put, List.setIfInBounds_toArray, List.set_cons_zero, List.set_cons_succ, i64_w, i32_w]
             rfl
            refine last_ (i := 10) (N := none) #[true, true, true, true, true, true, true, true, true, true, true] rfl rfl (one_of HT_.out (by kernel_rfl)) (by decide) (fun K hK => ?_)
            refine skip_ (w1 := ?_) (by rfl) rfl ?_ ?_
            rotate_left
            ·
             go_simp
             rfl
            refine hK.out _ _ ?_
            clear hK K
            refine done_ (done_of HT_.out (by kernel_rfl)) ?_
            try go_wp2
            go_roundg k1
            case measure => have := HK1.out; omega
            case rel => exact ⟨(y374), (wrap64 (x12_1 + 1)), zs, H', ⟨by have := HK1.out; omega⟩, ⟨by refine zr ?_; exact HQ21.out⟩, ⟨zl1 HB.out GB18.out⟩⟩
           ·
            rw [if_neg c16] at H
            exact absurd H (by simp)
          ·
           rw [if_neg c14] at H
           exact absurd H (by simp)
         ·
          rw [if_neg c13] at H
          exact absurd H (by simp)
        ·
         replace c11 := Bool.eq_false_iff.mpr c11
         subst c11
         rw [if_neg (show ¬ (false = true) by decide)] at H
         have H' := am H
         clear H
         have p372 : 0 ≤ (x12_1 : Int) := of_decide_eq_true za
         have q372 : x12_1 < (l0.length : Int) := of_decide_eq_true za
         obtain ⟨ad372, e372, hx372_0⟩ := Kd.at_bool HR0.out x12_1 p372 q372
         (try rw [← Nbq10.out] at hx372_0)
         cases e372
         replace hx372_0 := zq HB.out hx372_0
         replace p372 := eq_true p372
         replace q372 := eq_true q372
         go_wp2
         go_roundg k1
         case measure => have := HK1.out; omega
         case rel => exact ⟨(x3_1), (wrap64 (x12_1 + 1)), zs, H', ⟨by have := HK1.out; omega⟩, ⟨by refine zr ?_; exact HO_3.out⟩, ⟨zl HB.out⟩⟩
       ·
        rw [if_neg c9] at H
        exact absurd H (by simp)
      ·
       rw [if_neg c8] at H
       exact absurd H (by simp)
     ·
      rw [if_neg c7] at H
      have c7b0 := decide_eq_false c7
      clear c7
      obtain rfl := Option.some.inj H
      have hcv22 := own_string (P := Tryz.prog) Tryz.underlying71 Tryz.underlying5 Tryz.underlying9 (Kd.own_of_R HO_3.out)
      go_wp2
      go_ret
      exact ⟨ze, zl HB.out⟩
  ·
   rw [if_neg c4] at H
   exact absurd H (by simp)
 ·
  rw [if_neg c3] at H
  exact absurd H (by simp)

mutual
def hybrid_wide.l0 : Nat → Int → List Bool → List Int → Int → Int → Option (ByteArray)
 | 0, _, _, _, _, _ => none
 | k + 1, x1, x5, x18, x19, x20 => if x20 < x19 then (if 0 ≤ x20 then (if x20 < (x18.length : Int) then (hybrid_wide.l1 k x1 x5 x20 (rd x18 x20) x18 x19 x20 x1 0) else (none)) else (none)) else ((bits_Of.f k x5).bind fun t378 => (some t378))
def hybrid_wide.l1 : Nat → Int → List Bool → Int → Int → List Int → Int → Int → Int → Int → Option (ByteArray)
 | 0, _, _, _, _, _, _, _, _, _ => none
 | k + 1, x1, x5, x6, x7, x18, x19, x20, x25, x26 => if x26 < x25 then (if 0 ≤ x26 then (if 0 ≤ (wrap64 ((wrap64 (x6 * x1)) + x26)) then (if (wrap64 ((wrap64 (x6 * x1)) + x26)) < (x5.length : Int) then (hybrid_wide.l1 k x1 (x5.set ((wrap64 ((wrap64 (x6 * x1)) + x26)) : Int).toNat ((Go.bits .and .i64 (shr .i64 x7 x26) 1) == 1)) x6 x7 x18 x19 x20 x25 (wrap64 (x26 + 1))) else (none)) else (none)) else (none)) else (hybrid_wide.l0 k x1 x5 x18 x19 (wrap64 (x20 + 1)))
end
def hybrid_wide.f (k : Nat) (l0 : List Int) (a1 : Int) : Option (ByteArray) := if 0 ≤ (wrap64 ((wrap64 ((wrap64 (Int.tdiv (wrap64 ((wrap64 ((l0.length : Int) + 8)) - 1)) 8)) * 8)) * a1)) then (if (wrap64 ((wrap64 ((wrap64 (Int.tdiv (wrap64 ((wrap64 ((l0.length : Int) + 8)) - 1)) 8)) * 8)) * a1) : Int).toNat ≤ 281474976710656 then (hybrid_wide.l0 k a1 (List.replicate (wrap64 ((wrap64 ((wrap64 (Int.tdiv (wrap64 ((wrap64 ((l0.length : Int) + 8)) - 1)) 8)) * 8)) * a1) : Int).toNat false) l0 (l0.length : Int) 0) else (none)) else (none)
theorem hybrid_wide.calls (k : Nat) (A0 : Option Addr) (c0 : Nat) (l0 : List Int) (a1 : Int) (r : ByteArray) (w : World) (hr0 : Kd.C (Kd.int .i64) w A0 l0.length l0) (hc0 : l0.length ≤ c0) (h : hybrid_wide.f k l0 a1 = some r) :
  Calls Tryz.prog 105 #[.slice A0 l0.length c0, .int .i64 a1] w fun e w' => e = .returned (.string r) ∧ Below w.heap.size w w' := by
 have HR0 := am hr0
 have HC0 := am hc0
 clear hr0 hc0
 have HB := am (Below.refl w.heap.size w)
 have H : (if 0 ≤ (wrap64 ((wrap64 ((wrap64 (Int.tdiv (wrap64 ((wrap64 ((l0.length : Int) + 8)) - 1)) 8)) * 8)) * a1)) then (if (wrap64 ((wrap64 ((wrap64 (Int.tdiv (wrap64 ((wrap64 ((l0.length : Int) + 8)) - 1)) 8)) * 8)) * a1) : Int).toNat ≤ 281474976710656 then (hybrid_wide.l0 k a1 (List.replicate (wrap64 ((wrap64 ((wrap64 (Int.tdiv (wrap64 ((wrap64 ((l0.length : Int) + 8)) - 1)) 8)) * 8)) * a1) : Int).toNat false) l0 (l0.length : Int) 0) else (none)) else (none)) = some r := h
 clear h
 obtain ⟨ji3, hji3⟩ : ∃ j_ : Int, (wrap64 ((wrap64 ((wrap64 (Int.tdiv (wrap64 ((wrap64 ((l0.length : Int) + 8)) - 1)) 8)) * 8)) * a1)) = j_ := ⟨_, rfl⟩
 replace H : (if 0 ≤ (ji3) then (if (ji3 : Int).toNat ≤ 281474976710656 then (hybrid_wide.l0 k a1 (List.replicate (ji3 : Int).toNat false) l0 (l0.length : Int) 0) else (none)) else (none)) = some r := by first | (rw [hji3] at H; exact H) | (simp only [hji3] at H ⊢; exact H)
 have hji3w : (IntKind.i64.wrap ((wrap64 ((wrap64 (Int.tdiv (wrap64 ((wrap64 ((l0.length : Int) + 8)) - 1)) 8)) * 8)) * a1)) = ji3 := (i64_w _).trans hji3
 by_cases c4 : 0 ≤ (ji3)
 ·
  rw [if_pos c4] at H
  have c4b0 := eq_true c4
  have c4b1 := decide_eq_true c4
  clear c4
  by_cases c5 : (ji3 : Int).toNat ≤ 281474976710656
  ·
   rw [if_pos c5] at H
   have c5b0 := eq_true c5
   have c5b1 := decide_eq_true c5
   clear c5
   obtain ⟨y375, hy375⟩ : ∃ y_ : List Bool, y_ = (List.replicate (ji3 : Int).toNat false) := ⟨_, rfl⟩
   replace H : (hybrid_wide.l0 k a1 y375 l0 (l0.length : Int) 0) = some r := by first | (rw [hy375]; with_reducible exact H) | (have H2_ := (Option.bind_some _ _).symm.trans H; rw [hy375]; with_reducible exact H2_) | (have H2_ := (Option.bind_some _ _).symm.trans H; with_reducible exact H2_) | with_reducible exact H | (rw [hy375]; exact H) | exact H
   have Ny375 := am hy375
   clear hy375
   have H' := am H
   clear H
   go_enter Tryz.func105, Tryz.ntmps105
   go_wp2_with (first | ((with_reducible refine gate_dst (N := 17) rfl ?_); refine Kd.R_make Kd.bool _ 4 rfl (N := 17) rfl 149 _ _ rfl ji3 rfl rfl Tryz.underlying149 (.bool false) 1 info4 rfl (by decide) (by omega) false (ok := fun _ => True) (okp := fun _ => True) rfl (fun _ hk => hk) trivial (of_decide_eq_true za) (Nat.le_trans (Nat.mul_le_mul_right _ (of_decide_eq_true za : ji3.toNat ≤ 281474976710656)) (by omega)) (Below.refl _ _) (Nat.le_refl _) ?_; intro v376 w6 ho7 hb hg_ hnew_; clear hg_ hnew_; (first | rw [← Ny375.out] at ho7 | (simp only [Int.reduceToNat] at ho7; rw [← Ny375.out] at ho7)); have n0_ := am (Kd.R_lower ho7 (below_size (zl HB.out))); have n1_ := am (below_step (zl HB.out) hb); clear HB; have HO377 := n0_; have HB := n1_; clear n0_ n1_; clear hb ho7))
   (try simp only [Act.put, List.setIfInBounds_toArray, List.set_cons_zero, List.set_cons_succ])
   go_loopg [20] k (fun kq v20 w' => ∃ (x5_1 : List Bool) (x20_1 : Int), v20 = .int .i64 x20_1 ∧ Aside0 (hybrid_wide.l0 kq a1 x5_1 l0 (l0.length : Int) x20_1 = some r) ∧ Aside0 (kq ≤ k) ∧ Aside0 (Kd.R Kd.bool 4 w' w.heap.size (fun _ => True) v376 x5_1) ∧ Aside0 (Below w.heap.size w w'))
   case atStart => exact ⟨(y375), (0), zs, H', ⟨Nat.le_refl _⟩, ⟨by refine zr ?_; exact HO377.out⟩, ⟨zl HB.out⟩⟩
   case round =>
    clear H'
    try clear c1
    try clear p2
    try clear c4
    try clear c4b0
    try clear c4b1
    try clear c5
    try clear c5b0
    try clear c5b1
    try clear p6
    obtain ⟨x5_1, x20_1, rfl, HA, HK1, HO_5, HB⟩ := hrel
    cases gk with
    | zero => exact absurd HA.out (by simp [hybrid_wide.l0])
    | succ k1 =>
     have H := HA.out
     clear HA
     simp only [hybrid_wide.l0] at H
     by_cases c8 : x20_1 < (l0.length : Int)
     ·
      rw [if_pos c8] at H
      have c8b0 := decide_eq_true c8
      clear c8
      by_cases c9 : 0 ≤ x20_1
      ·
       rw [if_pos c9] at H
       have c9b0 := decide_eq_true c9
       clear c9
       by_cases c10 : x20_1 < (l0.length : Int)
       ·
        rw [if_pos c10] at H
        have c10b0 := decide_eq_true c10
        clear c10
        have H' := am H
        clear H
        have p379 : 0 ≤ (x20_1 : Int) := of_decide_eq_true za
        have q379 : x20_1 < (l0.length : Int) := of_decide_eq_true za
        obtain ⟨ad379, e379, hx379_0⟩ := Kd.at_int HR0.out x20_1 p379 q379
        cases e379
        replace hx379_0 := zq HB.out hx379_0
        replace p379 := eq_true p379
        replace q379 := eq_true q379
        go_wp2
        (try simp only [Act.put, List.setIfInBounds_toArray, List.set_cons_zero, List.set_cons_succ])
        go_loopg [26] k1 (fun kq v26 w' => ∃ (x5_2 : List Bool) (x26_2 : Int), v26 = .int .i64 x26_2 ∧ Aside0 (hybrid_wide.l1 kq a1 x5_2 x20_1 (rd l0 x20_1) l0 (l0.length : Int) x20_1 a1 x26_2 = some r) ∧ Aside0 (kq ≤ k1) ∧ Aside0 (Kd.R Kd.bool 4 w' w.heap.size (fun _ => True) v376 x5_2) ∧ Aside0 (Below w.heap.size w w'))
        case atStart => exact ⟨(x5_1), (0), zs, H', ⟨Nat.le_refl _⟩, ⟨by refine zr ?_; exact HO_5.out⟩, ⟨zl HB.out⟩⟩
        case round =>
         clear H'
         try clear c1
         try clear p2
         try clear p3
         try clear q3
         try clear hx3
         try clear c4
         try clear c4b0
         try clear c4b1
         try clear c5
         try clear c5b0
         try clear c5b1
         try clear p6
         try clear c8
         try clear c8b0
         try clear c9
         try clear c9b0
         try clear c10
         try clear c10b0
         try clear hx379_0
         try clear p2
         try clear p379
         try clear p6
         try clear q379
         obtain ⟨x5_2, x26_2, rfl, HA, HK2, HO_5, HB⟩ := hrel
         cases gk with
         | zero => exact absurd HA.out (by simp [hybrid_wide.l1])
         | succ k2 =>
          have H := HA.out
          clear HA
          simp only [hybrid_wide.l1] at H
          by_cases c11 : x26_2 < a1
          ·
           rw [if_pos c11] at H
           have c11b0 := decide_eq_true c11
           clear c11
           by_cases c12 : 0 ≤ x26_2
           ·
            rw [if_pos c12] at H
            have c12b0 := eq_true c12
            have c12b1 := decide_eq_true c12
            clear c12
            obtain ⟨ji13, hji13⟩ : ∃ j_ : Int, (shr .i64 (rd l0 x20_1) x26_2) = j_ := ⟨_, rfl⟩
            replace H : (if 0 ≤ (wrap64 ((wrap64 (x20_1 * a1)) + x26_2)) then (if (wrap64 ((wrap64 (x20_1 * a1)) + x26_2)) < (x5_2.length : Int) then (hybrid_wide.l1 k2 a1 (x5_2.set ((wrap64 ((wrap64 (x20_1 * a1)) + x26_2)) : Int).toNat ((Go.bits .and .i64 (ji13) 1) == 1)) x20_1 (rd l0 x20_1) l0 (l0.length : Int) x20_1 a1 (wrap64 (x26_2 + 1))) else (none)) else (none)) = some r := by first | (rw [hji13] at H; exact H) | (simp only [hji13] at H ⊢; exact H)
            have hji13_ : ((rd l0 x20_1) / 2 ^ min x26_2.toNat 64) = ji13 := hji13
            have hji13z : x26_2 ≤ 64 → ((rd l0 x20_1) / 2 ^ x26_2.toNat) = ji13 := shr_small hji13
            obtain ⟨ji14, hji14⟩ : ∃ j_ : Int, (wrap64 ((wrap64 (x20_1 * a1)) + x26_2)) = j_ := ⟨_, rfl⟩
            replace H : (if 0 ≤ (ji14) then (if (ji14) < (x5_2.length : Int) then (hybrid_wide.l1 k2 a1 (x5_2.set ((ji14) : Int).toNat ((Go.bits .and .i64 (ji13) 1) == 1)) x20_1 (rd l0 x20_1) l0 (l0.length : Int) x20_1 a1 (wrap64 (x26_2 + 1))) else (none)) else (none)) = some r := by first | (rw [hji14] at H; exact H) | (simp only [hji14] at H ⊢; exact H)
            have hji14w : (IntKind.i64.wrap ((wrap64 (x20_1 * a1)) + x26_2)) = ji14 := (i64_w _).trans hji14
            by_cases c15 : 0 ≤ (ji14)
            ·
             rw [if_pos c15] at H
             have c15b0 := decide_eq_true c15
             clear c15
             by_cases c16 : (ji14) < (x5_2.length : Int)
             ·
              rw [if_pos c16] at H
              have c16b0 := decide_eq_true c16
              clear c16
              obtain ⟨y380, hy380⟩ : ∃ y_ : List Bool, y_ = (x5_2.set ((ji14) : Int).toNat ((Go.bits .and .i64 (ji13) 1) == 1)) := ⟨_, rfl⟩
              replace H : (hybrid_wide.l1 k2 a1 y380 x20_1 (rd l0 x20_1) l0 (l0.length : Int) x20_1 a1 (wrap64 (x26_2 + 1))) = some r := by first | (rw [hy380]; with_reducible exact H) | (have H2_ := (Option.bind_some _ _).symm.trans H; rw [hy380]; with_reducible exact H2_) | (have H2_ := (Option.bind_some _ _).symm.trans H; with_reducible exact H2_) | with_reducible exact H | (rw [hy380]; exact H) | exact H
              have Ny380 := am hy380
              clear hy380
              have H' := am H
              clear H
              have p17 : 0 ≤ ((ji14) : Int) := of_decide_eq_true za
              have q17 : ((ji14) : Int) < ((x5_2.length : Int) : Int) := of_decide_eq_true za
              obtain ⟨go17, co17, eo17, gb17, gl17, cl17, HG17⟩ := Kd.R_form HO_5.out (by omega)
              (first | cases eo17 | (injection eo17 with ea_ en_ ec_; (first | subst ea_ | (injection ea_ with ea_; subst ea_)); subst ec_; clear en_))
              have GB17 := am gb17
              have GG17 := am HG17
              clear gb17 gl17 HG17
              obtain ⟨hx17_0, hf17_0⟩ := Kd.R_celln false HO_5.out ((ji14) : Int) p17 q17
              replace p17 := eq_true p17
              replace q17 := eq_true q17
              have HP18 := Kd.R_putg HO_5.out ((ji14) : Int) ((Go.bits .and .i64 (ji13) 1) == 1)
              go_wp2_with (first | ((with_reducible refine gate_store (t := 4) (p := 40) rfl ?_); refine store_event (t := 4) (p := 40) (v := ?vo_w19) (w1 := (wr.setCell ⟨go17, ((ji14) : Int).toNat, none⟩ (.bool ((Go.bits .and .i64 (ji13) 1) == 1)))) ?hg ?ho ?hn ?hr ?_; (case ho => rfl); (case hg => rfl); (case hn => rfl); (case hr => exact zh); intro w19 hw; have hg : wr.grownBy w19 (some go17) := (by rw [hw]; exact HP18.2); have hp_ : Kd.R Kd.bool 4 w19 w.heap.size (fun _ => True) (.slice (some ⟨go17, 0, none⟩) x5_2.length co17) y380 := (by rw [hw, Ny380.out]; exact HP18.1); clear HP18; have n0_ := am (hp_); have n1_ := am ((by rw [hw]; exact below_set (HB.out) GB17.out : Below w.heap.size w w19)); clear HO_5 HB; have HO_5 := n0_; have HB := n1_; clear n0_ n1_; clear hg hw hp_))
              go_roundg k2
              case measure => have := HK1.out; have := HK2.out; omega
              case rel => exact ⟨(y380), (wrap64 (x26_2 + 1)), zs, H', ⟨by have := HK1.out; have := HK2.out; omega⟩, ⟨by refine zr ?_; exact HO_5.out⟩, ⟨zl HB.out⟩⟩
             ·
              rw [if_neg c16] at H
              exact absurd H (by simp)
            ·
             rw [if_neg c15] at H
             exact absurd H (by simp)
           ·
            rw [if_neg c12] at H
            exact absurd H (by simp)
          ·
           rw [if_neg c11] at H
           have c11b0 := decide_eq_false c11
           clear c11
           have H' := am H
           clear H
           go_wp2
           go_roundg k2
           case measure => have := HK1.out; have := HK2.out; omega
           case rel => exact ⟨(x5_2), (wrap64 (x20_1 + 1)), zs, H', ⟨by have := HK1.out; have := HK2.out; omega⟩, ⟨by refine zr ?_; exact HO_5.out⟩, ⟨zl HB.out⟩⟩
       ·
        rw [if_neg c10] at H
        exact absurd H (by simp)
      ·
       rw [if_neg c9] at H
       exact absurd H (by simp)
     ·
      rw [if_neg c8] at H
      have c8b0 := decide_eq_false c8
      clear c8
      replace H := zo H
      obtain ⟨t378, A200, H⟩ := H
      (try dsimp only at H)
      have A20 := am A200
      clear A200
      obtain rfl := Option.some.inj H
      obtain ⟨Ao21, co21, eo21⟩ := Kd.R_slice HO_5.out
      subst eo21
      go_wp2_with (first | ((with_reducible refine gate_callee (f := 130) rfl ?_); refine goesL_ (some 44) rfl rfl Tryz.func130 (by kernel_rfl) rfl #[.slice Ao21 x5_1.length co21] rfl zm ?_; (with_reducible refine (bits_Of.calls k1 _ _ x5_1 t378 _ ?side1 ?side2 A20.out).mono ?_); (case side1 => exact zc (Kd.R_reads' HO_5.out).2.2); (case side2 => exact (Kd.R_reads' HO_5.out).2.1); rintro e w22 ⟨rfl, hb⟩; refine ⟨_, rfl, ?_⟩; have n0_ := am (Kd.R_below (zr HO_5.out) hb); have n1_ := am (below_step (zl HB.out) hb); clear HO_5 HB; have HO_5 := n0_; have HB := n1_; clear n0_ n1_; (try clear hb); (try clear hb2); (try clear hk); (try clear hi)))
      go_ret
      exact ⟨by first | rfl | (simp [errW_none, errW_some] <;> rfl) | (simp only [← hji3]; first | rfl | (simp [errW_none, errW_some] <;> rfl)) | (simp [*, errW_none, errW_some] <;> rfl), zl HB.out⟩
  ·
   rw [if_neg c5] at H
   exact absurd H (by simp)
 ·
  rw [if_neg c4] at H
  exact absurd H (by simp)
def hybrid_same.l0 : Nat → List Int → List Int → Int → Int → Option (Int)
 | 0, _, _, _, _ => none
 | k + 1, x0, x5, x6, x7 => if x7 < x6 then (if 0 ≤ x7 then (if x7 < (x5.length : Int) then (if 0 < (x0.length : Int) then (if (rd x5 x7) = (rd x0 0) then (hybrid_same.l0 k x0 x5 x6 (wrap64 (x7 + 1))) else (some x7)) else (none)) else (none)) else (none)) else (some (x0.length : Int))
def hybrid_same.f (k : Nat) (l0 : List Int) : Option (Int) := hybrid_same.l0 k l0 l0 (l0.length : Int) 0
theorem hybrid_same.calls (k : Nat) (A0 : Option Addr) (c0 : Nat) (l0 : List Int) (r : Int) (w : World) (hr0 : Kd.C (Kd.int .i64) w A0 l0.length l0) (hc0 : l0.length ≤ c0) (h : hybrid_same.f k l0 = some r) :
  Calls Tryz.prog 101 #[.slice A0 l0.length c0] w fun e w' => e = .returned (.int .i64 r) ∧ Drawn0 w w' := by
 have HR0 := am hr0
 have HC0 := am hc0
 clear hr0 hc0
 have H : (hybrid_same.l0 k l0 l0 (l0.length : Int) 0) = some r := h
 clear h
 have H' := am H
 clear H
 go_enter Tryz.func101, Tryz.ntmps101
 go_wp2
 (try simp only [Act.put, List.setIfInBounds_toArray, List.set_cons_zero, List.set_cons_succ])
 go_loopg [7] k (fun kq v7 w' => ∃ (x7_1 : Int), v7 = .int .i64 x7_1 ∧ Aside0 (hybrid_same.l0 kq l0 l0 (l0.length : Int) x7_1 = some r) ∧ Aside0 (kq ≤ k) ∧ Drawn0 w w')
 case atStart => exact ⟨(0), zs, H', ⟨Nat.le_refl _⟩, by repeat (first | exact Drawn0.refl _ | apply Drawn0.step)⟩
 case round =>
  clear H'
  try clear c1
  obtain ⟨x7_1, rfl, HA, HK1, ⟨m1, rfl⟩⟩ := hrel
  cases gk with
  | zero => exact absurd HA.out (by simp [hybrid_same.l0])
  | succ k1 =>
   have H := HA.out
   clear HA
   simp only [hybrid_same.l0] at H
   by_cases c2 : x7_1 < (l0.length : Int)
   ·
    rw [if_pos c2] at H
    have c2b0 := decide_eq_true c2
    clear c2
    by_cases c3 : 0 ≤ x7_1
    ·
     rw [if_pos c3] at H
     have c3b0 := decide_eq_true c3
     clear c3
     by_cases c4 : x7_1 < (l0.length : Int)
     ·
      rw [if_pos c4] at H
      have c4b0 := decide_eq_true c4
      clear c4
      by_cases c5 : 0 < (l0.length : Int)
      ·
       rw [if_pos c5] at H
       have c5b0 := decide_eq_true c5
       have c5b1 : decide (0 < l0.length) = true := decide_eq_true (by omega)
       clear c5
       by_cases c6 : (rd l0 x7_1) = (rd l0 0)
       ·
        rw [if_pos c6] at H
        have c6b0 := beq_iff_eq.mpr c6
        have c6b1 := bne_eq_false_iff_eq.mpr c6
        clear c6
        have H' := am H
        clear H
        have p364 : 0 ≤ (x7_1 : Int) := of_decide_eq_true za
        have q364 : x7_1 < (l0.length : Int) := of_decide_eq_true za
        obtain ⟨ad364, e364, hx364_0⟩ := Kd.at_int HR0.out x7_1 p364 q364
        cases e364
        replace p364 := eq_true p364
        replace q364 := eq_true q364
        have p365 : 0 ≤ (0 : Int) := (by omega)
        have q365 : 0 < (l0.length : Int) := of_decide_eq_true za
        obtain ⟨ad365, e365, hx365_0⟩ := Kd.at_int HR0.out 0 p365 q365
        obtain rfl : ad364 = ad365 := (by injection e365)
        have qi365 : (0 < l0.length) = True := eq_true (by omega)
        (try rw [show ((0 : Int)).toNat = 0 from rfl] at hx365_0)
        (try rw [Addr.add_zero'] at hx365_0)
        replace p365 := eq_true p365
        replace q365 := eq_true q365
        go_wp2
        go_roundg k1
        case measure => have := HK1.out; omega
        case rel => exact ⟨(wrap64 (x7_1 + 1)), zs, H', ⟨by have := HK1.out; omega⟩, by repeat (first | exact Drawn0.refl _ | apply Drawn0.step)⟩
       ·
        rw [if_neg c6] at H
        have c6b0 := beq_eq_false_iff_ne.mpr c6
        have c6b1 := bne_iff_ne.mpr c6
        obtain rfl := Option.some.inj H
        have p364 : 0 ≤ (x7_1 : Int) := of_decide_eq_true za
        have q364 : x7_1 < (l0.length : Int) := of_decide_eq_true za
        obtain ⟨ad364, e364, hx364_0⟩ := Kd.at_int HR0.out x7_1 p364 q364
        cases e364
        replace p364 := eq_true p364
        replace q364 := eq_true q364
        have p365 : 0 ≤ (0 : Int) := (by omega)
        have q365 : 0 < (l0.length : Int) := of_decide_eq_true za
        obtain ⟨ad365, e365, hx365_0⟩ := Kd.at_int HR0.out 0 p365 q365
        obtain rfl : ad364 = ad365 := (by injection e365)
        have qi365 : (0 < l0.length) = True := eq_true (by omega)
        (try rw [show ((0 : Int)).toNat = 0 from rfl] at hx365_0)
        (try rw [Addr.add_zero'] at hx365_0)
        replace p365 := eq_true p365
        replace q365 := eq_true q365
        go_wp2
        go_ret
        exact ⟨by first | rfl | (simp; done) | (simp [*]; done), by repeat (first | exact Drawn0.refl _ | apply Drawn0.step)⟩
      ·
       rw [if_neg c5] at H
       exact absurd H (by simp)
     ·
      rw [if_neg c4] at H
      exact absurd H (by simp)
    ·
     rw [if_neg c3] at H
     exact absurd H (by simp)
   ·
    rw [if_neg c2] at H
    have c2b0 := decide_eq_false c2
    clear c2
    obtain rfl := Option.some.inj H
    go_wp2
    go_ret
    exact ⟨by first | rfl | (simp; done) | (simp [*]; done), by repeat (first | exact Drawn0.refl _ | apply Drawn0.step)⟩
def hybrid_groups.l0 : Nat → List Int → Int → Option (Int)
 | 0, _, _ => none
 | k + 1, x0, x3 => if x3 < (x0.length : Int) then (if 0 ≤ x3 then (if x3 ≤ (x0.length : Int) then ((hybrid_same.f k (x0.drop (x3 : Int).toNat)).bind fun t367 => (if t367 ≥ 8 then (some x3) else (hybrid_groups.l0 k x0 (wrap64 (x3 + 8))))) else (none)) else (none)) else (some (x0.length : Int))
def hybrid_groups.f (k : Nat) (l0 : List Int) : Option (Int) := hybrid_groups.l0 k l0 0
theorem hybrid_groups.calls (k : Nat) (A0 : Option Addr) (c0 : Nat) (l0 : List Int) (r : Int) (w : World) (hr0 : Kd.C (Kd.int .i64) w A0 l0.length l0) (hc0 : l0.length ≤ c0) (h : hybrid_groups.f k l0 = some r) :
  Calls Tryz.prog 104 #[.slice A0 l0.length c0] w fun e w' => e = .returned (.int .i64 r) ∧ Drawn0 w w' := by
 have HR0 := am hr0
 have HC0 := am hc0
 clear hr0 hc0
 have H : (hybrid_groups.l0 k l0 0) = some r := h
 clear h
 have H' := am H
 clear H
 go_enter Tryz.func104, Tryz.ntmps104
 go_wp2
 (try simp only [Act.put, List.setIfInBounds_toArray, List.set_cons_zero, List.set_cons_succ])
 go_loopg [3] k (fun kq v3 w' => ∃ (x3_1 : Int), v3 = .int .i64 x3_1 ∧ Aside0 (hybrid_groups.l0 kq l0 x3_1 = some r) ∧ Aside0 (kq ≤ k) ∧ Drawn0 w w')
 case atStart => exact ⟨(0), zs, H', ⟨Nat.le_refl _⟩, by repeat (first | exact Drawn0.refl _ | apply Drawn0.step)⟩
 case round =>
  clear H'
  try clear c1
  obtain ⟨x3_1, rfl, HA, HK1, ⟨m1, rfl⟩⟩ := hrel
  cases gk with
  | zero => exact absurd HA.out (by simp [hybrid_groups.l0])
  | succ k1 =>
   have H := HA.out
   clear HA
   simp only [hybrid_groups.l0] at H
   by_cases c2 : x3_1 < (l0.length : Int)
   ·
    rw [if_pos c2] at H
    have c2b0 := decide_eq_true c2
    clear c2
    by_cases c3 : 0 ≤ x3_1
    ·
     rw [if_pos c3] at H
     have c3b0 := eq_true c3
     have c3b1 := decide_eq_true c3
     clear c3
     by_cases c4 : x3_1 ≤ (l0.length : Int)
     ·
      rw [if_pos c4] at H
      have c4b0 := eq_true c4
      have c4b1 := decide_eq_true c4
      clear c4
      replace H := zo H
      obtain ⟨t367, A50, H⟩ := H
      (try dsimp only at H)
      have A5 := am A50
      clear A50
      by_cases c6 : t367 ≥ 8
      ·
       rw [if_pos c6] at H
       have c6b0 : decide (8 ≤ t367) = true := decide_eq_true c6
       clear c6
       obtain rfl := Option.some.inj H
       obtain ⟨i07, hi07, _, hsz7, _⟩ := info_parts info3
       obtain ⟨A7, hcut7, hA7, hC7⟩ := print_drop_of (P := Tryz.prog) (Value.int .i64) 0 28 3 .i64 Tryz.underlying28 hi07 hsz7 A0 c0 l0 x3_1 (of_decide_eq_true za) (of_decide_eq_true za) HC0.out
       have HR366 := am (Kd.C_of_reads (h1 := fun _ => rfl) (hA7 _ (Kd.reads_of_C HR0.out)))
       have HC366 := am hC7
       clear hA7 hC7 hi07 hsz7
       go_wp2_with (first | ((with_reducible refine gate_callee (f := 101) rfl ?_); refine goesL_ (some 13) rfl rfl Tryz.func101 (by kernel_rfl) rfl #[.slice A7 (l0.drop (x3_1 : Int).toNat).length (c0 - x3_1.toNat)] rfl (by (try simp only [List.map_toArray, List.map_cons, List.map_nil]); first | done | (rw [show (l0.drop (x3_1 : Int).toNat).length = (l0.length - x3_1.toNat) from List.length_drop] <;> rfl) | rfl | (simp only [List.length_drop, List.length_take]; rfl)) ?_; (with_reducible refine (hybrid_same.calls k1 _ _ (l0.drop (x3_1 : Int).toNat) t367 _ ?side1 ?side2 A5.out).mono ?_); (case side1 => repeat (first | exact HR366.out | (with_reducible refine Kd.C_alloc ?_ _) | (with_reducible refine Kd.C_drewN ?_ _) | (with_reducible refine Kd.C_drew ?_))); (case side2 => exact HC366.out); rintro e w' ⟨rfl, ⟨nd, rfl⟩⟩; refine ⟨_, rfl, ?_⟩))
       go_ret
       exact ⟨by first | rfl | (simp; done) | (simp [*]; done), by repeat (first | exact Drawn0.refl _ | apply Drawn0.step)⟩
      ·
       rw [if_neg c6] at H
       have c6b0 : decide (8 ≤ t367) = false := decide_eq_false c6
       clear c6
       have H' := am H
       clear H
       obtain ⟨i08, hi08, _, hsz8, _⟩ := info_parts info3
       obtain ⟨A8, hcut8, hA8, hC8⟩ := print_drop_of (P := Tryz.prog) (Value.int .i64) 0 28 3 .i64 Tryz.underlying28 hi08 hsz8 A0 c0 l0 x3_1 (of_decide_eq_true za) (of_decide_eq_true za) HC0.out
       have HR366 := am (Kd.C_of_reads (h1 := fun _ => rfl) (hA8 _ (Kd.reads_of_C HR0.out)))
       have HC366 := am hC8
       clear hA8 hC8 hi08 hsz8
       go_wp2_with (first | ((with_reducible refine gate_callee (f := 101) rfl ?_); refine goesL_ (some 13) rfl rfl Tryz.func101 (by kernel_rfl) rfl #[.slice A8 (l0.drop (x3_1 : Int).toNat).length (c0 - x3_1.toNat)] rfl (by (try simp only [List.map_toArray, List.map_cons, List.map_nil]); first | done | (rw [show (l0.drop (x3_1 : Int).toNat).length = (l0.length - x3_1.toNat) from List.length_drop] <;> rfl) | rfl | (simp only [List.length_drop, List.length_take]; rfl)) ?_; (with_reducible refine (hybrid_same.calls k1 _ _ (l0.drop (x3_1 : Int).toNat) t367 _ ?side1 ?side2 A5.out).mono ?_); (case side1 => repeat (first | exact HR366.out | (with_reducible refine Kd.C_alloc ?_ _) | (with_reducible refine Kd.C_drewN ?_ _) | (with_reducible refine Kd.C_drew ?_))); (case side2 => exact HC366.out); rintro e w' ⟨rfl, ⟨nd, rfl⟩⟩; refine ⟨_, rfl, ?_⟩))
       go_roundg k1
       case measure => have := HK1.out; omega
       case rel => exact ⟨(wrap64 (x3_1 + 8)), zs, H', ⟨by have := HK1.out; omega⟩, by repeat (first | exact Drawn0.refl _ | apply Drawn0.step)⟩
     ·
      rw [if_neg c4] at H
      exact absurd H (by simp)
    ·
     rw [if_neg c3] at H
     exact absurd H (by simp)
   ·
    rw [if_neg c2] at H
    have c2b0 := decide_eq_false c2
    clear c2
    obtain rfl := Option.some.inj H
    go_wp2
    go_ret
    exact ⟨by first | rfl | (simp; done) | (simp [*]; done), by repeat (first | exact Drawn0.refl _ | apply Drawn0.step)⟩
end Go.Proofs.YtkcmkedboflklaaGreatDoor.Q
namespace Go.Proofs.YtkcmkedboflklaaGreatDoor.Q
open Go.RowKit Go.Proofs.YtkcmkedboflklaaGreatDoorW.PrintWords Go.Proofs.YtkcmkedboflklaaGreatDoorW.PrintLast Go.Proofs.YtkcmkedboflklaaGreatDoorW.PrintMore
def sameL (xs : List Int) : Nat := (xs.takeWhile (· == xs.headD 0)).length
theorem sameL_le (xs : List Int) : sameL xs ≤ xs.length := (List.takeWhile_prefix _).length_le
theorem getD_ge {α : Type} {l : List α} {n : Nat} {d : α} (h : l.length ≤ n) : l.getD n d = d := by rw [List.getD_eq_getElem?_getD, List.getElem?_eq_none h]; rfl
theorem same_T (xs : List Int) (h : xs.length < 4611686018427387904) : T (fun k => hybrid_same.f k xs) (sameL xs : Int) := by
  have main : ∀ n i, i + n = xs.length → T (fun k => hybrid_same.l0 k xs xs (xs.length : Int) (i : Int)) ((i + ((xs.drop i).takeWhile (· == xs.headD 0)).length : Nat) : Int) := by
    intro n
    induction n with
    | zero =>
      intro i hi
      refine T.succ ?_
      simp only [hybrid_same.l0]
      refine T.ite' (by omega) (T.const ?_)
      rw [List.drop_of_length_le (by omega), show i = xs.length by omega]
      rfl
    | succ n ih =>
      intro i hi
      refine T.succ ?_
      simp only [hybrid_same.l0]
      have hi' : i < xs.length := by omega
      have h0 : rd xs (0 : Int) = xs.headD 0 := by cases xs <;> simp [rd]
      rw [List.drop_eq_getElem_cons hi', List.takeWhile_cons]
      refine T.ite (by omega) (T.ite (by omega) (T.ite (by omega) (T.ite (by omega) ?_)))
      rw [rd_get xs i hi', h0]
      by_cases e : xs[i] = xs.headD 0
      · refine T.ite e ?_
        rw [wrap64_id (by omega) (by omega)]
        refine T.eq (ih (i + 1) (by omega)) ?_
        rw [if_pos (by simpa using e), List.length_cons]; omega
      · refine T.ite' e (T.const ?_)
        rw [if_neg (by simpa using e)]; rfl
  have := main xs.length 0 (by omega)
  simpa [sameL, hybrid_same.f] using this
theorem groups_T (xs : List Int) (h : xs.length < 4611686018427387904) : ∃ g : Nat, T (fun k => hybrid_groups.f k xs) (g : Int) ∧ g ≤ xs.length ∧ (g = xs.length ∨ g % 8 = 0) ∧ (0 < xs.length → sameL xs < 8 → 0 < g) := by
  have main : ∀ n i, i % 8 = 0 → xs.length ≤ i + n → i < 4611686018427387904 + 8 → ∃ g : Nat, T (fun k => hybrid_groups.l0 k xs (i : Int)) (g : Int) ∧ g ≤ xs.length ∧ (g = xs.length ∨ g % 8 = 0) ∧ (i ≤ g ∨ g = xs.length) := by
    intro n
    induction n with
    | zero =>
      intro i h8 hi hb
      refine ⟨xs.length, T.succ ?_, by omega, by omega, by omega⟩
      simp only [hybrid_groups.l0]
      exact T.ite' (by omega) (T.pure _)
    | succ n ih =>
      intro i h8 hi hb
      by_cases hl : i < xs.length
      · by_cases hs : sameL (xs.drop i) ≥ 8
        · refine ⟨i, T.succ ?_, by omega, by omega, by omega⟩
          simp only [hybrid_groups.l0]
          refine T.ite (by omega) (T.ite (by omega) (T.ite (by omega) (T.bind (same_T _ (by simp; omega)) (T.ite ?_ (T.pure _)))))
          simp only [Int.toNat_natCast]; omega
        · obtain ⟨g, h1, h2, h3, h4⟩ := ih (i + 8) (by omega) (by omega) (by omega)
          refine ⟨g, T.succ ?_, h2, h3, by omega⟩
          simp only [hybrid_groups.l0]
          refine T.ite (by omega) (T.ite (by omega) (T.ite (by omega) (T.bind (same_T _ (by simp; omega)) (T.ite' ?_ ?_))))
          · simp only [Int.toNat_natCast]; omega
          · rw [wrap64_id (by omega) (by omega)]; exact h1
      · refine ⟨xs.length, T.succ ?_, by omega, by omega, by omega⟩
        simp only [hybrid_groups.l0]
        exact T.ite' (by omega) (T.pure _)
  by_cases hs : sameL xs ≥ 8 ∨ xs.length = 0
  · obtain ⟨g, h1, h2, h3, h4⟩ := main xs.length 0 (by omega) (by omega) (by omega)
    exact ⟨g, h1, h2, h3, by omega⟩
  · obtain ⟨g, h1, h2, h3, h4⟩ := main xs.length 8 (by omega) (by omega) (by omega)
    refine ⟨g, T.succ ?_, h2, h3, by omega⟩
    simp only [hybrid_groups.f, hybrid_groups.l0]
    refine T.ite (by omega) (T.ite (by omega) (T.ite (by omega) (T.bind (same_T _ (by simp; omega)) (T.ite' ?_ ?_))))
    · simp; omega
    · rw [wrap64_id (by omega) (by omega)]; exact h1
/-! the bits -/
def bitAt (out : List UInt8) (m : Nat) : Bool := (out.getD (m / 8) 0).toNat.testBit (m % 8)
def bitI (xs : List Int) (m : Nat) : Bool := (xs.getD (m / 8) 0).toNat.testBit (m % 8)
theorem shl1 : ∀ j : Fin 8, shl .u8 1 (j.val : Int) = ((2 ^ j.val : Nat) : Int) := by decide +kernel
theorem bitsOf_T (ons : List Bool) (h : ons.length < 100000000) : ∃ out, T (fun k => bits_Of.f k ons) (bs out) ∧ out.length = (ons.length + 7) / 8 ∧ ∀ m, bitAt out m = ons.getD m false := by
  have main : ∀ n i (xs : List Int), i + n = ons.length → xs.length = (ons.length + 7) / 8 → (∀ x ∈ xs, 0 ≤ x ∧ x < 256) → (∀ m, bitI xs m = (decide (m < i) && ons.getD m false)) →
      ∃ out, T (fun k => bits_Of.l0 k xs ons (ons.length : Int) (i : Int)) (bs out) ∧ out.length = (ons.length + 7) / 8 ∧ ∀ m, bitAt out m = ons.getD m false := by
    intro n
    induction n with
    | zero =>
      intro i xs hi hx hr hb
      refine ⟨xs.map fun v => UInt8.ofNat v.toNat, T.succ ?_, by simpa using hx, ?_⟩
      · simp only [bits_Of.l0]
        exact T.ite' (by omega) (T.pure _)
      · intro m
        have := hb m
        have e : (decide (m < i) && ons.getD m false) = ons.getD m false := by
          by_cases hm : m < i
          · simp [hm]
          · rw [getD_ge (by omega)]; simp
        rw [e] at this
        rw [← this]
        unfold bitAt bitI
        by_cases hm : m / 8 < xs.length
        · have h1 := hr _ (List.getElem_mem hm)
          simp only [List.getD_eq_getElem?_getD, List.getElem?_map, List.getElem?_eq_getElem hm, Option.map_some, Option.getD_some, UInt8.toNat_ofNat']
          rw [Nat.mod_eq_of_lt (by omega)]
        · simp only [List.getD_eq_getElem?_getD, List.getElem?_map, List.getElem?_eq_none (Nat.le_of_not_lt hm), Option.map_none, Option.getD_none]; rfl
    | succ n ih =>
      intro i xs hi hx hr hb
      have hi' : i < ons.length := by omega
      have h8 : i / 8 < xs.length := by omega
      have e1 : wrap64 (Int.tdiv (i : Int) 8) = ((i / 8 : Nat) : Int) := by rw [Int.tdiv_eq_ediv_of_nonneg (by omega), wrap64_id (by omega) (by omega)]; omega
      have e2 : Int.tmod (i : Int) 8 = ((i % 8 : Nat) : Int) := by rw [Int.tmod_eq_emod_of_nonneg (by omega)]; omega
      by_cases ho : ons[i] = true
      · have hv := hr _ (List.getElem_mem h8)
        have hl := shl1 ⟨i % 8, by omega⟩
        simp only at hl
        have hp : 2 ^ (i % 8) < 256 := by
          have : ∀ j : Fin 8, 2 ^ j.val < 256 := by decide
          exact this ⟨i % 8, by omega⟩
        have hor := u8_or xs[i / 8] ((2 ^ (i % 8) : Nat) : Int) hv.1 hv.2 (Int.natCast_nonneg _) (Int.ofNat_lt.2 hp)
        rw [Int.toNat_natCast] at hor
        have hlt : xs[i / 8].toNat ||| 2 ^ (i % 8) < 2 ^ 8 := Nat.or_lt_two_pow (by omega) (by omega)
        obtain ⟨out, h1, h2, h3⟩ := ih (i + 1) (xs.set (i / 8) (Go.bits .or .u8 xs[i / 8] ((2 ^ (i % 8) : Nat) : Int))) (by omega) (by simpa using hx) (by
            intro x hx'
            rcases List.mem_or_eq_of_mem_set hx' with h | h
            · exact hr x h
            · rw [h, hor]; omega) (by
            intro m
            unfold bitI
            have := hb m
            unfold bitI at this
            rw [hor]
            by_cases hm : m / 8 = i / 8
            · rw [hm] at this ⊢
              rw [List.getD_eq_getElem?_getD, List.getElem?_eq_getElem h8, Option.getD_some] at this
              rw [List.getD_eq_getElem?_getD, List.getElem?_set_self h8, Option.getD_some, Int.toNat_natCast, Nat.testBit_or, this, Nat.testBit_two_pow]
              by_cases hmi : m = i
              · subst hmi
                rw [List.getD_eq_getElem?_getD, List.getElem?_eq_getElem hi', Option.getD_some, ho]; simp
              · have : ¬ i % 8 = m % 8 := by omega
                have h4 : (decide (m < i)) = decide (m < i + 1) := by simp; omega
                simp [this, h4]
            · rw [List.getD_eq_getElem?_getD, List.getElem?_set_ne (fun h => hm h.symm), ← List.getD_eq_getElem?_getD, this]
              have h4 : (decide (m < i)) = decide (m < i + 1) := by
                have : m ≠ i := fun h => hm (by rw [h])
                simp; omega
              rw [h4])
        refine ⟨out, T.succ ?_, h2, h3⟩
        simp only [bits_Of.l0]
        rw [e1, e2]
        refine T.ite (by omega) (T.ite (by omega) (T.ite (by omega) (T.ite ?_ (T.ite (by omega) (T.ite (by omega) (T.ite (by omega) ?_))))))
        · rw [rdOf_get _ _ _ hi']; exact ho
        · rw [hl, rd_get xs _ h8, wrap64_id (by omega) (by omega)]; exact h1
      · obtain ⟨out, h1, h2, h3⟩ := ih (i + 1) xs (by omega) hx hr (by
          intro m
          rw [hb m]
          by_cases hmi : m = i
          · subst hmi
            rw [List.getD_eq_getElem?_getD, List.getElem?_eq_getElem hi', Option.getD_some]; simp [ho]
          · have h4 : (decide (m < i)) = decide (m < i + 1) := by simp; omega
            rw [h4])
        refine ⟨out, T.succ ?_, h2, h3⟩
        simp only [bits_Of.l0]
        refine T.ite (by omega) (T.ite (by omega) (T.ite (by omega) (T.ite' ?_ ?_)))
        · rw [rdOf_get _ _ _ hi']; exact ho
        · rw [wrap64_id (by omega) (by omega)]; exact h1
  obtain ⟨out, h1, h2, h3⟩ := main ons.length 0 (List.replicate ((ons.length + 7) / 8) 0) (by omega) (by simp) (by
      intro x hx; rw [List.eq_of_mem_replicate hx]; omega) (by
      intro m
      unfold bitI
      by_cases hm : m / 8 < (ons.length + 7) / 8
      · simp [List.getD_eq_getElem?_getD, hm]
      · rw [getD_ge (by simp; omega)]; simp)
  refine ⟨out, ?_, h2, h3⟩
  unfold bits_Of.f
  refine T.cbind (a := (((ons.length + 7) / 8 : Nat) : Int)) ?_ (T.ite (by omega) (T.ite (by omega) ?_))
  · unfold bits_Bytes.f
    rw [wrap64_id (x := (ons.length : Int) + 7) (by omega) (by omega), Int.tdiv_eq_ediv_of_nonneg (by omega), wrap64_id (by omega) (by omega)]
    congr 1
  · exact h1
def onB (w : Nat) (x : Int) : List Bool := (List.range w).map fun j => x.toNat.testBit j
def onsL (w : Nat) (xs : List Int) : List Bool := xs.flatMap (onB w)
theorem onB_length (w : Nat) (x : Int) : (onB w x).length = w := by simp [onB]
theorem onsL_length (w : Nat) (xs : List Int) : (onsL w xs).length = xs.length * w := by
  induction xs with
  | nil => simp [onsL]
  | cons x r ih => simp only [onsL, List.flatMap_cons, List.length_append, List.length_cons, onB_length] at ih ⊢; rw [ih, Nat.add_mul]; omega
theorem onB_inj {w : Nat} {x y : Int} (hx : 0 ≤ x ∧ x < 2 ^ w) (hy : 0 ≤ y ∧ y < 2 ^ w) (h : onB w x = onB w y) : x = y := by
  have hx2 : x.toNat < 2 ^ w := by have : (x.toNat : Int) < ((2 ^ w : Nat) : Int) := by rw [Int.toNat_of_nonneg hx.1]; simpa using hx.2
                                   exact Int.ofNat_lt.1 this
  have hy2 : y.toNat < 2 ^ w := by have : (y.toNat : Int) < ((2 ^ w : Nat) : Int) := by rw [Int.toNat_of_nonneg hy.1]; simpa using hy.2
                                   exact Int.ofNat_lt.1 this
  have : x.toNat = y.toNat := by
    apply Nat.eq_of_testBit_eq
    intro i
    by_cases hi : i < w
    · have := congrArg (fun l : List Bool => l[i]?) h
      simpa [onB, hi] using this
    · rw [Nat.testBit_lt_two_pow (Nat.lt_of_lt_of_le hx2 (Nat.pow_le_pow_right (by omega) (by omega))), Nat.testBit_lt_two_pow (Nat.lt_of_lt_of_le hy2 (Nat.pow_le_pow_right (by omega) (by omega)))]
  omega
theorem onsL_inj {w : Nat} : ∀ {xs ys : List Int}, xs.length = ys.length → (∀ x ∈ xs, 0 ≤ x ∧ x < 2 ^ w) → (∀ x ∈ ys, 0 ≤ x ∧ x < 2 ^ w) → onsL w xs = onsL w ys → xs = ys := by
  intro xs
  induction xs with
  | nil => intro ys hl _ _ _; exact (List.length_eq_zero_iff.1 hl.symm).symm
  | cons x r ih =>
    intro ys hl hx hy h
    cases ys with
    | nil => simp at hl
    | cons y s =>
      simp only [onsL, List.flatMap_cons] at h
      obtain ⟨h1, h2⟩ := List.append_inj h (by rw [onB_length, onB_length])
      rw [onB_inj (hx x (by simp)) (hy y (by simp)) h1, ih (by simpa using hl) (fun z hz => hx z (by simp [hz])) (fun z hz => hy z (by simp [hz])) h2]
theorem set_at (P : List Bool) (r : Nat) (b : Bool) : (P ++ List.replicate (r + 1) false).set P.length b = (P ++ [b]) ++ List.replicate r false := by
  rw [List.replicate_succ, List.set_append_right _ _ (Nat.le_refl _), Nat.sub_self, List.set_cons_zero]; simp
theorem bit_and (x : Int) (j : Nat) (h0 : 0 ≤ x) (h1 : x < 65536) (hj : j < 16) : (Go.bits .and .i64 (shr .i64 x (j : Int)) 1 == 1) = x.toNat.testBit j := by
  obtain ⟨n, rfl⟩ := Int.eq_ofNat_of_zero_le h0
  have e : shr .i64 (n : Int) (j : Int) = ((n / 2 ^ j : Nat) : Int) := by
    unfold shr
    rw [Int.toNat_natCast, show IntKind.i64.bits = 64 from rfl, Nat.min_eq_left (by omega)]
    simp
  have hle : n / 2 ^ j ≤ n := Nat.div_le_self _ _
  have h2 : Go.bits .and .i64 ((n / 2 ^ j : Nat) : Int) 1 = ((n / 2 ^ j % 2 : Nat) : Int) := by
    generalize n / 2 ^ j = m at hle
    show IntKind.i64.wrap ((BitVec.ofInt 64 (m : Int) &&& BitVec.ofInt 64 1).toNat : Int) = _
    have e1 : (BitVec.ofInt 64 (m : Int)).toNat = m := by rw [BitVec.ofInt_natCast, BitVec.toNat_ofNat]; exact Nat.mod_eq_of_lt (by omega)
    rw [BitVec.toNat_and, e1, show (BitVec.ofInt 64 1).toNat = 1 by decide, Nat.and_one_is_mod, IntKind.wrap_i64]
    omega
  rw [e, h2, Int.toNat_natCast, Nat.testBit_eq_decide_div_mod_eq]
  rcases Nat.mod_two_eq_zero_or_one (n / 2 ^ j) with h | h <;> rw [h] <;> rfl
theorem wide_inner (xs : List Int) (w : Nat) (hw : w ≤ 16) (hl : xs.length ≤ 4096) :
    ∀ n j i x (P : List Bool) (r : Nat), j + n = w → i < xs.length → (0 ≤ x ∧ x < 65536) → P.length = i * w → i * w + w ≤ 100000 → n ≤ r → ∀ res,
    T (fun k => hybrid_wide.l0 k (w : Int) ((P ++ onB w x) ++ List.replicate (r - n) false) xs (xs.length : Int) ((i + 1 : Nat) : Int)) res →
    T (fun k => hybrid_wide.l1 k (w : Int) ((P ++ (onB w x).take j) ++ List.replicate r false) (i : Int) x xs (xs.length : Int) (i : Int) (w : Int) (j : Int)) res := by
  intro n
  induction n with
  | zero =>
    intro j i x P r hj hi hx hP hb hn res h
    refine T.succ ?_
    simp only [hybrid_wide.l1]
    refine T.ite' (by omega) ?_
    rw [wrap64_id (by omega) (by omega), List.take_of_length_le (by rw [onB_length]; omega)]
    exact h
  | succ n ih =>
    intro j i x P r hj hi hx hP hb hn res h
    refine T.succ ?_
    simp only [hybrid_wide.l1]
    have hiw : ((i : Int) * (w : Int)) = ((i * w : Nat) : Int) := by simp
    have e1 : wrap64 ((wrap64 ((i : Int) * (w : Int))) + (j : Int)) = ((i * w + j : Nat) : Int) := by
      rw [hiw, wrap64_id (x := ((i * w : Nat) : Int)) (by omega) (by omega), wrap64_id (by omega) (by omega)]; omega
    rw [e1]
    have hPl : (P ++ (onB w x).take j).length = i * w + j := by rw [List.length_append, List.length_take, onB_length, hP, Nat.min_eq_left (by omega)]
    refine T.ite (by omega) (T.ite (by omega) (T.ite (by omega) (T.ite (by rw [List.length_append, hPl]; simp; omega) ?_)))
    rw [Int.toNat_natCast, bit_and x j hx.1 hx.2 (by omega), wrap64_id (x := (j : Int) + 1) (by omega) (by omega)]
    obtain ⟨r', rfl⟩ : ∃ r', r = r' + 1 := ⟨r - 1, by omega⟩
    rw [← hPl, set_at]
    have := ih (j + 1) i x P r' (by omega) hi hx hP hb (by omega) res (by rw [show r' - n = r' + 1 - (n + 1) by omega]; exact h)
    have e2 : P ++ (onB w x).take j ++ [x.toNat.testBit j] = P ++ (onB w x).take (j + 1) := by
      have hj2 : j < (onB w x).length := by rw [onB_length]; omega
      rw [List.take_succ_eq_append_getElem hj2, List.append_assoc]
      simp [onB]
    rw [e2]; exact this
theorem wide_T (xs : List Int) (w : Nat) (hw : w ≤ 16) (hl : xs.length ≤ 4096) (hr : ∀ x ∈ xs, 0 ≤ x ∧ x < 65536) :
    ∃ out, T (fun k => hybrid_wide.f k xs (w : Int)) (bs out) ∧ out.length = (xs.length + 7) / 8 * w ∧ ∀ m, bitAt out m = (onsL w xs).getD m false := by
  have hNw : (xs.length + 7) / 8 * 8 * w ≤ 65600 := by
    have := Nat.mul_le_mul (show (xs.length + 7) / 8 * 8 ≤ 4100 by omega) hw
    omega
  have hwle : xs.length * w ≤ (xs.length + 7) / 8 * 8 * w := Nat.mul_le_mul_right _ (by omega)
  obtain ⟨out, o1, o2, o3⟩ := bitsOf_T (onsL w xs ++ List.replicate ((xs.length + 7) / 8 * 8 * w - xs.length * w) false) (by simp [onsL_length]; omega)
  have hons : (onsL w xs ++ List.replicate ((xs.length + 7) / 8 * 8 * w - xs.length * w) false).length = (xs.length + 7) / 8 * 8 * w := by simp [onsL_length]; omega
  refine ⟨out, ?_, ?_, ?_⟩
  · have outer : ∀ n i, i + n = xs.length →
        T (fun k => hybrid_wide.l0 k (w : Int) (onsL w (xs.take i) ++ List.replicate ((xs.length + 7) / 8 * 8 * w - i * w) false) xs (xs.length : Int) (i : Int)) (bs out) := by
      intro n
      induction n with
      | zero =>
        intro i hi
        refine T.succ ?_
        simp only [hybrid_wide.l0]
        refine T.ite' (by omega) (T.bind ?_ (T.pure _))
        rw [List.take_of_length_le (by omega), show i = xs.length by omega]
        exact o1
      | succ n ih =>
        intro i hi
        have hi' : i < xs.length := by omega
        have hm1 : (i + 1) * w ≤ xs.length * w := Nat.mul_le_mul_right _ (by omega)
        have hm2 : (i + 1) * w = i * w + w := by rw [Nat.add_mul, Nat.one_mul]
        refine T.succ ?_
        simp only [hybrid_wide.l0]
        refine T.ite (by omega) (T.ite (by omega) (T.ite (by omega) ?_))
        rw [rd_get xs i hi']
        have := wide_inner xs w hw hl w 0 i xs[i] (onsL w (xs.take i)) ((xs.length + 7) / 8 * 8 * w - i * w) (by omega) hi' (hr _ (List.getElem_mem hi')) (by rw [onsL_length, List.length_take, Nat.min_eq_left (by omega)]) (by omega) (by omega) (bs out) (by
          have := ih (i + 1) (by omega)
          rw [List.take_succ_eq_append_getElem hi', onsL, List.flatMap_append] at this
          simp only [List.flatMap_cons, List.flatMap_nil, List.append_nil] at this
          rw [show (xs.length + 7) / 8 * 8 * w - i * w - w = (xs.length + 7) / 8 * 8 * w - (i + 1) * w by omega]
          exact this)
        simpa using this
    have e0 : wrap64 ((wrap64 ((wrap64 (Int.tdiv (wrap64 ((wrap64 ((xs.length : Int) + 8)) - 1)) 8)) * 8)) * (w : Int)) = (((xs.length + 7) / 8 * 8 * w : Nat) : Int) := by
      rw [wrap64_id (x := (xs.length : Int) + 8) (by omega) (by omega), wrap64_id (x := (xs.length : Int) + 8 - 1) (by omega) (by omega), Int.tdiv_eq_ediv_of_nonneg (by omega)]
      rw [show ((xs.length : Int) + 8 - 1) / 8 = (((xs.length + 7) / 8 : Nat) : Int) by omega, wrap64_id (x := (((xs.length + 7) / 8 : Nat) : Int)) (by omega) (by omega)]
      rw [show (((xs.length + 7) / 8 : Nat) : Int) * 8 = (((xs.length + 7) / 8 * 8 : Nat) : Int) by omega, wrap64_id (x := (((xs.length + 7) / 8 * 8 : Nat) : Int)) (by omega) (by omega)]
      rw [← Int.natCast_mul, wrap64_id (by omega) (by omega)]
    unfold hybrid_wide.f
    rw [e0]
    refine T.ite (by omega) (T.ite (by omega) ?_)
    have := outer xs.length 0 (by omega)
    rw [Int.toNat_natCast]
    simpa [onsL] using this
  · rw [o2, hons]
    rw [show (xs.length + 7) / 8 * 8 * w = (xs.length + 7) / 8 * w * 8 by rw [Nat.mul_assoc, Nat.mul_assoc, Nat.mul_comm 8 w]]
    omega
  · intro m
    rw [o3]
    by_cases hm : m < (onsL w xs).length
    · rw [List.getD_eq_getElem?_getD, List.getElem?_append_left hm, ← List.getD_eq_getElem?_getD]
    · rw [getD_ge (l := onsL w xs) (by omega), List.getD_eq_getElem?_getD, List.getElem?_append_right (by omega), List.getElem?_replicate]
      split <;> rfl
end Go.Proofs.YtkcmkedboflklaaGreatDoor.Q
