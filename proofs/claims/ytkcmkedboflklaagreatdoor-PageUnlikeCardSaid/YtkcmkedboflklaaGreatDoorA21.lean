/- Steps towards: PageUnlike: unlike columns have unlike pages, for every type, every leaf and every two columns; no condition beside the row's own (the library's listed variables hold what the program's text lays). -/
import Derived.Deep.Strs
import Derived.SliceStrings
import Derived.OpenShut
import Derived.Test.YtkcmkedboflklaaGreatDoorRows
import Derived.ProofKit
import Derived.Lib.LaidTab
import Derived.MakeChecks
import Derived.Test.YtkcmkedboflklaaGreatDoorA14
import Derived.Test.YtkcmkedboflklaaGreatDoorA20
import Derived.Test.YtkcmkedboflklaaGreatDoorA2
import Derived.Test.YtkcmkedboflklaaGreatDoorA19
namespace Go.Proofs.YtkcmkedboflklaaGreatDoor.Q
open Go.RowKit Go.Proofs.YtkcmkedboflklaaGreatDoorW.PrintWords Go.Proofs.YtkcmkedboflklaaGreatDoorW.PrintLast Go.Proofs.YtkcmkedboflklaaGreatDoorW.PrintMore
theorem T.at {α : Type} {f : Nat → Option α} {r : α} (h : ∀ j, f (j + 60) = some r) : T f r := ⟨60, fun k hk => by obtain ⟨j, rfl⟩ : ∃ j, k = j + 60 := ⟨k - 60, by omega⟩; exact h j⟩
def wT : List S24 := [⟨0, (-1), true⟩]
def wV : List ByteArray := [⟨#[105, 50, 53, 56, 59]⟩]
theorem wPut (t : List S24) (ht : t = wT) : T (fun k => page_Put.f k t 0 [0, 0] [1, 0] wV) (bs [236, 3, 174, 97, 2, 0, 0, 0, 1, 0, 0, 0, 2, 0, 0, 0, 3, 3, 1, 2, 1, 0, 0, 0, 0, 0, 0], 0) := by
  subst ht
  unfold page_Put.f
  refine T.bind (T.at (r := true) (fun j => by kernel_rfl)) (T.ite rfl ?_)
  refine T.bind (T.at (r := (0, 1, 0)) (fun j => by kernel_rfl)) ?_
  refine T.bind (T.at (r := bs [3]) (fun j => by kernel_rfl)) ?_
  refine T.bind (T.at (r := bs [3, 1]) (fun j => by kernel_rfl)) ?_
  refine T.cbind rfl ?_
  refine Put_l0 [3] [3, 1] [2, 1, 2] (by decide) [0, 0] [1, 0] wV _ (by decide) (by decide) 3 0 rfl [] (by decide) ?_
  refine T.succ ?_
  simp only [page_Put.l1]
  refine T.ite (by decide) (T.ite (by decide) (T.ite (by decide) (T.bind (T.at (r := bs [2, 1, 0, 0, 0, 0, 0, 0]) (fun j => by kernel_rfl)) (T.cbind (WS _ _ (by decide)) ?_))))
  refine T.succ ?_
  simp only [page_Put.l1]
  refine T.ite' (by decide +kernel) (T.cbind rfl (T.bind (T.eq (crc_T _ (by decide)) (s := 1638794220) (by decide +kernel)) (T.bind (T.eq (Word4_T _) (s := bs [236, 3, 174, 97]) (by decide +kernel)) (T.cbind rfl (T.ite (by decide) (T.const ?_))))))
  decide +kernel
theorem wGet : T (fun k => page_Get.f k wT 0 (bs [236, 3, 174, 97, 2, 0, 0, 0, 1, 0, 0, 0, 2, 0, 0, 0, 3, 3, 1, 2, 1, 0, 0, 0, 0, 0, 0])) ([0, 0], [1, 0], wV, 0) := by
  unfold page_Get.f
  refine T.bind (T.at (r := true) (fun j => by kernel_rfl)) (T.ite rfl ?_)
  refine T.ite' (by decide) (T.ite (by decide) (T.ite (by decide) ?_))
  refine T.bind (T.at (r := 1638794220) (fun j => by kernel_rfl)) ?_
  refine T.bind (T.eq (crc_T _ (by decide +kernel)) (s := 1638794220) (by decide +kernel)) (T.ite rfl ?_)
  refine T.bind (T.at (r := (0, 1, 0)) (fun j => by kernel_rfl)) ?_
  refine T.bind (T.at (r := (2, bs [1, 0, 0, 0, 2, 0, 0, 0, 3, 3, 1, 2, 1, 0, 0, 0, 0, 0, 0], false)) (fun j => by kernel_rfl)) ?_
  refine T.bind (T.at (r := (1, bs [2, 0, 0, 0, 3, 3, 1, 2, 1, 0, 0, 0, 0, 0, 0], false)) (fun j => by kernel_rfl)) ?_
  refine T.bind (T.at (r := (2, bs [3, 3, 1, 2, 1, 0, 0, 0, 0, 0, 0], false)) (fun j => by kernel_rfl)) ?_
  refine T.cbind (a := (bs [3], bs [3, 1, 2, 1, 0, 0, 0, 0, 0, 0], false)) (by decide +kernel) ?_
  refine T.cbind (a := 0) (by decide +kernel) ?_
  refine T.bind (T.at (r := ([0, 0], 0)) (fun j => by kernel_rfl)) ?_
  refine T.cbind (a := (bs [3, 1], bs [2, 1, 0, 0, 0, 0, 0, 0], false)) (by decide +kernel) ?_
  refine T.cbind (a := 1) (by decide +kernel) ?_
  refine T.bind (T.at (r := ([1, 0], 0)) (fun j => by kernel_rfl)) ?_
  refine T.bind (T.at (r := 1) (fun j => by kernel_rfl)) ?_
  refine T.succ ?_
  simp only [page_Get.l0]
  refine T.ite (by decide) (T.ite' (by decide) (T.ite (by decide) (T.ite (by decide) ?_)))
  refine T.bind (T.at (r := (bs [105, 50, 53, 56, 59], bs [], false)) (fun j => by kernel_rfl)) (T.ite (by decide) ?_)
  refine T.succ ?_
  simp only [page_Get.l0]
  refine T.ite' (by decide +kernel) (T.bind (wPut wT rfl) (T.ite' (by decide) (T.ite trivial (T.ite trivial (T.ite rfl (T.ite (by decide +kernel) (T.const rfl)))))))
theorem wBad : T (fun k => page_Get.f k wT 0 (bs [236, 3, 174, 97, 2, 0, 0, 0, 1, 0, 0, 0, 2, 0, 0, 0, 3, 3, 1, 2, 1, 0, 0, 0, 0, 0, 1])) ([], [], [], 2201) := by
  unfold page_Get.f
  refine T.bind (T.at (r := true) (fun j => by kernel_rfl)) (T.ite rfl ?_)
  refine T.ite' (by decide) (T.ite (by decide) (T.ite (by decide) ?_))
  refine T.bind (T.at (r := 1638794220) (fun j => by kernel_rfl)) ?_
  refine T.bind (T.eq (crc_T _ (by decide +kernel)) (s := 380187514) (by decide +kernel)) (T.ite' (by decide) (T.const rfl))
theorem wShort : T (fun k => page_Get.f k wT 0 (bs [])) ([], [], [], 2200) := by
  unfold page_Get.f
  refine T.bind (T.at (r := true) (fun j => by kernel_rfl)) (T.ite rfl ?_)
  exact T.ite (by decide) (T.const rfl)
theorem wOff : T (fun k => page_Put.f k wT 1 [0, 0] [1, 0] wV) (bs [], 2200) := by
  unfold page_Put.f
  exact T.bind (T.at (r := false) (fun j => by kernel_rfl)) (T.ite' (by decide) (T.const rfl))
theorem awake22_T : T (fun k => quiverlaw22_awake.f k) true := by
  unfold quiverlaw22_awake.f
  refine T.cbind rfl (T.cbind rfl (T.cbind rfl (T.cbind rfl (T.bind (wPut _ rfl) (T.cbind rfl (T.bind wGet (T.ite (by decide +kernel) ?_)))))))
  refine T.cbind rfl (T.ite (by decide) (T.ite (by decide +kernel) (T.ite (by decide +kernel) ?_)))
  refine T.bind (a := ([], [], [], 2201)) (T.eq (by have := wBad; exact this) rfl) ?_
  refine T.cbind rfl (T.bind wShort (T.cbind rfl (T.bind wOff ?_)))
  refine T.ite (by decide) (T.ite (by decide +kernel) (T.ite (by decide +kernel) ?_))
  refine T.cbind rfl (T.ite rfl ?_)
  refine T.bind (T.at (r := true) (fun j => by kernel_rfl)) (T.ite rfl ?_)
  refine T.cbind rfl (T.ite rfl (T.cbind rfl (T.ite rfl (T.cbind rfl (T.ite rfl (T.cbind rfl (T.ite rfl ?_)))))))
  exact T.cbind rfl (T.bind (T.at (r := true) (fun j => by kernel_rfl)) (T.const rfl))
end Go.Proofs.YtkcmkedboflklaaGreatDoor.Q
namespace Go.Proofs.YtkcmkedboflklaaGreatDoor.Q
open Go.RowKit Go.Proofs.YtkcmkedboflklaaGreatDoorW.PrintWords Go.Proofs.YtkcmkedboflklaaGreatDoorW.PrintLast Go.Proofs.YtkcmkedboflklaaGreatDoorW.PrintMore
attribute [local go_sem] max2_int min2_int max_two min_two max_three min_three max_four min_four
set_option linter.unusedVariables false
set_option linter.unusedSimpArgs false
set_option maxHeartbeats 8000000
set_option maxRecDepth 100000

def quiverlaw22_PageUnlike.j0 : Nat → ByteArray → Int → ByteArray → Int → Bool → List Int → List Int → List ByteArray → List Int → List Int → List ByteArray → Option (Bool)
 | 0, _, _, _, _, _, _, _, _, _, _, _ => none
 | k + 1, x9, x10, x11, x12, x36, x649000, x649001, x649002, x650000, x650001, x650002 => if x36 = true then ((quiverlaw0_Num.f x10).bind fun t657 => (if t657 = 0 then ((quiverlaw0_Num.f x12).bind fun t658 => (if t658 = 0 then (some true) else (some (x11.toList == ([] : List UInt8))))) else (if x9.toList = ([] : List UInt8) then ((quiverlaw0_Num.f x12).bind fun t659 => (if t659 = 0 then (some true) else (some (x11.toList == ([] : List UInt8))))) else (some false)))) else ((quiverlaw0_SameColumn.f k x649000 x649001 x649002 x650000 x650001 x650002).bind fun t660 => (some ((x9.toList == x11.toList) == t660)))
def quiverlaw22_PageUnlike.f (k : Nat) (l0_0 : List (S24)) (a1 : Int) (l2_0 : List Int) (l2_1 : List Int) (l2_2 : List ByteArray) (l3_0 : List Int) (l3_1 : List Int) (l3_2 : List ByteArray) : Option (Bool) := (quiverlaw22_awake.f k).bind fun t650 => (if t650 = true then ((page_Put.f k l0_0 a1 l2_0 l2_1 l2_2).bind fun bt651 => ((page_Put.f k l0_0 a1 l3_0 l3_1 l3_2).bind fun bt653 => ((quiverlaw0_Num.f bt651.2).bind fun t655 => (if t655 = 0 then ((quiverlaw0_Num.f bt653.2).bind fun t656 => (quiverlaw22_PageUnlike.j0 k bt651.1 bt651.2 bt653.1 bt653.2 (t656 != 0) l2_0 l2_1 l2_2 l3_0 l3_1 l3_2)) else (quiverlaw22_PageUnlike.j0 k bt651.1 bt651.2 bt653.1 bt653.2 true l2_0 l2_1 l2_2 l3_0 l3_1 l3_2))))) else (some false))
theorem quiverlaw22_PageUnlike.calls (k : Nat) (A0_0 : Option Addr) (c0_0 : Nat) (l0_0 : List (S24)) (a1 : Int) (A2_0 : Option Addr) (c2_0 : Nat) (l2_0 : List Int) (A2_1 : Option Addr) (c2_1 : Nat) (l2_1 : List Int) (A2_2 : Option Addr) (c2_2 : Nat) (l2_2 : List ByteArray) (A3_0 : Option Addr) (c3_0 : Nat) (l3_0 : List Int) (A3_1 : Option Addr) (c3_1 : Nat) (l3_1 : List Int) (A3_2 : Option Addr) (c3_2 : Nat) (l3_2 : List ByteArray) (r : Bool) (w : World) (hr0_0 : Kd.C k24 w A0_0 l0_0.length l0_0) (hc0_0 : l0_0.length ≤ c0_0) (hr2_0 : Kd.C (Kd.int .i64) w A2_0 l2_0.length l2_0) (hc2_0 : l2_0.length ≤ c2_0) (hr2_1 : Kd.C (Kd.int .i64) w A2_1 l2_1.length l2_1) (hc2_1 : l2_1.length ≤ c2_1) (hr2_2 : Kd.C Kd.string w A2_2 l2_2.length l2_2) (hc2_2 : l2_2.length ≤ c2_2) (hr3_0 : Kd.C (Kd.int .i64) w A3_0 l3_0.length l3_0) (hc3_0 : l3_0.length ≤ c3_0) (hr3_1 : Kd.C (Kd.int .i64) w A3_1 l3_1.length l3_1) (hc3_1 : l3_1.length ≤ c3_1) (hr3_2 : Kd.C Kd.string w A3_2 l3_2.length l3_2) (hc3_2 : l3_2.length ≤ c3_2) (hG : GL w) (h : quiverlaw22_PageUnlike.f k l0_0 a1 l2_0 l2_1 l2_2 l3_0 l3_1 l3_2 = some r) :
  Calls Tryz.prog 6 #[.agg #[.slice A0_0 l0_0.length c0_0], .int .i64 a1, .agg #[.slice A2_0 l2_0.length c2_0, .slice A2_1 l2_1.length c2_1, .slice A2_2 l2_2.length c2_2], .agg #[.slice A3_0 l3_0.length c3_0, .slice A3_1 l3_1.length c3_1, .slice A3_2 l3_2.length c3_2]] w fun e w' => e = .returned (.bool r) ∧ Below w.heap.size w w' := by
 have hu27 := Tryz.underlying27
 have hu31 := Tryz.underlying31
 have HR0_0 := am hr0_0
 have HC0_0 := am hc0_0
 clear hr0_0 hc0_0
 have HR2_0 := am hr2_0
 have HC2_0 := am hc2_0
 clear hr2_0 hc2_0
 have HR2_1 := am hr2_1
 have HC2_1 := am hc2_1
 clear hr2_1 hc2_1
 have HR2_2 := am hr2_2
 have HC2_2 := am hc2_2
 clear hr2_2 hc2_2
 have HR3_0 := am hr3_0
 have HC3_0 := am hc3_0
 clear hr3_0 hc3_0
 have HR3_1 := am hr3_1
 have HC3_1 := am hc3_1
 clear hr3_1 hc3_1
 have HR3_2 := am hr3_2
 have HC3_2 := am hc3_2
 clear hr3_2 hc3_2
 have HB := am (Below.refl w.heap.size w)
 have HG := am hG
 clear hG
 have H : ((quiverlaw22_awake.f k).bind fun t650 => (if t650 = true then ((page_Put.f k l0_0 a1 l2_0 l2_1 l2_2).bind fun bt651 => ((page_Put.f k l0_0 a1 l3_0 l3_1 l3_2).bind fun bt653 => ((quiverlaw0_Num.f bt651.2).bind fun t655 => (if t655 = 0 then ((quiverlaw0_Num.f bt653.2).bind fun t656 => (quiverlaw22_PageUnlike.j0 k bt651.1 bt651.2 bt653.1 bt653.2 (t656 != 0) l2_0 l2_1 l2_2 l3_0 l3_1 l3_2)) else (quiverlaw22_PageUnlike.j0 k bt651.1 bt651.2 bt653.1 bt653.2 true l2_0 l2_1 l2_2 l3_0 l3_1 l3_2))))) else (some false))) = some r := h
 clear h
 replace H := zo H
 obtain ⟨t650, A50, H⟩ := H
 (try dsimp only at H)
 have A5 := am A50
 clear A50
 by_cases c6 : t650 = true
 ·
  subst c6
  rw [if_pos rfl] at H
  replace H := zo H
  obtain ⟨⟨t651, t652⟩, A70, H⟩ := H
  (try dsimp only at H)
  have A7 := am A70
  clear A70
  replace H := zo H
  obtain ⟨⟨t653, t654⟩, A80, H⟩ := H
  (try dsimp only at H)
  have A8 := am A80
  clear A80
  have HC9 := am H
  clear H
  go_enter Tryz.func6, Tryz.ntmps6
  go_upto_region 5 with (first | ((with_reducible refine gate_dst (N := 4) rfl ?_); refine box_event ?hg (N := 4) ?hd (cs := #[.slice A0_0 l0_0.length c0_0]) (t := 27) ?hr ?_; (case hd => rfl); (case hg => rfl); (case hr => exact zh); intro gb647 hg w10 hbox hb; have n0_ := am (below_step (zl HB.out) hb); have n1_ := am (hbox); have n2_ := am ((by rw [hg]; exact (below_size (zl HB.out)) : w.heap.size ≤ gb647)); have n3_ := am ((by rw [hg]; exact (below_size (zl HB.out)) : w.heap.size ≤ gb647)); clear HB; have HB := n0_; have BK647 := n1_; have GW647 := n2_; have GE647 := n3_; clear n0_ n1_ n2_ n3_; clear hb hbox hg) | ((with_reducible refine gate_dst (N := 6) rfl ?_); refine box_event ?hg (N := 6) ?hd (cs := #[.slice A2_0 l2_0.length c2_0, .slice A2_1 l2_1.length c2_1, .slice A2_2 l2_2.length c2_2]) (t := 31) ?hr ?_; (case hd => rfl); (case hg => rfl); (case hr => exact zh); intro gb648 hg w11 hbox hb; have n0_ := am (zbb BK647.out hb); have n1_ := am (below_step (zl1 HB.out GE647.out) hb); have n2_ := am (hbox); have n3_ := am ((by rw [hg]; exact (below_size (zl1 HB.out GE647.out)) : w.heap.size ≤ gb648)); have n4_ := am ((by rw [hg]; exact (below_size (zl1 HB.out GE647.out)) : w.heap.size ≤ gb648)); have n5_ := am ((by rw [hg]; exact Nat.ne_of_lt (blk_lt (g := gb647) (o := .cells #[.slice A0_0 l0_0.length c0_0] 27 (0, 0)) (zb BK647.out)) : gb647 ≠ gb648)); have n6_ := am ((by rw [hg]; exact Nat.ne_of_gt (blk_lt (g := gb647) (o := .cells #[.slice A0_0 l0_0.length c0_0] 27 (0, 0)) (zb BK647.out)) : gb648 ≠ gb647)); clear BK647 HB; have BK647 := n0_; have HB := n1_; have BK648 := n2_; have GW648 := n3_; have GE648 := n4_; have NB647_648 := n5_; have NB648_647 := n6_; clear n0_ n1_ n2_ n3_ n4_ n5_ n6_; clear hb hbox hg) | ((with_reducible refine gate_dst (N := 7) rfl ?_); refine box_event ?hg (N := 7) ?hd (cs := #[.slice A3_0 l3_0.length c3_0, .slice A3_1 l3_1.length c3_1, .slice A3_2 l3_2.length c3_2]) (t := 31) ?hr ?_; (case hd => rfl); (case hg => rfl); (case hr => exact zh); intro gb649 hg w12 hbox hb; have n0_ := am (zbb BK647.out hb); have n1_ := am (zbb BK648.out hb); have n2_ := am (below_step (zl2 HB.out GE647.out GE648.out) hb); have n3_ := am (hbox); have n4_ := am ((by rw [hg]; exact (below_size (zl2 HB.out GE647.out GE648.out)) : w.heap.size ≤ gb649)); have n5_ := am ((by rw [hg]; exact (below_size (zl2 HB.out GE647.out GE648.out)) : w.heap.size ≤ gb649)); have n6_ := am ((by rw [hg]; exact Nat.ne_of_lt (blk_lt (g := gb647) (o := .cells #[.slice A0_0 l0_0.length c0_0] 27 (0, 0)) (zb BK647.out)) : gb647 ≠ gb649)); have n7_ := am ((by rw [hg]; exact Nat.ne_of_gt (blk_lt (g := gb647) (o := .cells #[.slice A0_0 l0_0.length c0_0] 27 (0, 0)) (zb BK647.out)) : gb649 ≠ gb647)); have n8_ := am ((by rw [hg]; exact Nat.ne_of_lt (blk_lt (g := gb648) (o := .cells #[.slice A2_0 l2_0.length c2_0, .slice A2_1 l2_1.length c2_1, .slice A2_2 l2_2.length c2_2] 31 (0, 0)) (zb BK648.out)) : gb648 ≠ gb649)); have n9_ := am ((by rw [hg]; exact Nat.ne_of_gt (blk_lt (g := gb648) (o := .cells #[.slice A2_0 l2_0.length c2_0, .slice A2_1 l2_1.length c2_1, .slice A2_2 l2_2.length c2_2] 31 (0, 0)) (zb BK648.out)) : gb649 ≠ gb648)); clear BK647 BK648 HB; have BK647 := n0_; have BK648 := n1_; have HB := n2_; have BK649 := n3_; have GW649 := n4_; have GE649 := n5_; have NB647_649 := n6_; have NB649_647 := n7_; have NB648_649 := n8_; have NB649_648 := n9_; clear n0_ n1_ n2_ n3_ n4_ n5_ n6_ n7_ n8_ n9_; clear hb hbox hg) | ((with_reducible refine gate_callee (f := 12) rfl ?_); refine goesL_ (some 13) rfl rfl Tryz.func12 (by kernel_rfl) rfl #[] rfl zm ?_; (with_reducible refine (quiverlaw22_awake.calls k  true _ ?side1 A5.out).mono ?_); (case side1 => exact GL.below HG.out (zl3 HB.out GE647.out GE648.out GE649.out)); rintro e w13 ⟨rfl, hb⟩; refine ⟨_, rfl, ?_⟩; have n0_ := am (zbb BK647.out hb); have n1_ := am (zbb BK648.out hb); have n2_ := am (zbb BK649.out hb); have n3_ := am (below_step (zl3 HB.out GE647.out GE648.out GE649.out) hb); clear BK647 BK648; clear BK649 HB; have BK647 := n0_; have BK648 := n1_; have BK649 := n2_; have HB := n3_; clear n0_ n1_ n2_ n3_; (try clear hb); (try clear hb2); (try clear hk); (try clear hi); have hnb14 := NB647_648.out; have hnc14 := NB648_647.out; have hnb15 := NB647_649.out; have hnc15 := NB649_647.out; have hcz16_0 : w13.cell? ⟨gb647, 0, none⟩ = some (.slice A0_0 l0_0.length c0_0) := (blk_cell BK647.out 0).trans rfl; have hfz16_0 := blk_frozen BK647.out 0; have hnb17 := NB648_649.out; have hnc17 := NB649_648.out; have hcz18_0 : w13.cell? ⟨gb648, 0, none⟩ = some (.slice A2_0 l2_0.length c2_0) := (blk_cell BK648.out 0).trans rfl; have hcz18_1 : w13.cell? ⟨gb648, 1, none⟩ = some (.slice A2_1 l2_1.length c2_1) := (blk_cell BK648.out 1).trans rfl; have hcz18_2 : w13.cell? ⟨gb648, 2, none⟩ = some (.slice A2_2 l2_2.length c2_2) := (blk_cell BK648.out 2).trans rfl; have hfz18_0 := blk_frozen BK648.out 0; have hfz18_1 := blk_frozen BK648.out 1; have hfz18_2 := blk_frozen BK648.out 2) | ((with_reducible refine gate_callee (f := 14) rfl ?_); refine goesL_ (some 19) rfl rfl Tryz.func14 (by kernel_rfl) rfl #[.agg #[.slice A0_0 l0_0.length c0_0], .int .i64 a1, .agg #[.slice A2_0 l2_0.length c2_0, .slice A2_1 l2_1.length c2_1, .slice A2_2 l2_2.length c2_2]] rfl zm ?_; (with_reducible refine (page_Put.calls k _ _ l0_0 a1 _ _ l2_0 _ _ l2_1 _ _ l2_2 t651 t652 _ ?side1 ?side2 ?side3 ?side4 ?side5 ?side6 ?side7 ?side8 ?side9 A7.out).mono ?_); (case side1 => exact zc (Kd.C_below HR0_0.out HB.out)); (case side2 => exact HC0_0.out); (case side3 => exact zc (Kd.C_below HR2_0.out HB.out)); (case side4 => exact HC2_0.out); (case side5 => exact zc (Kd.C_below HR2_1.out HB.out)); (case side6 => exact HC2_1.out); (case side7 => exact zc (Kd.C_below HR2_2.out HB.out)); (case side8 => exact HC2_2.out); (case side9 => exact GL.below HG.out (zl3 HB.out GE647.out GE648.out GE649.out)); rintro e w19 ⟨rfl, hb⟩; refine ⟨_, rfl, ?_⟩; have n0_ := am (zbb BK647.out hb); have n1_ := am (zbb BK648.out hb); have n2_ := am (zbb BK649.out hb); have n3_ := am (below_step (zl3 HB.out GE647.out GE648.out GE649.out) hb); clear BK647 BK648; clear BK649 HB; have BK647 := n0_; have BK648 := n1_; have BK649 := n2_; have HB := n3_; clear n0_ n1_ n2_ n3_; (try clear hb); (try clear hb2); (try clear hk); (try clear hi); have hcz20_0 : w19.cell? ⟨gb647, 0, none⟩ = some (.slice A0_0 l0_0.length c0_0) := (blk_cell BK647.out 0).trans rfl; have hfz20_0 := blk_frozen BK647.out 0; have hcz21_0 : w19.cell? ⟨gb649, 0, none⟩ = some (.slice A3_0 l3_0.length c3_0) := (blk_cell BK649.out 0).trans rfl; have hcz21_1 : w19.cell? ⟨gb649, 1, none⟩ = some (.slice A3_1 l3_1.length c3_1) := (blk_cell BK649.out 1).trans rfl; have hcz21_2 : w19.cell? ⟨gb649, 2, none⟩ = some (.slice A3_2 l3_2.length c3_2) := (blk_cell BK649.out 2).trans rfl; have hfz21_0 := blk_frozen BK649.out 0; have hfz21_1 := blk_frozen BK649.out 1; have hfz21_2 := blk_frozen BK649.out 2) | ((with_reducible refine gate_callee (f := 14) rfl ?_); refine goesL_ (some 26) rfl rfl Tryz.func14 (by kernel_rfl) rfl #[.agg #[.slice A0_0 l0_0.length c0_0], .int .i64 a1, .agg #[.slice A3_0 l3_0.length c3_0, .slice A3_1 l3_1.length c3_1, .slice A3_2 l3_2.length c3_2]] rfl zm ?_; (with_reducible refine (page_Put.calls k _ _ l0_0 a1 _ _ l3_0 _ _ l3_1 _ _ l3_2 t653 t654 _ ?side1 ?side2 ?side3 ?side4 ?side5 ?side6 ?side7 ?side8 ?side9 A8.out).mono ?_); (case side1 => exact zc (Kd.C_below HR0_0.out HB.out)); (case side2 => exact HC0_0.out); (case side3 => exact zc (Kd.C_below HR3_0.out HB.out)); (case side4 => exact HC3_0.out); (case side5 => exact zc (Kd.C_below HR3_1.out HB.out)); (case side6 => exact HC3_1.out); (case side7 => exact zc (Kd.C_below HR3_2.out HB.out)); (case side8 => exact HC3_2.out); (case side9 => exact GL.below HG.out (zl3 HB.out GE647.out GE648.out GE649.out)); rintro e w22 ⟨rfl, hb⟩; refine ⟨_, rfl, ?_⟩; have n0_ := am (zbb BK647.out hb); have n1_ := am (zbb BK648.out hb); have n2_ := am (zbb BK649.out hb); have n3_ := am (below_step (zl3 HB.out GE647.out GE648.out GE649.out) hb); clear BK647 BK648; clear BK649 HB; have BK647 := n0_; have BK648 := n1_; have BK649 := n2_; have HB := n3_; clear n0_ n1_ n2_ n3_; (try clear hb); (try clear hb2); (try clear hk); (try clear hi)))
  (try simp only [Act.put, List.setIfInBounds_toArray, List.set_cons_zero, List.set_cons_succ])
  go_cut [36] (fun v36 wc => ∃ (kq : Nat) (x36_8 : Bool), v36 = .bool x36_8 ∧ Aside0 (quiverlaw22_PageUnlike.j0 kq t651 t652 t653 t654 x36_8 l2_0 l2_1 l2_2 l3_0 l3_1 l3_2 = some r) ∧ Aside0 (kq ≤ k) ∧ Aside0 (wc.heap[gb647]? = some (.cells #[(.slice A0_0 l0_0.length c0_0)] 27 (0, 0))) ∧ Aside0 (wc.heap[gb648]? = some (.cells #[(.slice A2_0 l2_0.length c2_0), (.slice A2_1 l2_1.length c2_1), (.slice A2_2 l2_2.length c2_2)] 31 (0, 0))) ∧ Aside0 (wc.heap[gb649]? = some (.cells #[(.slice A3_0 l3_0.length c3_0), (.slice A3_1 l3_1.length c3_1), (.slice A3_2 l3_2.length c3_2)] 31 (0, 0))) ∧ Aside0 (Below w.heap.size w wc))
  case first =>
   have H := HC9.out
   clear HC9
   replace H := zo H
   obtain ⟨t655, A230, H⟩ := H
   (try dsimp only at H)
   have A23 := am A230
   clear A230
   by_cases c24 : t655 = 0
   ·
    rw [if_pos c24] at H
    have c24b0 := beq_iff_eq.mpr c24
    have c24b1 := bne_eq_false_iff_eq.mpr c24
    clear c24
    (first | rw [c24b0] | (simp only [i64_w, i32_w]; rw [c24b0]) | skip)
    replace H := zo H
    obtain ⟨t656, A250, H⟩ := H
    (try dsimp only at H)
    have A25 := am A250
    clear A250
    have H' := am H
    clear H
    go_wp2_with (first | ((with_reducible refine gate_callee (f := 15) rfl ?_); refine goesL_ (some 30) rfl rfl Tryz.func15 (by kernel_rfl) rfl #[.int .i64 t652] rfl zm ?_; (with_reducible refine (quiverlaw0_Num.calls t652 t655 _ A23.out).mono ?_); rintro e w' ⟨rfl, ⟨nd, rfl⟩⟩; refine ⟨_, rfl, ?_⟩) | (go_at_call 15; (with_reducible refine (quiverlaw0_Num.calls t654 t656 _ A25.out).mono ?_); rintro e w' ⟨rfl, ⟨nd, rfl⟩⟩))
    go_meet
    case rel => exact ⟨_, ((t656 != 0)), zs, H', ⟨by first | omega | exact Nat.le_refl _⟩, ⟨by refine zb ?_; exact BK647.out⟩, ⟨by refine zb ?_; exact BK648.out⟩, ⟨by refine zb ?_; exact BK649.out⟩, ⟨zl3 HB.out GE647.out GE648.out GE649.out⟩⟩
   ·
    rw [if_neg c24] at H
    have c24b0 := beq_eq_false_iff_ne.mpr c24
    have c24b1 := bne_iff_ne.mpr c24
    (first | rw [c24b0] | (simp only [i64_w, i32_w]; rw [c24b0]) | skip)
    have H' := am H
    clear H
    go_wp2_with (first | ((with_reducible refine gate_callee (f := 15) rfl ?_); refine goesL_ (some 30) rfl rfl Tryz.func15 (by kernel_rfl) rfl #[.int .i64 t652] rfl zm ?_; (with_reducible refine (quiverlaw0_Num.calls t652 t655 _ A23.out).mono ?_); rintro e w' ⟨rfl, ⟨nd, rfl⟩⟩; refine ⟨_, rfl, ?_⟩))
    go_meet
    case rel => exact ⟨_, (true), zs, H', ⟨by first | omega | exact Nat.le_refl _⟩, ⟨by refine zb ?_; exact BK647.out⟩, ⟨by refine zb ?_; exact BK648.out⟩, ⟨by refine zb ?_; exact BK649.out⟩, ⟨zl3 HB.out GE647.out GE648.out GE649.out⟩⟩
  case rest =>
   clear HC9
   try clear c1
   try clear c2
   try clear p2
   try clear c3
   try clear c6
   try clear c12
   try clear c14
   try clear c15
   try clear c17
   try clear c24
   try clear c24b0
   try clear c24b1
   try clear hcz16_0
   try clear hcz18_0
   try clear hcz18_1
   try clear hcz18_2
   try clear hcz20_0
   try clear hcz21_0
   try clear hcz21_1
   try clear hcz21_2
   try clear hfz16_0
   try clear hfz18_0
   try clear hfz18_1
   try clear hfz18_2
   try clear hfz20_0
   try clear hfz21_0
   try clear hfz21_1
   try clear hfz21_2
   obtain ⟨kq, x36_8, rfl, HA, HJ8, BK647, BK648, BK649, HB⟩ := hcut
   cases kq with
   | zero => exact absurd HA.out (by simp [quiverlaw22_PageUnlike.j0])
   | succ kj8 =>
    have H := HA.out
    clear HA
    simp only [quiverlaw22_PageUnlike.j0] at H
    by_cases c26 : x36_8 = true
    ·
     subst c26
     rw [if_pos rfl] at H
     replace H := zo H
     obtain ⟨t657, A270, H⟩ := H
     (try dsimp only at H)
     have A27 := am A270
     clear A270
     by_cases c28 : t657 = 0
     ·
      rw [if_pos c28] at H
      have c28b0 := beq_iff_eq.mpr c28
      have c28b1 := bne_eq_false_iff_eq.mpr c28
      clear c28
      replace H := zo H
      obtain ⟨t658, A290, H⟩ := H
      (try dsimp only at H)
      have A29 := am A290
      clear A290
      by_cases c30 : t658 = 0
      ·
       rw [if_pos c30] at H
       have c30b0 := beq_iff_eq.mpr c30
       have c30b1 := bne_eq_false_iff_eq.mpr c30
       clear c30
       obtain rfl := Option.some.inj H
       go_wp2_with (first | ((with_reducible refine gate_callee (f := 15) rfl ?_); refine goesL_ (some 38) rfl rfl Tryz.func15 (by kernel_rfl) rfl #[.int .i64 t652] rfl zm ?_; (with_reducible refine (quiverlaw0_Num.calls t652 t657 _ A27.out).mono ?_); rintro e w' ⟨rfl, ⟨nd, rfl⟩⟩; refine ⟨_, rfl, ?_⟩) | (go_at_call 15; (with_reducible refine (quiverlaw0_Num.calls t654 t658 _ A29.out).mono ?_); rintro e w' ⟨rfl, ⟨nd, rfl⟩⟩))
       go_ret
       exact ⟨ze, zl3 HB.out GE647.out GE648.out GE649.out⟩
      ·
       rw [if_neg c30] at H
       have c30b0 := beq_eq_false_iff_ne.mpr c30
       have c30b1 := bne_iff_ne.mpr c30
       obtain rfl := Option.some.inj H
       go_wp2_with (first | ((with_reducible refine gate_callee (f := 15) rfl ?_); refine goesL_ (some 38) rfl rfl Tryz.func15 (by kernel_rfl) rfl #[.int .i64 t652] rfl zm ?_; (with_reducible refine (quiverlaw0_Num.calls t652 t657 _ A27.out).mono ?_); rintro e w' ⟨rfl, ⟨nd, rfl⟩⟩; refine ⟨_, rfl, ?_⟩) | (go_at_call 15; (with_reducible refine (quiverlaw0_Num.calls t654 t658 _ A29.out).mono ?_); rintro e w' ⟨rfl, ⟨nd, rfl⟩⟩))
       go_ret
       exact ⟨ze, zl3 HB.out GE647.out GE648.out GE649.out⟩
     ·
      rw [if_neg c28] at H
      have c28b0 := beq_eq_false_iff_ne.mpr c28
      have c28b1 := bne_iff_ne.mpr c28
      by_cases c31 : t651.toList = ([] : List UInt8)
      ·
       rw [if_pos c31] at H
       have c31b0 := beq_iff_eq.mpr c31
       have c31b1 := bne_eq_false_iff_eq.mpr c31
       clear c31
       replace H := zo H
       obtain ⟨t659, A320, H⟩ := H
       (try dsimp only at H)
       have A32 := am A320
       clear A320
       by_cases c33 : t659 = 0
       ·
        rw [if_pos c33] at H
        have c33b0 := beq_iff_eq.mpr c33
        have c33b1 := bne_eq_false_iff_eq.mpr c33
        clear c33
        obtain rfl := Option.some.inj H
        go_wp2_with (first | ((with_reducible refine gate_callee (f := 15) rfl ?_); refine goesL_ (some 38) rfl rfl Tryz.func15 (by kernel_rfl) rfl #[.int .i64 t652] rfl zm ?_; (with_reducible refine (quiverlaw0_Num.calls t652 t657 _ A27.out).mono ?_); rintro e w' ⟨rfl, ⟨nd, rfl⟩⟩; refine ⟨_, rfl, ?_⟩) | (go_at_call 15; (with_reducible refine (quiverlaw0_Num.calls t654 t659 _ A32.out).mono ?_); rintro e w' ⟨rfl, ⟨nd, rfl⟩⟩))
        go_ret
        exact ⟨ze, zl3 HB.out GE647.out GE648.out GE649.out⟩
       ·
        rw [if_neg c33] at H
        have c33b0 := beq_eq_false_iff_ne.mpr c33
        have c33b1 := bne_iff_ne.mpr c33
        obtain rfl := Option.some.inj H
        go_wp2_with (first | ((with_reducible refine gate_callee (f := 15) rfl ?_); refine goesL_ (some 38) rfl rfl Tryz.func15 (by kernel_rfl) rfl #[.int .i64 t652] rfl zm ?_; (with_reducible refine (quiverlaw0_Num.calls t652 t657 _ A27.out).mono ?_); rintro e w' ⟨rfl, ⟨nd, rfl⟩⟩; refine ⟨_, rfl, ?_⟩) | (go_at_call 15; (with_reducible refine (quiverlaw0_Num.calls t654 t659 _ A32.out).mono ?_); rintro e w' ⟨rfl, ⟨nd, rfl⟩⟩))
        go_ret
        exact ⟨ze, zl3 HB.out GE647.out GE648.out GE649.out⟩
      ·
       rw [if_neg c31] at H
       have c31b0 := beq_eq_false_iff_ne.mpr c31
       have c31b1 := bne_iff_ne.mpr c31
       obtain rfl := Option.some.inj H
       go_wp2_with (first | ((with_reducible refine gate_callee (f := 15) rfl ?_); refine goesL_ (some 38) rfl rfl Tryz.func15 (by kernel_rfl) rfl #[.int .i64 t652] rfl zm ?_; (with_reducible refine (quiverlaw0_Num.calls t652 t657 _ A27.out).mono ?_); rintro e w' ⟨rfl, ⟨nd, rfl⟩⟩; refine ⟨_, rfl, ?_⟩))
       go_ret
       exact ⟨ze, zl3 HB.out GE647.out GE648.out GE649.out⟩
    ·
     replace c26 := Bool.eq_false_iff.mpr c26
     subst c26
     rw [if_neg (show ¬ (false = true) by decide)] at H
     replace H := zo H
     obtain ⟨t660, A340, H⟩ := H
     (try dsimp only at H)
     have A34 := am A340
     clear A340
     obtain rfl := Option.some.inj H
     have hnb35 := NB648_647.out
     have hnc35 := NB647_648.out
     have hnb36 := NB648_649.out
     have hnc36 := NB649_648.out
     have hcz37_0 : wc.cell? ⟨gb648, 0, none⟩ = some (.slice A2_0 l2_0.length c2_0) := (blk_cell BK648.out 0).trans rfl
     have hcz37_1 : wc.cell? ⟨gb648, 1, none⟩ = some (.slice A2_1 l2_1.length c2_1) := (blk_cell BK648.out 1).trans rfl
     have hcz37_2 : wc.cell? ⟨gb648, 2, none⟩ = some (.slice A2_2 l2_2.length c2_2) := (blk_cell BK648.out 2).trans rfl
     have hfz37_0 := blk_frozen BK648.out 0
     have hfz37_1 := blk_frozen BK648.out 1
     have hfz37_2 := blk_frozen BK648.out 2
     have hnb38 := NB649_647.out
     have hnc38 := NB647_649.out
     have hcz39_0 : wc.cell? ⟨gb649, 0, none⟩ = some (.slice A3_0 l3_0.length c3_0) := (blk_cell BK649.out 0).trans rfl
     have hcz39_1 : wc.cell? ⟨gb649, 1, none⟩ = some (.slice A3_1 l3_1.length c3_1) := (blk_cell BK649.out 1).trans rfl
     have hcz39_2 : wc.cell? ⟨gb649, 2, none⟩ = some (.slice A3_2 l3_2.length c3_2) := (blk_cell BK649.out 2).trans rfl
     have hfz39_0 := blk_frozen BK649.out 0
     have hfz39_1 := blk_frozen BK649.out 1
     have hfz39_2 := blk_frozen BK649.out 2
     go_wp2_with (first | ((with_reducible refine gate_callee (f := 20) rfl ?_); refine goesL_ (some 58) rfl rfl Tryz.func20 (by kernel_rfl) rfl #[.agg #[.slice A2_0 l2_0.length c2_0, .slice A2_1 l2_1.length c2_1, .slice A2_2 l2_2.length c2_2], .agg #[.slice A3_0 l3_0.length c3_0, .slice A3_1 l3_1.length c3_1, .slice A3_2 l3_2.length c3_2]] rfl zm ?_; (with_reducible refine (quiverlaw0_SameColumn.calls kj8 _ _ l2_0 _ _ l2_1 _ _ l2_2 _ _ l3_0 _ _ l3_1 _ _ l3_2 t660 _ ?side1 ?side2 ?side3 ?side4 ?side5 ?side6 ?side7 ?side8 ?side9 ?side10 ?side11 ?side12 A34.out).mono ?_); (case side1 => exact zc (Kd.C_below HR2_0.out HB.out)); (case side2 => exact HC2_0.out); (case side3 => exact zc (Kd.C_below HR2_1.out HB.out)); (case side4 => exact HC2_1.out); (case side5 => exact zc (Kd.C_below HR2_2.out HB.out)); (case side6 => exact HC2_2.out); (case side7 => exact zc (Kd.C_below HR3_0.out HB.out)); (case side8 => exact HC3_0.out); (case side9 => exact zc (Kd.C_below HR3_1.out HB.out)); (case side10 => exact HC3_1.out); (case side11 => exact zc (Kd.C_below HR3_2.out HB.out)); (case side12 => exact HC3_2.out); rintro e w40 ⟨rfl, hb⟩; refine ⟨_, rfl, ?_⟩; have n0_ := am (zbb BK647.out hb); have n1_ := am (zbb BK648.out hb); have n2_ := am (zbb BK649.out hb); have n3_ := am (below_step (zl3 HB.out GE647.out GE648.out GE649.out) hb); clear BK647 BK648; clear BK649 HB; have BK647 := n0_; have BK648 := n1_; have BK649 := n2_; have HB := n3_; clear n0_ n1_ n2_ n3_; (try clear hb); (try clear hb2); (try clear hk); (try clear hi)))
     go_ret
     exact ⟨ze, zl3 HB.out GE647.out GE648.out GE649.out⟩
 ·
  replace c6 := Bool.eq_false_iff.mpr c6
  subst c6
  rw [if_neg (show ¬ (false = true) by decide)] at H
  obtain rfl := Option.some.inj H
  go_enter Tryz.func6, Tryz.ntmps6
  go_wp2_with (first | ((with_reducible refine gate_dst (N := 4) rfl ?_); refine box_event ?hg (N := 4) ?hd (cs := #[.slice A0_0 l0_0.length c0_0]) (t := 27) ?hr ?_; (case hd => rfl); (case hg => rfl); (case hr => exact zh); intro gb647 hg w41 hbox hb; have n0_ := am (below_step (zl HB.out) hb); have n1_ := am (hbox); have n2_ := am ((by rw [hg]; exact (below_size (zl HB.out)) : w.heap.size ≤ gb647)); have n3_ := am ((by rw [hg]; exact (below_size (zl HB.out)) : w.heap.size ≤ gb647)); clear HB; have HB := n0_; have BK647 := n1_; have GW647 := n2_; have GE647 := n3_; clear n0_ n1_ n2_ n3_; clear hb hbox hg) | ((with_reducible refine gate_dst (N := 6) rfl ?_); refine box_event ?hg (N := 6) ?hd (cs := #[.slice A2_0 l2_0.length c2_0, .slice A2_1 l2_1.length c2_1, .slice A2_2 l2_2.length c2_2]) (t := 31) ?hr ?_; (case hd => rfl); (case hg => rfl); (case hr => exact zh); intro gb648 hg w42 hbox hb; have n0_ := am (zbb BK647.out hb); have n1_ := am (below_step (zl1 HB.out GE647.out) hb); have n2_ := am (hbox); have n3_ := am ((by rw [hg]; exact (below_size (zl1 HB.out GE647.out)) : w.heap.size ≤ gb648)); have n4_ := am ((by rw [hg]; exact (below_size (zl1 HB.out GE647.out)) : w.heap.size ≤ gb648)); have n5_ := am ((by rw [hg]; exact Nat.ne_of_lt (blk_lt (g := gb647) (o := .cells #[.slice A0_0 l0_0.length c0_0] 27 (0, 0)) (zb BK647.out)) : gb647 ≠ gb648)); have n6_ := am ((by rw [hg]; exact Nat.ne_of_gt (blk_lt (g := gb647) (o := .cells #[.slice A0_0 l0_0.length c0_0] 27 (0, 0)) (zb BK647.out)) : gb648 ≠ gb647)); clear BK647 HB; have BK647 := n0_; have HB := n1_; have BK648 := n2_; have GW648 := n3_; have GE648 := n4_; have NB647_648 := n5_; have NB648_647 := n6_; clear n0_ n1_ n2_ n3_ n4_ n5_ n6_; clear hb hbox hg) | ((with_reducible refine gate_dst (N := 7) rfl ?_); refine box_event ?hg (N := 7) ?hd (cs := #[.slice A3_0 l3_0.length c3_0, .slice A3_1 l3_1.length c3_1, .slice A3_2 l3_2.length c3_2]) (t := 31) ?hr ?_; (case hd => rfl); (case hg => rfl); (case hr => exact zh); intro gb649 hg w43 hbox hb; have n0_ := am (zbb BK647.out hb); have n1_ := am (zbb BK648.out hb); have n2_ := am (below_step (zl2 HB.out GE647.out GE648.out) hb); have n3_ := am (hbox); have n4_ := am ((by rw [hg]; exact (below_size (zl2 HB.out GE647.out GE648.out)) : w.heap.size ≤ gb649)); have n5_ := am ((by rw [hg]; exact (below_size (zl2 HB.out GE647.out GE648.out)) : w.heap.size ≤ gb649)); have n6_ := am ((by rw [hg]; exact Nat.ne_of_lt (blk_lt (g := gb647) (o := .cells #[.slice A0_0 l0_0.length c0_0] 27 (0, 0)) (zb BK647.out)) : gb647 ≠ gb649)); have n7_ := am ((by rw [hg]; exact Nat.ne_of_gt (blk_lt (g := gb647) (o := .cells #[.slice A0_0 l0_0.length c0_0] 27 (0, 0)) (zb BK647.out)) : gb649 ≠ gb647)); have n8_ := am ((by rw [hg]; exact Nat.ne_of_lt (blk_lt (g := gb648) (o := .cells #[.slice A2_0 l2_0.length c2_0, .slice A2_1 l2_1.length c2_1, .slice A2_2 l2_2.length c2_2] 31 (0, 0)) (zb BK648.out)) : gb648 ≠ gb649)); have n9_ := am ((by rw [hg]; exact Nat.ne_of_gt (blk_lt (g := gb648) (o := .cells #[.slice A2_0 l2_0.length c2_0, .slice A2_1 l2_1.length c2_1, .slice A2_2 l2_2.length c2_2] 31 (0, 0)) (zb BK648.out)) : gb649 ≠ gb648)); clear BK647 BK648 HB; have BK647 := n0_; have BK648 := n1_; have HB := n2_; have BK649 := n3_; have GW649 := n4_; have GE649 := n5_; have NB647_649 := n6_; have NB649_647 := n7_; have NB648_649 := n8_; have NB649_648 := n9_; clear n0_ n1_ n2_ n3_ n4_ n5_ n6_ n7_ n8_ n9_; clear hb hbox hg) | ((with_reducible refine gate_callee (f := 12) rfl ?_); refine goesL_ (some 13) rfl rfl Tryz.func12 (by kernel_rfl) rfl #[] rfl zm ?_; (with_reducible refine (quiverlaw22_awake.calls k  false _ ?side1 A5.out).mono ?_); (case side1 => exact GL.below HG.out (zl3 HB.out GE647.out GE648.out GE649.out)); rintro e w44 ⟨rfl, hb⟩; refine ⟨_, rfl, ?_⟩; have n0_ := am (zbb BK647.out hb); have n1_ := am (zbb BK648.out hb); have n2_ := am (zbb BK649.out hb); have n3_ := am (below_step (zl3 HB.out GE647.out GE648.out GE649.out) hb); clear BK647 BK648; clear BK649 HB; have BK647 := n0_; have BK648 := n1_; have BK649 := n2_; have HB := n3_; clear n0_ n1_ n2_ n3_; (try clear hb); (try clear hb2); (try clear hk); (try clear hi)))
  go_ret
  exact ⟨ze, zl3 HB.out GE647.out GE648.out GE649.out⟩

end Go.Proofs.YtkcmkedboflklaaGreatDoor.Q
namespace Go.Proofs.YtkcmkedboflklaaGreatDoor.Q
open Go.RowKit Go.Proofs.YtkcmkedboflklaaGreatDoorW.PrintWords Go.Proofs.YtkcmkedboflklaaGreatDoorW.PrintLast Go.Proofs.YtkcmkedboflklaaGreatDoorW.PrintMore
theorem SameInts_T (xs ys : List Int) (h : xs.length < 9223372036854775808) : T (fun k => quiverlaw0_SameInts.f k xs ys) (decide (xs = ys)) := by
  unfold quiverlaw0_SameInts.f
  by_cases hl : (xs.length : Int) = (ys.length : Int)
  · refine T.ite hl ?_
    have main : ∀ n i : Nat, i + n = xs.length → xs.take i = ys.take i → T (fun k => quiverlaw0_SameInts.l0 k xs ys (i : Int)) (decide (xs = ys)) := by
      intro n
      induction n with
      | zero =>
        intro i hi ht
        refine T.succ ?_
        simp only [quiverlaw0_SameInts.l0]
        refine T.ite' (by omega) (T.const ?_)
        rw [List.take_of_length_le (by omega), List.take_of_length_le (by omega)] at ht
        rw [ht]; simp
      | succ n ih =>
        intro i hi ht
        have h1 : i < xs.length := by omega
        have h2 : i < ys.length := by omega
        refine T.succ ?_
        simp only [quiverlaw0_SameInts.l0]
        rw [rd_get xs i h1, rd_get ys i h2, show wrap64 ((i : Int) + 1) = ((i + 1 : Nat) : Int) by rw [wrap64_id (by omega) (by omega)]; omega]
        refine T.ite (by omega) (T.ite (by omega) (T.ite (by omega) ?_))
        by_cases e : xs[i] = ys[i]
        · refine T.ite e (ih (i + 1) (by omega) ?_)
          rw [List.take_succ_eq_append_getElem h1, List.take_succ_eq_append_getElem h2, ht, e]
        · refine T.ite' e (T.const ?_)
          have : xs ≠ ys := fun h => e (by subst h; rfl)
          simp [this]
    exact main xs.length 0 (by omega) rfl
  · refine T.ite' hl (T.const ?_)
    have : xs ≠ ys := fun h => hl (by rw [h])
    simp [this]
theorem SameTexts_T (xs ys : List ByteArray) (h : xs.length < 9223372036854775808) : T (fun k => quiverlaw0_SameTexts.f k xs ys) (decide (xs = ys)) := by
  unfold quiverlaw0_SameTexts.f
  by_cases hl : (xs.length : Int) = (ys.length : Int)
  · refine T.ite hl ?_
    have main : ∀ n i : Nat, i + n = xs.length → xs.take i = ys.take i → T (fun k => quiverlaw0_SameTexts.l0 k xs ys (i : Int)) (decide (xs = ys)) := by
      intro n
      induction n with
      | zero =>
        intro i hi ht
        refine T.succ ?_
        simp only [quiverlaw0_SameTexts.l0]
        refine T.ite' (by omega) (T.const ?_)
        rw [List.take_of_length_le (by omega), List.take_of_length_le (by omega)] at ht
        rw [ht]; simp
      | succ n ih =>
        intro i hi ht
        have h1 : i < xs.length := by omega
        have h2 : i < ys.length := by omega
        refine T.succ ?_
        simp only [quiverlaw0_SameTexts.l0]
        rw [rdOf_get _ xs i h1, rdOf_get _ ys i h2, show wrap64 ((i : Int) + 1) = ((i + 1 : Nat) : Int) by rw [wrap64_id (by omega) (by omega)]; omega]
        refine T.ite (by omega) (T.ite (by omega) (T.ite (by omega) ?_))
        by_cases e : (xs[i]).toList = (ys[i]).toList
        · refine T.ite e (ih (i + 1) (by omega) ?_)
          rw [toList_ls, toList_ls] at e
          rw [List.take_succ_eq_append_getElem h1, List.take_succ_eq_append_getElem h2, ht, ls_inj e]
        · refine T.ite' e (T.const ?_)
          have : xs ≠ ys := fun h => e (by subst h; rfl)
          simp [this]
    exact main xs.length 0 (by omega) rfl
  · refine T.ite' hl (T.const ?_)
    have : xs ≠ ys := fun h => hl (by rw [h])
    simp [this]
theorem SameColumn_T (a1 b1 : List Int) (v1 : List ByteArray) (a2 b2 : List Int) (v2 : List ByteArray) (h1 : a1.length < 9223372036854775808) (h2 : b1.length < 9223372036854775808) (h3 : v1.length < 9223372036854775808) :
    T (fun k => quiverlaw0_SameColumn.f k a1 b1 v1 a2 b2 v2) (decide (a1 = a2 ∧ b1 = b2 ∧ v1 = v2)) := by
  unfold quiverlaw0_SameColumn.f
  have s1 := SameInts_T a1 a2 h1
  have s2 := SameInts_T b1 b2 h2
  have s3 := SameTexts_T v1 v2 h3
  by_cases e1 : a1 = a2
  · by_cases e2 : b1 = b2
    · exact T.bind s1 (T.ite (by simpa using e1) (T.bind s2 (T.ite (by simpa using e2) (T.bind s3 (T.const (by simp [e1, e2]))))))
    · exact T.bind s1 (T.ite (by simpa using e1) (T.bind s2 (T.ite' (by simpa using e2) (T.const (by simp [e2])))))
  · exact T.bind s1 (T.ite' (by simpa using e1) (T.const (by simp [e1])))
theorem Num_some (e : Int) : quiverlaw0_Num.f e = some e := rfl
theorem PageUnlike_T (t : List S24) (leaf : Int) (a1 b1 : List Int) (v1 : List ByteArray) (a2 b2 : List Int) (v2 : List ByteArray)
    (h1 : a1.length < 9223372036854775808) (h2 : b1.length < 9223372036854775808) (h3 : v1.length < 9223372036854775808)
    (h4 : a2.length < 9223372036854775808) (h5 : b2.length < 9223372036854775808) (h6 : v2.length < 9223372036854775808) :
    T (fun k => quiverlaw22_PageUnlike.f k t leaf a1 b1 v1 a2 b2 v2) true := by
  obtain ⟨rep, de, er, s, e, l1, l2, l3, l4, l5, p1, p2⟩ := PagePut_T t leaf a1 b1 v1 h1 h2 h3
  obtain ⟨rep', de', er', u, f, l1', l2', l3', l4', l5', p1', p2'⟩ := PagePut_T t leaf a2 b2 v2 h4 h5 h6
  have hlev := T.uniq l1 l1'
  simp only [Prod.mk.injEq] at hlev
  obtain ⟨hr, hd, _⟩ := hlev
  subst hr hd
  have hE : (bs []).toList = ([] : List UInt8) := by rw [toList_ls]
  unfold quiverlaw22_PageUnlike.f
  refine T.bind awake22_T (T.ite rfl (T.bind p1 (T.bind p1' (T.cbind (Num_some _) ?_))))
  rcases p2 with ⟨e0, s0⟩ | ⟨e0, c1, body, q1, q2, q3⟩
  · subst e0 s0
    refine T.ite' (by decide) (T.succ ?_)
    simp only [quiverlaw22_PageUnlike.j0]
    refine T.ite trivial (T.cbind (Num_some _) (T.ite' (by decide) (T.ite hE (T.cbind (Num_some _) ?_))))
    rcases p2' with ⟨e0', s0'⟩ | ⟨e0', c1', body', q1', q2', q3'⟩
    · subst e0' s0'
      exact T.ite' (by decide) (T.const (by rw [hE]; rfl))
    · subst e0'
      exact T.ite rfl (T.const rfl)
  · subst e0
    refine T.ite rfl (T.cbind (Num_some _) (T.succ ?_))
    simp only [quiverlaw22_PageUnlike.j0]
    rcases p2' with ⟨e0', s0'⟩ | ⟨e0', c1', body', q1', q2', q3'⟩
    · subst e0' s0'
      refine T.ite (by decide) (T.cbind (Num_some _) (T.ite rfl (T.cbind (Num_some _) (T.ite' (by decide) (T.const ?_)))))
      rw [hE]; rfl
    · subst e0'
      refine T.ite' (by decide) (T.bind (SameColumn_T a1 b1 v1 a2 b2 v2 h1 h2 h3) (T.const ?_))
      congr 1
      rw [toList_ls, toList_ls]
      by_cases hs : a1 = a2 ∧ b1 = b2 ∧ v1 = v2
      · obtain ⟨x1, x2, x3⟩ := hs
        subst x1 x2 x3
        have hu := T.uniq p1 p1'
        simp only [Prod.mk.injEq] at hu
        rw [hu.1]; simp
      · have hne : ls s ≠ ls u := by
          intro hsu
          apply hs
          rw [q2, q2'] at hsu
          obtain ⟨_, w2⟩ := List.append_inj (show wordL (crcV (bs body)) 4 ++ body = wordL (crcV (bs body')) 4 ++ body' from hsu) (by rw [wordL_length, wordL_length])
          rw [← w2] at q1'
          exact PB_inj l2 l3 l4 l5 c1 c1' q1 q1'
        have : (ls s == ls u) = false := by simpa using hne
        rw [this]; simp [hs]
end Go.Proofs.YtkcmkedboflklaaGreatDoor.Q
namespace Go.Proofs.YtkcmkedboflklaaGreatDoor.Q
open Go.RowKit Go.ChangeShapes Go.WideShapes Go.Proofs.YtkcmkedboflklaaGreatDoorW.PrintWords Go.Proofs.YtkcmkedboflklaaGreatDoorW.PrintLast Go.Proofs.YtkcmkedboflklaaGreatDoorW.PrintMore
section
variable {H : Type} {enc : TypeId × Value → H} {W : World}
theorem c3 : Tryz.prog.cellsOf 3 = 1 := by kernel_rfl
theorem c4 : Tryz.prog.cellsOf 4 = 1 := by kernel_rfl
theorem c9 : Tryz.prog.cellsOf 9 = 1 := by kernel_rfl
theorem c24 : Tryz.prog.cellsOf 24 = 3 := by kernel_rfl
theorem c25 : Tryz.prog.cellsOf 25 = 1 := by kernel_rfl
theorem c27 : Tryz.prog.cellsOf 27 = 1 := by kernel_rfl
theorem c28 : Tryz.prog.cellsOf 28 = 1 := by kernel_rfl
theorem c29 : Tryz.prog.cellsOf 29 = 1 := by kernel_rfl
theorem c31 : Tryz.prog.cellsOf 31 = 3 := by kernel_rfl
theorem a_ints {fuel : Nat} {cs : List Value} {x : DataW H × List MemPlace} (h : DataW.trod enc Tryz.prog W 0 (fun _ => true) true fuel 28 cs = some x) :
    ∃ A c xs, cs = [.slice A xs.length c] ∧ xs.length ≤ c ∧ xs.length < 9223372036854775808 ∧ Kd.C (Kd.int .i64) W A xs.length xs := by
  rcases open_ints Tryz.underlying28 Tryz.underlying3 c3 h with ⟨rfl, _⟩ | ⟨a, len, cap, zs, rfl, _, hl, hm, hz, _, hcell, _⟩
  · exact ⟨none, 0, [], rfl, Nat.le_refl _, by decide, rfl, by decide, fun h => by simp at h⟩
  · simp only [if_pos] at hz
    have hlen : (zs.take len).length = len := by rw [List.length_take]; omega
    have hmm : cap ≤ 9223372036854775807 := hm
    refine ⟨some a, cap, zs.take len, by rw [hlen], by omega, by omega, rfl, by omega, fun _ => ⟨a, rfl, fun j p hp => ?_⟩⟩
    have hj : j < len := by
      have := (List.getElem?_eq_some_iff.1 hp).1
      omega
    refine ⟨[.int .i64 p], rfl, rfl, fun i u hu => ?_⟩
    have hi : i = 0 := by
      have := (List.getElem?_eq_some_iff.1 hu).1
      simp at this; omega
    subst hi
    obtain rfl : u = .int .i64 p := by simpa using hu.symm
    show W.cell? (a.add (j * 1 + 0)) = _
    rw [hcell (j * 1 + 0) (by omega)]
    rw [List.getElem?_take_of_lt hj] at hp
    simp [hp]
theorem a_strs {fuel : Nat} {cs : List Value} {x : DataW H × List MemPlace} (h : DataW.trod enc Tryz.prog W 0 (fun _ => true) true fuel 29 cs = some x) :
    ∃ A c xs, cs = [.slice A xs.length c] ∧ xs.length ≤ c ∧ xs.length < 9223372036854775808 ∧ Kd.C Kd.string W A xs.length xs := by
  rcases open_strings Tryz.underlying29 Tryz.underlying9 c9 h with ⟨rfl, _⟩ | ⟨a, len, cap, zs, rfl, _, hl, hm, hz, _, hcell, _⟩
  · exact ⟨none, 0, [], rfl, Nat.le_refl _, by decide, rfl, by decide, fun h => by simp at h⟩
  · simp only [if_pos] at hz
    have hlen : (zs.take len).length = len := by rw [List.length_take]; omega
    have hmm : cap ≤ 9223372036854775807 := hm
    refine ⟨some a, cap, zs.take len, by rw [hlen], by omega, by omega, rfl, by omega, fun _ => ⟨a, rfl, fun j p hp => ?_⟩⟩
    have hj : j < len := by
      have := (List.getElem?_eq_some_iff.1 hp).1
      omega
    refine ⟨[.string p], rfl, rfl, fun i u hu => ?_⟩
    have hi : i = 0 := by
      have := (List.getElem?_eq_some_iff.1 hu).1
      simp at this; omega
    subst hi
    obtain rfl : u = .string p := by simpa using hu.symm
    show W.cell? (a.add (j * 1 + 0)) = _
    rw [hcell (j * 1 + 0) (by omega)]
    rw [List.getElem?_take_of_lt hj] at hp
    simp [hp]
theorem add_add (a : Addr) (i j : Nat) : (a.add i).add j = a.add (i + j) := by
  unfold Addr.add
  by_cases hi : i = 0 <;> by_cases hj : j = 0 <;> simp [hi, hj, Nat.add_assoc]
theorem cells_at {w : World} {a : Addr} {n : Nat} {l : List Value} (h : w.cells? 0 a n = some l) : l.length = n ∧ ∀ i v, l[i]? = some v → w.cell? (a.add i) = some v := by
  have hs := World.cells?_some h
  refine ⟨hs.2.1, fun i v hv => ?_⟩
  have hi : i < n := by
    have := (List.getElem?_eq_some_iff.1 hv).1
    rwa [hs.2.1] at this
  rw [hs.2.2 i hi, hv]
theorem a_nodes {fuel : Nat} {cs : List Value} {x : DataW H × List MemPlace} (h : DataW.trod enc Tryz.prog W 0 (fun _ => true) true fuel 25 cs = some x) :
    ∃ A c xs, cs = [.slice A xs.length c] ∧ xs.length ≤ c ∧ xs.length < 9223372036854775808 ∧ Kd.C k24 W A xs.length xs := by
  rcases Go.Deep.open_slice Tryz.underlying25 h with ⟨rfl, _⟩ | ⟨a, len, cap, m, n, D, Pl, rfl, _, hl, hm, hmm, _, hel⟩
  · exact ⟨none, 0, [], rfl, Nat.le_refl _, by decide, rfl, by decide, fun h => by simp at h⟩
  · simp only [if_pos] at hmm
    have hcap : cap ≤ 9223372036854775807 := hm
    rw [c24] at hel
    have each : ∀ i, ∃ s : S24, i < m → ∀ j u, [Value.int .i64 s.f0, .int .i64 s.f1, .bool s.f2][j]? = some u → W.cell? (a.add (i * 3 + j)) = some u := by
      intro i
      by_cases hi : i < m
      · obtain ⟨cs', h1, h2⟩ := hel i hi
        obtain ⟨y0, y1, y2, n', _, hlen, e0, e1, e2⟩ := Go.Deep.trod_struct3 Tryz.underlying24 h2
        simp only [c3, c4] at e0 e1 e2
        obtain ⟨z0, u0, _⟩ := DataW.trod_int Tryz.underlying3 e0
        obtain ⟨z1, u1, _⟩ := DataW.trod_int Tryz.underlying3 e1
        obtain ⟨b, u2, _⟩ := DataW.trod_bool Tryz.underlying4 e2
        rw [c24] at hlen
        obtain ⟨_, hc⟩ := cells_at h1
        match cs', hlen with
        | [q0, q1, q2], _ =>
          simp at u0 u1 u2
          subst u0 u1 u2
          refine ⟨⟨z0, z1, b⟩, fun _ j u hu => ?_⟩
          have := hc j u hu
          rwa [add_add] at this
      · exact ⟨z24, fun h => absurd h hi⟩
    refine ⟨some a, cap, (List.range len).map fun i => (each i).choose, by simp, by simpa using hl, by simp; omega, rfl, by simp; omega, fun _ => ⟨a, rfl, fun j p hp => ?_⟩⟩
    have hj : j < len := by
      have := (List.getElem?_eq_some_iff.1 hp).1
      simpa using this
    have hpe : p = (each j).choose := by
      rw [List.getElem?_map, List.getElem?_range hj] at hp
      exact (Option.some.inj hp).symm
    refine ⟨_, rfl, k24_mk W p, fun i u hu => ?_⟩
    rw [hpe] at hu
    exact (each j).choose_spec (by omega) i u hu
set_option maxRecDepth 100000 in
theorem a_type {base : Nat} {v : Value} {d : DataW H} {ps : List MemPlace} (hv : Value.okWide Tryz.prog W .any base 27 v) (h : DataW.Trod enc Tryz.prog W 0 (fun _ => true) true 27 v d ps) :
    ∃ A c l, v = .agg #[.slice A l.length c] ∧ l.length ≤ c ∧ l.length < 9223372036854775808 ∧ Kd.C k24 W A l.length l := by
  obtain ⟨cs, rfl, hsz⟩ := okWide_struct Tryz.underlying27 hv
  obtain ⟨fuel, hf⟩ := h
  obtain ⟨y0, n, _, hlen, e0⟩ := trod_struct1 Tryz.underlying27 hf
  rw [c27] at hsz
  simp only [c25] at e0
  obtain ⟨A, c, l, e1, e2, e3, e4⟩ := a_nodes e0
  obtain ⟨q⟩ := cs
  match q, hsz with
  | [q0], _ =>
    simp [Value.cells] at e1
    subst e1
    exact ⟨A, c, l, rfl, e2, e3, e4⟩
set_option maxRecDepth 100000 in
theorem a_column {base : Nat} {v : Value} {d : DataW H} {ps : List MemPlace} (hv : Value.okWide Tryz.prog W .any base 31 v) (h : DataW.Trod enc Tryz.prog W 0 (fun _ => true) true 31 v d ps) :
    ∃ A0 c0 l0 A1 c1 l1 A2 c2 l2, v = .agg #[.slice A0 l0.length c0, .slice A1 l1.length c1, .slice A2 l2.length c2] ∧
      (l0.length ≤ c0 ∧ l0.length < 9223372036854775808 ∧ Kd.C (Kd.int .i64) W A0 l0.length l0) ∧ (l1.length ≤ c1 ∧ l1.length < 9223372036854775808 ∧ Kd.C (Kd.int .i64) W A1 l1.length l1) ∧
      (l2.length ≤ c2 ∧ l2.length < 9223372036854775808 ∧ Kd.C Kd.string W A2 l2.length l2) := by
  obtain ⟨cs, rfl, hsz⟩ := okWide_struct Tryz.underlying31 hv
  obtain ⟨fuel, hf⟩ := h
  obtain ⟨y0, y1, y2, n, _, hlen, e0, e1, e2⟩ := Go.Deep.trod_struct3 Tryz.underlying31 hf
  rw [c31] at hsz
  simp only [c28, c29] at e0 e1 e2
  obtain ⟨A0, c0, l0, f1, f2, f3, f4⟩ := a_ints e0
  obtain ⟨A1, c1, l1, g1, g2, g3, g4⟩ := a_ints e1
  obtain ⟨A2, c2, l2, h1, h2, h3, h4⟩ := a_strs e2
  obtain ⟨q⟩ := cs
  match q, hsz with
  | [q0, q1, q2], _ =>
    simp [Value.cells] at f1 g1 h1
    subst f1 g1 h1
    exact ⟨A0, c0, l0, A1, c1, l1, A2, c2, l2, rfl, ⟨f2, f3, f4⟩, ⟨g2, g3, g4⟩, ⟨h2, h3, h4⟩⟩
end
theorem gMax : Tryz.prog.globalNamed "internal/bytealg.MaxLen" = some 3 := by kernel_rfl
set_option maxRecDepth 100000 in
theorem maxlen {W : World} (h : W.ShapedOpen Tryz.prog) : ∃ m, W.var? Tryz.prog "internal/bytealg.MaxLen" = some #[.int .i64 m] := by
  obtain ⟨cs, hh, hs, hr⟩ := h.1 3 #[.int .i64 0] 3 (of_decide_eq_true (by kernel_rfl)) (by kernel_rfl)
  obtain ⟨ts, hts, _, hall⟩ := hr (by kernel_rfl)
  obtain rfl : ts = [3] := Option.some.inj (hts.symm.trans (by kernel_rfl))
  obtain ⟨q⟩ := cs
  match q, hs with
  | [c], _ =>
    obtain ⟨u, hu, hok⟩ := hall 0 c rfl
    obtain rfl : u = 3 := by simpa using hu.symm
    unfold Cell.ok at hok
    rw [Tryz.underlying3] at hok
    have hv : W.var? Tryz.prog "internal/bytealg.MaxLen" = some #[c] := by
      unfold World.var?
      rw [gMax]
      simp [hh]
    rw [hv]
    cases c <;> simp at hok
    exact ⟨_, by rw [hok.1]⟩
theorem tr {H : Type} {enc : TypeId × Value → H} {W : World} {fuel : Nat} {t : TypeId} {ms : Array (String × TypeId)} {cs : List Value} {x : DataW H} {p : List MemPlace} (ht : Tryz.prog.underlying t = some (.interface ms)) (n : String)
   (h : DataW.trod enc Tryz.prog W 0 (fun _ => true) false fuel t cs = some (.iface n x, p)) : ∃ u y, cs = [.iface u y] := by
  cases fuel with
  | zero => simp [DataW.trod] at h
  | succ fuel =>
    simp only [DataW.trod, ht] at h
    match cs, h with
    | [], h => simp at h
    | [c], h =>
      cases c with
      | iface u y => exact ⟨u, y, rfl⟩
      | _ => simp at h
    | _ :: _ :: _, h => simp at h
theorem pow10_eq : (Rows.laid_internal_strconv_uint64pow10 : DataW Unit) = Lib.tabData .u64 Lib.pow10Tab := by kernel_rfl
set_option maxRecDepth 100000 in
/-- What the row's list and the row's shape give the walks. -/
theorem GL_of {W : World} (hs : W.ShapedOpen Tryz.prog) (h : laidMetH Tryz.prog [("math/bits.deBruijn32tab", Rows.laid_math_bits_deBruijn32tab), ("math/bits.deBruijn64tab", Rows.laid_math_bits_deBruijn64tab), ("internal/strconv.uint64pow10", Rows.laid_internal_strconv_uint64pow10), ("strconv.ErrRange", Rows.laid_strconv_ErrRange), ("strconv.ErrSyntax", Rows.laid_strconv_ErrSyntax)] W) : GL W := by
  rw [MakeChecks.laidMetH_plain _ _ _ (by kernel_rfl)] at h
  obtain ⟨ps, ⟨_, _, _, _, _, _, _, _, _, _, ⟨_, _, _, _, _, _, _, _, _, _, ⟨g2, t2, cs2, f2, p2, q2, hg2, ht2, hv2, hd2, ⟨g3, t3, cs3, f3, p3, q3, hg3, ht3, hv3, hd3, ⟨g4, t4, cs4, f4, p4, q4, hg4, ht4, hv4, hd4, _, _⟩, _⟩, _⟩, _⟩, _⟩, _, _⟩ := h
  obtain rfl := Option.some.inj ((show Tryz.prog.globalNamed "internal/strconv.uint64pow10" = some 2 by kernel_rfl).symm.trans hg2)
  obtain rfl := Option.some.inj ((show Tryz.prog.globalNamed "strconv.ErrRange" = some 1 by kernel_rfl).symm.trans hg3)
  obtain rfl := Option.some.inj ((show Tryz.prog.globalNamed "strconv.ErrSyntax" = some 0 by kernel_rfl).symm.trans hg4)
  obtain rfl := Option.some.inj ((show (Tryz.prog.globals[2]?).map (·.type) = some 201 by kernel_rfl).symm.trans ht2)
  obtain rfl := Option.some.inj ((show (Tryz.prog.globals[1]?).map (·.type) = some 75 by kernel_rfl).symm.trans ht3)
  obtain rfl := Option.some.inj ((show (Tryz.prog.globals[0]?).map (·.type) = some 75 by kernel_rfl).symm.trans ht4)
  refine ⟨maxlen hs, ?_, ?_, ?_⟩
  · rw [pow10_eq] at hd2
    have := Lib.cells_of_tab Tryz.underlying201 Tryz.underlying111 (by kernel_rfl) (by kernel_rfl) hd2
    rw [hv2, ← this]
  · obtain ⟨u, y, e⟩ := tr Tryz.underlying75 _ hd4
    obtain ⟨l⟩ := cs4
    have e : l = _ := e
    exact ⟨u, y, by rw [hv4, e]⟩
  · obtain ⟨u, y, e⟩ := tr Tryz.underlying75 _ hd3
    obtain ⟨l⟩ := cs3
    have e : l = _ := e
    exact ⟨u, y, by rw [hv3, e]⟩
end Go.Proofs.YtkcmkedboflklaaGreatDoor.Q
