/- Steps towards: PageUnlike: unlike columns have unlike pages, for every type, every leaf and every two columns; no condition beside the row's own (the library's listed variables hold what the program's text lays). -/
import Derived.Test.YtkcmkedboflklaaGreatDoorA2
namespace Go.Proofs.YtkcmkedboflklaaGreatDoor.Q
open Go.RowKit Go.Proofs.YtkcmkedboflklaaGreatDoorW.PrintWords Go.Proofs.YtkcmkedboflklaaGreatDoorW.PrintLast Go.Proofs.YtkcmkedboflklaaGreatDoorW.PrintMore
attribute [local go_sem] max2_int min2_int max_two min_two max_three min_three max_four min_four
set_option linter.unusedVariables false
set_option linter.unusedSimpArgs false
set_option maxHeartbeats 8000000
set_option maxRecDepth 100000

def quiverlaw0_SameTexts.l0 : Nat → List ByteArray → List ByteArray → Int → Option (Bool)
 | 0, _, _, _ => none
 | k + 1, x0, x1, x5 => if x5 < (x0.length : Int) then (if 0 ≤ x5 then (if x5 < (x1.length : Int) then (if (rdOf ByteArray.empty x0 x5).toList = (rdOf ByteArray.empty x1 x5).toList then (quiverlaw0_SameTexts.l0 k x0 x1 (wrap64 (x5 + 1))) else (some false)) else (none)) else (none)) else (some true)
def quiverlaw0_SameTexts.f (k : Nat) (l0 : List ByteArray) (l1 : List ByteArray) : Option (Bool) := if (l0.length : Int) = (l1.length : Int) then (quiverlaw0_SameTexts.l0 k l0 l1 0) else (some false)
theorem quiverlaw0_SameTexts.calls (k : Nat) (A0 : Option Addr) (c0 : Nat) (l0 : List ByteArray) (A1 : Option Addr) (c1 : Nat) (l1 : List ByteArray) (r : Bool) (w : World) (hr0 : Kd.C Kd.string w A0 l0.length l0) (hc0 : l0.length ≤ c0) (hr1 : Kd.C Kd.string w A1 l1.length l1) (hc1 : l1.length ≤ c1) (h : quiverlaw0_SameTexts.f k l0 l1 = some r) :
  Calls Tryz.prog 27 #[.slice A0 l0.length c0, .slice A1 l1.length c1] w fun e w' => e = .returned (.bool r) ∧ Drawn0 w w' := by
 have HR0 := am hr0
 have HC0 := am hc0
 clear hr0 hc0
 have HR1 := am hr1
 have HC1 := am hc1
 clear hr1 hc1
 have H : (if (l0.length : Int) = (l1.length : Int) then (quiverlaw0_SameTexts.l0 k l0 l1 0) else (some false)) = some r := h
 clear h
 by_cases c3 : (l0.length : Int) = (l1.length : Int)
 ·
  rw [if_pos c3] at H
  have c3b0 := beq_iff_eq.mpr c3
  have c3b1 := bne_eq_false_iff_eq.mpr c3
  have c3b2 : (l0.length == l1.length) = true := by first | simpa using c3 | (simp at c3 ⊢; omega)
  clear c3
  have H' := am H
  clear H
  go_enter Tryz.func27, Tryz.ntmps27
  go_wp2
  repeat (go_quiet (fail); try go_wp2)
  (try simp only [Act.put, List.setIfInBounds_toArray, List.set_cons_zero, List.set_cons_succ])
  go_loopg [5] k (fun kq v5 w' => ∃ (x5_1 : Int), v5 = .int .i64 x5_1 ∧ Aside0 (quiverlaw0_SameTexts.l0 kq l0 l1 x5_1 = some r) ∧ Aside0 (kq ≤ k) ∧ Drawn0 w w')
  case atStart => exact ⟨(0), zs, H', ⟨Nat.le_refl _⟩, by repeat (first | exact Drawn0.refl _ | apply Drawn0.step)⟩
  case round =>
   clear H'
   try clear c1
   try clear c2
   try clear p2
   try clear c3
   try clear c3b0
   try clear c3b1
   try clear c3b2
   obtain ⟨x5_1, rfl, HA, HK1, ⟨m1, rfl⟩⟩ := hrel
   cases gk with
   | zero => exact absurd HA.out (by simp [quiverlaw0_SameTexts.l0])
   | succ k1 =>
    have H := HA.out
    clear HA
    simp only [quiverlaw0_SameTexts.l0] at H
    by_cases c4 : x5_1 < (l0.length : Int)
    ·
     rw [if_pos c4] at H
     have c4b0 := decide_eq_true c4
     clear c4
     by_cases c5 : 0 ≤ x5_1
     ·
      rw [if_pos c5] at H
      have c5b0 := decide_eq_true c5
      clear c5
      by_cases c6 : x5_1 < (l1.length : Int)
      ·
       rw [if_pos c6] at H
       have c6b0 := decide_eq_true c6
       clear c6
       by_cases c7 : (rdOf ByteArray.empty l0 x5_1).toList = (rdOf ByteArray.empty l1 x5_1).toList
       ·
        rw [if_pos c7] at H
        have c7b0 := beq_iff_eq.mpr c7
        have c7b1 := bne_eq_false_iff_eq.mpr c7
        clear c7
        have H' := am H
        clear H
        have p549 : 0 ≤ (x5_1 : Int) := of_decide_eq_true za
        have q549 : x5_1 < (l0.length : Int) := of_decide_eq_true za
        obtain ⟨ad549, e549, hx549_0⟩ := Kd.at_string HR0.out x5_1 p549 q549
        cases e549
        replace p549 := eq_true p549
        replace q549 := eq_true q549
        have p550 : 0 ≤ (x5_1 : Int) := of_decide_eq_true za
        have q550 : x5_1 < (l1.length : Int) := of_decide_eq_true za
        obtain ⟨ad550, e550, hx550_0⟩ := Kd.at_string HR1.out x5_1 p550 q550
        cases e550
        replace p550 := eq_true p550
        replace q550 := eq_true q550
        go_wp2
        repeat (go_quiet (fail); try go_wp2)
        go_roundg k1
        case measure => have := HK1.out; omega
        case rel => exact ⟨(wrap64 (x5_1 + 1)), zs, H', ⟨by have := HK1.out; omega⟩, by repeat (first | exact Drawn0.refl _ | apply Drawn0.step)⟩
       ·
        rw [if_neg c7] at H
        have c7b0 := beq_eq_false_iff_ne.mpr c7
        have c7b1 := bne_iff_ne.mpr c7
        obtain rfl := Option.some.inj H
        have p549 : 0 ≤ (x5_1 : Int) := of_decide_eq_true za
        have q549 : x5_1 < (l0.length : Int) := of_decide_eq_true za
        obtain ⟨ad549, e549, hx549_0⟩ := Kd.at_string HR0.out x5_1 p549 q549
        cases e549
        replace p549 := eq_true p549
        replace q549 := eq_true q549
        have p550 : 0 ≤ (x5_1 : Int) := of_decide_eq_true za
        have q550 : x5_1 < (l1.length : Int) := of_decide_eq_true za
        obtain ⟨ad550, e550, hx550_0⟩ := Kd.at_string HR1.out x5_1 p550 q550
        cases e550
        replace p550 := eq_true p550
        replace q550 := eq_true q550
        go_wp2
        repeat (go_quiet (fail); try go_wp2)
        go_ret
        exact ⟨by first | rfl | (simp; done) | (simp [*]; done), by repeat (first | exact Drawn0.refl _ | apply Drawn0.step)⟩
      ·
       rw [if_neg c6] at H
       exact absurd H (by simp)
     ·
      rw [if_neg c5] at H
      exact absurd H (by simp)
    ·
     rw [if_neg c4] at H
     have c4b0 := decide_eq_false c4
     clear c4
     obtain rfl := Option.some.inj H
     go_wp2
     repeat (go_quiet (fail); try go_wp2)
     go_ret
     exact ⟨by first | rfl | (simp; done) | (simp [*]; done), by repeat (first | exact Drawn0.refl _ | apply Drawn0.step)⟩
 ·
  rw [if_neg c3] at H
  have c3b0 := beq_eq_false_iff_ne.mpr c3
  have c3b1 := bne_iff_ne.mpr c3
  have c3b2 : (l0.length == l1.length) = false := by first | simpa using c3 | (simp at c3 ⊢; omega)
  obtain rfl := Option.some.inj H
  go_enter Tryz.func27, Tryz.ntmps27
  go_wp2
  repeat (go_quiet (fail); try go_wp2)
  go_ret
  exact ⟨by first | rfl | (simp; done) | (simp [*]; done), by repeat (first | exact Drawn0.refl _ | apply Drawn0.step)⟩

def quiverlaw0_SameInts.l0 : Nat → List Int → List Int → Int → Option (Bool)
 | 0, _, _, _ => none
 | k + 1, x0, x1, x5 => if x5 < (x0.length : Int) then (if 0 ≤ x5 then (if x5 < (x1.length : Int) then (if (rd x0 x5) = (rd x1 x5) then (quiverlaw0_SameInts.l0 k x0 x1 (wrap64 (x5 + 1))) else (some false)) else (none)) else (none)) else (some true)
def quiverlaw0_SameInts.f (k : Nat) (l0 : List Int) (l1 : List Int) : Option (Bool) := if (l0.length : Int) = (l1.length : Int) then (quiverlaw0_SameInts.l0 k l0 l1 0) else (some false)
theorem quiverlaw0_SameInts.calls (k : Nat) (A0 : Option Addr) (c0 : Nat) (l0 : List Int) (A1 : Option Addr) (c1 : Nat) (l1 : List Int) (r : Bool) (w : World) (hr0 : Kd.C (Kd.int .i64) w A0 l0.length l0) (hc0 : l0.length ≤ c0) (hr1 : Kd.C (Kd.int .i64) w A1 l1.length l1) (hc1 : l1.length ≤ c1) (h : quiverlaw0_SameInts.f k l0 l1 = some r) :
  Calls Tryz.prog 50 #[.slice A0 l0.length c0, .slice A1 l1.length c1] w fun e w' => e = .returned (.bool r) ∧ Drawn0 w w' := by
 have HR0 := am hr0
 have HC0 := am hc0
 clear hr0 hc0
 have HR1 := am hr1
 have HC1 := am hc1
 clear hr1 hc1
 have H : (if (l0.length : Int) = (l1.length : Int) then (quiverlaw0_SameInts.l0 k l0 l1 0) else (some false)) = some r := h
 clear h
 by_cases c3 : (l0.length : Int) = (l1.length : Int)
 ·
  rw [if_pos c3] at H
  have c3b0 := beq_iff_eq.mpr c3
  have c3b1 := bne_eq_false_iff_eq.mpr c3
  have c3b2 : (l0.length == l1.length) = true := by first | simpa using c3 | (simp at c3 ⊢; omega)
  clear c3
  have H' := am H
  clear H
  go_enter Tryz.func50, Tryz.ntmps50
  go_wp2
  repeat (go_quiet (fail); try go_wp2)
  (try simp only [Act.put, List.setIfInBounds_toArray, List.set_cons_zero, List.set_cons_succ])
  go_loopg [5] k (fun kq v5 w' => ∃ (x5_1 : Int), v5 = .int .i64 x5_1 ∧ Aside0 (quiverlaw0_SameInts.l0 kq l0 l1 x5_1 = some r) ∧ Aside0 (kq ≤ k) ∧ Drawn0 w w')
  case atStart => exact ⟨(0), zs, H', ⟨Nat.le_refl _⟩, by repeat (first | exact Drawn0.refl _ | apply Drawn0.step)⟩
  case round =>
   clear H'
   try clear c1
   try clear p2
   try clear c3
   try clear c3b0
   try clear c3b1
   try clear c3b2
   obtain ⟨x5_1, rfl, HA, HK1, ⟨m1, rfl⟩⟩ := hrel
   cases gk with
   | zero => exact absurd HA.out (by simp [quiverlaw0_SameInts.l0])
   | succ k1 =>
    have H := HA.out
    clear HA
    simp only [quiverlaw0_SameInts.l0] at H
    by_cases c4 : x5_1 < (l0.length : Int)
    ·
     rw [if_pos c4] at H
     have c4b0 := decide_eq_true c4
     clear c4
     by_cases c5 : 0 ≤ x5_1
     ·
      rw [if_pos c5] at H
      have c5b0 := decide_eq_true c5
      clear c5
      by_cases c6 : x5_1 < (l1.length : Int)
      ·
       rw [if_pos c6] at H
       have c6b0 := decide_eq_true c6
       clear c6
       by_cases c7 : (rd l0 x5_1) = (rd l1 x5_1)
       ·
        rw [if_pos c7] at H
        have c7b0 := beq_iff_eq.mpr c7
        have c7b1 := bne_eq_false_iff_eq.mpr c7
        clear c7
        have H' := am H
        clear H
        have p551 : 0 ≤ (x5_1 : Int) := of_decide_eq_true za
        have q551 : x5_1 < (l0.length : Int) := of_decide_eq_true za
        obtain ⟨ad551, e551, hx551_0⟩ := Kd.at_int HR0.out x5_1 p551 q551
        cases e551
        replace p551 := eq_true p551
        replace q551 := eq_true q551
        have p552 : 0 ≤ (x5_1 : Int) := of_decide_eq_true za
        have q552 : x5_1 < (l1.length : Int) := of_decide_eq_true za
        obtain ⟨ad552, e552, hx552_0⟩ := Kd.at_int HR1.out x5_1 p552 q552
        cases e552
        replace p552 := eq_true p552
        replace q552 := eq_true q552
        go_wp2
        repeat (go_quiet (fail); try go_wp2)
        go_roundg k1
        case measure => have := HK1.out; omega
        case rel => exact ⟨(wrap64 (x5_1 + 1)), zs, H', ⟨by have := HK1.out; omega⟩, by repeat (first | exact Drawn0.refl _ | apply Drawn0.step)⟩
       ·
        rw [if_neg c7] at H
        have c7b0 := beq_eq_false_iff_ne.mpr c7
        have c7b1 := bne_iff_ne.mpr c7
        obtain rfl := Option.some.inj H
        have p551 : 0 ≤ (x5_1 : Int) := of_decide_eq_true za
        have q551 : x5_1 < (l0.length : Int) := of_decide_eq_true za
        obtain ⟨ad551, e551, hx551_0⟩ := Kd.at_int HR0.out x5_1 p551 q551
        cases e551
        replace p551 := eq_true p551
        replace q551 := eq_true q551
        have p552 : 0 ≤ (x5_1 : Int) := of_decide_eq_true za
        have q552 : x5_1 < (l1.length : Int) := of_decide_eq_true za
        obtain ⟨ad552, e552, hx552_0⟩ := Kd.at_int HR1.out x5_1 p552 q552
        cases e552
        replace p552 := eq_true p552
        replace q552 := eq_true q552
        go_wp2
        repeat (go_quiet (fail); try go_wp2)
        go_ret
        exact ⟨by first | rfl | (simp; done) | (simp [*]; done), by repeat (first | exact Drawn0.refl _ | apply Drawn0.step)⟩
      ·
       rw [if_neg c6] at H
       exact absurd H (by simp)
     ·
      rw [if_neg c5] at H
      exact absurd H (by simp)
    ·
     rw [if_neg c4] at H
     have c4b0 := decide_eq_false c4
     clear c4
     obtain rfl := Option.some.inj H
     go_wp2
     repeat (go_quiet (fail); try go_wp2)
     go_ret
     exact ⟨by first | rfl | (simp; done) | (simp [*]; done), by repeat (first | exact Drawn0.refl _ | apply Drawn0.step)⟩
 ·
  rw [if_neg c3] at H
  have c3b0 := beq_eq_false_iff_ne.mpr c3
  have c3b1 := bne_iff_ne.mpr c3
  have c3b2 : (l0.length == l1.length) = false := by first | simpa using c3 | (simp at c3 ⊢; omega)
  obtain rfl := Option.some.inj H
  go_enter Tryz.func50, Tryz.ntmps50
  go_wp2
  repeat (go_quiet (fail); try go_wp2)
  go_ret
  exact ⟨by first | rfl | (simp; done) | (simp [*]; done), by repeat (first | exact Drawn0.refl _ | apply Drawn0.step)⟩
def quiverlaw0_SameColumn.f (k : Nat) (l0_0 : List Int) (l0_1 : List Int) (l0_2 : List ByteArray) (l1_0 : List Int) (l1_1 : List Int) (l1_2 : List ByteArray) : Option (Bool) := (quiverlaw0_SameInts.f k l0_0 l1_0).bind fun t555 => (if t555 = true then ((quiverlaw0_SameInts.f k l0_1 l1_1).bind fun t556 => (if t556 = true then ((quiverlaw0_SameTexts.f k l0_2 l1_2).bind fun t557 => (some t557)) else (some false))) else (some false))
theorem quiverlaw0_SameColumn.calls (k : Nat) (A0_0 : Option Addr) (c0_0 : Nat) (l0_0 : List Int) (A0_1 : Option Addr) (c0_1 : Nat) (l0_1 : List Int) (A0_2 : Option Addr) (c0_2 : Nat) (l0_2 : List ByteArray) (A1_0 : Option Addr) (c1_0 : Nat) (l1_0 : List Int) (A1_1 : Option Addr) (c1_1 : Nat) (l1_1 : List Int) (A1_2 : Option Addr) (c1_2 : Nat) (l1_2 : List ByteArray) (r : Bool) (w : World) (hr0_0 : Kd.C (Kd.int .i64) w A0_0 l0_0.length l0_0) (hc0_0 : l0_0.length ≤ c0_0) (hr0_1 : Kd.C (Kd.int .i64) w A0_1 l0_1.length l0_1) (hc0_1 : l0_1.length ≤ c0_1) (hr0_2 : Kd.C Kd.string w A0_2 l0_2.length l0_2) (hc0_2 : l0_2.length ≤ c0_2) (hr1_0 : Kd.C (Kd.int .i64) w A1_0 l1_0.length l1_0) (hc1_0 : l1_0.length ≤ c1_0) (hr1_1 : Kd.C (Kd.int .i64) w A1_1 l1_1.length l1_1) (hc1_1 : l1_1.length ≤ c1_1) (hr1_2 : Kd.C Kd.string w A1_2 l1_2.length l1_2) (hc1_2 : l1_2.length ≤ c1_2) (h : quiverlaw0_SameColumn.f k l0_0 l0_1 l0_2 l1_0 l1_1 l1_2 = some r) :
  Calls Tryz.prog 20 #[.agg #[.slice A0_0 l0_0.length c0_0, .slice A0_1 l0_1.length c0_1, .slice A0_2 l0_2.length c0_2], .agg #[.slice A1_0 l1_0.length c1_0, .slice A1_1 l1_1.length c1_1, .slice A1_2 l1_2.length c1_2]] w fun e w' => e = .returned (.bool r) ∧ Below w.heap.size w w' := by
 have hu31 := Tryz.underlying31
 have HR0_0 := am hr0_0
 have HC0_0 := am hc0_0
 clear hr0_0 hc0_0
 have HR0_1 := am hr0_1
 have HC0_1 := am hc0_1
 clear hr0_1 hc0_1
 have HR0_2 := am hr0_2
 have HC0_2 := am hc0_2
 clear hr0_2 hc0_2
 have HR1_0 := am hr1_0
 have HC1_0 := am hc1_0
 clear hr1_0 hc1_0
 have HR1_1 := am hr1_1
 have HC1_1 := am hc1_1
 clear hr1_1 hc1_1
 have HR1_2 := am hr1_2
 have HC1_2 := am hc1_2
 clear hr1_2 hc1_2
 have HB := am (Below.refl w.heap.size w)
 have H : ((quiverlaw0_SameInts.f k l0_0 l1_0).bind fun t555 => (if t555 = true then ((quiverlaw0_SameInts.f k l0_1 l1_1).bind fun t556 => (if t556 = true then ((quiverlaw0_SameTexts.f k l0_2 l1_2).bind fun t557 => (some t557)) else (some false))) else (some false))) = some r := h
 clear h
 replace H := zo H
 obtain ⟨t555, A30, H⟩ := H
 (try dsimp only at H)
 have A3 := am A30
 clear A30
 by_cases c4 : t555 = true
 ·
  subst c4
  rw [if_pos rfl] at H
  replace H := zo H
  obtain ⟨t556, A50, H⟩ := H
  (try dsimp only at H)
  have A5 := am A50
  clear A50
  by_cases c6 : t556 = true
  ·
   subst c6
   rw [if_pos rfl] at H
   replace H := zo H
   obtain ⟨t557, A70, H⟩ := H
   (try dsimp only at H)
   have A7 := am A70
   clear A70
   obtain rfl := Option.some.inj H
   go_enter Tryz.func20, Tryz.ntmps20
   go_wp2_with (first | ((with_reducible refine gate_dst (N := 2) rfl ?_); refine box_event ?hg (N := 2) ?hd (cs := #[.slice A0_0 l0_0.length c0_0, .slice A0_1 l0_1.length c0_1, .slice A0_2 l0_2.length c0_2]) (t := 31) ?hr ?_; (case hd => rfl); (case hg => rfl); (case hr => exact zh); intro gb553 hg w8 hbox hb; have n0_ := am (below_step (zl HB.out) hb); have n1_ := am (hbox); have n2_ := am ((by rw [hg]; exact (below_size (zl HB.out)) : w.heap.size ≤ gb553)); have n3_ := am ((by rw [hg]; exact (below_size (zl HB.out)) : w.heap.size ≤ gb553)); clear HB; have HB := n0_; have BK553 := n1_; have GW553 := n2_; have GE553 := n3_; clear n0_ n1_ n2_ n3_; clear hb hbox hg) | ((with_reducible refine gate_dst (N := 3) rfl ?_); refine box_event ?hg (N := 3) ?hd (cs := #[.slice A1_0 l1_0.length c1_0, .slice A1_1 l1_1.length c1_1, .slice A1_2 l1_2.length c1_2]) (t := 31) ?hr ?_; (case hd => rfl); (case hg => rfl); (case hr => exact zh); intro gb554 hg w9 hbox hb; have n0_ := am (zbb BK553.out hb); have n1_ := am (below_step (zl1 HB.out GE553.out) hb); have n2_ := am (hbox); have n3_ := am ((by rw [hg]; exact (below_size (zl1 HB.out GE553.out)) : w.heap.size ≤ gb554)); have n4_ := am ((by rw [hg]; exact (below_size (zl1 HB.out GE553.out)) : w.heap.size ≤ gb554)); have n5_ := am ((by rw [hg]; exact Nat.ne_of_lt (blk_lt (g := gb553) (o := .cells #[.slice A0_0 l0_0.length c0_0, .slice A0_1 l0_1.length c0_1, .slice A0_2 l0_2.length c0_2] 31 (0, 0)) (zb BK553.out)) : gb553 ≠ gb554)); have n6_ := am ((by rw [hg]; exact Nat.ne_of_gt (blk_lt (g := gb553) (o := .cells #[.slice A0_0 l0_0.length c0_0, .slice A0_1 l0_1.length c0_1, .slice A0_2 l0_2.length c0_2] 31 (0, 0)) (zb BK553.out)) : gb554 ≠ gb553)); clear BK553 HB; have BK553 := n0_; have HB := n1_; have BK554 := n2_; have GW554 := n3_; have GE554 := n4_; have NB553_554 := n5_; have NB554_553 := n6_; clear n0_ n1_ n2_ n3_ n4_ n5_ n6_; clear hb hbox hg; have hnb10 := NB553_554.out; have hnc10 := NB554_553.out; have hcz11_0 : w9.cell? ⟨gb553, 0, none⟩ = some (.slice A0_0 l0_0.length c0_0) := (blk_cell BK553.out 0).trans rfl; have hcz11_1 : w9.cell? ⟨gb553, 1, none⟩ = some (.slice A0_1 l0_1.length c0_1) := (blk_cell BK553.out 1).trans rfl; have hcz11_2 : w9.cell? ⟨gb553, 2, none⟩ = some (.slice A0_2 l0_2.length c0_2) := (blk_cell BK553.out 2).trans rfl; have hfz11_0 := blk_frozen BK553.out 0; have hfz11_1 := blk_frozen BK553.out 1; have hfz11_2 := blk_frozen BK553.out 2; have hcz12_0 : w9.cell? ⟨gb554, 0, none⟩ = some (.slice A1_0 l1_0.length c1_0) := (blk_cell BK554.out 0).trans rfl; have hcz12_1 : w9.cell? ⟨gb554, 1, none⟩ = some (.slice A1_1 l1_1.length c1_1) := (blk_cell BK554.out 1).trans rfl; have hcz12_2 : w9.cell? ⟨gb554, 2, none⟩ = some (.slice A1_2 l1_2.length c1_2) := (blk_cell BK554.out 2).trans rfl; have hfz12_0 := blk_frozen BK554.out 0; have hfz12_1 := blk_frozen BK554.out 1; have hfz12_2 := blk_frozen BK554.out 2) | ((with_reducible refine gate_callee (f := 50) rfl ?_); refine goesL_ (some 9) rfl rfl Tryz.func50 (by kernel_rfl) rfl #[.slice A0_0 l0_0.length c0_0, .slice A1_0 l1_0.length c1_0] rfl zm ?_; (with_reducible refine (quiverlaw0_SameInts.calls k _ _ l0_0 _ _ l1_0 true _ ?side1 ?side2 ?side3 ?side4 A3.out).mono ?_); (case side1 => exact zc (Kd.C_below HR0_0.out HB.out)); (case side2 => exact HC0_0.out); (case side3 => exact zc (Kd.C_below HR1_0.out HB.out)); (case side4 => exact HC1_0.out); rintro e w' ⟨rfl, ⟨nd, rfl⟩⟩; refine ⟨_, rfl, ?_⟩) | (go_at_call 50; (with_reducible refine (quiverlaw0_SameInts.calls k _ _ l0_1 _ _ l1_1 true _ ?side1 ?side2 ?side3 ?side4 A5.out).mono ?_); (case side1 => exact zc (Kd.C_below HR0_1.out (zl2 HB.out GE553.out GE554.out))); (case side2 => exact HC0_1.out); (case side3 => exact zc (Kd.C_below HR1_1.out (zl2 HB.out GE553.out GE554.out))); (case side4 => exact HC1_1.out); rintro e w' ⟨rfl, ⟨nd, rfl⟩⟩) | (go_at_call 27; (with_reducible refine (quiverlaw0_SameTexts.calls k _ _ l0_2 _ _ l1_2 t557 _ ?side1 ?side2 ?side3 ?side4 A7.out).mono ?_); (case side1 => exact zc (Kd.C_below HR0_2.out (zl2 HB.out GE553.out GE554.out))); (case side2 => exact HC0_2.out); (case side3 => exact zc (Kd.C_below HR1_2.out (zl2 HB.out GE553.out GE554.out))); (case side4 => exact HC1_2.out); rintro e w' ⟨rfl, ⟨nd, rfl⟩⟩))
   go_ret
   exact ⟨ze, zl2 HB.out GE553.out GE554.out⟩
  ·
   replace c6 := Bool.eq_false_iff.mpr c6
   subst c6
   rw [if_neg (show ¬ (false = true) by decide)] at H
   obtain rfl := Option.some.inj H
   go_enter Tryz.func20, Tryz.ntmps20
   go_wp2_with (first | ((with_reducible refine gate_dst (N := 2) rfl ?_); refine box_event ?hg (N := 2) ?hd (cs := #[.slice A0_0 l0_0.length c0_0, .slice A0_1 l0_1.length c0_1, .slice A0_2 l0_2.length c0_2]) (t := 31) ?hr ?_; (case hd => rfl); (case hg => rfl); (case hr => exact zh); intro gb553 hg w13 hbox hb; have n0_ := am (below_step (zl HB.out) hb); have n1_ := am (hbox); have n2_ := am ((by rw [hg]; exact (below_size (zl HB.out)) : w.heap.size ≤ gb553)); have n3_ := am ((by rw [hg]; exact (below_size (zl HB.out)) : w.heap.size ≤ gb553)); clear HB; have HB := n0_; have BK553 := n1_; have GW553 := n2_; have GE553 := n3_; clear n0_ n1_ n2_ n3_; clear hb hbox hg) | ((with_reducible refine gate_dst (N := 3) rfl ?_); refine box_event ?hg (N := 3) ?hd (cs := #[.slice A1_0 l1_0.length c1_0, .slice A1_1 l1_1.length c1_1, .slice A1_2 l1_2.length c1_2]) (t := 31) ?hr ?_; (case hd => rfl); (case hg => rfl); (case hr => exact zh); intro gb554 hg w14 hbox hb; have n0_ := am (zbb BK553.out hb); have n1_ := am (below_step (zl1 HB.out GE553.out) hb); have n2_ := am (hbox); have n3_ := am ((by rw [hg]; exact (below_size (zl1 HB.out GE553.out)) : w.heap.size ≤ gb554)); have n4_ := am ((by rw [hg]; exact (below_size (zl1 HB.out GE553.out)) : w.heap.size ≤ gb554)); have n5_ := am ((by rw [hg]; exact Nat.ne_of_lt (blk_lt (g := gb553) (o := .cells #[.slice A0_0 l0_0.length c0_0, .slice A0_1 l0_1.length c0_1, .slice A0_2 l0_2.length c0_2] 31 (0, 0)) (zb BK553.out)) : gb553 ≠ gb554)); have n6_ := am ((by rw [hg]; exact Nat.ne_of_gt (blk_lt (g := gb553) (o := .cells #[.slice A0_0 l0_0.length c0_0, .slice A0_1 l0_1.length c0_1, .slice A0_2 l0_2.length c0_2] 31 (0, 0)) (zb BK553.out)) : gb554 ≠ gb553)); clear BK553 HB; have BK553 := n0_; have HB := n1_; have BK554 := n2_; have GW554 := n3_; have GE554 := n4_; have NB553_554 := n5_; have NB554_553 := n6_; clear n0_ n1_ n2_ n3_ n4_ n5_ n6_; clear hb hbox hg; have hnb15 := NB553_554.out; have hnc15 := NB554_553.out; have hcz16_0 : w14.cell? ⟨gb553, 0, none⟩ = some (.slice A0_0 l0_0.length c0_0) := (blk_cell BK553.out 0).trans rfl; have hcz16_1 : w14.cell? ⟨gb553, 1, none⟩ = some (.slice A0_1 l0_1.length c0_1) := (blk_cell BK553.out 1).trans rfl; have hcz16_2 : w14.cell? ⟨gb553, 2, none⟩ = some (.slice A0_2 l0_2.length c0_2) := (blk_cell BK553.out 2).trans rfl; have hfz16_0 := blk_frozen BK553.out 0; have hfz16_1 := blk_frozen BK553.out 1; have hfz16_2 := blk_frozen BK553.out 2; have hcz17_0 : w14.cell? ⟨gb554, 0, none⟩ = some (.slice A1_0 l1_0.length c1_0) := (blk_cell BK554.out 0).trans rfl; have hcz17_1 : w14.cell? ⟨gb554, 1, none⟩ = some (.slice A1_1 l1_1.length c1_1) := (blk_cell BK554.out 1).trans rfl; have hcz17_2 : w14.cell? ⟨gb554, 2, none⟩ = some (.slice A1_2 l1_2.length c1_2) := (blk_cell BK554.out 2).trans rfl; have hfz17_0 := blk_frozen BK554.out 0; have hfz17_1 := blk_frozen BK554.out 1; have hfz17_2 := blk_frozen BK554.out 2) | ((with_reducible refine gate_callee (f := 50) rfl ?_); refine goesL_ (some 9) rfl rfl Tryz.func50 (by kernel_rfl) rfl #[.slice A0_0 l0_0.length c0_0, .slice A1_0 l1_0.length c1_0] rfl zm ?_; (with_reducible refine (quiverlaw0_SameInts.calls k _ _ l0_0 _ _ l1_0 true _ ?side1 ?side2 ?side3 ?side4 A3.out).mono ?_); (case side1 => exact zc (Kd.C_below HR0_0.out HB.out)); (case side2 => exact HC0_0.out); (case side3 => exact zc (Kd.C_below HR1_0.out HB.out)); (case side4 => exact HC1_0.out); rintro e w' ⟨rfl, ⟨nd, rfl⟩⟩; refine ⟨_, rfl, ?_⟩) | (go_at_call 50; (with_reducible refine (quiverlaw0_SameInts.calls k _ _ l0_1 _ _ l1_1 false _ ?side1 ?side2 ?side3 ?side4 A5.out).mono ?_); (case side1 => exact zc (Kd.C_below HR0_1.out (zl2 HB.out GE553.out GE554.out))); (case side2 => exact HC0_1.out); (case side3 => exact zc (Kd.C_below HR1_1.out (zl2 HB.out GE553.out GE554.out))); (case side4 => exact HC1_1.out); rintro e w' ⟨rfl, ⟨nd, rfl⟩⟩))
   go_ret
   exact ⟨ze, zl2 HB.out GE553.out GE554.out⟩
 ·
  replace c4 := Bool.eq_false_iff.mpr c4
  subst c4
  rw [if_neg (show ¬ (false = true) by decide)] at H
  obtain rfl := Option.some.inj H
  go_enter Tryz.func20, Tryz.ntmps20
  go_wp2_with (first | ((with_reducible refine gate_dst (N := 2) rfl ?_); refine box_event ?hg (N := 2) ?hd (cs := #[.slice A0_0 l0_0.length c0_0, .slice A0_1 l0_1.length c0_1, .slice A0_2 l0_2.length c0_2]) (t := 31) ?hr ?_; (case hd => rfl); (case hg => rfl); (case hr => exact zh); intro gb553 hg w18 hbox hb; have n0_ := am (below_step (zl HB.out) hb); have n1_ := am (hbox); have n2_ := am ((by rw [hg]; exact (below_size (zl HB.out)) : w.heap.size ≤ gb553)); have n3_ := am ((by rw [hg]; exact (below_size (zl HB.out)) : w.heap.size ≤ gb553)); clear HB; have HB := n0_; have BK553 := n1_; have GW553 := n2_; have GE553 := n3_; clear n0_ n1_ n2_ n3_; clear hb hbox hg) | ((with_reducible refine gate_dst (N := 3) rfl ?_); refine box_event ?hg (N := 3) ?hd (cs := #[.slice A1_0 l1_0.length c1_0, .slice A1_1 l1_1.length c1_1, .slice A1_2 l1_2.length c1_2]) (t := 31) ?hr ?_; (case hd => rfl); (case hg => rfl); (case hr => exact zh); intro gb554 hg w19 hbox hb; have n0_ := am (zbb BK553.out hb); have n1_ := am (below_step (zl1 HB.out GE553.out) hb); have n2_ := am (hbox); have n3_ := am ((by rw [hg]; exact (below_size (zl1 HB.out GE553.out)) : w.heap.size ≤ gb554)); have n4_ := am ((by rw [hg]; exact (below_size (zl1 HB.out GE553.out)) : w.heap.size ≤ gb554)); have n5_ := am ((by rw [hg]; exact Nat.ne_of_lt (blk_lt (g := gb553) (o := .cells #[.slice A0_0 l0_0.length c0_0, .slice A0_1 l0_1.length c0_1, .slice A0_2 l0_2.length c0_2] 31 (0, 0)) (zb BK553.out)) : gb553 ≠ gb554)); have n6_ := am ((by rw [hg]; exact Nat.ne_of_gt (blk_lt (g := gb553) (o := .cells #[.slice A0_0 l0_0.length c0_0, .slice A0_1 l0_1.length c0_1, .slice A0_2 l0_2.length c0_2] 31 (0, 0)) (zb BK553.out)) : gb554 ≠ gb553)); clear BK553 HB; have BK553 := n0_; have HB := n1_; have BK554 := n2_; have GW554 := n3_; have GE554 := n4_; have NB553_554 := n5_; have NB554_553 := n6_; clear n0_ n1_ n2_ n3_ n4_ n5_ n6_; clear hb hbox hg; have hnb20 := NB553_554.out; have hnc20 := NB554_553.out; have hcz21_0 : w19.cell? ⟨gb553, 0, none⟩ = some (.slice A0_0 l0_0.length c0_0) := (blk_cell BK553.out 0).trans rfl; have hcz21_1 : w19.cell? ⟨gb553, 1, none⟩ = some (.slice A0_1 l0_1.length c0_1) := (blk_cell BK553.out 1).trans rfl; have hcz21_2 : w19.cell? ⟨gb553, 2, none⟩ = some (.slice A0_2 l0_2.length c0_2) := (blk_cell BK553.out 2).trans rfl; have hfz21_0 := blk_frozen BK553.out 0; have hfz21_1 := blk_frozen BK553.out 1; have hfz21_2 := blk_frozen BK553.out 2; have hcz22_0 : w19.cell? ⟨gb554, 0, none⟩ = some (.slice A1_0 l1_0.length c1_0) := (blk_cell BK554.out 0).trans rfl; have hcz22_1 : w19.cell? ⟨gb554, 1, none⟩ = some (.slice A1_1 l1_1.length c1_1) := (blk_cell BK554.out 1).trans rfl; have hcz22_2 : w19.cell? ⟨gb554, 2, none⟩ = some (.slice A1_2 l1_2.length c1_2) := (blk_cell BK554.out 2).trans rfl; have hfz22_0 := blk_frozen BK554.out 0; have hfz22_1 := blk_frozen BK554.out 1; have hfz22_2 := blk_frozen BK554.out 2) | ((with_reducible refine gate_callee (f := 50) rfl ?_); refine goesL_ (some 9) rfl rfl Tryz.func50 (by kernel_rfl) rfl #[.slice A0_0 l0_0.length c0_0, .slice A1_0 l1_0.length c1_0] rfl zm ?_; (with_reducible refine (quiverlaw0_SameInts.calls k _ _ l0_0 _ _ l1_0 false _ ?side1 ?side2 ?side3 ?side4 A3.out).mono ?_); (case side1 => exact zc (Kd.C_below HR0_0.out HB.out)); (case side2 => exact HC0_0.out); (case side3 => exact zc (Kd.C_below HR1_0.out HB.out)); (case side4 => exact HC1_0.out); rintro e w' ⟨rfl, ⟨nd, rfl⟩⟩; refine ⟨_, rfl, ?_⟩))
  go_ret
  exact ⟨ze, zl2 HB.out GE553.out GE554.out⟩
def quiverref1_upTo.f (a0 : Int) (a1 : Int) (a2 : Int) : Option (Bool) := if a0 ≥ a1 then (some (decide (a0 ≤ a2))) else (some false)
theorem quiverref1_upTo.calls (a0 : Int) (a1 : Int) (a2 : Int) (r : Bool) (w : World) (h : quiverref1_upTo.f a0 a1 a2 = some r) :
  Calls Tryz.prog 62 #[.int .i64 a0, .int .i64 a1, .int .i64 a2] w fun e w' => e = .returned (.bool r) ∧ Below w.heap.size w w' := by
 have HB := am (Below.refl w.heap.size w)
 have H : (if a0 ≥ a1 then (some (decide (a0 ≤ a2))) else (some false)) = some r := h
 clear h
 by_cases c4 : a0 ≥ a1
 ·
  rw [if_pos c4] at H
  have c4b0 : decide (a1 ≤ a0) = true := decide_eq_true c4
  clear c4
  obtain rfl := Option.some.inj H
  go_enter Tryz.func62, Tryz.ntmps62
  go_wp2
  go_ret
  exact ⟨ze, zl HB.out⟩
 ·
  rw [if_neg c4] at H
  have c4b0 : decide (a1 ≤ a0) = false := decide_eq_false c4
  clear c4
  obtain rfl := Option.some.inj H
  go_enter Tryz.func62, Tryz.ntmps62
  go_wp2
  go_ret
  exact ⟨ze, zl HB.out⟩
def quiverref1_kids.l0 : Nat → Int → List Int → Int → List (S24) → Option (List Int)
 | 0, _, _, _, _ => none
 | k + 1, x1, x5, x6, x559000 => if x6 < (x559000.length : Int) then (if 0 ≤ x6 then (if ((rd_T24 x559000 x6).f1) = x1 then (if x5.length < 17592186044416 then (quiverref1_kids.l0 k x1 (x5 ++ [x6]) (wrap64 (x6 + 1)) x559000) else (none)) else (quiverref1_kids.l0 k x1 x5 (wrap64 (x6 + 1)) x559000)) else (none)) else (some x5)
def quiverref1_kids.f (k : Nat) (l0_0 : List (S24)) (a1 : Int) : Option (List Int) := quiverref1_kids.l0 k a1 ([] : List Int) 1 l0_0
theorem quiverref1_kids.calls (k : Nat) (A0_0 : Option Addr) (c0_0 : Nat) (l0_0 : List (S24)) (a1 : Int) (r : List Int) (w : World) (hr0_0 : Kd.C k24 w A0_0 l0_0.length l0_0) (hc0_0 : l0_0.length ≤ c0_0) (h : quiverref1_kids.f k l0_0 a1 = some r) :
  Calls Tryz.prog 63 #[.agg #[.slice A0_0 l0_0.length c0_0], .int .i64 a1] w fun e w' => ∃ v0_ : Value, e = .returned (v0_) ∧ Kd.R (Kd.int .i64) 3 w' w.heap.size (fun _ => True) v0_ r ∧ Below w.heap.size w w' := by
 have hu27 := Tryz.underlying27
 have HR0_0 := am hr0_0
 have HC0_0 := am hc0_0
 clear hr0_0 hc0_0
 have HB := am (Below.refl w.heap.size w)
 have H : (quiverref1_kids.l0 k a1 ([] : List Int) 1 l0_0) = some r := h
 clear h
 have H' := am H
 clear H
 go_enter Tryz.func63, Tryz.ntmps63
 go_wp2_with (first | ((with_reducible refine gate_dst (N := 2) rfl ?_); refine box_event ?hg (N := 2) ?hd (cs := #[.slice A0_0 l0_0.length c0_0]) (t := 27) ?hr ?_; (case hd => rfl); (case hg => rfl); (case hr => exact zh); intro gb558 hg w3 hbox hb; have n0_ := am (below_step (zl HB.out) hb); have n1_ := am (hbox); have n2_ := am ((by rw [hg]; exact (below_size (zl HB.out)) : w.heap.size ≤ gb558)); have n3_ := am ((by rw [hg]; exact (below_size (zl HB.out)) : w.heap.size ≤ gb558)); clear HB; have HB := n0_; have BK558 := n1_; have GW558 := n2_; have GE558 := n3_; clear n0_ n1_ n2_ n3_; clear hb hbox hg))
 (try simp only [Act.put, List.setIfInBounds_toArray, List.set_cons_zero, List.set_cons_succ])
 go_loopg [5, 6] k (fun kq v5 v6 w' => ∃ (x5_1 : List Int) (x6_1 : Int), v6 = .int .i64 x6_1 ∧ Aside0 (quiverref1_kids.l0 kq a1 x5_1 x6_1 l0_0 = some r) ∧ Aside0 (kq ≤ k) ∧ Aside0 (Kd.R (Kd.int .i64) 3 w' w.heap.size (fun _ => True) v5 x5_1) ∧ Aside0 (w'.heap[gb558]? = some (.cells #[(.slice A0_0 l0_0.length c0_0)] 27 (0, 0))) ∧ Aside0 (Below w.heap.size w w'))
 case atStart => exact ⟨(([] : List Int)), (1), zs, H', ⟨Nat.le_refl _⟩, ⟨by first | exact Kd.R_nil _ _ _ _ _ | exact Kd.N_nil _ _ _ _ _ | exact Kd.V_nil _ _ _ _ _ | exact Kd.Q_nil _ _ _ _ _ | exact Kd.S_nil _ _ _ _ _⟩, ⟨by refine zb ?_; exact BK558.out⟩, ⟨zl1 HB.out GE558.out⟩⟩
 case round =>
  clear H'
  try clear p2
  obtain ⟨x5_1, x6_1, rfl, HA, HK1, HO_5, BK558, HB⟩ := hrel
  cases gk with
  | zero => exact absurd HA.out (by simp [quiverref1_kids.l0])
  | succ k1 =>
   have H := HA.out
   clear HA
   simp only [quiverref1_kids.l0] at H
   by_cases c4 : x6_1 < (l0_0.length : Int)
   ·
    rw [if_pos c4] at H
    have c4b0 := decide_eq_true c4
    clear c4
    by_cases c5 : 0 ≤ x6_1
    ·
     rw [if_pos c5] at H
     have c5b0 := decide_eq_true c5
     clear c5
     by_cases c6 : ((rd_T24 l0_0 x6_1).f1) = a1
     ·
      rw [if_pos c6] at H
      have c6b0 := beq_iff_eq.mpr c6
      have c6b1 := bne_eq_false_iff_eq.mpr c6
      clear c6
      by_cases c7 : x5_1.length < 17592186044416
      ·
       rw [if_pos c7] at H
       have LMc7 := am c7
       clear c7
       obtain ⟨y560, hy560⟩ : ∃ y_ : List Int, y_ = (x5_1 ++ [x6_1]) := ⟨_, rfl⟩
       replace H : (quiverref1_kids.l0 k1 a1 y560 (wrap64 (x6_1 + 1)) l0_0) = some r := by first | (rw [hy560]; with_reducible exact H) | (have H2_ := (Option.bind_some _ _).symm.trans H; rw [hy560]; with_reducible exact H2_) | (have H2_ := (Option.bind_some _ _).symm.trans H; with_reducible exact H2_) | with_reducible exact H | (rw [hy560]; exact H) | exact H
       have Ny560 := am hy560
       clear hy560
       have H' := am H
       clear H
       have hcz8_0 : wr.cell? ⟨gb558, 0, none⟩ = some (.slice A0_0 l0_0.length c0_0) := (blk_cell BK558.out 0).trans rfl
       have hfz8_0 := blk_frozen BK558.out 0
       have p559 : 0 ≤ (x6_1 : Int) := of_decide_eq_true za
       have q559 : x6_1 < (l0_0.length : Int) := of_decide_eq_true za
       obtain ⟨ad559, e559, hx559_0, hx559_1, hx559_2⟩ := at_T24 HR0_0.out x6_1 p559 q559
       cases e559
       replace hx559_0 := zq HB.out hx559_0
       replace hx559_1 := zq HB.out hx559_1
       replace hx559_2 := zq HB.out hx559_2
       replace p559 := eq_true p559
       replace q559 := eq_true q559
       go_wp2_with (first | ((with_reducible refine gate_builtin (b := .append) (xs := #[.tmp 22, .tmp 24]) rfl ?_); at_builtin; refine Kd.R_append (Kd.int .i64) (w0 := w) w.heap.size rfl (.tmp 22) (.tmp 24) 28 3 (.int .i64 0) 8 rfl Tryz.underlying28 info3 rfl (by decide) (by omega) u5 x5_1 x6_1 [.int .i64 x6_1] (fun _ => True) (fun _ => False) rfl rfl ?aP (fun _ hk => hk.elim) ?aF ?aO ?aB ?aS ?aL ?_; (case aP => exact rfl); (case aB => exact (zl1 HB.out GE558.out)); (case aF => exact (fun _ _ => trivial)); (case aO => exact (zr HO_5.out)); (case aS => exact (below_size (zl1 HB.out GE558.out))); (case aL => have := LMc7.out; omega); intro v561 w9 ho hb hg hat; rw [← Ny560.out] at ho; have n0_ := am (blk_grown (g := gb558) (o := .cells #[.slice (some ad559) l0_0.length c0_0] 27 (0, 0)) (zb BK558.out) hg (Kd.R_ne HO_5.out BK558.out (by decide))); have n1_ := am (hb); have n2_ := am (ho); clear BK558 HB HO_5; have BK558 := n0_; have HB := n1_; have HO562 := n2_; clear n0_ n1_ n2_; clear ho hb hg hat))
       go_roundg k1
       case measure => have := HK1.out; omega
       case rel => exact ⟨(y560), (wrap64 (x6_1 + 1)), zs, H', ⟨by have := HK1.out; omega⟩, ⟨by refine zr ?_; exact HO562.out⟩, ⟨by refine zb ?_; exact BK558.out⟩, ⟨zl1 HB.out GE558.out⟩⟩
      ·
       rw [if_neg c7] at H
       exact absurd H (by simp)
     ·
      rw [if_neg c6] at H
      have c6b0 := beq_eq_false_iff_ne.mpr c6
      have c6b1 := bne_iff_ne.mpr c6
      have H' := am H
      clear H
      have hcz10_0 : wr.cell? ⟨gb558, 0, none⟩ = some (.slice A0_0 l0_0.length c0_0) := (blk_cell BK558.out 0).trans rfl
      have hfz10_0 := blk_frozen BK558.out 0
      have p559 : 0 ≤ (x6_1 : Int) := of_decide_eq_true za
      have q559 : x6_1 < (l0_0.length : Int) := of_decide_eq_true za
      obtain ⟨ad559, e559, hx559_0, hx559_1, hx559_2⟩ := at_T24 HR0_0.out x6_1 p559 q559
      cases e559
      replace hx559_0 := zq HB.out hx559_0
      replace hx559_1 := zq HB.out hx559_1
      replace hx559_2 := zq HB.out hx559_2
      replace p559 := eq_true p559
      replace q559 := eq_true q559
      go_wp2
      go_roundg k1
      case measure => have := HK1.out; omega
      case rel => exact ⟨(x5_1), (wrap64 (x6_1 + 1)), zs, H', ⟨by have := HK1.out; omega⟩, ⟨by refine zr ?_; exact HO_5.out⟩, ⟨by refine zb ?_; exact BK558.out⟩, ⟨zl1 HB.out GE558.out⟩⟩
    ·
     rw [if_neg c5] at H
     exact absurd H (by simp)
   ·
    rw [if_neg c4] at H
    have c4b0 := decide_eq_false c4
    clear c4
    obtain rfl := Option.some.inj H
    have hcz11_0 : wr.cell? ⟨gb558, 0, none⟩ = some (.slice A0_0 l0_0.length c0_0) := (blk_cell BK558.out 0).trans rfl
    have hfz11_0 := blk_frozen BK558.out 0
    go_wp2
    go_ret
    exact ⟨_, ze, by refine zr ?_; exact HO_5.out, zl1 HB.out GE558.out⟩
def quiverref1_IsLeaf.f (a0 : Int) : Option (Bool) := if a0 = 3 then (some false) else (some (a0 != 4))
theorem quiverref1_IsLeaf.calls (a0 : Int) (r : Bool) (w : World) (h : quiverref1_IsLeaf.f a0 = some r) :
  Calls Tryz.prog 64 #[.int .i64 a0] w fun e w' => e = .returned (.bool r) ∧ Drawn0 w w' := by
 have H : (if a0 = 3 then (some false) else (some (a0 != 4))) = some r := h
 clear h
 by_cases c2 : a0 = 3
 ·
  rw [if_pos c2] at H
  have c2b0 := beq_iff_eq.mpr c2
  have c2b1 := bne_eq_false_iff_eq.mpr c2
  clear c2
  obtain rfl := Option.some.inj H
  go_enter Tryz.func64, Tryz.ntmps64
  go_wp2
  go_ret
  exact ⟨by first | rfl | (simp; done) | (simp [*]; done), by repeat (first | exact Drawn0.refl _ | apply Drawn0.step)⟩
 ·
  rw [if_neg c2] at H
  have c2b0 := beq_eq_false_iff_ne.mpr c2
  have c2b1 := bne_iff_ne.mpr c2
  obtain rfl := Option.some.inj H
  go_enter Tryz.func64, Tryz.ntmps64
  go_wp2
  go_ret
  exact ⟨by first | rfl | (simp; done) | (simp [*]; done), by repeat (first | exact Drawn0.refl _ | apply Drawn0.step)⟩
def quiverref1_TypeMay.l0 : Nat → Int → List (S24) → Option (Bool)
 | 0, _, _ => none
 | k + 1, x4, x564000 => if x4 < (x564000.length : Int) then (if 0 ≤ x4 then ((quiverref1_upTo.f ((rd_T24 x564000 x4).f0) 0 4).bind fun t570 => (if t570 = true then ((quiverref1_kids.f k x564000 x4).bind fun t571 => ((quiverref1_IsLeaf.f ((rd_T24 x564000 x4).f0)).bind fun t574 => (if t574 = true then (if (t571.length : Int) > 0 then (none) else (if ((rd_T24 x564000 x4).f0) = 3 then (none) else (if ((rd_T24 x564000 x4).f0) = 4 then (none) else (if x4 = 0 then (quiverref1_TypeMay.l0 k (wrap64 (x4 + 1)) x564000) else (none))))) else (none)))) else (none))) else (none)) else (some true)
def quiverref1_TypeMay.f (k : Nat) (l0_0 : List (S24)) : Option (Bool) := if (l0_0.length : Int) < 1 then (none) else (if (l0_0.length : Int) > 8 then (none) else (if 0 < (l0_0.length : Int) then (if ((rd_T24 l0_0 0).f1) = (-1) then (if 0 ≤ (l0_0.length : Int) then (if ((l0_0.length : Int) : Int).toNat ≤ 35184372088832 then (quiverref1_TypeMay.l0 k 0 l0_0) else (none)) else (none)) else (none)) else (none)))
theorem quiverref1_TypeMay.calls (k : Nat) (A0_0 : Option Addr) (c0_0 : Nat) (l0_0 : List (S24)) (r : Bool) (w : World) (hr0_0 : Kd.C k24 w A0_0 l0_0.length l0_0) (hc0_0 : l0_0.length ≤ c0_0) (h : quiverref1_TypeMay.f k l0_0 = some r) :
  Calls Tryz.prog 33 #[.agg #[.slice A0_0 l0_0.length c0_0]] w fun e w' => e = .returned (.bool r) ∧ Below w.heap.size w w' := by
 have hu27 := Tryz.underlying27
 have hu24 := Tryz.underlying24
 have HR0_0 := am hr0_0
 have HC0_0 := am hc0_0
 clear hr0_0 hc0_0
 have HB := am (Below.refl w.heap.size w)
 have H : (if (l0_0.length : Int) < 1 then (none) else (if (l0_0.length : Int) > 8 then (none) else (if 0 < (l0_0.length : Int) then (if ((rd_T24 l0_0 0).f1) = (-1) then (if 0 ≤ (l0_0.length : Int) then (if ((l0_0.length : Int) : Int).toNat ≤ 35184372088832 then (quiverref1_TypeMay.l0 k 0 l0_0) else (none)) else (none)) else (none)) else (none)))) = some r := h
 clear h
 by_cases c2 : (l0_0.length : Int) < 1
 ·
  rw [if_pos c2] at H
  exact absurd H (by simp)
 ·
  rw [if_neg c2] at H
  have c2b0 := decide_eq_false c2
  have c2b1 : decide (l0_0.length < 1) = false := decide_eq_false (by omega)
  clear c2
  by_cases c3 : (l0_0.length : Int) > 8
  ·
   rw [if_pos c3] at H
   exact absurd H (by simp)
  ·
   rw [if_neg c3] at H
   have c3b0 : decide (8 < (l0_0.length : Int)) = false := decide_eq_false c3
   have c3b1 : decide (8 < l0_0.length) = false := decide_eq_false (by omega)
   clear c3
   by_cases c4 : 0 < (l0_0.length : Int)
   ·
    rw [if_pos c4] at H
    have c4b0 := decide_eq_true c4
    have c4b1 : decide (0 < l0_0.length) = true := decide_eq_true (by omega)
    clear c4
    by_cases c5 : ((rd_T24 l0_0 0).f1) = (-1)
    ·
     rw [if_pos c5] at H
     have c5b0 := beq_iff_eq.mpr c5
     have c5b1 := bne_eq_false_iff_eq.mpr c5
     clear c5
     by_cases c6 : 0 ≤ (l0_0.length : Int)
     ·
      rw [if_pos c6] at H
      have c6b0 := eq_true c6
      have c6b1 := decide_eq_true c6
      clear c6
      by_cases c7 : ((l0_0.length : Int) : Int).toNat ≤ 35184372088832
      ·
       rw [if_pos c7] at H
       have c7b0 := eq_true c7
       have c7b1 := decide_eq_true c7
       clear c7
       obtain ⟨y565, hy565⟩ : ∃ y_ : List Int, y_ = (List.replicate ((l0_0.length : Int) : Int).toNat 0) := ⟨_, rfl⟩
       replace H : (quiverref1_TypeMay.l0 k 0 l0_0) = some r := by first | (rw [hy565]; with_reducible exact H) | (have H2_ := (Option.bind_some _ _).symm.trans H; rw [hy565]; with_reducible exact H2_) | (have H2_ := (Option.bind_some _ _).symm.trans H; with_reducible exact H2_) | with_reducible exact H | (rw [hy565]; exact H) | exact H
       have Ny565 := am hy565
       clear hy565
       have H' := am H
       clear H
       go_enter Tryz.func33, Tryz.ntmps33
       go_wp2_with (first | ((with_reducible refine gate_dst (N := 1) rfl ?_); refine box_event ?hg (N := 1) ?hd (cs := #[.slice A0_0 l0_0.length c0_0]) (t := 27) ?hr ?_; (case hd => rfl); (case hg => rfl); (case hr => exact zh); intro gb563 hg w8 hbox hb; have n0_ := am (below_step (zl HB.out) hb); have n1_ := am (hbox); have n2_ := am ((by rw [hg]; exact (below_size (zl HB.out)) : w.heap.size ≤ gb563)); have n3_ := am ((by rw [hg]; exact (below_size (zl HB.out)) : w.heap.size ≤ gb563)); clear HB; have HB := n0_; have BK563 := n1_; have GW563 := n2_; have GE563 := n3_; clear n0_ n1_ n2_ n3_; clear hb hbox hg; have hcz9_0 : w8.cell? ⟨gb563, 0, none⟩ = some (.slice A0_0 l0_0.length c0_0) := (blk_cell BK563.out 0).trans rfl; have hfz9_0 := blk_frozen BK563.out 0; have p564 : 0 ≤ (0 : Int) := (by omega); have q564 : 0 < (l0_0.length : Int) := of_decide_eq_true za; obtain ⟨ad564, e564, hx564_0, hx564_1, hx564_2⟩ := at_T24 HR0_0.out 0 p564 q564; cases e564; have qi564 : (0 < l0_0.length) = True := eq_true (by omega); (try rw [show ((0 : Int)).toNat = 0 from rfl] at hx564_0); (try rw [show 0 * 3 = 0 from rfl] at hx564_0); (try rw [Addr.add_zero'] at hx564_0); (try rw [show ((0 : Int)).toNat = 0 from rfl] at hx564_1); (try rw [show 0 * 3 = 0 from rfl] at hx564_1); (try rw [Addr.add_zero'] at hx564_1); (try rw [show ((0 : Int)).toNat = 0 from rfl] at hx564_2); (try rw [show 0 * 3 = 0 from rfl] at hx564_2); (try rw [Addr.add_zero'] at hx564_2); replace hx564_0 := zq HB.out hx564_0; replace hx564_1 := zq HB.out hx564_1; replace hx564_2 := zq HB.out hx564_2; replace p564 := eq_true p564; replace q564 := eq_true q564) | ((with_reducible refine gate_dst (N := 28) rfl ?_); refine Kd.R_make (Kd.int .i64) _ 3 rfl (N := 28) rfl 28 _ _ rfl (l0_0.length : Int) rfl rfl Tryz.underlying28 (.int .i64 0) 8 info3 rfl (by decide) (by omega) 0 (ok := fun _ => True) (okp := fun _ => True) rfl (fun _ hk => hk) trivial (of_decide_eq_true za) (Nat.le_trans (Nat.mul_le_mul_right _ (of_decide_eq_true za : (l0_0.length : Int).toNat ≤ 35184372088832)) (by omega)) (Below.refl _ _) (Nat.le_refl _) ?_; intro v566 w10 ho11 hb hg_ hnew_; clear hg_ hnew_; (first | rw [← Ny565.out] at ho11 | (simp only [Int.reduceToNat] at ho11; rw [← Ny565.out] at ho11)); have n0_ := am (Kd.R_lower ho11 (below_size (zl1 HB.out GE563.out))); have n1_ := am (zbb BK563.out hb); have n2_ := am (below_step (zl1 HB.out GE563.out) hb); clear BK563 HB; have HO567 := n0_; have BK563 := n1_; have HB := n2_; clear n0_ n1_ n2_; clear hb ho11))
       (try simp only [Act.put, List.setIfInBounds_toArray, List.set_cons_zero, List.set_cons_succ])
       go_loopg [4] k (fun kq v4 w' => ∃ (x4_1 : Int), v4 = .int .i64 x4_1 ∧ Aside0 (quiverref1_TypeMay.l0 kq x4_1 l0_0 = some r) ∧ Aside0 (kq ≤ k) ∧ Aside0 (w'.heap[gb563]? = some (.cells #[(.slice (some ad564) l0_0.length c0_0)] 27 (0, 0))) ∧ Aside0 (Below w.heap.size w w'))
       case atStart => exact ⟨(0), zs, H', ⟨Nat.le_refl _⟩, ⟨by refine zb ?_; exact BK563.out⟩, ⟨zl1 HB.out GE563.out⟩⟩
       case round =>
        clear H'
        try clear c2
        try clear c2b0
        try clear c2b1
        try clear p2
        try clear c3
        try clear c3b0
        try clear c3b1
        try clear c4
        try clear c4b0
        try clear c4b1
        try clear c5
        try clear c5b0
        try clear c5b1
        try clear p5
        try clear q5
        try clear hx5
        try clear qi5
        try clear c6
        try clear c6b0
        try clear c6b1
        try clear c7
        try clear c7b0
        try clear c7b1
        try clear hcz9_0
        try clear hfz9_0
        try clear hx564_0
        try clear hx564_1
        try clear hx564_2
        try clear p564
        try clear q564
        obtain ⟨x4_1, rfl, HA, HK1, BK563, HB⟩ := hrel
        cases gk with
        | zero => exact absurd HA.out (by simp [quiverref1_TypeMay.l0])
        | succ k1 =>
         have H := HA.out
         clear HA
         simp only [quiverref1_TypeMay.l0] at H
         by_cases c12 : x4_1 < (l0_0.length : Int)
         ·
          rw [if_pos c12] at H
          have c12b0 := decide_eq_true c12
          clear c12
          by_cases c13 : 0 ≤ x4_1
          ·
           rw [if_pos c13] at H
           have c13b0 := decide_eq_true c13
           clear c13
           replace H := zo H
           obtain ⟨t570, A140, H⟩ := H
           (try dsimp only at H)
           have A14 := am A140
           clear A140
           by_cases c15 : t570 = true
           ·
            subst c15
            rw [if_pos rfl] at H
            replace H := zo H
            obtain ⟨t571, A160, H⟩ := H
            (try dsimp only at H)
            have A16 := am A160
            clear A160
            replace H := zo H
            obtain ⟨t574, A170, H⟩ := H
            (try dsimp only at H)
            have A17 := am A170
            clear A170
            by_cases c18 : t574 = true
            ·
             subst c18
             rw [if_pos rfl] at H
             by_cases c19 : (t571.length : Int) > 0
             ·
              rw [if_pos c19] at H
              exact absurd H (by simp)
             ·
              rw [if_neg c19] at H
              have c19b0 : decide (0 < (t571.length : Int)) = false := decide_eq_false c19
              have c19b1 : decide (0 < t571.length) = false := decide_eq_false (by omega)
              clear c19
              by_cases c20 : ((rd_T24 l0_0 x4_1).f0) = 3
              ·
               rw [if_pos c20] at H
               exact absurd H (by simp)
              ·
               rw [if_neg c20] at H
               have c20b0 := beq_eq_false_iff_ne.mpr c20
               have c20b1 := bne_iff_ne.mpr c20
               by_cases c21 : ((rd_T24 l0_0 x4_1).f0) = 4
               ·
                rw [if_pos c21] at H
                exact absurd H (by simp)
               ·
                rw [if_neg c21] at H
                have c21b0 := beq_eq_false_iff_ne.mpr c21
                have c21b1 := bne_iff_ne.mpr c21
                by_cases c22 : x4_1 = 0
                ·
                 rw [if_pos c22] at H
                 have c22b0 := beq_iff_eq.mpr c22
                 have c22b1 := bne_eq_false_iff_eq.mpr c22
                 clear c22
                 have H' := am H
                 clear H
                 have hcz23_0 : wr.cell? ⟨gb563, 0, none⟩ = some (.slice (some ad564) l0_0.length c0_0) := (blk_cell BK563.out 0).trans rfl
                 have hfz23_0 := blk_frozen BK563.out 0
                 have p568 : 0 ≤ (x4_1 : Int) := of_decide_eq_true za
                 have q568 : x4_1 < (l0_0.length : Int) := of_decide_eq_true za
                 obtain ⟨ad568, e568, hx568_0, hx568_1, hx568_2⟩ := at_T24 HR0_0.out x4_1 p568 q568
                 obtain rfl : ad564 = ad568 := (by injection e568)
                 replace hx568_0 := zq HB.out hx568_0
                 replace hx568_1 := zq HB.out hx568_1
                 replace hx568_2 := zq HB.out hx568_2
                 replace p568 := eq_true p568
                 replace q568 := eq_true q568
                 go_wp2_with (first | ((with_reducible refine gate_dst (N := 5) rfl ?_); refine box_event ?hg (N := 5) ?hd (cs := #[.int .i64 0, .int .i64 0, .bool false]) (t := 24) ?hr ?_; (case hd => rfl); (case hg => rfl); (case hr => exact zh); intro gb569 hg w24 hbox hb; have n0_ := am (zbb BK563.out hb); have n1_ := am (below_step (zl1 HB.out GE563.out) hb); have n2_ := am (hbox); have n3_ := am ((by rw [hg]; exact (below_size (zl1 HB.out GE563.out)) : w.heap.size ≤ gb569)); have n4_ := am ((by rw [hg]; exact (below_size (zl1 HB.out GE563.out)) : w.heap.size ≤ gb569)); have n5_ := am ((by rw [hg]; exact Nat.ne_of_lt (blk_lt (g := gb563) (o := .cells #[.slice (some ad564) l0_0.length c0_0] 27 (0, 0)) (zb BK563.out)) : gb563 ≠ gb569)); have n6_ := am ((by rw [hg]; exact Nat.ne_of_gt (blk_lt (g := gb563) (o := .cells #[.slice (some ad564) l0_0.length c0_0] 27 (0, 0)) (zb BK563.out)) : gb569 ≠ gb563)); clear BK563 HB; have BK563 := n0_; have HB := n1_; have BK569 := n2_; have GW569 := n3_; have GE569 := n4_; have NB563_569 := n5_; have NB569_563 := n6_; clear n0_ n1_ n2_ n3_ n4_ n5_ n6_; clear hb hbox hg; have hnb25 := NB569_563.out; have hnc25 := NB563_569.out; have hcz26_0 : w24.cell? ⟨gb569, 0, none⟩ = some (.int .i64 0) := (blk_cell BK569.out 0).trans rfl; have hcz26_1 : w24.cell? ⟨gb569, 1, none⟩ = some (.int .i64 0) := (blk_cell BK569.out 1).trans rfl; have hcz26_2 : w24.cell? ⟨gb569, 2, none⟩ = some (.bool false) := (blk_cell BK569.out 2).trans rfl; have hfz26_0 := blk_frozen BK569.out 0; have hfz26_1 := blk_frozen BK569.out 1; have hfz26_2 := blk_frozen BK569.out 2) | ((with_reducible refine gate_callee (f := 62) rfl ?_); refine goesL_ (some 43) rfl rfl Tryz.func62 (by kernel_rfl) rfl #[.int .i64 ((rd_T24 l0_0 x4_1).f0), .int .i64 0, .int .i64 4] rfl zm ?_; (with_reducible refine (quiverref1_upTo.calls ((rd_T24 l0_0 x4_1).f0) 0 4 true _ A14.out).mono ?_); rintro e w27 ⟨rfl, hb⟩; refine ⟨_, rfl, ?_⟩; have n0_ := am (blk_below (g := gb563) (o := .cells #[.slice (some ad564) l0_0.length c0_0] 27 (0, 0)) (by refine zb ?_; refine blk_far ?_ NB563_569.out _; refine zb ?_; refine blk_far ?_ NB563_569.out _; refine zb ?_; refine blk_far ?_ NB563_569.out _; refine zb ?_; exact BK563.out) hb); have n1_ := am (blk_below (g := gb569) (o := .cells #[.int .i64 ((rd_T24 l0_0 x4_1).f0), .int .i64 ((rd_T24 l0_0 x4_1).f1), .bool ((rd_T24 l0_0 x4_1).f2)] 24 (0, 0)) (by refine zb ?_; refine blk_put (cs := #[.int .i64 ((rd_T24 l0_0 x4_1).f0), .int .i64 ((rd_T24 l0_0 x4_1).f1), .bool false]) ?_ 2 _ rfl; refine zb ?_; refine blk_put (cs := #[.int .i64 ((rd_T24 l0_0 x4_1).f0), .int .i64 0, .bool false]) ?_ 1 _ rfl; refine zb ?_; refine blk_put (cs := #[.int .i64 0, .int .i64 0, .bool false]) ?_ 0 _ rfl; refine zb ?_; exact BK569.out) hb); have n2_ := am (below_step (zl2 HB.out GE563.out GE569.out) hb); clear BK563 BK569 HB; have BK563 := n0_; have BK569 := n1_; have HB := n2_; clear n0_ n1_ n2_; (try clear hb); (try clear hb2); (try clear hk); (try clear hi); have hcz28_0 : w27.cell? ⟨gb563, 0, none⟩ = some (.slice (some ad564) l0_0.length c0_0) := (blk_cell BK563.out 0).trans rfl; have hfz28_0 := blk_frozen BK563.out 0) | ((with_reducible refine gate_callee (f := 63) rfl ?_); refine goesL_ (some 47) rfl rfl Tryz.func63 (by kernel_rfl) rfl #[.agg #[.slice (some ad564) l0_0.length c0_0], .int .i64 x4_1] rfl zm ?_; (with_reducible refine (quiverref1_kids.calls k1 _ _ l0_0 x4_1 t571 _ ?side1 ?side2 A16.out).mono ?_); (case side1 => exact zc (Kd.C_below HR0_0.out HB.out)); (case side2 => exact HC0_0.out); rintro e w29 ⟨v572, rfl, ho0, hb⟩; refine ⟨_, rfl, ?_⟩; have n0_ := am (Kd.R_lower ho0 (below_size (zl2 HB.out GE563.out GE569.out))); have n1_ := am (zbb BK563.out hb); have n2_ := am (zbb BK569.out hb); have n3_ := am (below_step (zl2 HB.out GE563.out GE569.out) hb); clear BK563 BK569 HB; have HO573 := n0_; have BK563 := n1_; have BK569 := n2_; have HB := n3_; clear n0_ n1_ n2_ n3_; (try clear hb); (try clear hb2); (try clear hk); (try clear hi); (try clear ho0); obtain ⟨Ao30, co30, eo30⟩ := Kd.R_slice HO573.out; subst eo30; have hcz31_0 : w29.cell? ⟨gb569, 0, none⟩ = some (.int .i64 ((rd_T24 l0_0 x4_1).f0)) := (blk_cell BK569.out 0).trans rfl; have hcz31_1 : w29.cell? ⟨gb569, 1, none⟩ = some (.int .i64 ((rd_T24 l0_0 x4_1).f1)) := (blk_cell BK569.out 1).trans rfl; have hcz31_2 : w29.cell? ⟨gb569, 2, none⟩ = some (.bool ((rd_T24 l0_0 x4_1).f2)) := (blk_cell BK569.out 2).trans rfl; have hfz31_0 := blk_frozen BK569.out 0; have hfz31_1 := blk_frozen BK569.out 1; have hfz31_2 := blk_frozen BK569.out 2) | ((with_reducible refine gate_callee (f := 64) rfl ?_); refine goesL_ (some 51) rfl rfl Tryz.func64 (by kernel_rfl) rfl #[.int .i64 ((rd_T24 l0_0 x4_1).f0)] rfl zm ?_; (with_reducible refine (quiverref1_IsLeaf.calls ((rd_T24 l0_0 x4_1).f0) true _ A17.out).mono ?_); rintro e w' ⟨rfl, ⟨nd, rfl⟩⟩; refine ⟨_, rfl, ?_⟩))
                 go_roundg k1
                 case measure => have := HK1.out; omega
                 case rel => exact ⟨(wrap64 (x4_1 + 1)), zs, H', ⟨by have := HK1.out; omega⟩, ⟨by refine zb ?_; exact BK563.out⟩, ⟨zl2 HB.out GE563.out GE569.out⟩⟩
                ·
                 rw [if_neg c22] at H
                 exact absurd H (by simp)
            ·
             replace c18 := Bool.eq_false_iff.mpr c18
             subst c18
             rw [if_neg (show ¬ (false = true) by decide)] at H
             exact absurd H (by simp)
           ·
            replace c15 := Bool.eq_false_iff.mpr c15
            subst c15
            rw [if_neg (show ¬ (false = true) by decide)] at H
            exact absurd H (by simp)
          ·
           rw [if_neg c13] at H
           exact absurd H (by simp)
         ·
          rw [if_neg c12] at H
          have c12b0 := decide_eq_false c12
          clear c12
          obtain rfl := Option.some.inj H
          have hcz32_0 : wr.cell? ⟨gb563, 0, none⟩ = some (.slice (some ad564) l0_0.length c0_0) := (blk_cell BK563.out 0).trans rfl
          have hfz32_0 := blk_frozen BK563.out 0
          go_wp2
          go_ret
          exact ⟨ze, zl1 HB.out GE563.out⟩
      ·
       rw [if_neg c7] at H
       exact absurd H (by simp)
     ·
      rw [if_neg c6] at H
      exact absurd H (by simp)
    ·
     rw [if_neg c5] at H
     exact absurd H (by simp)
   ·
    rw [if_neg c4] at H
    exact absurd H (by simp)
end Go.Proofs.YtkcmkedboflklaaGreatDoor.Q
