/- Steps towards: PageUnlike: unlike columns have unlike pages, for every type, every leaf and every two columns; no condition beside the row's own (the library's listed variables hold what the program's text lays). -/
import Derived.Test.YtkcmkedboflklaaGreatDoorA2
import Derived.Test.YtkcmkedboflklaaGreatDoorA1
import Derived.Test.YtkcmkedboflklaaGreatDoorA14
import Derived.Test.YtkcmkedboflklaaGreatDoorA15
import Derived.Test.YtkcmkedboflklaaGreatDoorA4
namespace Go.Proofs.YtkcmkedboflklaaGreatDoor.Q
open Go.RowKit Go.Proofs.YtkcmkedboflklaaGreatDoorW.PrintWords Go.Proofs.YtkcmkedboflklaaGreatDoorW.PrintLast Go.Proofs.YtkcmkedboflklaaGreatDoorW.PrintMore
attribute [local go_sem] max2_int min2_int max_two min_two max_three min_three max_four min_four
set_option linter.unusedVariables false
set_option linter.unusedSimpArgs false
set_option maxHeartbeats 8000000
set_option maxRecDepth 100000

-- GIVEN quiver/hybrid.Get name=hybrid_Get rounds=1 g=0
-- IMPORT Derived.Test.YtkcmkedboflklaaGreatDoorShelf
/-! hybrid.Get over its taker, and slices.Repeat over a row of int: by hand. -/
/-- A hybrid taker at block g: what is left, the width, the slice of what came, bad. -/
def IsHT (W : World) (g : Nat) (s : ByteArray) (wd : Int) (v : Value) (bad : Bool) : Prop := W.heap[g]? = some (.cells #[.string s, .int .i64 wd, v, .bool bad] 116 (0, 0))
theorem cellHT_0 {W : World} {g : Nat} {s : ByteArray} {wd : Int} {v : Value} {bad : Bool} (h : IsHT W g s wd v bad) : W.cell? ⟨g, 0, none⟩ = some (.string s) := (blk_cell h 0).trans rfl
theorem cellHT_1 {W : World} {g : Nat} {s : ByteArray} {wd : Int} {v : Value} {bad : Bool} (h : IsHT W g s wd v bad) : W.cell? ⟨g, 1, none⟩ = some (.int .i64 wd) := (blk_cell h 1).trans rfl
theorem cellHT_2 {W : World} {g : Nat} {s : ByteArray} {wd : Int} {v : Value} {bad : Bool} (h : IsHT W g s wd v bad) : W.cell? ⟨g, 2, none⟩ = some v := (blk_cell h 2).trans rfl
theorem cellHT_3 {W : World} {g : Nat} {s : ByteArray} {wd : Int} {v : Value} {bad : Bool} (h : IsHT W g s wd v bad) : W.cell? ⟨g, 3, none⟩ = some (.bool bad) := (blk_cell h 3).trans rfl
theorem IsHT.set_0 {W : World} {g : Nat} {s : ByteArray} {wd : Int} {v : Value} {bad : Bool} (h : IsHT W g s wd v bad) (x : ByteArray) : IsHT (W.setCell ⟨g, 0, none⟩ (.string x)) g x wd v bad := by simpa [IsHT] using blk_set h 0 (.string x)
theorem IsHT.set_2 {W : World} {g : Nat} {s : ByteArray} {wd : Int} {v : Value} {bad : Bool} (h : IsHT W g s wd v bad) (x : Value) : IsHT (W.setCell ⟨g, 2, none⟩ x) g s wd x bad := by simpa [IsHT] using blk_set h 2 x
theorem IsHT.set_3 {W : World} {g : Nat} {s : ByteArray} {wd : Int} {v : Value} {bad : Bool} (h : IsHT W g s wd v bad) (x : Bool) : IsHT (W.setCell ⟨g, 3, none⟩ (.bool x)) g s wd v x := by simpa [IsHT] using blk_set h 3 (.bool x)
theorem IsHT.below {W W1 : World} {g : Nat} {s : ByteArray} {wd : Int} {v : Value} {bad : Bool} (h : IsHT W g s wd v bad) (hb : Below W.heap.size W W1) : IsHT W1 g s wd v bad := (hb.block g (blk_lt h)).trans h
theorem IsHT.lt {W : World} {g : Nat} {s : ByteArray} {wd : Int} {v : Value} {bad : Bool} (h : IsHT W g s wd v bad) : g < W.heap.size := blk_lt h

theorem IsHT.keepR {W W1 : World} {g base : Nat} {s : ByteArray} {wd : Int} {v : Value} {bad : Bool} {u : Value} {out : List Int} (h : IsHT W g s wd v bad) (hk : KeepBut W W1 g none) (hR : (Kd.int .i64).R 3 W base (fun _ => True) u out) : (Kd.int .i64).R 3 W1 base (fun _ => True) u out :=
  Kd.R_mono (Kd.R_keep (Kd.R_types hR h (by intro q hq; simp [Kd.int, Kd.scalar] at hq; omega)) hk (fun k hk => hk.2)) (fun _ _ => trivial)

def ht_bytes.f (s : ByteArray) (bad : Bool) (n : Int) : Option (ByteArray × ByteArray × Bool) :=
  if bad = true then some ((⟨#[]⟩ : ByteArray), s, true) else if (s.size : Int) < n then some ((⟨#[]⟩ : ByteArray), s, true) else if 0 ≤ n then some (s.extract 0 n.toNat, s.extract n.toNat s.size, false) else none
theorem ht_bytes.calls (g : Nat) (s : ByteArray) (wd : Int) (v : Value) (bad : Bool) (n : Int) (r1 r2 : ByteArray) (r3 : Bool) (w0 w : World) (hI : IsHT w g s wd v bad) (hg : w0.heap.size ≤ g) (hB : Below w0.heap.size w0 w) (h : ht_bytes.f s bad n = some (r1, r2, r3)) :
    Calls Tryz.prog 111 #[.pointer (some ⟨g, 0, none⟩), .int .i64 n] w fun e w' => e = .returned (.string r1) ∧ IsHT w' g r2 wd v r3 ∧ KeepBut w w' g none ∧ Below w0.heap.size w0 w' := by
  have HI0 := am hI
  have HK := am (KeepBut.refl w g none)
  have HB := am hB
  have hc0 := cellHT_0 hI
  have hc3 := cellHT_3 hI
  have hf0 := blk_frozen hI 0
  have hf3 := blk_frozen hI 3
  clear hI
  unfold ht_bytes.f at h
  by_cases c1 : bad = true
  · subst c1
    rw [if_pos rfl] at h
    simp only [Option.some.injEq, Prod.mk.injEq] at h
    obtain ⟨rfl, rfl, rfl⟩ := h
    go_enter Tryz.func111, Tryz.ntmps111
    go_wp2
    go_ret
    exact ⟨rfl, IsHT.set_3 HI0.out true, zk HK.out, by repeat (first | (with_reducible first | exact HB.out | apply below_alloc | apply pw_below_drewN | apply below_drew1 | refine below_set ?_ hg) | exact HB.out)⟩
  · have c1' := Bool.eq_false_iff.mpr c1
    subst c1'
    rw [if_neg c1] at h
    by_cases c2 : (s.size : Int) < n
    · rw [if_pos c2] at h
      have c2b := decide_eq_true c2
      simp only [Option.some.injEq, Prod.mk.injEq] at h
      obtain ⟨rfl, rfl, rfl⟩ := h
      go_enter Tryz.func111, Tryz.ntmps111
      go_wp2
      go_ret
      exact ⟨rfl, IsHT.set_3 HI0.out true, zk HK.out, by repeat (first | (with_reducible first | exact HB.out | apply below_alloc | apply pw_below_drewN | apply below_drew1 | refine below_set ?_ hg) | exact HB.out)⟩
    · rw [if_neg c2] at h
      have c2b := decide_eq_false c2
      by_cases c3 : 0 ≤ n
      · rw [if_pos c3] at h
        have c3a := eq_true c3
        have c3b := decide_eq_true c3
        have c4 : n ≤ (s.size : Int) := by omega
        have c4a := eq_true c4
        have c4b := decide_eq_true c4
        simp only [Option.some.injEq, Prod.mk.injEq] at h
        obtain ⟨rfl, rfl, rfl⟩ := h
        clear c1 c2 c3 c4
        go_enter Tryz.func111, Tryz.ntmps111
        go_wp2
        go_ret
        exact ⟨rfl, IsHT.set_0 HI0.out _, zk HK.out, by repeat (first | (with_reducible first | exact HB.out | apply below_alloc | apply pw_below_drewN | apply below_drew1 | refine below_set ?_ hg) | exact HB.out)⟩
      · rw [if_neg c3] at h
        cases h
/-- The first elements of a row that is read are read. -/
theorem C_take_ {α : Type} {d : Kd α} {w : World} {A : Option Addr} (ys zs : List α) (h : d.C w A (ys ++ zs).length (ys ++ zs)) : d.C w A ys.length ys := by
  have h2 := h.2.1
  rw [List.length_append] at h2
  refine ⟨rfl, by omega, fun h0 => ?_⟩
  obtain ⟨ad, e, hc⟩ := h.2.2 (by rw [List.length_append]; omega)
  refine ⟨ad, e, fun j p hp => hc j p ?_⟩
  have hj := (List.getElem?_eq_some_iff.1 hp).1
  rw [List.getElem?_append_left hj]; exact hp
/-- copy(v[o:], ys), v a row of int of one's own, in the run: its cells from o on are ys' then. -/
theorem run_copyAt {P : Program} {W : World} {g o cap dl : Nat} {e t t' ty : TypeId} (base : Nat) {ok : Nat → Prop} (ht : P.underlying t = some (.slice e)) (hinfo : (P.info? e).map (·.size) = some 1)
    (xs ys : List Int) (A : Option Addr) (m c : Nat)
    (HO : (Kd.int .i64).R e W base ok (.slice (some ⟨g, 0, none⟩) xs.length cap) xs) (hdl : o + dl = xs.length) (HR : (Kd.int .i64).C W A m ys) (dc : Nat) :
    ∃ w1, (Builtin.copy_ #[t, t'] ty #[.slice (some ⟨g, o, none⟩) dl dc, .slice A m c]).run P W = .ok (goInt ((min m dl : Nat) : Int)) w1 ∧
      (Kd.int .i64).R e w1 base ok (.slice (some ⟨g, 0, none⟩) xs.length cap) (xs.take o ++ (ys.take (min m dl) ++ xs.drop (o + min m dl))) ∧ W.grownBy w1 (some g) := by
  have hR := Kd.reads_of_C (d := 0) HR
  have hm : ys.length = m := hR.1
  have hown := Kd.own_of_R HO
  rcases Nat.eq_zero_or_pos (min m dl) with h0 | hp
  · refine ⟨W, ?_, ?_, World.grownBy.refl W _⟩
    · rw [h0]
      exact run_copy_none W t t' ty e _ A dl dc m c ht hinfo h0
    · rw [h0, List.take_zero, List.nil_append, Nat.add_zero, List.take_append_drop]; exact HO
  · obtain ⟨ad, hA, hc⟩ := hR.2.2 (by omega)
    rcases hown.2 with ⟨_, hx0⟩ | ⟨g', cap', cur, hv, hb, hh, hnc, hcm, hcs, htake⟩
    · omega
    injection hv with hv1 hv2 hv3
    injection hv1 with hv1
    injection hv1 with hv1
    subst hv1
    subst hv3
    have hsrc : ∀ j u, (encs (Value.int .i64) (ys.take (min m dl)))[j]? = some u → W.cell? (ad.add j) = some u := by
      intro j u hu
      have hj : j < (ys.take (min m dl)).length := by
        rcases Nat.lt_or_ge j (ys.take (min m dl)).length with h | h
        · exact h
        · rw [List.getElem?_eq_none (by rw [encs_length]; exact h)] at hu
          cases hu
      have hjm : j < min m dl := by rw [List.length_take] at hj; omega
      rw [encs_get (d := 0) _ j hj] at hu
      rw [hc j (by omega), ← hu]
      simp [List.getD_eq_getElem?_getD, hjm]
    have hkl : (encs (Value.int .i64) (ys.take (min m dl))).length = min m dl := by rw [encs_length, List.length_take]; omega
    have hr := run_copy_cells (P := P) W t t' ty e g o dl dc ad m c (encs (Value.int .i64) (ys.take (min m dl))) ht hinfo (by rw [hkl]) hsrc
      (fun j hj => by rw [cell_of_row W g _ cur e (0, 0) hh]; simp; omega) (fun j _ => blk_frozen hh _) (by intro u hu; simp only [encs, List.mem_map] at hu; obtain ⟨q, _, rfl⟩ := hu; rfl)
    obtain ⟨cur', h3, h4, h5⟩ := setCells_row (encs (Value.int .i64) (ys.take (min m dl))) o W cur hh (by rw [hkl]; omega)
    obtain ⟨s1, s2, s3, s4⟩ := setCells_same g (encs (Value.int .i64) (ys.take (min m dl))) o W
    have hln : (xs.take o ++ (ys.take (min m dl) ++ xs.drop (o + min m dl))).length = xs.length := by
      rw [List.length_append, List.length_append, List.length_take, List.length_take, List.length_drop]
      omega
    refine ⟨_, by rw [hA, hr, hkl], ?_, ⟨s1, s2, s3, by rw [s4]; exact Nat.le_refl _, fun k _ hk => setCells_far _ _ k (fun he => hk (by rw [he]))⟩⟩
    refine Kd.R_of_own (enc := Value.int .i64) (h1 := fun _ => rfl) ?_ HO.1
    rw [hln]
    refine ⟨by rw [encs_length, hln, Nat.mul_one], .inr ⟨g, cap, cur', rfl, hb, h3, hnc, hcm, by rw [h4, hcs], ?_⟩⟩
    have htk : cur.toList.take xs.length = encs (Value.int .i64) xs := by rw [← htake, Nat.mul_one]
    have hE : encs (Value.int .i64) (xs.take o ++ (ys.take (min m dl) ++ xs.drop (o + min m dl))) = (encs (Value.int .i64) xs).take o ++ (encs (Value.int .i64) (ys.take (min m dl)) ++ (encs (Value.int .i64) xs).drop (o + min m dl)) := by simp [encs, List.map_take, List.map_drop]
    rw [hE, h5, hkl, Nat.mul_one, ← htk]
    have hcl : cur.toList.length = cur.size := Array.length_toList
    have e1 : (cur.toList.take o ++ encs (Value.int .i64) (ys.take (min m dl)) ++ cur.toList.drop (o + min m dl)).take xs.length = cur.toList.take o ++ (encs (Value.int .i64) (ys.take (min m dl)) ++ (cur.toList.drop (o + min m dl)).take (xs.length - (o + min m dl))) := by
      have hlo : (cur.toList.take o ++ encs (Value.int .i64) (ys.take (min m dl))).length = o + min m dl := by rw [List.length_append, hkl, List.length_take]; omega
      rw [List.take_append, hlo, List.take_of_length_le (by omega), List.append_assoc]
    rw [e1, List.take_take, List.drop_take, show min o xs.length = o by omega]
/-- copy as an event of a region whose order is free. -/
theorem copy_step {P : Program} {ops : Array Oper} {o : Oper} {N : Option Tmp} {a : Act} {W w1 : World} {K : Act → World → Prop} {Q : Exit → Act → World → Prop} (hw : Region.wanted o (yielded ops a.tmps) = true) (hd : o.dst = N) (s x : Operand) (t t' : TypeId)
    (ho : o.op = .call { callee := .builtin .copy, args := #[s, x], argTypes := #[t, t'] }) (ty : TypeId) (hty : o.type = ty) (u1 u2 r : Value) (hs : a.eval s = u1) (hx : a.eval x = u2) (hr : (Builtin.copy_ #[t, t'] ty #[u1, u2]).run P W = .ok r w1) (h : K (a.put N r) w1) :
    if Region.wanted o (yielded ops a.tmps) = true then Oper.wp P o a W K Q else K (a.put N undef) W := by
  subst hty
  rw [if_pos hw]
  unfold Oper.wp execOp
  simp only [ho, resolve, invoke, builtin, Sem.run_bind, Sem.run_pure, Result.andThen_ok, List.map_toArray, List.map_cons, List.map_nil, hs, hx, hr]
  subst hd
  exact h
theorem ints_Repeat.calls (A : Option Addr) (c : Nat) (x : Int) (n : Nat) (w : World) (hR : (Kd.int .i64).C w A 1 [x]) (hn : n ≤ 1099511627776) :
    Calls Tryz.prog 112 #[.slice A 1 c, .int .i64 n] w fun e w' => ∃ v, e = .returned v ∧ (Kd.int .i64).R 3 w' w.heap.size (fun _ => True) v (List.replicate n x) ∧ Below w.heap.size w w' := by
  have HR := am hR
  have hm1 : IntKind.u64.wrap 1 = ((1 : Nat) : Int) := by decide
  have hmn : IntKind.u64.wrap (n : Int) = (n : Int) := by simp [IntKind.wrap, IntKind.signed, IntKind.bits]; omega
  have hmn2 : IntKind.i64.wrap (n : Int) = (n : Int) := by simp only [IntKind.wrap, IntKind.signed, IntKind.bits]; simp; omega
  have c1 : decide ((n : Int) < 0) = false := decide_eq_false (by omega)
  have c2 : decide (((1 * n % 18446744073709551616 : Nat) : Int) > 9223372036854775807) = false := decide_eq_false (by omega)
  go_enter Tryz.func112, Tryz.ntmps112
  go_wp2_with (go_at_call 141; refine (Go.Proofs.Tryz.bits_Mul 1 n (by omega) (by omega) _).mono ?_)
  rintro e w1 ⟨rfl, hw⟩
  subst w1
  have hd1 : ((1 * n / 18446744073709551616 : Nat) : Int) = 0 := by omega
  have hd2 : ((1 * n % 18446744073709551616 : Nat) : Int) = (n : Int) := by omega
  rw [hd1, hd2]
  clear c2
  have c3 : decide ((9223372036854775807 : Int) < (n : Int)) = false := decide_eq_false (by omega)
  go_wp2_with (first | ((with_reducible refine gate_dst (N := 30) rfl ?_); refine Kd.R_make (Kd.int .i64) _ 3 rfl (N := 30) rfl 28 _ _ rfl (n : Int) rfl rfl Tryz.underlying28 (.int .i64 0) 8 info3 rfl (by decide) (by omega) 0 (ok := fun _ => True) (okp := fun _ => True) rfl (fun _ hk => hk) trivial (by omega) (by omega) (Below.refl _ _) (Nat.le_refl _) ?_; intro v2 w2 ho hb hg_ hnew_; clear hg_))
  rw [Int.toNat_natCast] at ho
  obtain ⟨A2, cp2, hv2⟩ := Kd.R_slice ho
  obtain ⟨b_, hnew, hble⟩ := hnew_
  have hl0 : (List.replicate n (0 : Int)).length = n := List.length_replicate
  rw [hl0] at hv2
  subst hv2
  obtain ⟨g, rfl⟩ : ∃ g, A2 = some ⟨g, 0, none⟩ := by
    cases A2 with
    | none => simp [Value.ownBlock] at hnew
    | some ad => obtain ⟨g, rfl⟩ := Kd.R_head ho; exact ⟨g, rfl⟩
  clear hnew hble
  obtain ⟨w3, hr3, ho3, hk3⟩ := run_copyAt (P := Tryz.prog) (t := 28) (t' := 28) (ty := 3) (o := 0) (dl := n) w.heap.size Tryz.underlying28 (by kernel_rfl) (List.replicate n 0) [x] A 1 c (by rw [hl0]; exact ho) (by rw [hl0]; omega) (Kd.C_below hR hb) cp2
  rw [hr3]
  simp only [Result.andThen]
  rw [Oper.upon_value]
  go_wp2
  (try simp only [Act.put, List.setIfInBounds_toArray, List.set_cons_zero, List.set_cons_succ])
  have hB0 : Below w.heap.size w w3 := hb.grown hk3 hb.size (fun k hk => by injection hk with hk; subst hk; exact Kd.R_base ho3 g rfl)
  rw [hl0] at ho3
  go_loopg [8] n (fun kq v8 w' => ∃ m : Nat, v8 = .int .i64 (m : Int) ∧ m ≤ n ∧ (n = 0 ∨ 1 ≤ m) ∧ n ≤ m + kq ∧ Aside0 ((Kd.int .i64).R 3 w' w.heap.size (fun _ => True) (.slice (some ⟨g, 0, none⟩) n cp2) (List.replicate m x ++ List.replicate (n - m) 0)) ∧ Aside0 (Below w.heap.size w w'))
  case atStart =>
    refine ⟨min 1 n, rfl, Nat.min_le_right _ _, by omega, by omega, ⟨?_⟩, ⟨hB0⟩⟩
    have e1 : (List.replicate n (0 : Int)).take 0 ++ ([x].take (min 1 n) ++ (List.replicate n (0 : Int)).drop (0 + min 1 n)) = List.replicate (min 1 n) x ++ List.replicate (n - min 1 n) 0 := by
      rcases Nat.eq_zero_or_pos n with h | h
      · subst h; rfl
      · rw [Nat.min_eq_left h]; simp
    rw [← e1]; exact ho3
  case round =>
    obtain ⟨m, rfl, hm1_, hm2_, hm3_, HO, HB⟩ := hrel
    by_cases c4 : m < n
    · obtain ⟨k1, rfl⟩ : ∃ k1, gk = k1 + 1 := ⟨gk - 1, by omega⟩
      have c4b : decide ((m : Int) < (n : Int)) = true := decide_eq_true (by omega)
      obtain ⟨i0, hi0, hz0, hsz0, hz2⟩ := info_parts info3
      have hcf := cut_from (P := Tryz.prog) 28 3 .i64 Tryz.underlying28 hi0 1 hsz0 (some ⟨g, 0, none⟩) n cp2 m (by omega) (by omega)
      have hcap : n ≤ cp2 := by have := (Kd.R_reads' HO.out).2.1; simpa using this
      have hct := cut_to (P := Tryz.prog) 28 3 .i64 Tryz.underlying28 hi0 (some ⟨g, 0, none⟩) n cp2 m (by omega) (by omega) hcap
      rw [Int.toNat_natCast, if_neg (by omega : ¬ cp2 = m)] at hcf
      rw [Int.toNat_natCast] at hct
      simp only [Option.map, Addr.add, Nat.mul_one, Nat.zero_add] at hcf
      go_wp2
      refine start_ (n := 10) (S := fun w' => True) (ds := []) #[false, false, false, false, false, false, false, false, false, false] (by kernel_rfl) rfl rfl trivial (fun hHeld => ?_)
      refine pure_ (i := 0) (N := some 38) #[true, false, false, false, false, false, false, false, false, false] rfl rfl (by kernel_rfl) (fun _ _ _ h => h) (Or.inl ⟨by rfl, zpa⟩) zpb ?_
      refine pure_ (i := 1) (N := some 39) #[true, true, false, false, false, false, false, false, false, false] rfl rfl (by kernel_rfl) (fun _ _ _ h => h) (Or.inl ⟨by rfl, zpa⟩) zpb ?_
      refine pure_ (i := 2) (N := some 40) #[true, true, true, false, false, false, false, false, false, false] rfl rfl (by kernel_rfl) (fun _ _ _ h => h) (Or.inl ⟨by rfl, zpa⟩) zpb ?_
      refine pure_ (i := 3) (N := some 41) #[true, true, true, true, false, false, false, false, false, false] rfl rfl (by kernel_rfl) (fun _ _ _ h => h) (Or.inl ⟨by rfl, zpa⟩) zpb ?_
      refine pure_ (i := 4) (N := some 42) #[true, true, true, true, true, false, false, false, false, false] rfl rfl (by kernel_rfl) (fun _ _ _ h => h) (Or.inl ⟨by rfl, zpa⟩) zpb ?_
      refine pure_ (i := 5) (N := some 43) #[true, true, true, true, true, true, false, false, false, false] rfl rfl (by kernel_rfl) (fun _ _ _ h => h) (Or.inl ⟨by rfl, zpa⟩) zpb ?_
      refine pure_ (i := 6) (N := some 44) #[true, true, true, true, true, true, true, false, false, false] rfl rfl (by kernel_rfl) (fun _ _ _ h => h) (Or.inl ⟨by rfl, zpa⟩) zpb ?_
      refine one_ (i := 7) (N := some 45) #[true, true, true, true, true, true, true, true, false, false] rfl rfl (by kernel_rfl) (by decide) (fun K hK => ?_)
      obtain ⟨w5, hr5, ho5, hk5⟩ := run_copyAt (P := Tryz.prog) (t := 28) (t' := 28) (ty := 3) (o := m) (dl := n - m) w.heap.size Tryz.underlying28 (by kernel_rfl) (List.replicate m x ++ List.replicate (n - m) 0) (List.replicate m x) (some ⟨g, 0, none⟩) m cp2 (by have := Kd.R_drew HO.out; simpa [Nat.add_sub_cancel' hm1_] using this) (by simp) (by have h9 := C_take_ _ _ (Kd.R_reads' (Kd.R_drew HO.out)).2.2; rwa [List.length_replicate] at h9) (cp2 - m)
      rw [← if_neg (show ¬ m = 0 by omega) (t := (⟨g, 0, none⟩ : Addr)) (e := ⟨g, m, none⟩)] at hr5
      refine copy_step rfl rfl (.tmp 41) (.tmp 44) 28 28 rfl 3 rfl (.slice (some (if m = 0 then ⟨g, 0, none⟩ else ⟨g, m, none⟩)) (n - m) (cp2 - m)) (.slice (some ⟨g, 0, none⟩) m cp2) _ rfl rfl hr5 ?_
      refine hK.out _ _ trivial (fun hHeld => ?_)
      clear hK K
      refine norm_ (a' := ?_) ?_ ?_
      rotate_left
      · show Act.put _ (some 45) _ = _
        simp only [Act.put, List.setIfInBounds_toArray, List.set_cons_zero, List.set_cons_succ, i64_w, i32_w]
        rfl
      refine pure_ (i := 8) (N := some 46) #[true, true, true, true, true, true, true, true, true, false] rfl rfl (by kernel_rfl) (fun _ _ _ h => h) (Or.inl ⟨by rfl, zpa⟩) zpb ?_
      refine pure_ (i := 9) (N := some 8) #[true, true, true, true, true, true, true, true, true, true] rfl rfl (by kernel_rfl) (fun _ _ _ h => h) (Or.inl ⟨by rfl, zpa⟩) zpb ?_
      refine done_ (by kernel_rfl) ?_
      have hwr : wrap64 ((m : Int) + ((min m (n - m) : Nat) : Int)) = ((m + min m (n - m) : Nat) : Int) := by unfold wrap64; omega
      rw [hwr]
      have HO5 := am ho5
      have HK5 := am hk5
      clear ho5 hk5 hr5 hcf hct hwr c4b hHeld
      go_wp2
      go_roundg k1
      case measure => omega
      case rel =>
        refine ⟨m + min m (n - m), rfl, by omega, by omega, by omega, ⟨?_⟩, ⟨?_⟩⟩
        · have e1 : (List.replicate m x ++ List.replicate (n - m) 0).take m ++ ((List.replicate m x).take (min m (n - m)) ++ (List.replicate m x ++ List.replicate (n - m) 0).drop (m + min m (n - m))) = List.replicate (m + min m (n - m)) x ++ List.replicate (n - (m + min m (n - m))) (0 : Int) := by
            rw [List.take_append_of_le_length (by simp), List.take_of_length_le (by simp), List.take_replicate, List.drop_append, List.drop_replicate, List.drop_replicate, List.length_replicate, show m - (m + min m (n - m)) = 0 by omega, List.replicate_zero, List.nil_append, ← List.append_assoc, List.replicate_append_replicate, show m + min (min m (n - m)) m = m + min m (n - m) by omega, show n - m - (m + min m (n - m) - m) = n - (m + min m (n - m)) by omega]
          rw [← e1]
          simpa [Nat.add_sub_cancel' hm1_] using HO5.out
        · exact (below_drew1 HB.out).grown HK5.out HB.out.size (fun k hk => by injection hk with hk; subst hk; exact Kd.R_base HO.out g rfl)
    · have c4b : decide ((m : Int) < (n : Int)) = false := decide_eq_false (by omega)
      go_wp2
      go_ret
      have e1 : List.replicate m x ++ List.replicate (n - m) (0 : Int) = List.replicate n x := by
        rw [show n - m = 0 by omega, show m = n by omega]; simp
      exact ⟨_, rfl, by rw [← e1]; exact HO.out, HB.out⟩
/-- A store as an event of a region whose order is free. -/
theorem store_step {P : Program} {ops : Array Oper} {o : Oper} {a : Act} {W w1 : World} {K : Act → World → Prop} {Q : Exit → Act → World → Prop} (hw : Region.wanted o (yielded ops a.tmps) = true) (hN : o.dst = none)
    (hrun : (execOp a.eval o).run P W = .ok .skip w1) (h : K (a.put none undef) w1) : if Region.wanted o (yielded ops a.tmps) = true then Oper.wp P o a W K Q else K (a.put none undef) W := by
  rw [if_pos hw]
  unfold Oper.wp
  rw [hrun]
  show K (a.put o.dst undef) w1
  rw [hN]
  exact h
theorem IsHT.drewN {W : World} {g : Nat} {s : ByteArray} {wd : Int} {v : Value} {bad : Bool} (h : IsHT W g s wd v bad) (n : Nat) : IsHT (W.drewN n) g s wd v bad := h
theorem IsHT.drew {W : World} {g : Nat} {s : ByteArray} {wd : Int} {v : Value} {bad : Bool} (h : IsHT W g s wd v bad) : IsHT W.drew g s wd v bad := h

def ht_run.f (k : Nat) (s : ByteArray) (wd : Int) (out : List Int) (bad : Bool) (many left : Int) : Option (ByteArray × List Int × Bool) :=
  (bits_Bytes.f wd).bind fun b => (ht_bytes.f s bad b).bind fun t => (num_Of.f k t.1).bind fun x =>
    if t.2.2 = true then some (t.2.1, out, true) else if left < many then some (t.2.1, out, true)
    else if 0 ≤ many ∧ many ≤ 1099511627776 ∧ out.length ≤ 1099511627776 then some (t.2.1, out ++ List.replicate many.toNat x, false) else none
theorem ht_run.calls (k g : Nat) (s : ByteArray) (wd : Int) (v : Value) (out : List Int) (bad : Bool) (many left : Int) (r1 : ByteArray) (r2 : List Int) (r3 : Bool) (w0 w : World) (hI : IsHT w g s wd v bad) (hR : (Kd.int .i64).R 3 w w0.heap.size (fun _ => True) v out) (hg : w0.heap.size ≤ g) (hB : Below w0.heap.size w0 w) (h : ht_run.f k s wd out bad many left = some (r1, r2, r3)) :
    Calls Tryz.prog 77 #[.pointer (some ⟨g, 0, none⟩), .int .i64 many, .int .i64 left] w fun e w' => e = .returned (.tuple #[]) ∧ ∃ v', IsHT w' g r1 wd v' r3 ∧ (Kd.int .i64).R 3 w' w0.heap.size (fun _ => True) v' r2 ∧ Below w0.heap.size w0 w' := by
  unfold ht_run.f at h
  obtain ⟨b, hb, h⟩ := Option.bind_eq_some_iff.mp h
  obtain ⟨⟨t1, t2, t3⟩, ht, h⟩ := Option.bind_eq_some_iff.mp h
  obtain ⟨x, hx, h⟩ := Option.bind_eq_some_iff.mp h
  simp only at hx h
  have hc1 := cellHT_1 hI
  by_cases c1 : t3 = true
  · subst c1
    rw [if_pos rfl] at h
    simp only [Option.some.injEq, Prod.mk.injEq] at h
    obtain ⟨rfl, rfl, rfl⟩ := h
    go_enter Tryz.func77, Tryz.ntmps77
    go_wp2_with (first | ((with_reducible refine gate_callee (f := 103) rfl ?_); refine goesL_ (some 12) rfl rfl Tryz.func103 (by kernel_rfl) rfl #[.int .i64 wd] rfl (by (try simp only [List.map_toArray, List.map_cons, List.map_nil]); first | done | rfl) ?_; (with_reducible refine (bits_Bytes.calls wd b _ hb).mono ?_); rintro e w1 ⟨rfl, ⟨nd, rfl⟩⟩; refine ⟨_, rfl, ?_⟩; have hI1 := hI.drewN nd; have hR1 := Kd.R_drewN hR nd; have hB1 := pw_below_drewN hB nd; clear hI hR hB hc1) | ((with_reducible refine gate_callee (f := 111) rfl ?_); refine goesL_ (some 13) rfl rfl Tryz.func111 (by kernel_rfl) rfl #[.pointer (some ⟨g, 0, none⟩), .int .i64 b] rfl (by (try simp only [List.map_toArray, List.map_cons, List.map_nil]); first | done | rfl) ?_; (with_reducible refine (ht_bytes.calls g s wd v bad b t1 t2 _ w0 _ hI1 hg hB1 ht).mono ?_); rintro e w1 ⟨rfl, hI2, hk2, hB2⟩; refine ⟨_, rfl, ?_⟩; have hR2 := hI1.keepR hk2 hR1; clear hI1 hR1 hB1 hk2) | ((with_reducible refine gate_callee (f := 43) rfl ?_); refine goesL_ (some 14) rfl rfl Tryz.func43 (by kernel_rfl) rfl #[.string t1] rfl (by (try simp only [List.map_toArray, List.map_cons, List.map_nil]); first | done | rfl) ?_; (with_reducible refine (num_Of.calls k t1 x _ hx).mono ?_); rintro e w2 ⟨rfl, ⟨nd2, rfl⟩⟩; refine ⟨_, rfl, ?_⟩; have hI3 := am (hI2.drewN nd2); have hR3 := am (Kd.R_drewN hR2 nd2); have hB3 := am (pw_below_drewN hB2 nd2); clear hI2 hR2 hB2; have hc3 := cellHT_3 hI3.out; have hf3 := blk_frozen hI3.out 3))
    go_end0
    exact ⟨rfl, _, IsHT.set_3 hI3.out true, hI3.out.keepR (KeepBut.set_ (KeepBut.refl _ _ _) 3 _) hR3.out, below_set hB3.out hg⟩
  · have c1' := Bool.eq_false_iff.mpr c1
    subst c1'
    rw [if_neg c1] at h
    by_cases c2 : left < many
    · rw [if_pos c2] at h
      have c2b := decide_eq_true c2
      simp only [Option.some.injEq, Prod.mk.injEq] at h
      obtain ⟨rfl, rfl, rfl⟩ := h
      go_enter Tryz.func77, Tryz.ntmps77
      go_wp2_with (first | ((with_reducible refine gate_callee (f := 103) rfl ?_); refine goesL_ (some 12) rfl rfl Tryz.func103 (by kernel_rfl) rfl #[.int .i64 wd] rfl (by (try simp only [List.map_toArray, List.map_cons, List.map_nil]); first | done | rfl) ?_; (with_reducible refine (bits_Bytes.calls wd b _ hb).mono ?_); rintro e w1 ⟨rfl, ⟨nd, rfl⟩⟩; refine ⟨_, rfl, ?_⟩; have hI1 := hI.drewN nd; have hR1 := Kd.R_drewN hR nd; have hB1 := pw_below_drewN hB nd; clear hI hR hB hc1) | ((with_reducible refine gate_callee (f := 111) rfl ?_); refine goesL_ (some 13) rfl rfl Tryz.func111 (by kernel_rfl) rfl #[.pointer (some ⟨g, 0, none⟩), .int .i64 b] rfl (by (try simp only [List.map_toArray, List.map_cons, List.map_nil]); first | done | rfl) ?_; (with_reducible refine (ht_bytes.calls g s wd v bad b t1 t2 _ w0 _ hI1 hg hB1 ht).mono ?_); rintro e w1 ⟨rfl, hI2, hk2, hB2⟩; refine ⟨_, rfl, ?_⟩; have hR2 := hI1.keepR hk2 hR1; clear hI1 hR1 hB1 hk2) | ((with_reducible refine gate_callee (f := 43) rfl ?_); refine goesL_ (some 14) rfl rfl Tryz.func43 (by kernel_rfl) rfl #[.string t1] rfl (by (try simp only [List.map_toArray, List.map_cons, List.map_nil]); first | done | rfl) ?_; (with_reducible refine (num_Of.calls k t1 x _ hx).mono ?_); rintro e w2 ⟨rfl, ⟨nd2, rfl⟩⟩; refine ⟨_, rfl, ?_⟩; have hI3 := am (hI2.drewN nd2); have hR3 := am (Kd.R_drewN hR2 nd2); have hB3 := am (pw_below_drewN hB2 nd2); clear hI2 hR2 hB2; have hc3 := cellHT_3 hI3.out; have hf3 := blk_frozen hI3.out 3))
      go_end0
      exact ⟨rfl, _, IsHT.set_3 hI3.out true, hI3.out.keepR (KeepBut.set_ (KeepBut.refl _ _ _) 3 _) hR3.out, below_set hB3.out hg⟩
    · rw [if_neg c2] at h
      have c2b := decide_eq_false c2
      by_cases c3 : 0 ≤ many ∧ many ≤ 1099511627776 ∧ out.length ≤ 1099511627776
      case neg => rw [if_neg c3] at h; cases h
      rw [if_pos c3] at h
      simp only [Option.some.injEq, Prod.mk.injEq] at h
      obtain ⟨rfl, rfl, rfl⟩ := h
      obtain ⟨n, rfl⟩ := Int.eq_ofNat_of_zero_le c3.1
      rw [Int.toNat_natCast]
      go_enter Tryz.func77, Tryz.ntmps77
      go_wp2_with (first | ((with_reducible refine gate_callee (f := 103) rfl ?_); refine goesL_ (some 12) rfl rfl Tryz.func103 (by kernel_rfl) rfl #[.int .i64 wd] rfl (by (try simp only [List.map_toArray, List.map_cons, List.map_nil]); first | done | rfl) ?_; (with_reducible refine (bits_Bytes.calls wd b _ hb).mono ?_); rintro e w1 ⟨rfl, ⟨nd, rfl⟩⟩; refine ⟨_, rfl, ?_⟩; have hI1 := hI.drewN nd; have hR1 := Kd.R_drewN hR nd; have hB1 := pw_below_drewN hB nd; clear hI hR hB hc1) | ((with_reducible refine gate_callee (f := 111) rfl ?_); refine goesL_ (some 13) rfl rfl Tryz.func111 (by kernel_rfl) rfl #[.pointer (some ⟨g, 0, none⟩), .int .i64 b] rfl (by (try simp only [List.map_toArray, List.map_cons, List.map_nil]); first | done | rfl) ?_; (with_reducible refine (ht_bytes.calls g s wd v bad b t1 t2 _ w0 _ hI1 hg hB1 ht).mono ?_); rintro e w1 ⟨rfl, hI2, hk2, hB2⟩; refine ⟨_, rfl, ?_⟩; have hR2 := hI1.keepR hk2 hR1; clear hI1 hR1 hB1 hk2) | ((with_reducible refine gate_callee (f := 43) rfl ?_); refine goesL_ (some 14) rfl rfl Tryz.func43 (by kernel_rfl) rfl #[.string t1] rfl (by (try simp only [List.map_toArray, List.map_cons, List.map_nil]); first | done | rfl) ?_; (with_reducible refine (num_Of.calls k t1 x _ hx).mono ?_); rintro e w2 ⟨rfl, ⟨nd2, rfl⟩⟩; refine ⟨_, rfl, ?_⟩; have hI3 := am (hI2.drewN nd2); have hR3 := am (Kd.R_drewN hR2 nd2); have hB3 := am (pw_below_drewN hB2 nd2); clear hI2 hR2 hB2; have hc3 := cellHT_3 hI3.out; have hf3 := blk_frozen hI3.out 3))
      have hI4 := IsHT.set_3 hI3.out false
      have hR4 := hI3.out.keepR (KeepBut.set_ (KeepBut.refl _ _ _) 3 (.bool false)) hR3.out
      have hB4 := below_set (j := 3) (v := .bool false) hB3.out hg
      generalize (World.setCell _ ⟨g, 3, none⟩ (.bool false)) = W4 at hI4 hR4 hB4 ⊢
      clear hI3 hR3 hB3 hc3 hf3
      have hc2 := cellHT_2 hI4.drew
      refine start_ (n := 13) (S := fun w' => w'.cell? ⟨g, 2, none⟩ = some v) (ds := [12]) #[false, false, false, false, false, false, false, false, false, false, false, false, false] (by kernel_rfl) rfl rfl hc2 (fun hHeld => ?_)
      refine pure_ (i := 0) (N := some 32) #[true, false, false, false, false, false, false, false, false, false, false, false, false] rfl rfl (by kernel_rfl) (fun _ _ _ h => h) (Or.inl ⟨by rfl, zpa⟩) zpb ?_
      refine pure_ (i := 1) (N := some 33) #[true, true, false, false, false, false, false, false, false, false, false, false, false] rfl rfl (by kernel_rfl) (fun _ _ _ h => h) (Or.inl ⟨by rfl, zpa⟩) zpb ?_
      refine pure_ (i := 2) (N := some 34) #[true, true, true, false, false, false, false, false, false, false, false, false, false] rfl rfl (by kernel_rfl) (fun _ _ _ h => h) (Or.inl ⟨by rfl, zpa⟩) zpb ?_
      refine pure_ (i := 3) (N := some 35) #[true, true, true, true, false, false, false, false, false, false, false, false, false] rfl rfl (by kernel_rfl) (fun _ _ _ h => h) (Or.inl ⟨by rfl, zpa⟩) zpb ?_
      refine take_ (i := 4) (N := some 36) (v := ?_) (a' := ?_) #[true, true, true, true, true, false, false, false, false, false, false, false, false] rfl rfl (by kernel_rfl) (fun _ _ _ h => h) (Or.inl ⟨by rfl, ?_⟩) hHeld ?_ ?_
      rotate_left
      · intro w' s0
        go_simp
        with_reducible rfl
      rotate_left
      · simp only [Act.put, List.setIfInBounds_toArray, List.set_cons_zero, List.set_cons_succ, i64_w, i32_w]
        rfl
      refine pure_ (i := 5) (N := some 37) #[true, true, true, true, true, true, false, false, false, false, false, false, false] rfl rfl (by kernel_rfl) (fun _ _ _ h => h) (Or.inl ⟨by rfl, zpa⟩) zpb ?_
      refine pure_ (i := 7) (N := some 39) #[true, true, true, true, true, true, false, true, false, false, false, false, false] rfl rfl (by kernel_rfl) (fun _ _ _ h => h) (Or.inl ⟨by rfl, zpa⟩) zpb ?_
      refine one_ (i := 6) (N := some 38) #[true, true, true, true, true, true, true, true, false, false, false, false, false] rfl rfl (by kernel_rfl) (by decide) (fun K hK => ?_)
      refine Kd.R_lit_step (Kd.int .i64) _ 3 ?hg (N := 38) ?hd (xs := [x]) (inner := [.int .i64 x]) (ok := fun _ => True) (okp := fun _ => True) ?hr ?hp (fun _ hk => hk) trivial (Below.refl _ _) (Nat.le_refl _) (by simp) ?_
      (case hd => rfl)
      (case hg => rfl)
      (case hr => exact zh)
      (case hp => exact (Reps.one (show Kd.M (Kd.int .i64) _ _ _ x [.int .i64 x] from rfl) (Reps.none _ _)))
      intro v5 w5 ho5 hb5 hg_ hnew_
      clear hg_ hnew_
      obtain ⟨A5, c5, rfl⟩ := Kd.R_slice ho5
      have hS5 := (hb5.cell (World.block_lt_of_cell? _ _ hHeld)).trans hHeld
      have hI5 := (hI4.drew).below hb5
      have hR5 := Kd.R_below (Kd.R_drew hR4) hb5
      have hB5 := below_step (below_drew1 hB4) hb5
      clear hI4 hR4 hB4 hc2
      refine hK.out _ _ hS5 (fun hHeld => ?_)
      clear hK K hS5
      refine norm_ (a' := ?_) ?_ ?_
      rotate_left
      · show Act.put _ (some 38) _ = _
        simp only [Act.put, List.setIfInBounds_toArray, List.set_cons_zero, List.set_cons_succ, i64_w, i32_w]
        rfl
      refine one_ (i := 8) (N := some 40) #[true, true, true, true, true, true, true, true, true, false, false, false, false] rfl rfl (by kernel_rfl) (by decide) (fun K hK => ?_)
      refine goes_ Tryz.func112 (by kernel_rfl) rfl #[.slice A5 1 c5, .int .i64 n] (by rfl) rfl rfl (by (try simp only [List.map_toArray, List.map_cons, List.map_nil]); first | done | rfl) ?_
      with_reducible refine (ints_Repeat.calls A5 c5 x n _ (Kd.R_reads' ho5).2.2 (by omega)).mono ?_
      rintro e w6 ⟨v6, rfl, ho6, hb6⟩
      obtain ⟨A6, c6, rfl⟩ := Kd.R_slice ho6
      have hln : (List.replicate n x).length = n := List.length_replicate
      have hS6 := (hb6.cell (World.block_lt_of_cell? _ _ hHeld)).trans hHeld
      have hI6 := hI5.below hb6
      have hR6 := Kd.R_below hR5 hb6
      have hB6 := below_step hB5 hb6
      refine ⟨_, rfl, ?_⟩
      refine hK.out _ _ hS6 (fun hHeld => ?_)
      clear hK K hS6 hI5 hR5 hB5
      refine norm_ (a' := ?_) ?_ ?_
      rotate_left
      · show Act.put _ (some 40) _ = _
        simp only [Act.put, List.setIfInBounds_toArray, List.set_cons_zero, List.set_cons_succ, i64_w, i32_w]
        rfl
      refine one_ (i := 9) (N := some 41) #[true, true, true, true, true, true, true, true, true, true, false, false, false] rfl rfl (by kernel_rfl) (by decide) (fun K hK => ?_)
      refine Kd.R_append_rows_step (Kd.int .i64) (w0 := w0) w0.heap.size (by rfl) (.tmp 36) (.tmp 40) 28 3 (.int .i64 0) 8 rfl Tryz.underlying28 info3 rfl (by decide) (by omega) v out (List.replicate n x) _ _ _ (fun _ => True) (fun _ => False) rfl rfl hR6 (Kd.R_reads' ho6).2.2 (fun _ _ h => h) (fun _ h => h.elim) (fun _ _ => trivial) hB6 hB6.size (by rw [hln]; omega) ?_
      intro v7 w7 ho7 hb7 hg7 hat7
      obtain ⟨A7, c7, rfl⟩ := Kd.R_slice ho7
      have hI7 : IsHT w7 g t2 wd v false := blk_grown hI6 hg7 (Kd.R_ne hR6 hI6 (by decide))
      refine hK.out _ _ (cellHT_2 hI7) (fun hHeld => ?_)
      clear hK K
      refine norm_ (a' := ?_) ?_ ?_
      rotate_left
      · show Act.put _ (some 41) _ = _
        simp only [Act.put, List.setIfInBounds_toArray, List.set_cons_zero, List.set_cons_succ, i64_w, i32_w]
        rfl
      refine pure_ (i := 10) (N := some 42) #[true, true, true, true, true, true, true, true, true, true, true, false, false] rfl rfl (by kernel_rfl) (fun _ _ _ h => h) (Or.inl ⟨by rfl, zpa⟩) zpb ?_
      refine pure_ (i := 11) (N := some 43) #[true, true, true, true, true, true, true, true, true, true, true, true, false] rfl rfl (by kernel_rfl) (fun _ _ _ h => h) (Or.inl ⟨by rfl, zpa⟩) zpb ?_
      have hf7 := blk_frozen hI7 2
      refine last_ (i := 12) (N := none) #[true, true, true, true, true, true, true, true, true, true, true, true, true] rfl rfl (by kernel_rfl) (by decide) (fun K hK => ?_)
      refine store_step (w1 := w7.setCell ⟨g, 2, none⟩ (.slice A7 (out ++ List.replicate n x).length c7)) rfl rfl (by exact zh) ?_
      refine hK.out _ _ ?_
      clear hK K
      refine norm_ (a' := ?_) ?_ ?_
      rotate_left
      · show Act.put _ none _ = _
        simp only [Act.put]
        rfl
      refine done_ (by kernel_rfl) ?_
      go_end0
      exact ⟨rfl, _, IsHT.set_2 hI7 _, hI7.keepR (KeepBut.set_ (KeepBut.refl _ _ _) 2 _) ho7, below_set hb7 hg⟩
theorem IsHT.grow {W W' W1 : World} {g base : Nat} {s : ByteArray} {wd : Int} {v : Value} {bad : Bool} {out : List Int} (h : IsHT W g s wd v bad) (hR : (Kd.int .i64).R 3 W base (fun _ => True) v out) (ha : Below W.heap.size W W') (hg : W'.grownBy W1 v.ownBlock) : IsHT W1 g s wd v bad :=
  blk_grown (h.below ha) hg (Kd.R_ne (Kd.R_below hR ha) (h.below ha) (by decide))
def ht_num (t : ByteArray) (bad : Bool) (wd i : Int) : Nat → Nat → Int → Option Int
  | 0, _, x => some x
  | r + 1, j, x => if bad = true then ht_num t bad wd i r (j + 1) x else (bits_On.f t (wrap64 (wrap64 (i * wd) + (j : Int)))).bind fun b => if b = true then ht_num t bad wd i r (j + 1) (Go.bits .or .i64 x (wrap64 (2 ^ j))) else ht_num t bad wd i r (j + 1) x
def ht_nums (t : ByteArray) (bad : Bool) (wd : Nat) : Nat → Nat → List Int → Option (List Int)
  | 0, _, out => some out
  | r + 1, i, out => (ht_num t bad wd i wd 0 0).bind fun x => ht_nums t bad wd r (i + 1) (out ++ [x])
def ht_groups.f (s : ByteArray) (wd : Int) (out : List Int) (bad : Bool) (many left : Int) : Option (ByteArray × List Int × Bool) :=
  if 0 ≤ many ∧ many ≤ 1099511627776 ∧ 0 ≤ left ∧ left ≤ 1099511627776 ∧ 0 ≤ wd ∧ wd ≤ 16 ∧ out.length ≤ 1099511627776 then
    (if (left + 7) / 8 < many then some (s, out, true) else (ht_bytes.f s bad (many * wd)).bind fun t => (ht_nums t.1 t.2.2 wd.toNat (min (many * 8) left).toNat 0 out).bind fun o => some (t.2.1, o, t.2.2))
  else none
theorem ht_groups.calls (g : Nat) (s : ByteArray) (wd : Int) (v : Value) (out : List Int) (bad : Bool) (many left : Int) (r1 : ByteArray) (r2 : List Int) (r3 : Bool) (w0 w : World) (hI : IsHT w g s wd v bad) (hR : (Kd.int .i64).R 3 w w0.heap.size (fun _ => True) v out) (hg : w0.heap.size ≤ g) (hB : Below w0.heap.size w0 w) (h : ht_groups.f s wd out bad many left = some (r1, r2, r3)) :
    Calls Tryz.prog 78 #[.pointer (some ⟨g, 0, none⟩), .int .i64 many, .int .i64 left] w fun e w' => e = .returned (.tuple #[]) ∧ ∃ v', IsHT w' g r1 wd v' r3 ∧ (Kd.int .i64).R 3 w' w0.heap.size (fun _ => True) v' r2 ∧ Below w0.heap.size w0 w' := by
  unfold ht_groups.f at h
  by_cases c0 : 0 ≤ many ∧ many ≤ 1099511627776 ∧ 0 ≤ left ∧ left ≤ 1099511627776 ∧ 0 ≤ wd ∧ wd ≤ 16 ∧ out.length ≤ 1099511627776
  case neg => rw [if_neg c0] at h; cases h
  rw [if_pos c0] at h
  obtain ⟨n1, n2, n3, n4, n5, n6, n7⟩ := c0
  have hI0 := am hI
  have hc1 := cellHT_1 hI
  have hc3 := cellHT_3 hI
  have hf3 := blk_frozen hI 3
  have hw1 : wrap64 (left + 8) = left + 8 := by unfold wrap64; omega
  have hw2 : wrap64 (left + 8 - 1) = left + 7 := by unfold wrap64; omega
  have hw3 : wrap64 (Int.tdiv (left + 7) 8) = (left + 7) / 8 := by rw [Int.tdiv_eq_ediv_of_nonneg (by omega)]; unfold wrap64; omega
  by_cases c1 : (left + 7) / 8 < many
  · rw [if_pos c1] at h
    simp only [Option.some.injEq, Prod.mk.injEq] at h
    obtain ⟨rfl, rfl, rfl⟩ := h
    have c1b := decide_eq_true c1
    clear hI n1 n2 n3 n4 n5 n6 n7 c1
    go_enter Tryz.func78, Tryz.ntmps78
    go_wp2
    (try simp only [Exit.inBlock, Exit.then])
    refine bodyPost_ret (results_none rfl _ _ _) rfl ?_
    exact ⟨rfl, _, IsHT.set_3 hI0.out true, hI0.out.keepR (KeepBut.set_ (KeepBut.refl _ _ _) 3 _) hR, below_set hB hg⟩
  · rw [if_neg c1] at h
    have c1b := decide_eq_false c1
    obtain ⟨⟨t1, t2, t3⟩, ht, h⟩ := Option.bind_eq_some_iff.mp h
    obtain ⟨o, ho, h⟩ := Option.bind_eq_some_iff.mp h
    simp only at ho h
    simp only [Option.some.injEq, Prod.mk.injEq] at h
    obtain ⟨rfl, rfl, rfl⟩ := h
    have hw4 : wrap64 (many * wd) = many * wd := by
      have : 0 ≤ many * wd := Int.mul_nonneg n1 n5
      have : many * wd ≤ many * 16 := Int.mul_le_mul_of_nonneg_left n6 n1
      unfold wrap64; omega
    have hw5 : wrap64 (many * 8) = many * 8 := by unfold wrap64; omega
    by_cases c2 : left < many * 8
    · obtain ⟨N, rfl⟩ := Int.eq_ofNat_of_zero_le n3
      have HNL := am (Int.le_refl (N : Int))
      have HN : ht_nums t1 t3 wd.toNat N 0 out = some o := by rw [show (min (many * 8) ((N : Nat) : Int)).toNat = N by omega] at ho; exact ho
      have HX := am (And.intro n1 (And.intro n2 (And.intro n3 (And.intro n4 n7))))
      obtain ⟨d, rfl⟩ := Int.eq_ofNat_of_zero_le n5
      rw [← hw4] at ht
      have HT := am ht
      have HO := am ho
      clear hw4 ht ho n1 n2 n3 n4 n5 n7 c1
      go_enter Tryz.func78, Tryz.ntmps78
      go_wp2_with ((with_reducible refine gate_callee (f := 111) rfl ?_); refine goesL_ (some 26) rfl rfl Tryz.func111 (by kernel_rfl) rfl #[.pointer (some ⟨g, 0, none⟩), .int .i64 (wrap64 (many * (d : Int)))] rfl (by (try simp only [List.map_toArray, List.map_cons, List.map_nil]); first | done | rfl) ?_; (with_reducible refine (ht_bytes.calls g s d v bad _ t1 t2 t3 w0 _ hI hg hB HT.out).mono ?_); rintro e w1 ⟨rfl, hI2, hk2, hB2⟩; refine ⟨_, rfl, ?_⟩; have hR2 := am (hI.keepR hk2 hR); clear hI hR hB hk2)
      (try simp only [Act.put, List.setIfInBounds_toArray, List.set_cons_zero, List.set_cons_succ])
      go_loopg [31] N (fun kq v31 w' => ∃ (i : Nat) (o1 : List Int) (v1 : Value), v31 = .int .i64 (i : Int) ∧ i ≤ N ∧ N ≤ i + kq ∧ Aside0 (ht_nums t1 t3 d (N - i) i o1 = some o) ∧ Aside0 (o1.length = out.length + i) ∧ Aside0 (IsHT w' g t2 d v1 t3) ∧ Aside0 ((Kd.int .i64).R 3 w' w0.heap.size (fun _ => True) v1 o1) ∧ Aside0 (Below w0.heap.size w0 w'))
      case atStart => exact ⟨0, out, v, rfl, Nat.zero_le _, by omega, ⟨HN⟩, ⟨rfl⟩, ⟨hI2⟩, hR2, ⟨hB2⟩⟩
      case round =>
        clear hI2 hR2 hB2
        obtain ⟨i, o1, v1, rfl, hi1, hi2, HM, HL, HI1, HR1, HB1⟩ := hrel
        have hc1 := cellHT_1 HI1.out
        by_cases c4 : i < N
        · have c4b : decide ((i : Int) < (N : Int)) = true := decide_eq_true (by omega)
          obtain ⟨k1, rfl⟩ : ∃ k1, gk = k1 + 1 := ⟨gk - 1, by omega⟩
          obtain ⟨r, hr⟩ : ∃ r, N - i = r + 1 := ⟨N - i - 1, by omega⟩
          have hm := HM.out
          rw [hr, ht_nums] at hm
          obtain ⟨x, hx, hm⟩ := Option.bind_eq_some_iff.mp hm
          have HM1 := am hm
          have HX1 := am hx
          clear hm hx HM
          go_wp2
          (try simp only [Act.put, List.setIfInBounds_toArray, List.set_cons_zero, List.set_cons_succ])
          go_loopg [8, 38] d (fun kj v8 v38 w' => ∃ (j : Nat) (y : Int), v8 = .int .i64 y ∧ v38 = .int .i64 (j : Int) ∧ j ≤ d ∧ d ≤ j + kj ∧ Aside0 (ht_num t1 t3 d i (d - j) j y = some x) ∧ Aside0 (IsHT w' g t2 d v1 t3) ∧ Aside0 ((Kd.int .i64).R 3 w' w0.heap.size (fun _ => True) v1 o1) ∧ Aside0 (Below w0.heap.size w0 w'))
          case atStart => exact ⟨0, 0, rfl, rfl, Nat.zero_le _, by omega, HX1, HI1, HR1, HB1⟩
          case round =>
            clear HI1 HR1 HB1 HX1 hc1
            obtain ⟨j, y, rfl, rfl, hj1, hj2, HY, HI2, HR2, HB2⟩ := hrel
            have hc1 := cellHT_1 HI2.out
            have hc2 := cellHT_2 HI2.out
            have hc3 := cellHT_3 HI2.out
            have hf2 := blk_frozen HI2.out 2
            by_cases c5 : j < d
            · have c5b : decide ((j : Int) < (d : Int)) = true := decide_eq_true (by omega)
              obtain ⟨k3, rfl⟩ : ∃ k3, gk = k3 + 1 := ⟨gk - 1, by omega⟩
              obtain ⟨q, hq⟩ : ∃ q, d - j = q + 1 := ⟨d - j - 1, by omega⟩
              have hm := HY.out
              rw [hq, ht_num] at hm
              have hwj := am (show wrap64 ((j : Int) + 1) = ((j + 1 : Nat) : Int) by unfold wrap64; omega)
              by_cases c6 : t3 = true
              · subst c6
                rw [if_pos rfl] at hm
                have HQ := am hm
                clear hm
                go_wp2
                go_roundg k3
                case measure => omega
                case rel => exact ⟨j + 1, _, rfl, congrArg (Value.int .i64) (by first | (rw [hwj.out]) | omega), by omega, by omega, ⟨by rw [show d - (j + 1) = q by omega]; exact HQ.out⟩, ⟨by first | exact HI2.out | exact HI2.out.drewN _⟩, ⟨by first | exact HR2.out | exact Kd.R_drewN HR2.out _⟩, ⟨by first | exact HB2.out | exact pw_below_drewN HB2.out _⟩⟩
              · have c6' := Bool.eq_false_iff.mpr c6
                subst c6'
                rw [if_neg c6] at hm
                obtain ⟨b, hb, hm⟩ := Option.bind_eq_some_iff.mp hm
                by_cases c7 : b = true
                · subst c7
                  rw [if_pos rfl] at hm
                  have HQ := am hm
                  have Hb := am hb
                  clear hm hb
                  go_wp2_with (first | (go_at_call 113; (with_reducible refine (bits_On.calls t1 (wrap64 (wrap64 ((i : Int) * (d : Int)) + (j : Int))) _ _ Hb.out).mono ?_); rintro e w' ⟨rfl, ⟨nd, rfl⟩⟩; (try exact zd)))
                  repeat (go_quiet (first | (go_at_call 113; (with_reducible refine (bits_On.calls t1 (wrap64 (wrap64 ((i : Int) * (d : Int)) + (j : Int))) _ _ Hb.out).mono ?_); rintro e w' ⟨rfl, ⟨nd, rfl⟩⟩; (try exact zd))); try go_wp2_with (first | (go_at_call 113; (with_reducible refine (bits_On.calls t1 (wrap64 (wrap64 ((i : Int) * (d : Int)) + (j : Int))) _ _ Hb.out).mono ?_); rintro e w' ⟨rfl, ⟨nd, rfl⟩⟩; (try exact zd))))
                  go_roundg k3
                  case measure => omega
                  case rel => exact ⟨j + 1, _, rfl, congrArg (Value.int .i64) (by first | (rw [hwj.out]) | omega), by omega, by omega, ⟨by rw [show d - (j + 1) = q by omega]; exact HQ.out⟩, ⟨by first | exact HI2.out | exact HI2.out.drewN _⟩, ⟨by first | exact HR2.out | exact Kd.R_drewN HR2.out _⟩, ⟨by first | exact HB2.out | exact pw_below_drewN HB2.out _⟩⟩
                · have c7' := Bool.eq_false_iff.mpr c7
                  subst c7'
                  rw [if_neg c7] at hm
                  have HQ := am hm
                  have Hb := am hb
                  clear hm hb
                  go_wp2_with (first | (go_at_call 113; (with_reducible refine (bits_On.calls t1 (wrap64 (wrap64 ((i : Int) * (d : Int)) + (j : Int))) _ _ Hb.out).mono ?_); rintro e w' ⟨rfl, ⟨nd, rfl⟩⟩; (try exact zd)))
                  repeat (go_quiet (first | (go_at_call 113; (with_reducible refine (bits_On.calls t1 (wrap64 (wrap64 ((i : Int) * (d : Int)) + (j : Int))) _ _ Hb.out).mono ?_); rintro e w' ⟨rfl, ⟨nd, rfl⟩⟩; (try exact zd))); try go_wp2_with (first | (go_at_call 113; (with_reducible refine (bits_On.calls t1 (wrap64 (wrap64 ((i : Int) * (d : Int)) + (j : Int))) _ _ Hb.out).mono ?_); rintro e w' ⟨rfl, ⟨nd, rfl⟩⟩; (try exact zd))))
                  go_roundg k3
                  case measure => omega
                  case rel => exact ⟨j + 1, _, rfl, congrArg (Value.int .i64) (by first | (rw [hwj.out]) | omega), by omega, by omega, ⟨by rw [show d - (j + 1) = q by omega]; exact HQ.out⟩, ⟨by first | exact HI2.out | exact HI2.out.drewN _⟩, ⟨by first | exact HR2.out | exact Kd.R_drewN HR2.out _⟩, ⟨by first | exact HB2.out | exact pw_below_drewN HB2.out _⟩⟩
            · have c5b : decide ((j : Int) < (d : Int)) = false := decide_eq_false (by omega)
              have hm := HY.out
              rw [show d - j = 0 by omega, ht_num] at hm
              injection hm with hm
              subst hm
              clear HY
              go_wp2_with (first | ((with_reducible refine gate_builtin (b := .append) (xs := #[.tmp 67, .tmp 69]) rfl ?_); at_builtin; refine Kd.R_append (Kd.int .i64) (w0 := w0) w0.heap.size rfl (.tmp 67) (.tmp 69) 28 3 (.int .i64 0) 8 rfl Tryz.underlying28 info3 rfl (by decide) (by omega) v1 o1 y [.int .i64 y] (fun _ => True) (fun _ => False) rfl rfl ?aP (fun _ hk => hk.elim) ?aF ?aO ?aB ?aS ?aL ?_; (case aP => exact rfl); (case aF => exact fun _ _ => trivial); (case aO => exact (zr HR2.out)); (case aB => exact (zl HB2.out)); (case aS => exact (below_size (zl HB2.out))); (case aL => have := HL.out; have := HX.out; have := HNL.out; omega); intro v7 w7 ho7 hb7 hg7 hat7; have hI7 := IsHT.grow HI2.out HR2.out (by repeat (first | exact Below.refl _ _ | apply below_alloc | apply pw_below_drewN | apply below_drew1)) hg7; obtain ⟨A7, c7, rfl⟩ := Kd.R_slice ho7; have hf7 := blk_frozen hI7 2; have hc7 := cellHT_2 hI7; have HR7 := am ho7; have HB7 := am hb7; have HI7 := am hI7; clear ho7 hb7 hg7 hat7 hI7))
              go_roundg k1
              case measure => omega
              case rel =>
                have HR8 := HI7.out.keepR (KeepBut.set_ (KeepBut.refl _ _ _) 2 (.slice A7 (o1.length + 1) c7)) HR7.out
                rw [show (o1 ++ [y]).length = o1.length + 1 by simp] at HR8
                exact ⟨i + 1, o1 ++ [y], _, congrArg (Value.int .i64) (by have := HX.out; have := HNL.out; unfold wrap64; omega), by omega, by omega, ⟨by rw [show N - (i + 1) = r by omega]; exact HM1.out⟩, ⟨by have := HL.out; simp; omega⟩, ⟨IsHT.set_2 HI7.out _⟩, ⟨HR8⟩, ⟨below_set HB7.out hg⟩⟩
        · have c4b : decide ((i : Int) < (N : Int)) = false := decide_eq_false (by omega)
          go_wp2
          go_end0
          have e0 : N - i = 0 := by omega
          have hm := HM.out
          rw [e0, ht_nums] at hm
          injection hm with hm
          subst hm
          exact ⟨rfl, _, HI1.out, HR1.out, HB1.out⟩

    · obtain ⟨N, hN⟩ := Int.eq_ofNat_of_zero_le (show 0 ≤ many * 8 by omega)
      have HN : ht_nums t1 t3 wd.toNat N 0 out = some o := by rw [show (min (many * 8) left).toNat = N by omega] at ho; exact ho
      have hw6 : wrap64 (many * 8) = (N : Int) := hw5.trans hN
      have HNL := am (show (N : Int) ≤ left by omega)
      have c2w : (left < (N : Int)) = False := eq_false (by omega)
      clear hw5 c2
      have HNN := am hN
      clear hN
      have HX := am (And.intro n1 (And.intro n2 (And.intro n3 (And.intro n4 n7))))
      obtain ⟨d, rfl⟩ := Int.eq_ofNat_of_zero_le n5
      rw [← hw4] at ht
      have HT := am ht
      have HO := am ho
      clear hw4 ht ho n1 n2 n3 n4 n5 n7 c1
      go_enter Tryz.func78, Tryz.ntmps78
      go_wp2_with ((with_reducible refine gate_callee (f := 111) rfl ?_); refine goesL_ (some 26) rfl rfl Tryz.func111 (by kernel_rfl) rfl #[.pointer (some ⟨g, 0, none⟩), .int .i64 (wrap64 (many * (d : Int)))] rfl (by (try simp only [List.map_toArray, List.map_cons, List.map_nil]); first | done | rfl) ?_; (with_reducible refine (ht_bytes.calls g s d v bad _ t1 t2 t3 w0 _ hI hg hB HT.out).mono ?_); rintro e w1 ⟨rfl, hI2, hk2, hB2⟩; refine ⟨_, rfl, ?_⟩; have hR2 := am (hI.keepR hk2 hR); clear hI hR hB hk2)
      (try simp only [Act.put, List.setIfInBounds_toArray, List.set_cons_zero, List.set_cons_succ])
      go_loopg [31] N (fun kq v31 w' => ∃ (i : Nat) (o1 : List Int) (v1 : Value), v31 = .int .i64 (i : Int) ∧ i ≤ N ∧ N ≤ i + kq ∧ Aside0 (ht_nums t1 t3 d (N - i) i o1 = some o) ∧ Aside0 (o1.length = out.length + i) ∧ Aside0 (IsHT w' g t2 d v1 t3) ∧ Aside0 ((Kd.int .i64).R 3 w' w0.heap.size (fun _ => True) v1 o1) ∧ Aside0 (Below w0.heap.size w0 w'))
      case atStart => exact ⟨0, out, v, rfl, Nat.zero_le _, by omega, ⟨HN⟩, ⟨rfl⟩, ⟨hI2⟩, hR2, ⟨hB2⟩⟩
      case round =>
        clear hI2 hR2 hB2
        obtain ⟨i, o1, v1, rfl, hi1, hi2, HM, HL, HI1, HR1, HB1⟩ := hrel
        have hc1 := cellHT_1 HI1.out
        by_cases c4 : i < N
        · have c4b : decide ((i : Int) < (N : Int)) = true := decide_eq_true (by omega)
          obtain ⟨k1, rfl⟩ : ∃ k1, gk = k1 + 1 := ⟨gk - 1, by omega⟩
          obtain ⟨r, hr⟩ : ∃ r, N - i = r + 1 := ⟨N - i - 1, by omega⟩
          have hm := HM.out
          rw [hr, ht_nums] at hm
          obtain ⟨x, hx, hm⟩ := Option.bind_eq_some_iff.mp hm
          have HM1 := am hm
          have HX1 := am hx
          clear hm hx HM
          go_wp2
          (try simp only [Act.put, List.setIfInBounds_toArray, List.set_cons_zero, List.set_cons_succ])
          go_loopg [8, 38] d (fun kj v8 v38 w' => ∃ (j : Nat) (y : Int), v8 = .int .i64 y ∧ v38 = .int .i64 (j : Int) ∧ j ≤ d ∧ d ≤ j + kj ∧ Aside0 (ht_num t1 t3 d i (d - j) j y = some x) ∧ Aside0 (IsHT w' g t2 d v1 t3) ∧ Aside0 ((Kd.int .i64).R 3 w' w0.heap.size (fun _ => True) v1 o1) ∧ Aside0 (Below w0.heap.size w0 w'))
          case atStart => exact ⟨0, 0, rfl, rfl, Nat.zero_le _, by omega, HX1, HI1, HR1, HB1⟩
          case round =>
            clear HI1 HR1 HB1 HX1 hc1
            obtain ⟨j, y, rfl, rfl, hj1, hj2, HY, HI2, HR2, HB2⟩ := hrel
            have hc1 := cellHT_1 HI2.out
            have hc2 := cellHT_2 HI2.out
            have hc3 := cellHT_3 HI2.out
            have hf2 := blk_frozen HI2.out 2
            by_cases c5 : j < d
            · have c5b : decide ((j : Int) < (d : Int)) = true := decide_eq_true (by omega)
              obtain ⟨k3, rfl⟩ : ∃ k3, gk = k3 + 1 := ⟨gk - 1, by omega⟩
              obtain ⟨q, hq⟩ : ∃ q, d - j = q + 1 := ⟨d - j - 1, by omega⟩
              have hm := HY.out
              rw [hq, ht_num] at hm
              have hwj := am (show wrap64 ((j : Int) + 1) = ((j + 1 : Nat) : Int) by unfold wrap64; omega)
              by_cases c6 : t3 = true
              · subst c6
                rw [if_pos rfl] at hm
                have HQ := am hm
                clear hm
                go_wp2
                go_roundg k3
                case measure => omega
                case rel => exact ⟨j + 1, _, rfl, congrArg (Value.int .i64) (by first | (rw [hwj.out]) | omega), by omega, by omega, ⟨by rw [show d - (j + 1) = q by omega]; exact HQ.out⟩, ⟨by first | exact HI2.out | exact HI2.out.drewN _⟩, ⟨by first | exact HR2.out | exact Kd.R_drewN HR2.out _⟩, ⟨by first | exact HB2.out | exact pw_below_drewN HB2.out _⟩⟩
              · have c6' := Bool.eq_false_iff.mpr c6
                subst c6'
                rw [if_neg c6] at hm
                obtain ⟨b, hb, hm⟩ := Option.bind_eq_some_iff.mp hm
                by_cases c7 : b = true
                · subst c7
                  rw [if_pos rfl] at hm
                  have HQ := am hm
                  have Hb := am hb
                  clear hm hb
                  go_wp2_with (first | (go_at_call 113; (with_reducible refine (bits_On.calls t1 (wrap64 (wrap64 ((i : Int) * (d : Int)) + (j : Int))) _ _ Hb.out).mono ?_); rintro e w' ⟨rfl, ⟨nd, rfl⟩⟩; (try exact zd)))
                  repeat (go_quiet (first | (go_at_call 113; (with_reducible refine (bits_On.calls t1 (wrap64 (wrap64 ((i : Int) * (d : Int)) + (j : Int))) _ _ Hb.out).mono ?_); rintro e w' ⟨rfl, ⟨nd, rfl⟩⟩; (try exact zd))); try go_wp2_with (first | (go_at_call 113; (with_reducible refine (bits_On.calls t1 (wrap64 (wrap64 ((i : Int) * (d : Int)) + (j : Int))) _ _ Hb.out).mono ?_); rintro e w' ⟨rfl, ⟨nd, rfl⟩⟩; (try exact zd))))
                  go_roundg k3
                  case measure => omega
                  case rel => exact ⟨j + 1, _, rfl, congrArg (Value.int .i64) (by first | (rw [hwj.out]) | omega), by omega, by omega, ⟨by rw [show d - (j + 1) = q by omega]; exact HQ.out⟩, ⟨by first | exact HI2.out | exact HI2.out.drewN _⟩, ⟨by first | exact HR2.out | exact Kd.R_drewN HR2.out _⟩, ⟨by first | exact HB2.out | exact pw_below_drewN HB2.out _⟩⟩
                · have c7' := Bool.eq_false_iff.mpr c7
                  subst c7'
                  rw [if_neg c7] at hm
                  have HQ := am hm
                  have Hb := am hb
                  clear hm hb
                  go_wp2_with (first | (go_at_call 113; (with_reducible refine (bits_On.calls t1 (wrap64 (wrap64 ((i : Int) * (d : Int)) + (j : Int))) _ _ Hb.out).mono ?_); rintro e w' ⟨rfl, ⟨nd, rfl⟩⟩; (try exact zd)))
                  repeat (go_quiet (first | (go_at_call 113; (with_reducible refine (bits_On.calls t1 (wrap64 (wrap64 ((i : Int) * (d : Int)) + (j : Int))) _ _ Hb.out).mono ?_); rintro e w' ⟨rfl, ⟨nd, rfl⟩⟩; (try exact zd))); try go_wp2_with (first | (go_at_call 113; (with_reducible refine (bits_On.calls t1 (wrap64 (wrap64 ((i : Int) * (d : Int)) + (j : Int))) _ _ Hb.out).mono ?_); rintro e w' ⟨rfl, ⟨nd, rfl⟩⟩; (try exact zd))))
                  go_roundg k3
                  case measure => omega
                  case rel => exact ⟨j + 1, _, rfl, congrArg (Value.int .i64) (by first | (rw [hwj.out]) | omega), by omega, by omega, ⟨by rw [show d - (j + 1) = q by omega]; exact HQ.out⟩, ⟨by first | exact HI2.out | exact HI2.out.drewN _⟩, ⟨by first | exact HR2.out | exact Kd.R_drewN HR2.out _⟩, ⟨by first | exact HB2.out | exact pw_below_drewN HB2.out _⟩⟩
            · have c5b : decide ((j : Int) < (d : Int)) = false := decide_eq_false (by omega)
              have hm := HY.out
              rw [show d - j = 0 by omega, ht_num] at hm
              injection hm with hm
              subst hm
              clear HY
              go_wp2_with (first | ((with_reducible refine gate_builtin (b := .append) (xs := #[.tmp 67, .tmp 69]) rfl ?_); at_builtin; refine Kd.R_append (Kd.int .i64) (w0 := w0) w0.heap.size rfl (.tmp 67) (.tmp 69) 28 3 (.int .i64 0) 8 rfl Tryz.underlying28 info3 rfl (by decide) (by omega) v1 o1 y [.int .i64 y] (fun _ => True) (fun _ => False) rfl rfl ?aP (fun _ hk => hk.elim) ?aF ?aO ?aB ?aS ?aL ?_; (case aP => exact rfl); (case aF => exact fun _ _ => trivial); (case aO => exact (zr HR2.out)); (case aB => exact (zl HB2.out)); (case aS => exact (below_size (zl HB2.out))); (case aL => have := HL.out; have := HX.out; have := HNL.out; omega); intro v7 w7 ho7 hb7 hg7 hat7; have hI7 := IsHT.grow HI2.out HR2.out (by repeat (first | exact Below.refl _ _ | apply below_alloc | apply pw_below_drewN | apply below_drew1)) hg7; obtain ⟨A7, c7, rfl⟩ := Kd.R_slice ho7; have hf7 := blk_frozen hI7 2; have hc7 := cellHT_2 hI7; have HR7 := am ho7; have HB7 := am hb7; have HI7 := am hI7; clear ho7 hb7 hg7 hat7 hI7))
              go_roundg k1
              case measure => omega
              case rel =>
                have HR8 := HI7.out.keepR (KeepBut.set_ (KeepBut.refl _ _ _) 2 (.slice A7 (o1.length + 1) c7)) HR7.out
                rw [show (o1 ++ [y]).length = o1.length + 1 by simp] at HR8
                exact ⟨i + 1, o1 ++ [y], _, congrArg (Value.int .i64) (by have := HX.out; have := HNL.out; unfold wrap64; omega), by omega, by omega, ⟨by rw [show N - (i + 1) = r by omega]; exact HM1.out⟩, ⟨by have := HL.out; simp; omega⟩, ⟨IsHT.set_2 HI7.out _⟩, ⟨HR8⟩, ⟨below_set HB7.out hg⟩⟩
        · have c4b : decide ((i : Int) < (N : Int)) = false := decide_eq_false (by omega)
          go_wp2
          go_end0
          have e0 : N - i = 0 := by omega
          have hm := HM.out
          rw [e0, ht_nums] at hm
          injection hm with hm
          subst hm
          exact ⟨rfl, _, HI1.out, HR1.out, HB1.out⟩
def hybrid_Get.l0 : Nat → Int → Int → ByteArray → List Int → Bool → Option (ByteArray × List Int × Bool)
  | 0, _, _, _, _, _ => none
  | k + 1, wd, n, s, out, bad => if bad = true then some (s, out, true) else if (out.length : Int) < n then
      (num_GetVar.f k s 0).bind fun p => if 0 ≤ p.2.1 ∧ p.2.1 ≤ (s.size : Int) then
        (if Int.tmod p.1 2 = 0 then ht_run.f k (s.extract p.2.1.toNat s.size) wd out (decide (p.2.2 ≠ 0)) (wrap64 (Int.tdiv p.1 2)) (wrap64 (n - (out.length : Int)))
          else ht_groups.f (s.extract p.2.1.toNat s.size) wd out (decide (p.2.2 ≠ 0)) (wrap64 (Int.tdiv p.1 2)) (wrap64 (n - (out.length : Int)))).bind fun q => hybrid_Get.l0 k wd n q.1 q.2.1 (if q.2.2 = true then true else decide (p.1 < 2))
        else none
    else some (s, out, false)
def hybrid_Get.f (k : Nat) (a0 : ByteArray) (a1 a2 : Int) : Option (List Int × Int) :=
  if a1 < 0 then some ([], 2100) else if 16 < a1 then some ([], 2100) else if a2 < 0 then some ([], 2100) else if 4096 < a2 then some ([], 2100) else
  (hybrid_Get.l0 k a1 a2 a0 [] false).bind fun q => (hybrid_Put.f k q.2.1 a1).bind fun p =>
    if q.2.2 = true then some ([], 2100) else if p.2 = 0 then (if p.1.toList = a0.toList then (if (q.2.1.length : Int) = a2 then some (q.2.1, 0) else some ([], 2100)) else some ([], 2100)) else some ([], 2100)
theorem hybrid_Get.calls (k : Nat) (a0 : ByteArray) (a1 a2 : Int) (r1 : List Int) (r2 : Int) (w : World) (h : hybrid_Get.f k a0 a1 a2 = some (r1, r2)) :
    Calls Tryz.prog 45 #[.string a0, .int .i64 a1, .int .i64 a2] w fun e w' => ∃ v0_, e = .returned (.tuple #[v0_, .int .i64 r2]) ∧ (Kd.int .i64).R 3 w' w.heap.size (fun _ => True) v0_ r1 ∧ Below w.heap.size w w' := by
  have HB := am (Below.refl w.heap.size w)
  unfold hybrid_Get.f at h
  by_cases n1 : a1 < 0
  · rw [if_pos n1] at h
    simp only [Option.some.injEq, Prod.mk.injEq] at h
    obtain ⟨rfl, rfl⟩ := h
    have n1b := decide_eq_true n1
    clear n1 
    go_enter Tryz.func45, Tryz.ntmps45
    go_wp2
    go_ret2
    exact ⟨_, rfl, Kd.R_nil _ _ _ _ _, HB.out⟩
  rw [if_neg n1] at h
  by_cases n2 : 16 < a1
  · rw [if_pos n2] at h
    simp only [Option.some.injEq, Prod.mk.injEq] at h
    obtain ⟨rfl, rfl⟩ := h
    have n2b := decide_eq_true n2
    have n1b := decide_eq_false n1
    clear n2 n1
    go_enter Tryz.func45, Tryz.ntmps45
    go_wp2
    go_ret2
    exact ⟨_, rfl, Kd.R_nil _ _ _ _ _, HB.out⟩
  rw [if_neg n2] at h
  by_cases n3 : a2 < 0
  · rw [if_pos n3] at h
    simp only [Option.some.injEq, Prod.mk.injEq] at h
    obtain ⟨rfl, rfl⟩ := h
    have n3b := decide_eq_true n3
    have n1b := decide_eq_false n1
    have n2b := decide_eq_false n2
    clear n3 n1 n2
    go_enter Tryz.func45, Tryz.ntmps45
    go_wp2
    go_ret2
    exact ⟨_, rfl, Kd.R_nil _ _ _ _ _, HB.out⟩
  rw [if_neg n3] at h
  by_cases n4 : 4096 < a2
  · rw [if_pos n4] at h
    simp only [Option.some.injEq, Prod.mk.injEq] at h
    obtain ⟨rfl, rfl⟩ := h
    have n4b := decide_eq_true n4
    have n1b := decide_eq_false n1
    have n2b := decide_eq_false n2
    have n3b := decide_eq_false n3
    clear n4 n1 n2 n3
    go_enter Tryz.func45, Tryz.ntmps45
    go_wp2
    go_ret2
    exact ⟨_, rfl, Kd.R_nil _ _ _ _ _, HB.out⟩
  rw [if_neg n4] at h
  have n1b := decide_eq_false n1
  have n2b := decide_eq_false n2
  have n3b := decide_eq_false n3
  have n4b := decide_eq_false n4
  have NN := am (And.intro n1 (And.intro n2 (And.intro n3 n4)))
  clear n1 n2 n3 n4
  obtain ⟨⟨z1, z2, z3⟩, hz, h⟩ := Option.bind_eq_some_iff.mp h
  obtain ⟨⟨y1, y2⟩, hy, h⟩ := Option.bind_eq_some_iff.mp h
  simp only at hy h
  have HZ := am hz
  have HY := am hy
  have HH := am h
  clear hz hy h
  go_enter Tryz.func45, Tryz.ntmps45
  go_wp2_with (first | ((with_reducible refine gate_dst (N := 32) rfl ?_); refine box_event ?hg (N := 32) ?hd (cs := #[.string a0, .int .i64 a1, .slice none 0 0, .bool false]) (t := 116) ?hr ?_; (case hd => rfl); (case hg => rfl); (case hr => exact zh); intro g hg w6 hbox hb; have hgg : w.heap.size ≤ g := (by rw [hg]; exact below_size HB.out); have HI := am (show IsHT w6 g a0 a1 (.slice none 0 0) false from hbox); have n1_ := am (below_step HB.out hb); clear HB; have HB := n1_; clear n1_ hg hbox hb))
  (try simp only [Act.put, List.setIfInBounds_toArray, List.set_cons_zero, List.set_cons_succ])
  clear n1b n2b n3b n4b
  go_loopg [] k (fun kq w' => ∃ (s1 : ByteArray) (v1 : Value) (o1 : List Int) (b1 : Bool), Aside0 (hybrid_Get.l0 kq a1 a2 s1 o1 b1 = some (z1, z2, z3)) ∧ Aside0 (IsHT w' g s1 a1 v1 b1) ∧ Aside0 ((Kd.int .i64).R 3 w' w.heap.size (fun _ => True) v1 o1) ∧ Aside0 (Below w.heap.size w w') ∧ kq ≤ k)
  case atStart => exact ⟨_, _, _, _, HZ, HI, ⟨Kd.R_nil _ _ _ _ _⟩, HB, Nat.le_refl _⟩
  case round =>
    clear HI HB HZ
    obtain ⟨s1, v1, o1, b1, HM0, HI1, HR1, HB1, hk1⟩ := hrel
    obtain ⟨A1, c1, rfl⟩ := Kd.R_slice HR1.out
    generalize hwd : a1 = wd at *
    generalize hnn : a2 = n at *
    cases gk with
    | zero => exact absurd HM0.out (by simp [hybrid_Get.l0])
    | succ k1 =>
      have hm := HM0.out
      rw [hybrid_Get.l0] at hm
      have hc0 := cellHT_0 HI1.out
      have hc2 := cellHT_2 HI1.out
      have hc3 := cellHT_3 HI1.out
      by_cases c3 : b1 = true
      · subst c3
        rw [if_pos rfl] at hm
        simp only [Option.some.injEq, Prod.mk.injEq] at hm
        obtain ⟨rfl, rfl, rfl⟩ := hm
        have hh := HH.out
        rw [if_pos rfl] at hh
        simp only [Option.some.injEq, Prod.mk.injEq] at hh
        obtain ⟨rfl, rfl⟩ := hh
        clear HM0 HH
        go_wp2_with (first | ((with_reducible refine gate_callee (f := 70) rfl ?_); refine goesL_ (some 107) rfl rfl Tryz.func70 (by kernel_rfl) rfl #[.slice A1 o1.length c1, .int .i64 wd] rfl (by (try simp only [List.map_toArray, List.map_cons, List.map_nil]); first | done | rfl) ?_; (with_reducible refine (hybrid_Put.calls k (fun _ => True) _ _ o1 wd y1 _ _ (Kd.R_V HR1.out) HY.out).mono ?_); rintro e w5 ⟨rfl, hb5⟩; refine ⟨_, rfl, ?_⟩; have hI5 := IsHT.below HI1.out hb5; have hR5 := am (Kd.R_below HR1.out hb5); have hB5 := am (below_step HB1.out hb5); clear HI1 HR1 HB1 hb5; have HI1 := am hI5; have HR1 := hR5; have HB1 := hB5; clear hR5 hB5; have hc2 := cellHT_2 hI5; have hc3 := cellHT_3 hI5; clear hI5))
        go_ret2
        exact ⟨_, rfl, Kd.R_nil _ _ _ _ _, HB1.out⟩
      · have c3' := Bool.eq_false_iff.mpr c3
        subst c3'
        rw [if_neg c3] at hm
        by_cases c4 : (o1.length : Int) < n
        · rw [if_pos c4] at hm
          have c4b := decide_eq_true c4
          obtain ⟨⟨h1, e1, er⟩, hg1, hm⟩ := Option.bind_eq_some_iff.mp hm
          simp only at hm
          have HG := am hg1
          by_cases c9 : 0 ≤ e1 ∧ e1 ≤ (s1.size : Int)
          · rw [if_pos c9] at hm
            have c9a := eq_true c9.1
            have c9b := decide_eq_true c9.1
            have c9c := eq_true c9.2
            have c9d := decide_eq_true c9.2
            clear hg1 c9 c4 HM0
            by_cases c5 : er = 0
            · subst c5
              have hd : decide ((0 : Int) ≠ 0) = false := rfl
              rw [hd] at hm
              by_cases c6 : Int.tmod h1 2 = 0
              · rw [if_pos c6] at hm
                obtain ⟨⟨q1, q2, q3⟩, hq, hm⟩ := Option.bind_eq_some_iff.mp hm
                simp only at hm
                have HQ := am hq
                clear hq
                have c6b := decide_eq_true c6
                have c6c : (Int.tmod h1 2 == 0) = true := by rw [c6]; rfl
                by_cases c7 : q3 = true
                · subst c7
                  rw [if_pos rfl] at hm
                  have HM := am hm
                  clear hm
                  go_wp2_with (first | ((with_reducible refine gate_callee (f := 76) rfl ?_); refine goesL_ (some 52) rfl rfl Tryz.func76 (by kernel_rfl) rfl #[.string s1, .int .i64 0] rfl (by (try simp only [List.map_toArray, List.map_cons, List.map_nil]); first | done | rfl) ?_; (with_reducible refine (num_GetVar.calls k1 s1 0 h1 e1 _ _ HG.out).mono ?_); rintro e w5 ⟨rfl, hb5⟩; refine ⟨_, rfl, ?_⟩; have hI5 := IsHT.below HI1.out hb5; have hR5 := am (Kd.R_below HR1.out hb5); have hB5 := am (below_step HB1.out hb5); clear HI1 HR1 HB1 hb5; have HI1 := am hI5; have HR1 := hR5; have HB1 := hB5; clear hR5 hB5; have hc0 := cellHT_0 hI5; have hc2 := cellHT_2 hI5; have hc3 := cellHT_3 hI5; have hf0 := blk_frozen hI5 0; have hf3 := blk_frozen hI5 3; clear hI5) | ((with_reducible refine gate_callee (f := 77) rfl ?_); refine goesL_ (some 84) rfl rfl Tryz.func77 (by kernel_rfl) rfl #[.pointer (some ⟨g, 0, none⟩), .int .i64 (wrap64 (Int.tdiv h1 2)), .int .i64 (wrap64 (n - (o1.length : Int)))] rfl (by (try simp only [List.map_toArray, List.map_cons, List.map_nil]); first | done | rfl) ?_; (with_reducible refine (ht_run.calls k1 g (s1.extract e1.toNat s1.size) wd (.slice A1 o1.length c1) o1 false (wrap64 (Int.tdiv h1 2)) (wrap64 (n - (o1.length : Int))) q1 q2 _ w _ ?sI ?sR ?sg ?sB HQ.out).mono ?_); (case sI => exact IsHT.set_0 (IsHT.set_3 HI1.out false) _); (case sR => exact IsHT.keepR (IsHT.set_3 HI1.out false) (KeepBut.set_ (KeepBut.refl _ _ _) 0 _) (IsHT.keepR HI1.out (KeepBut.set_ (KeepBut.refl _ _ _) 3 _) HR1.out)); (case sg => exact hgg); (case sB => exact below_set (below_set HB1.out hgg) hgg); rintro e w6 ⟨rfl, v6, hI6, hR6, hB6⟩; refine ⟨_, rfl, ?_⟩; have hc3 := cellHT_3 hI6; have hf3 := blk_frozen hI6 3; have HI6 := am hI6; have HR6 := am hR6; have HB6 := am hB6; clear hI6 hR6 hB6 HI1 HR1 HB1 hc0 hc2 hf0))
                  go_roundg k1
                  case measure => omega
                  case rel => exact ⟨_, _, _, _, ⟨HM.out⟩, ⟨IsHT.set_3 HI6.out true⟩, ⟨IsHT.keepR HI6.out (KeepBut.set_ (KeepBut.refl _ _ _) 3 _) HR6.out⟩, ⟨below_set HB6.out hgg⟩, by omega⟩
                · have c7' := Bool.eq_false_iff.mpr c7
                  subst c7'
                  rw [if_neg c7] at hm
                  by_cases c8 : h1 < 2
                  · rw [decide_eq_true c8] at hm
                    have c8b := decide_eq_true c8
                    clear c8
                    have HM := am hm
                    clear hm
                    go_wp2_with (first | ((with_reducible refine gate_callee (f := 76) rfl ?_); refine goesL_ (some 52) rfl rfl Tryz.func76 (by kernel_rfl) rfl #[.string s1, .int .i64 0] rfl (by (try simp only [List.map_toArray, List.map_cons, List.map_nil]); first | done | rfl) ?_; (with_reducible refine (num_GetVar.calls k1 s1 0 h1 e1 _ _ HG.out).mono ?_); rintro e w5 ⟨rfl, hb5⟩; refine ⟨_, rfl, ?_⟩; have hI5 := IsHT.below HI1.out hb5; have hR5 := am (Kd.R_below HR1.out hb5); have hB5 := am (below_step HB1.out hb5); clear HI1 HR1 HB1 hb5; have HI1 := am hI5; have HR1 := hR5; have HB1 := hB5; clear hR5 hB5; have hc0 := cellHT_0 hI5; have hc2 := cellHT_2 hI5; have hc3 := cellHT_3 hI5; have hf0 := blk_frozen hI5 0; have hf3 := blk_frozen hI5 3; clear hI5) | ((with_reducible refine gate_callee (f := 77) rfl ?_); refine goesL_ (some 84) rfl rfl Tryz.func77 (by kernel_rfl) rfl #[.pointer (some ⟨g, 0, none⟩), .int .i64 (wrap64 (Int.tdiv h1 2)), .int .i64 (wrap64 (n - (o1.length : Int)))] rfl (by (try simp only [List.map_toArray, List.map_cons, List.map_nil]); first | done | rfl) ?_; (with_reducible refine (ht_run.calls k1 g (s1.extract e1.toNat s1.size) wd (.slice A1 o1.length c1) o1 false (wrap64 (Int.tdiv h1 2)) (wrap64 (n - (o1.length : Int))) q1 q2 _ w _ ?sI ?sR ?sg ?sB HQ.out).mono ?_); (case sI => exact IsHT.set_0 (IsHT.set_3 HI1.out false) _); (case sR => exact IsHT.keepR (IsHT.set_3 HI1.out false) (KeepBut.set_ (KeepBut.refl _ _ _) 0 _) (IsHT.keepR HI1.out (KeepBut.set_ (KeepBut.refl _ _ _) 3 _) HR1.out)); (case sg => exact hgg); (case sB => exact below_set (below_set HB1.out hgg) hgg); rintro e w6 ⟨rfl, v6, hI6, hR6, hB6⟩; refine ⟨_, rfl, ?_⟩; have hc3 := cellHT_3 hI6; have hf3 := blk_frozen hI6 3; have HI6 := am hI6; have HR6 := am hR6; have HB6 := am hB6; clear hI6 hR6 hB6 HI1 HR1 HB1 hc0 hc2 hf0))
                    go_roundg k1
                    case measure => omega
                    case rel => exact ⟨_, _, _, _, ⟨HM.out⟩, ⟨IsHT.set_3 HI6.out true⟩, ⟨IsHT.keepR HI6.out (KeepBut.set_ (KeepBut.refl _ _ _) 3 _) HR6.out⟩, ⟨below_set HB6.out hgg⟩, by omega⟩
                  · rw [decide_eq_false c8] at hm
                    have c8b := decide_eq_false c8
                    clear c8
                    have HM := am hm
                    clear hm
                    go_wp2_with (first | ((with_reducible refine gate_callee (f := 76) rfl ?_); refine goesL_ (some 52) rfl rfl Tryz.func76 (by kernel_rfl) rfl #[.string s1, .int .i64 0] rfl (by (try simp only [List.map_toArray, List.map_cons, List.map_nil]); first | done | rfl) ?_; (with_reducible refine (num_GetVar.calls k1 s1 0 h1 e1 _ _ HG.out).mono ?_); rintro e w5 ⟨rfl, hb5⟩; refine ⟨_, rfl, ?_⟩; have hI5 := IsHT.below HI1.out hb5; have hR5 := am (Kd.R_below HR1.out hb5); have hB5 := am (below_step HB1.out hb5); clear HI1 HR1 HB1 hb5; have HI1 := am hI5; have HR1 := hR5; have HB1 := hB5; clear hR5 hB5; have hc0 := cellHT_0 hI5; have hc2 := cellHT_2 hI5; have hc3 := cellHT_3 hI5; have hf0 := blk_frozen hI5 0; have hf3 := blk_frozen hI5 3; clear hI5) | ((with_reducible refine gate_callee (f := 77) rfl ?_); refine goesL_ (some 84) rfl rfl Tryz.func77 (by kernel_rfl) rfl #[.pointer (some ⟨g, 0, none⟩), .int .i64 (wrap64 (Int.tdiv h1 2)), .int .i64 (wrap64 (n - (o1.length : Int)))] rfl (by (try simp only [List.map_toArray, List.map_cons, List.map_nil]); first | done | rfl) ?_; (with_reducible refine (ht_run.calls k1 g (s1.extract e1.toNat s1.size) wd (.slice A1 o1.length c1) o1 false (wrap64 (Int.tdiv h1 2)) (wrap64 (n - (o1.length : Int))) q1 q2 _ w _ ?sI ?sR ?sg ?sB HQ.out).mono ?_); (case sI => exact IsHT.set_0 (IsHT.set_3 HI1.out false) _); (case sR => exact IsHT.keepR (IsHT.set_3 HI1.out false) (KeepBut.set_ (KeepBut.refl _ _ _) 0 _) (IsHT.keepR HI1.out (KeepBut.set_ (KeepBut.refl _ _ _) 3 _) HR1.out)); (case sg => exact hgg); (case sB => exact below_set (below_set HB1.out hgg) hgg); rintro e w6 ⟨rfl, v6, hI6, hR6, hB6⟩; refine ⟨_, rfl, ?_⟩; have hc3 := cellHT_3 hI6; have hf3 := blk_frozen hI6 3; have HI6 := am hI6; have HR6 := am hR6; have HB6 := am hB6; clear hI6 hR6 hB6 HI1 HR1 HB1 hc0 hc2 hf0))
                    go_roundg k1
                    case measure => omega
                    case rel => exact ⟨_, _, _, _, ⟨HM.out⟩, ⟨IsHT.set_3 HI6.out false⟩, ⟨IsHT.keepR HI6.out (KeepBut.set_ (KeepBut.refl _ _ _) 3 _) HR6.out⟩, ⟨below_set HB6.out hgg⟩, by omega⟩
              · rw [if_neg c6] at hm
                obtain ⟨⟨q1, q2, q3⟩, hq, hm⟩ := Option.bind_eq_some_iff.mp hm
                simp only at hm
                have HQ := am hq
                clear hq
                have c6b := decide_eq_false c6
                have c6c : (Int.tmod h1 2 == 0) = false := beq_eq_false_iff_ne.2 c6
                by_cases c7 : q3 = true
                · subst c7
                  rw [if_pos rfl] at hm
                  have HM := am hm
                  clear hm
                  go_wp2_with (first | ((with_reducible refine gate_callee (f := 76) rfl ?_); refine goesL_ (some 52) rfl rfl Tryz.func76 (by kernel_rfl) rfl #[.string s1, .int .i64 0] rfl (by (try simp only [List.map_toArray, List.map_cons, List.map_nil]); first | done | rfl) ?_; (with_reducible refine (num_GetVar.calls k1 s1 0 h1 e1 _ _ HG.out).mono ?_); rintro e w5 ⟨rfl, hb5⟩; refine ⟨_, rfl, ?_⟩; have hI5 := IsHT.below HI1.out hb5; have hR5 := am (Kd.R_below HR1.out hb5); have hB5 := am (below_step HB1.out hb5); clear HI1 HR1 HB1 hb5; have HI1 := am hI5; have HR1 := hR5; have HB1 := hB5; clear hR5 hB5; have hc0 := cellHT_0 hI5; have hc2 := cellHT_2 hI5; have hc3 := cellHT_3 hI5; have hf0 := blk_frozen hI5 0; have hf3 := blk_frozen hI5 3; clear hI5) | ((with_reducible refine gate_callee (f := 78) rfl ?_); refine goesL_ (some 89) rfl rfl Tryz.func78 (by kernel_rfl) rfl #[.pointer (some ⟨g, 0, none⟩), .int .i64 (wrap64 (Int.tdiv h1 2)), .int .i64 (wrap64 (n - (o1.length : Int)))] rfl (by (try simp only [List.map_toArray, List.map_cons, List.map_nil]); first | done | rfl) ?_; (with_reducible refine (ht_groups.calls g (s1.extract e1.toNat s1.size) wd (.slice A1 o1.length c1) o1 false (wrap64 (Int.tdiv h1 2)) (wrap64 (n - (o1.length : Int))) q1 q2 _ w _ ?sI ?sR ?sg ?sB HQ.out).mono ?_); (case sI => exact IsHT.set_0 (IsHT.set_3 HI1.out false) _); (case sR => exact IsHT.keepR (IsHT.set_3 HI1.out false) (KeepBut.set_ (KeepBut.refl _ _ _) 0 _) (IsHT.keepR HI1.out (KeepBut.set_ (KeepBut.refl _ _ _) 3 _) HR1.out)); (case sg => exact hgg); (case sB => exact below_set (below_set HB1.out hgg) hgg); rintro e w6 ⟨rfl, v6, hI6, hR6, hB6⟩; refine ⟨_, rfl, ?_⟩; have hc3 := cellHT_3 hI6; have hf3 := blk_frozen hI6 3; have HI6 := am hI6; have HR6 := am hR6; have HB6 := am hB6; clear hI6 hR6 hB6 HI1 HR1 HB1 hc0 hc2 hf0))
                  go_roundg k1
                  case measure => omega
                  case rel => exact ⟨_, _, _, _, ⟨HM.out⟩, ⟨IsHT.set_3 HI6.out true⟩, ⟨IsHT.keepR HI6.out (KeepBut.set_ (KeepBut.refl _ _ _) 3 _) HR6.out⟩, ⟨below_set HB6.out hgg⟩, by omega⟩
                · have c7' := Bool.eq_false_iff.mpr c7
                  subst c7'
                  rw [if_neg c7] at hm
                  by_cases c8 : h1 < 2
                  · rw [decide_eq_true c8] at hm
                    have c8b := decide_eq_true c8
                    clear c8
                    have HM := am hm
                    clear hm
                    go_wp2_with (first | ((with_reducible refine gate_callee (f := 76) rfl ?_); refine goesL_ (some 52) rfl rfl Tryz.func76 (by kernel_rfl) rfl #[.string s1, .int .i64 0] rfl (by (try simp only [List.map_toArray, List.map_cons, List.map_nil]); first | done | rfl) ?_; (with_reducible refine (num_GetVar.calls k1 s1 0 h1 e1 _ _ HG.out).mono ?_); rintro e w5 ⟨rfl, hb5⟩; refine ⟨_, rfl, ?_⟩; have hI5 := IsHT.below HI1.out hb5; have hR5 := am (Kd.R_below HR1.out hb5); have hB5 := am (below_step HB1.out hb5); clear HI1 HR1 HB1 hb5; have HI1 := am hI5; have HR1 := hR5; have HB1 := hB5; clear hR5 hB5; have hc0 := cellHT_0 hI5; have hc2 := cellHT_2 hI5; have hc3 := cellHT_3 hI5; have hf0 := blk_frozen hI5 0; have hf3 := blk_frozen hI5 3; clear hI5) | ((with_reducible refine gate_callee (f := 78) rfl ?_); refine goesL_ (some 89) rfl rfl Tryz.func78 (by kernel_rfl) rfl #[.pointer (some ⟨g, 0, none⟩), .int .i64 (wrap64 (Int.tdiv h1 2)), .int .i64 (wrap64 (n - (o1.length : Int)))] rfl (by (try simp only [List.map_toArray, List.map_cons, List.map_nil]); first | done | rfl) ?_; (with_reducible refine (ht_groups.calls g (s1.extract e1.toNat s1.size) wd (.slice A1 o1.length c1) o1 false (wrap64 (Int.tdiv h1 2)) (wrap64 (n - (o1.length : Int))) q1 q2 _ w _ ?sI ?sR ?sg ?sB HQ.out).mono ?_); (case sI => exact IsHT.set_0 (IsHT.set_3 HI1.out false) _); (case sR => exact IsHT.keepR (IsHT.set_3 HI1.out false) (KeepBut.set_ (KeepBut.refl _ _ _) 0 _) (IsHT.keepR HI1.out (KeepBut.set_ (KeepBut.refl _ _ _) 3 _) HR1.out)); (case sg => exact hgg); (case sB => exact below_set (below_set HB1.out hgg) hgg); rintro e w6 ⟨rfl, v6, hI6, hR6, hB6⟩; refine ⟨_, rfl, ?_⟩; have hc3 := cellHT_3 hI6; have hf3 := blk_frozen hI6 3; have HI6 := am hI6; have HR6 := am hR6; have HB6 := am hB6; clear hI6 hR6 hB6 HI1 HR1 HB1 hc0 hc2 hf0))
                    go_roundg k1
                    case measure => omega
                    case rel => exact ⟨_, _, _, _, ⟨HM.out⟩, ⟨IsHT.set_3 HI6.out true⟩, ⟨IsHT.keepR HI6.out (KeepBut.set_ (KeepBut.refl _ _ _) 3 _) HR6.out⟩, ⟨below_set HB6.out hgg⟩, by omega⟩
                  · rw [decide_eq_false c8] at hm
                    have c8b := decide_eq_false c8
                    clear c8
                    have HM := am hm
                    clear hm
                    go_wp2_with (first | ((with_reducible refine gate_callee (f := 76) rfl ?_); refine goesL_ (some 52) rfl rfl Tryz.func76 (by kernel_rfl) rfl #[.string s1, .int .i64 0] rfl (by (try simp only [List.map_toArray, List.map_cons, List.map_nil]); first | done | rfl) ?_; (with_reducible refine (num_GetVar.calls k1 s1 0 h1 e1 _ _ HG.out).mono ?_); rintro e w5 ⟨rfl, hb5⟩; refine ⟨_, rfl, ?_⟩; have hI5 := IsHT.below HI1.out hb5; have hR5 := am (Kd.R_below HR1.out hb5); have hB5 := am (below_step HB1.out hb5); clear HI1 HR1 HB1 hb5; have HI1 := am hI5; have HR1 := hR5; have HB1 := hB5; clear hR5 hB5; have hc0 := cellHT_0 hI5; have hc2 := cellHT_2 hI5; have hc3 := cellHT_3 hI5; have hf0 := blk_frozen hI5 0; have hf3 := blk_frozen hI5 3; clear hI5) | ((with_reducible refine gate_callee (f := 78) rfl ?_); refine goesL_ (some 89) rfl rfl Tryz.func78 (by kernel_rfl) rfl #[.pointer (some ⟨g, 0, none⟩), .int .i64 (wrap64 (Int.tdiv h1 2)), .int .i64 (wrap64 (n - (o1.length : Int)))] rfl (by (try simp only [List.map_toArray, List.map_cons, List.map_nil]); first | done | rfl) ?_; (with_reducible refine (ht_groups.calls g (s1.extract e1.toNat s1.size) wd (.slice A1 o1.length c1) o1 false (wrap64 (Int.tdiv h1 2)) (wrap64 (n - (o1.length : Int))) q1 q2 _ w _ ?sI ?sR ?sg ?sB HQ.out).mono ?_); (case sI => exact IsHT.set_0 (IsHT.set_3 HI1.out false) _); (case sR => exact IsHT.keepR (IsHT.set_3 HI1.out false) (KeepBut.set_ (KeepBut.refl _ _ _) 0 _) (IsHT.keepR HI1.out (KeepBut.set_ (KeepBut.refl _ _ _) 3 _) HR1.out)); (case sg => exact hgg); (case sB => exact below_set (below_set HB1.out hgg) hgg); rintro e w6 ⟨rfl, v6, hI6, hR6, hB6⟩; refine ⟨_, rfl, ?_⟩; have hc3 := cellHT_3 hI6; have hf3 := blk_frozen hI6 3; have HI6 := am hI6; have HR6 := am hR6; have HB6 := am hB6; clear hI6 hR6 hB6 HI1 HR1 HB1 hc0 hc2 hf0))
                    go_roundg k1
                    case measure => omega
                    case rel => exact ⟨_, _, _, _, ⟨HM.out⟩, ⟨IsHT.set_3 HI6.out false⟩, ⟨IsHT.keepR HI6.out (KeepBut.set_ (KeepBut.refl _ _ _) 3 _) HR6.out⟩, ⟨below_set HB6.out hgg⟩, by omega⟩
            · have hd : decide (er ≠ 0) = true := decide_eq_true c5
              have c5b := decide_eq_false c5
              have c5c : (er == 0) = false := beq_eq_false_iff_ne.2 c5
              have c5d : (er != 0) = true := bne_iff_ne.2 c5
              rw [hd] at hm
              by_cases c6 : Int.tmod h1 2 = 0
              · rw [if_pos c6] at hm
                obtain ⟨⟨q1, q2, q3⟩, hq, hm⟩ := Option.bind_eq_some_iff.mp hm
                simp only at hm
                have HQ := am hq
                clear hq
                have c6b := decide_eq_true c6
                have c6c : (Int.tmod h1 2 == 0) = true := by rw [c6]; rfl
                by_cases c7 : q3 = true
                · subst c7
                  rw [if_pos rfl] at hm
                  have HM := am hm
                  clear hm
                  go_wp2_with (first | ((with_reducible refine gate_callee (f := 76) rfl ?_); refine goesL_ (some 52) rfl rfl Tryz.func76 (by kernel_rfl) rfl #[.string s1, .int .i64 0] rfl (by (try simp only [List.map_toArray, List.map_cons, List.map_nil]); first | done | rfl) ?_; (with_reducible refine (num_GetVar.calls k1 s1 0 h1 e1 _ _ HG.out).mono ?_); rintro e w5 ⟨rfl, hb5⟩; refine ⟨_, rfl, ?_⟩; have hI5 := IsHT.below HI1.out hb5; have hR5 := am (Kd.R_below HR1.out hb5); have hB5 := am (below_step HB1.out hb5); clear HI1 HR1 HB1 hb5; have HI1 := am hI5; have HR1 := hR5; have HB1 := hB5; clear hR5 hB5; have hc0 := cellHT_0 hI5; have hc2 := cellHT_2 hI5; have hc3 := cellHT_3 hI5; have hf0 := blk_frozen hI5 0; have hf3 := blk_frozen hI5 3; clear hI5) | ((with_reducible refine gate_callee (f := 77) rfl ?_); refine goesL_ (some 84) rfl rfl Tryz.func77 (by kernel_rfl) rfl #[.pointer (some ⟨g, 0, none⟩), .int .i64 (wrap64 (Int.tdiv h1 2)), .int .i64 (wrap64 (n - (o1.length : Int)))] rfl (by (try simp only [List.map_toArray, List.map_cons, List.map_nil]); first | done | rfl) ?_; (with_reducible refine (ht_run.calls k1 g (s1.extract e1.toNat s1.size) wd (.slice A1 o1.length c1) o1 true (wrap64 (Int.tdiv h1 2)) (wrap64 (n - (o1.length : Int))) q1 q2 _ w _ ?sI ?sR ?sg ?sB HQ.out).mono ?_); (case sI => exact IsHT.set_0 (IsHT.set_3 HI1.out true) _); (case sR => exact IsHT.keepR (IsHT.set_3 HI1.out true) (KeepBut.set_ (KeepBut.refl _ _ _) 0 _) (IsHT.keepR HI1.out (KeepBut.set_ (KeepBut.refl _ _ _) 3 _) HR1.out)); (case sg => exact hgg); (case sB => exact below_set (below_set HB1.out hgg) hgg); rintro e w6 ⟨rfl, v6, hI6, hR6, hB6⟩; refine ⟨_, rfl, ?_⟩; have hc3 := cellHT_3 hI6; have hf3 := blk_frozen hI6 3; have HI6 := am hI6; have HR6 := am hR6; have HB6 := am hB6; clear hI6 hR6 hB6 HI1 HR1 HB1 hc0 hc2 hf0))
                  go_roundg k1
                  case measure => omega
                  case rel => exact ⟨_, _, _, _, ⟨HM.out⟩, ⟨IsHT.set_3 HI6.out true⟩, ⟨IsHT.keepR HI6.out (KeepBut.set_ (KeepBut.refl _ _ _) 3 _) HR6.out⟩, ⟨below_set HB6.out hgg⟩, by omega⟩
                · have c7' := Bool.eq_false_iff.mpr c7
                  subst c7'
                  rw [if_neg c7] at hm
                  by_cases c8 : h1 < 2
                  · rw [decide_eq_true c8] at hm
                    have c8b := decide_eq_true c8
                    clear c8
                    have HM := am hm
                    clear hm
                    go_wp2_with (first | ((with_reducible refine gate_callee (f := 76) rfl ?_); refine goesL_ (some 52) rfl rfl Tryz.func76 (by kernel_rfl) rfl #[.string s1, .int .i64 0] rfl (by (try simp only [List.map_toArray, List.map_cons, List.map_nil]); first | done | rfl) ?_; (with_reducible refine (num_GetVar.calls k1 s1 0 h1 e1 _ _ HG.out).mono ?_); rintro e w5 ⟨rfl, hb5⟩; refine ⟨_, rfl, ?_⟩; have hI5 := IsHT.below HI1.out hb5; have hR5 := am (Kd.R_below HR1.out hb5); have hB5 := am (below_step HB1.out hb5); clear HI1 HR1 HB1 hb5; have HI1 := am hI5; have HR1 := hR5; have HB1 := hB5; clear hR5 hB5; have hc0 := cellHT_0 hI5; have hc2 := cellHT_2 hI5; have hc3 := cellHT_3 hI5; have hf0 := blk_frozen hI5 0; have hf3 := blk_frozen hI5 3; clear hI5) | ((with_reducible refine gate_callee (f := 77) rfl ?_); refine goesL_ (some 84) rfl rfl Tryz.func77 (by kernel_rfl) rfl #[.pointer (some ⟨g, 0, none⟩), .int .i64 (wrap64 (Int.tdiv h1 2)), .int .i64 (wrap64 (n - (o1.length : Int)))] rfl (by (try simp only [List.map_toArray, List.map_cons, List.map_nil]); first | done | rfl) ?_; (with_reducible refine (ht_run.calls k1 g (s1.extract e1.toNat s1.size) wd (.slice A1 o1.length c1) o1 true (wrap64 (Int.tdiv h1 2)) (wrap64 (n - (o1.length : Int))) q1 q2 _ w _ ?sI ?sR ?sg ?sB HQ.out).mono ?_); (case sI => exact IsHT.set_0 (IsHT.set_3 HI1.out true) _); (case sR => exact IsHT.keepR (IsHT.set_3 HI1.out true) (KeepBut.set_ (KeepBut.refl _ _ _) 0 _) (IsHT.keepR HI1.out (KeepBut.set_ (KeepBut.refl _ _ _) 3 _) HR1.out)); (case sg => exact hgg); (case sB => exact below_set (below_set HB1.out hgg) hgg); rintro e w6 ⟨rfl, v6, hI6, hR6, hB6⟩; refine ⟨_, rfl, ?_⟩; have hc3 := cellHT_3 hI6; have hf3 := blk_frozen hI6 3; have HI6 := am hI6; have HR6 := am hR6; have HB6 := am hB6; clear hI6 hR6 hB6 HI1 HR1 HB1 hc0 hc2 hf0))
                    go_roundg k1
                    case measure => omega
                    case rel => exact ⟨_, _, _, _, ⟨HM.out⟩, ⟨IsHT.set_3 HI6.out true⟩, ⟨IsHT.keepR HI6.out (KeepBut.set_ (KeepBut.refl _ _ _) 3 _) HR6.out⟩, ⟨below_set HB6.out hgg⟩, by omega⟩
                  · rw [decide_eq_false c8] at hm
                    have c8b := decide_eq_false c8
                    clear c8
                    have HM := am hm
                    clear hm
                    go_wp2_with (first | ((with_reducible refine gate_callee (f := 76) rfl ?_); refine goesL_ (some 52) rfl rfl Tryz.func76 (by kernel_rfl) rfl #[.string s1, .int .i64 0] rfl (by (try simp only [List.map_toArray, List.map_cons, List.map_nil]); first | done | rfl) ?_; (with_reducible refine (num_GetVar.calls k1 s1 0 h1 e1 _ _ HG.out).mono ?_); rintro e w5 ⟨rfl, hb5⟩; refine ⟨_, rfl, ?_⟩; have hI5 := IsHT.below HI1.out hb5; have hR5 := am (Kd.R_below HR1.out hb5); have hB5 := am (below_step HB1.out hb5); clear HI1 HR1 HB1 hb5; have HI1 := am hI5; have HR1 := hR5; have HB1 := hB5; clear hR5 hB5; have hc0 := cellHT_0 hI5; have hc2 := cellHT_2 hI5; have hc3 := cellHT_3 hI5; have hf0 := blk_frozen hI5 0; have hf3 := blk_frozen hI5 3; clear hI5) | ((with_reducible refine gate_callee (f := 77) rfl ?_); refine goesL_ (some 84) rfl rfl Tryz.func77 (by kernel_rfl) rfl #[.pointer (some ⟨g, 0, none⟩), .int .i64 (wrap64 (Int.tdiv h1 2)), .int .i64 (wrap64 (n - (o1.length : Int)))] rfl (by (try simp only [List.map_toArray, List.map_cons, List.map_nil]); first | done | rfl) ?_; (with_reducible refine (ht_run.calls k1 g (s1.extract e1.toNat s1.size) wd (.slice A1 o1.length c1) o1 true (wrap64 (Int.tdiv h1 2)) (wrap64 (n - (o1.length : Int))) q1 q2 _ w _ ?sI ?sR ?sg ?sB HQ.out).mono ?_); (case sI => exact IsHT.set_0 (IsHT.set_3 HI1.out true) _); (case sR => exact IsHT.keepR (IsHT.set_3 HI1.out true) (KeepBut.set_ (KeepBut.refl _ _ _) 0 _) (IsHT.keepR HI1.out (KeepBut.set_ (KeepBut.refl _ _ _) 3 _) HR1.out)); (case sg => exact hgg); (case sB => exact below_set (below_set HB1.out hgg) hgg); rintro e w6 ⟨rfl, v6, hI6, hR6, hB6⟩; refine ⟨_, rfl, ?_⟩; have hc3 := cellHT_3 hI6; have hf3 := blk_frozen hI6 3; have HI6 := am hI6; have HR6 := am hR6; have HB6 := am hB6; clear hI6 hR6 hB6 HI1 HR1 HB1 hc0 hc2 hf0))
                    go_roundg k1
                    case measure => omega
                    case rel => exact ⟨_, _, _, _, ⟨HM.out⟩, ⟨IsHT.set_3 HI6.out false⟩, ⟨IsHT.keepR HI6.out (KeepBut.set_ (KeepBut.refl _ _ _) 3 _) HR6.out⟩, ⟨below_set HB6.out hgg⟩, by omega⟩
              · rw [if_neg c6] at hm
                obtain ⟨⟨q1, q2, q3⟩, hq, hm⟩ := Option.bind_eq_some_iff.mp hm
                simp only at hm
                have HQ := am hq
                clear hq
                have c6b := decide_eq_false c6
                have c6c : (Int.tmod h1 2 == 0) = false := beq_eq_false_iff_ne.2 c6
                by_cases c7 : q3 = true
                · subst c7
                  rw [if_pos rfl] at hm
                  have HM := am hm
                  clear hm
                  go_wp2_with (first | ((with_reducible refine gate_callee (f := 76) rfl ?_); refine goesL_ (some 52) rfl rfl Tryz.func76 (by kernel_rfl) rfl #[.string s1, .int .i64 0] rfl (by (try simp only [List.map_toArray, List.map_cons, List.map_nil]); first | done | rfl) ?_; (with_reducible refine (num_GetVar.calls k1 s1 0 h1 e1 _ _ HG.out).mono ?_); rintro e w5 ⟨rfl, hb5⟩; refine ⟨_, rfl, ?_⟩; have hI5 := IsHT.below HI1.out hb5; have hR5 := am (Kd.R_below HR1.out hb5); have hB5 := am (below_step HB1.out hb5); clear HI1 HR1 HB1 hb5; have HI1 := am hI5; have HR1 := hR5; have HB1 := hB5; clear hR5 hB5; have hc0 := cellHT_0 hI5; have hc2 := cellHT_2 hI5; have hc3 := cellHT_3 hI5; have hf0 := blk_frozen hI5 0; have hf3 := blk_frozen hI5 3; clear hI5) | ((with_reducible refine gate_callee (f := 78) rfl ?_); refine goesL_ (some 89) rfl rfl Tryz.func78 (by kernel_rfl) rfl #[.pointer (some ⟨g, 0, none⟩), .int .i64 (wrap64 (Int.tdiv h1 2)), .int .i64 (wrap64 (n - (o1.length : Int)))] rfl (by (try simp only [List.map_toArray, List.map_cons, List.map_nil]); first | done | rfl) ?_; (with_reducible refine (ht_groups.calls g (s1.extract e1.toNat s1.size) wd (.slice A1 o1.length c1) o1 true (wrap64 (Int.tdiv h1 2)) (wrap64 (n - (o1.length : Int))) q1 q2 _ w _ ?sI ?sR ?sg ?sB HQ.out).mono ?_); (case sI => exact IsHT.set_0 (IsHT.set_3 HI1.out true) _); (case sR => exact IsHT.keepR (IsHT.set_3 HI1.out true) (KeepBut.set_ (KeepBut.refl _ _ _) 0 _) (IsHT.keepR HI1.out (KeepBut.set_ (KeepBut.refl _ _ _) 3 _) HR1.out)); (case sg => exact hgg); (case sB => exact below_set (below_set HB1.out hgg) hgg); rintro e w6 ⟨rfl, v6, hI6, hR6, hB6⟩; refine ⟨_, rfl, ?_⟩; have hc3 := cellHT_3 hI6; have hf3 := blk_frozen hI6 3; have HI6 := am hI6; have HR6 := am hR6; have HB6 := am hB6; clear hI6 hR6 hB6 HI1 HR1 HB1 hc0 hc2 hf0))
                  go_roundg k1
                  case measure => omega
                  case rel => exact ⟨_, _, _, _, ⟨HM.out⟩, ⟨IsHT.set_3 HI6.out true⟩, ⟨IsHT.keepR HI6.out (KeepBut.set_ (KeepBut.refl _ _ _) 3 _) HR6.out⟩, ⟨below_set HB6.out hgg⟩, by omega⟩
                · have c7' := Bool.eq_false_iff.mpr c7
                  subst c7'
                  rw [if_neg c7] at hm
                  by_cases c8 : h1 < 2
                  · rw [decide_eq_true c8] at hm
                    have c8b := decide_eq_true c8
                    clear c8
                    have HM := am hm
                    clear hm
                    go_wp2_with (first | ((with_reducible refine gate_callee (f := 76) rfl ?_); refine goesL_ (some 52) rfl rfl Tryz.func76 (by kernel_rfl) rfl #[.string s1, .int .i64 0] rfl (by (try simp only [List.map_toArray, List.map_cons, List.map_nil]); first | done | rfl) ?_; (with_reducible refine (num_GetVar.calls k1 s1 0 h1 e1 _ _ HG.out).mono ?_); rintro e w5 ⟨rfl, hb5⟩; refine ⟨_, rfl, ?_⟩; have hI5 := IsHT.below HI1.out hb5; have hR5 := am (Kd.R_below HR1.out hb5); have hB5 := am (below_step HB1.out hb5); clear HI1 HR1 HB1 hb5; have HI1 := am hI5; have HR1 := hR5; have HB1 := hB5; clear hR5 hB5; have hc0 := cellHT_0 hI5; have hc2 := cellHT_2 hI5; have hc3 := cellHT_3 hI5; have hf0 := blk_frozen hI5 0; have hf3 := blk_frozen hI5 3; clear hI5) | ((with_reducible refine gate_callee (f := 78) rfl ?_); refine goesL_ (some 89) rfl rfl Tryz.func78 (by kernel_rfl) rfl #[.pointer (some ⟨g, 0, none⟩), .int .i64 (wrap64 (Int.tdiv h1 2)), .int .i64 (wrap64 (n - (o1.length : Int)))] rfl (by (try simp only [List.map_toArray, List.map_cons, List.map_nil]); first | done | rfl) ?_; (with_reducible refine (ht_groups.calls g (s1.extract e1.toNat s1.size) wd (.slice A1 o1.length c1) o1 true (wrap64 (Int.tdiv h1 2)) (wrap64 (n - (o1.length : Int))) q1 q2 _ w _ ?sI ?sR ?sg ?sB HQ.out).mono ?_); (case sI => exact IsHT.set_0 (IsHT.set_3 HI1.out true) _); (case sR => exact IsHT.keepR (IsHT.set_3 HI1.out true) (KeepBut.set_ (KeepBut.refl _ _ _) 0 _) (IsHT.keepR HI1.out (KeepBut.set_ (KeepBut.refl _ _ _) 3 _) HR1.out)); (case sg => exact hgg); (case sB => exact below_set (below_set HB1.out hgg) hgg); rintro e w6 ⟨rfl, v6, hI6, hR6, hB6⟩; refine ⟨_, rfl, ?_⟩; have hc3 := cellHT_3 hI6; have hf3 := blk_frozen hI6 3; have HI6 := am hI6; have HR6 := am hR6; have HB6 := am hB6; clear hI6 hR6 hB6 HI1 HR1 HB1 hc0 hc2 hf0))
                    go_roundg k1
                    case measure => omega
                    case rel => exact ⟨_, _, _, _, ⟨HM.out⟩, ⟨IsHT.set_3 HI6.out true⟩, ⟨IsHT.keepR HI6.out (KeepBut.set_ (KeepBut.refl _ _ _) 3 _) HR6.out⟩, ⟨below_set HB6.out hgg⟩, by omega⟩
                  · rw [decide_eq_false c8] at hm
                    have c8b := decide_eq_false c8
                    clear c8
                    have HM := am hm
                    clear hm
                    go_wp2_with (first | ((with_reducible refine gate_callee (f := 76) rfl ?_); refine goesL_ (some 52) rfl rfl Tryz.func76 (by kernel_rfl) rfl #[.string s1, .int .i64 0] rfl (by (try simp only [List.map_toArray, List.map_cons, List.map_nil]); first | done | rfl) ?_; (with_reducible refine (num_GetVar.calls k1 s1 0 h1 e1 _ _ HG.out).mono ?_); rintro e w5 ⟨rfl, hb5⟩; refine ⟨_, rfl, ?_⟩; have hI5 := IsHT.below HI1.out hb5; have hR5 := am (Kd.R_below HR1.out hb5); have hB5 := am (below_step HB1.out hb5); clear HI1 HR1 HB1 hb5; have HI1 := am hI5; have HR1 := hR5; have HB1 := hB5; clear hR5 hB5; have hc0 := cellHT_0 hI5; have hc2 := cellHT_2 hI5; have hc3 := cellHT_3 hI5; have hf0 := blk_frozen hI5 0; have hf3 := blk_frozen hI5 3; clear hI5) | ((with_reducible refine gate_callee (f := 78) rfl ?_); refine goesL_ (some 89) rfl rfl Tryz.func78 (by kernel_rfl) rfl #[.pointer (some ⟨g, 0, none⟩), .int .i64 (wrap64 (Int.tdiv h1 2)), .int .i64 (wrap64 (n - (o1.length : Int)))] rfl (by (try simp only [List.map_toArray, List.map_cons, List.map_nil]); first | done | rfl) ?_; (with_reducible refine (ht_groups.calls g (s1.extract e1.toNat s1.size) wd (.slice A1 o1.length c1) o1 true (wrap64 (Int.tdiv h1 2)) (wrap64 (n - (o1.length : Int))) q1 q2 _ w _ ?sI ?sR ?sg ?sB HQ.out).mono ?_); (case sI => exact IsHT.set_0 (IsHT.set_3 HI1.out true) _); (case sR => exact IsHT.keepR (IsHT.set_3 HI1.out true) (KeepBut.set_ (KeepBut.refl _ _ _) 0 _) (IsHT.keepR HI1.out (KeepBut.set_ (KeepBut.refl _ _ _) 3 _) HR1.out)); (case sg => exact hgg); (case sB => exact below_set (below_set HB1.out hgg) hgg); rintro e w6 ⟨rfl, v6, hI6, hR6, hB6⟩; refine ⟨_, rfl, ?_⟩; have hc3 := cellHT_3 hI6; have hf3 := blk_frozen hI6 3; have HI6 := am hI6; have HR6 := am hR6; have HB6 := am hB6; clear hI6 hR6 hB6 HI1 HR1 HB1 hc0 hc2 hf0))
                    go_roundg k1
                    case measure => omega
                    case rel => exact ⟨_, _, _, _, ⟨HM.out⟩, ⟨IsHT.set_3 HI6.out false⟩, ⟨IsHT.keepR HI6.out (KeepBut.set_ (KeepBut.refl _ _ _) 3 _) HR6.out⟩, ⟨below_set HB6.out hgg⟩, by omega⟩
          · rw [if_neg c9] at hm
            cases hm
        ·
          rw [if_neg c4] at hm
          have c4b := decide_eq_false c4
          clear c4
          simp only [Option.some.injEq, Prod.mk.injEq] at hm
          obtain ⟨rfl, rfl, rfl⟩ := hm
          have hh := HH.out
          rw [if_neg (by decide)] at hh
          clear HM0 HH
          by_cases d1 : y2 = 0
          · subst d1
            rw [if_pos rfl] at hh
            by_cases d2 : y1.toList = a0.toList
            · rw [if_pos d2] at hh
              have d2b := beq_iff_eq.mpr d2
              have d2c := bne_eq_false_iff_eq.mpr d2
              clear d2
              by_cases d3 : (o1.length : Int) = n
              · rw [if_pos d3] at hh
                have d3b := beq_iff_eq.mpr d3
                have d3c := bne_eq_false_iff_eq.mpr d3
                have d3d := decide_eq_true d3
                clear d3
                simp only [Option.some.injEq, Prod.mk.injEq] at hh
                obtain ⟨rfl, rfl⟩ := hh
                go_wp2_with (first | ((with_reducible refine gate_callee (f := 70) rfl ?_); refine goesL_ (some 107) rfl rfl Tryz.func70 (by kernel_rfl) rfl #[.slice A1 o1.length c1, .int .i64 wd] rfl (by (try simp only [List.map_toArray, List.map_cons, List.map_nil]); first | done | rfl) ?_; (with_reducible refine (hybrid_Put.calls k (fun _ => True) _ _ o1 wd y1 _ _ (Kd.R_V HR1.out) HY.out).mono ?_); rintro e w5 ⟨rfl, hb5⟩; refine ⟨_, rfl, ?_⟩; have hI5 := IsHT.below HI1.out hb5; have hR5 := am (Kd.R_below HR1.out hb5); have hB5 := am (below_step HB1.out hb5); clear HI1 HR1 HB1 hb5; have HI1 := am hI5; have HR1 := hR5; have HB1 := hB5; clear hR5 hB5; have hc2 := cellHT_2 hI5; have hc3 := cellHT_3 hI5; clear hI5))
                go_ret2
                exact ⟨_, rfl, HR1.out, HB1.out⟩
              · rw [if_neg d3] at hh
                have d3b := beq_eq_false_iff_ne.mpr d3
                have d3c := bne_iff_ne.mpr d3
                have d3d := decide_eq_false d3
                clear d3
                simp only [Option.some.injEq, Prod.mk.injEq] at hh
                obtain ⟨rfl, rfl⟩ := hh
                go_wp2_with (first | ((with_reducible refine gate_callee (f := 70) rfl ?_); refine goesL_ (some 107) rfl rfl Tryz.func70 (by kernel_rfl) rfl #[.slice A1 o1.length c1, .int .i64 wd] rfl (by (try simp only [List.map_toArray, List.map_cons, List.map_nil]); first | done | rfl) ?_; (with_reducible refine (hybrid_Put.calls k (fun _ => True) _ _ o1 wd y1 _ _ (Kd.R_V HR1.out) HY.out).mono ?_); rintro e w5 ⟨rfl, hb5⟩; refine ⟨_, rfl, ?_⟩; have hI5 := IsHT.below HI1.out hb5; have hR5 := am (Kd.R_below HR1.out hb5); have hB5 := am (below_step HB1.out hb5); clear HI1 HR1 HB1 hb5; have HI1 := am hI5; have HR1 := hR5; have HB1 := hB5; clear hR5 hB5; have hc2 := cellHT_2 hI5; have hc3 := cellHT_3 hI5; clear hI5))
                go_ret2
                exact ⟨_, rfl, Kd.R_nil _ _ _ _ _, HB1.out⟩
            · rw [if_neg d2] at hh
              have d2b := beq_eq_false_iff_ne.mpr d2
              have d2c := bne_iff_ne.mpr d2
              clear d2
              simp only [Option.some.injEq, Prod.mk.injEq] at hh
              obtain ⟨rfl, rfl⟩ := hh
              go_wp2_with (first | ((with_reducible refine gate_callee (f := 70) rfl ?_); refine goesL_ (some 107) rfl rfl Tryz.func70 (by kernel_rfl) rfl #[.slice A1 o1.length c1, .int .i64 wd] rfl (by (try simp only [List.map_toArray, List.map_cons, List.map_nil]); first | done | rfl) ?_; (with_reducible refine (hybrid_Put.calls k (fun _ => True) _ _ o1 wd y1 _ _ (Kd.R_V HR1.out) HY.out).mono ?_); rintro e w5 ⟨rfl, hb5⟩; refine ⟨_, rfl, ?_⟩; have hI5 := IsHT.below HI1.out hb5; have hR5 := am (Kd.R_below HR1.out hb5); have hB5 := am (below_step HB1.out hb5); clear HI1 HR1 HB1 hb5; have HI1 := am hI5; have HR1 := hR5; have HB1 := hB5; clear hR5 hB5; have hc2 := cellHT_2 hI5; have hc3 := cellHT_3 hI5; clear hI5))
              go_ret2
              exact ⟨_, rfl, Kd.R_nil _ _ _ _ _, HB1.out⟩
          · rw [if_neg d1] at hh
            have d1b := beq_eq_false_iff_ne.mpr d1
            have d1c := bne_iff_ne.mpr d1
            have d1d := decide_eq_false d1
            clear d1
            simp only [Option.some.injEq, Prod.mk.injEq] at hh
            obtain ⟨rfl, rfl⟩ := hh
            go_wp2_with (first | ((with_reducible refine gate_callee (f := 70) rfl ?_); refine goesL_ (some 107) rfl rfl Tryz.func70 (by kernel_rfl) rfl #[.slice A1 o1.length c1, .int .i64 wd] rfl (by (try simp only [List.map_toArray, List.map_cons, List.map_nil]); first | done | rfl) ?_; (with_reducible refine (hybrid_Put.calls k (fun _ => True) _ _ o1 wd y1 _ _ (Kd.R_V HR1.out) HY.out).mono ?_); rintro e w5 ⟨rfl, hb5⟩; refine ⟨_, rfl, ?_⟩; have hI5 := IsHT.below HI1.out hb5; have hR5 := am (Kd.R_below HR1.out hb5); have hB5 := am (below_step HB1.out hb5); clear HI1 HR1 HB1 hb5; have HI1 := am hI5; have HR1 := hR5; have HB1 := hB5; clear hR5 hB5; have hc2 := cellHT_2 hI5; have hc3 := cellHT_3 hI5; clear hI5))
            go_ret2
            exact ⟨_, rfl, Kd.R_nil _ _ _ _ _, HB1.out⟩
end Go.Proofs.YtkcmkedboflklaaGreatDoor.Q
