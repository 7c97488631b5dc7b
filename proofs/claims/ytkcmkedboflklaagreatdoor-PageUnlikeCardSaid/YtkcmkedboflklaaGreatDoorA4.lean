/- Steps towards: PageUnlike: unlike columns have unlike pages, for every type, every leaf and every two columns; no condition beside the row's own (the library's listed variables hold what the program's text lays). -/
import Derived.Shelf.Strings.BuilderK
import Derived.Lib.OthersKept
import Derived.Lib.FrozenHead2
import Derived.Lib.Builder
import Derived.Lib.UnsafeStr
import Derived.Laws.Externs
import Derived.Test.YtkcmkedboflklaaGreatDoorA2
import Derived.Test.YtkcmkedboflklaaGreatDoorA1
import Derived.Test.YtkcmkedboflklaaGreatDoorA3
namespace Go.Proofs.YtkcmkedboflklaaGreatDoor.Q
open Go.RowKit Go.Proofs.YtkcmkedboflklaaGreatDoorW.PrintWords Go.Proofs.YtkcmkedboflklaaGreatDoorW.PrintLast Go.Proofs.YtkcmkedboflklaaGreatDoorW.PrintMore
attribute [local go_sem] max2_int min2_int max_two min_two max_three min_three max_four min_four
set_option linter.unusedVariables false
set_option linter.unusedSimpArgs false
set_option maxHeartbeats 8000000
set_option maxRecDepth 100000

-- LIB
-- GIVEN (*strings.Builder).WriteString name=Builder_WriteString rounds=0 g=0
-- GIVEN (*strings.Builder).String name=Builder_String rounds=0 g=0
-- IMPORT Derived.Test.YtkcmkedboflklaaGreatDoorShelf
-- IMPORT Derived.Shelf.Strings.BuilderK
-- IMPORT Derived.Lib.OthersKept
-- IMPORT Derived.Lib.FrozenHead2
-- IMPORT Derived.Lib.Builder
-- IMPORT Derived.Lib.UnsafeStr
-- IMPORT Derived.Laws.Externs
/-! strings.Builder at this cut (its copy check's refused arm is never come to): lines of the shelf's BuilderK turned to this dump. -/
theorem bd_copyCheck_used (b : Nat) (w : World) (h0 : w.cell? ⟨b, 0, none⟩ = some (.pointer (some ⟨b, 0, none⟩))) :
    Calls Tryz.prog 71 #[.pointer (some ⟨b, 0, none⟩)] w fun e w' => e = .returned (.tuple #[]) ∧ w' = w := by
  obtain ⟨j, hj, _⟩ := Option.map_eq_some_iff.1 (show (Tryz.prog.info? 73).map (·.size) = some 2 by kernel_rfl)
  go_enter Tryz.func71, Tryz.ntmps71
  go_wp2
  rw [Lib.run_neq_ptr_same w _ Tryz.underlying70 hj]
  go_wp2
  go_end0
  exact ⟨rfl, rfl⟩
theorem bd_copyCheck_fresh (b : Nat) (w : World) (h0 : w.cell? ⟨b, 0, none⟩ = some (.pointer none)) (hsh : w.shape? b = some (73, 2)) (hfz : w.frozen? ⟨b, 0, none⟩ = false) :
    Calls Tryz.prog 71 #[.pointer (some ⟨b, 0, none⟩)] w fun e w' => e = .returned (.tuple #[]) ∧ w' = w.setCell ⟨b, 0, none⟩ (.pointer (some ⟨b, 0, none⟩)) := by
  obtain ⟨j, hj, hjs⟩ := Option.map_eq_some_iff.1 (show (Tryz.prog.info? 73).map (·.size) = some 2 by kernel_rfl)
  go_enter Tryz.func71, Tryz.ntmps71
  go_wp2
  rw [Lib.run_to_unsafe w ⟨b, 0, none⟩ Tryz.underlying70 Tryz.underlying136 hj (by rw [hjs]; decide) hsh (Nat.zero_lt_succ 1)]
  simp only [Result.andThen]
  rw [Oper.upon_value]
  go_wp2
  rw [run_callFunc_extern Tryz.func106 (by kernel_rfl) (by kernel_rfl) (by kernel_rfl) (e := Extern.AbiNoEscape.same) (by kernel_rfl)]
  rw [Lib.run_noEscape]
  simp only [Result.andThen]
  rw [Oper.upon_value]
  go_wp2
  rw [Lib.run_from_unsafe w ⟨b, 0, none⟩ Tryz.underlying136 Tryz.underlying70 hj hsh (by kernel_rfl)]
  simp only [Result.andThen]
  rw [Oper.upon_value]
  go_wp2
  go_end0
  exact ⟨rfl, rfl⟩
theorem bd_copyCheck (B b : Nat) (bs : List Value) (w : World) (h : Lib.IsBuilderF 73 5 B b bs w) :
    Calls Tryz.prog 71 #[.pointer (some ⟨b, 0, none⟩)] w fun e w' => e = .returned (.tuple #[]) ∧ (Lib.BuilderAtF 73 5 B b (.pointer (some ⟨b, 0, none⟩)) bs w' ∧ Below B w w' ∧ Lib.OthersKept 5 (some b) w w' ∧ w.heap.size ≤ w'.heap.size) := by
  rcases h with h | h
  · refine (bd_copyCheck_fresh b w h.cell0 h.shape h.frozen0).mono ?_
    rintro e w' ⟨rfl, rfl⟩
    exact ⟨rfl, h.used _, (Below.refl B w).setCell (p := ⟨b, 0, none⟩) h.1 _, (Lib.OthersKept.refl _ _ w).setCell ⟨b, 0, none⟩ rfl _, by simp [World.setCell]⟩
  · refine (bd_copyCheck_used b w h.cell0).mono ?_
    rintro e w' ⟨rfl, rfl⟩
    exact ⟨rfl, h, Below.refl B _, Lib.OthersKept.refl _ _ _, Nat.le_refl _⟩
theorem bd_WriteString (B b : Nat) (bs : List Value) (s : ByteArray) (w : World) (h : Lib.IsBuilderF 73 5 B b bs w) (hlen : bs.length + s.size ≤ 140737488355328) (hBw : B ≤ w.heap.size) :
    Calls Tryz.prog 37 #[.pointer (some ⟨b, 0, none⟩), .string s] w fun e w' => e = .returned (.tuple #[.int .i64 s.size, .nilIface]) ∧ (Lib.BuilderAtF 73 5 B b (.pointer (some ⟨b, 0, none⟩)) (bs ++ Lib.strCells s) w' ∧ Below B w w' ∧ Lib.OthersKept 5 (some b) w w' ∧ w.heap.size ≤ w'.heap.size) := by
  obtain ⟨i0, hi, hz0, hz1, hz2⟩ := info_parts info5
  go_enter Tryz.func37, Tryz.ntmps37
  go_wp2_with (go_at_call 71; refine (bd_copyCheck B b bs _ h).mono ?_)
  rintro e w1 ⟨rfl, h1, hb1, hk1, hz1_⟩
  obtain ⟨hB, v, hbk, hown, hne⟩ := h1
  have c0 : w1.cell? ⟨b, 0, none⟩ = some (.pointer (some ⟨b, 0, none⟩)) := by rw [Lib.cell_of_heap hbk]; rfl
  have c1 : w1.cell? ⟨b, 1, none⟩ = some v := by rw [Lib.cell_of_heap hbk]; rfl
  go_wp2_with (at_builtin; refine Lib.wpList_append_own_stringF _ rfl _ _ 71 9 rfl B 5 i0 Tryz.underlying71 Tryz.underlying9 hi hz0 hz1 hz2 _ _ _ rfl hown s rfl ?c3 ?c4 ?c5 ?_)
  case c3 => unfold maxLen; omega
  case c4 => omega
  case c5 => have := hb1.size; omega
  intro v' w2 hown' hgrow _
  have hlt : b < w1.heap.size := by
    rcases Nat.lt_or_ge b w1.heap.size with h' | h'
    · exact h'
    · simp [Array.getElem?_eq_none h'] at hbk
  have hb2 : w2.heap[b]? = some (.cells #[.pointer (some ⟨b, 0, none⟩), v] 73 (0, 0)) := by
    rw [hgrow.block b hlt (fun e => hne e.symm)]
    exact hbk
  have d0 : w2.cell? ⟨b, 0, none⟩ = some (.pointer (some ⟨b, 0, none⟩)) := by rw [Lib.cell_of_heap hb2]; rfl
  have d1 : w2.cell? ⟨b, 1, none⟩ = some v := by rw [Lib.cell_of_heap hb2]; rfl
  have f1 : w2.frozen? ⟨b, 1, none⟩ = false := Lib.frozen_of_heap hb2 1
  obtain ⟨ao, n', cap, rfl⟩ : ∃ ao n' cap, v' = .slice ao n' cap := by
    rcases hown'.2 with ⟨hv, _⟩ | ⟨g, cap, cur, fz, hv, _⟩
    · exact ⟨_, _, _, hv⟩
    · exact ⟨_, _, _, hv⟩
  go_wp2
  go_ret2
  refine ⟨rfl, ?_, ?_, (hk1.grown hgrow (Lib.ownsRowF_kind hown)).setCell ⟨b, 1, none⟩ rfl _, Nat.le_trans hz1_ (by have := hgrow.size; simpa [World.setCell] using this)⟩
  · exact Lib.BuilderAtF.put (T := 73) (e := 5) hB hb2 (bs' := bs ++ Lib.strCells s) (by simpa [Lib.strCells_length] using hown') (by decide)
  · exact (hb1.grown hgrow (by have := hb1.size; omega) (fun k hk => (hown.lt k hk).1)).setCell (p := ⟨b, 1, none⟩) hB _
/-- A builder of the call's own at block g, holding these bytes. -/
def IsS73 (w0 W : World) (g : Nat) (f0 : ByteArray) : Prop := Lib.IsBuilderF 73 5 w0.heap.size g (Lib.byteCells f0.data.toList) W
def BdKeep (w w1 : World) (g : Nat) : Prop := Lib.OthersKept 5 (some g) w w1 ∧ ∃ cs fr, w.heap[g]? = some (.cells cs 73 fr)
def BdGrow (w w1 : World) (g : Nat) : Prop := w.heap.size ≤ w1.heap.size ∧ BdKeep w w1 g
theorem bd_kept {B b : Nat} {p : Value} {bs : List Value} {w w1 : World} (h : Lib.BuilderAtF 73 5 B b p bs w) (hb : ∀ i, i < w.heap.size → w1.heap[i]? = w.heap[i]?) : Lib.BuilderAtF 73 5 B b p bs w1 := by
  have hlt := h.lt
  obtain ⟨hB, v, hh, hown, hne⟩ := h
  refine ⟨hB, v, (hb b hlt).trans hh, ⟨hown.1, ?_⟩, hne⟩
  rcases hown.2 with hn | ⟨g, cap, cur, fz, hv, hBg, hg, rest⟩
  · exact .inl hn
  · exact .inr ⟨g, cap, cur, fz, hv, hBg, (hb g (Array.getElem?_eq_some_iff.1 hg).1).trans hg, rest⟩
theorem IsS73.below {w0 W W1 : World} {g : Nat} {f0 : ByteArray} (h : IsS73 w0 W g f0) (hb : Below W.heap.size W W1) : IsS73 w0 W1 g f0 :=
  h.elim (fun x => .inl (bd_kept x (fun i hi => hb.block i hi))) (fun x => .inr (bd_kept x (fun i hi => hb.block i hi)))
theorem IsS73.alloc {w0 W : World} {g : Nat} {f0 : ByteArray} (h : IsS73 w0 W g f0) (o : Obj) : IsS73 w0 (W.alloc o) g f0 := h.below (below_alloc (Below.refl _ _) o)
theorem IsS73.drewN {w0 W : World} {g : Nat} {f0 : ByteArray} (h : IsS73 w0 W g f0) (m : Nat) : IsS73 w0 (W.drewN m) g f0 := h
theorem IsS73.drew {w0 W : World} {g : Nat} {f0 : ByteArray} (h : IsS73 w0 W g f0) : IsS73 w0 W.drew g f0 := h
theorem IsS73.lt {w0 W : World} {g : Nat} {f0 : ByteArray} (h : IsS73 w0 W g f0) : g < W.heap.size := h.elim (·.lt) (·.lt)
theorem IsS73.ge {w0 W : World} {g : Nat} {f0 : ByteArray} (h : IsS73 w0 W g f0) : w0.heap.size ≤ g := h.elim (·.1) (·.1)
theorem IsS73.at_ {w0 W w' : World} {g m : Nat} {f0 : ByteArray} (hq : W.drewN m = w') (h : IsS73 w0 W g f0) : IsS73 w0 w' g f0 := by subst hq; exact h
theorem bd_new {w0 W : World} {g : Nat} (hb : W.heap[g]? = some (.cells #[.pointer none, .slice none 0 0] 73 (0, 0))) (hg : w0.heap.size ≤ g) : IsS73 w0 W g (⟨#[]⟩ : ByteArray) :=
  .inl ⟨hg, .slice none 0 0, hb, World.ownsRowF_nil _ _ _ _, by simp [Value.ownBlock]⟩
theorem IsS73.blk {w0 W : World} {g : Nat} {f0 : ByteArray} (h : IsS73 w0 W g f0) : ∃ cs fr, W.heap[g]? = some (.cells cs 73 fr) := by
  rcases h with ⟨_, v, hb, _⟩ | ⟨_, v, hb, _⟩ <;> exact ⟨_, _, hb⟩
theorem BdKeep.blk {w w1 : World} {g b : Nat} {cs : Array Value} {t : TypeId} {fr : Nat × Nat} (hk : BdKeep w w1 g) (hb : w.heap[b]? = some (.cells cs t fr)) (hne : b ≠ g) (ht : t ≠ 5) : w1.heap[b]? = some (.cells cs t fr) :=
  hk.1 b _ hb (by simpa using hne) (fun c fz e => ht (by injection e))
theorem R_bd {α : Type} {d : Kd α} {e : Nat} {w w1 : World} {base g : Nat} {ok : Nat → Prop} {v : Value} {xs : List α} (h : Kd.R d e w base ok v xs) (hk : BdGrow w w1 g) (ht : ∀ q, q ∈ e :: d.E → q ≠ 5 ∧ q ≠ 73) : Kd.R d e w1 base ok v xs := by
  have hk2 : Kept w w1 (fun i => ¬ ∃ q, (q ≠ 5 ∧ q ≠ 73) ∧ ∃ cells, w.heap[i]? = some (.cells cells q (0, 0))) := by
    refine ⟨hk.1, fun i hi hS => ?_⟩
    have hS' := Classical.not_not.mp hS
    obtain ⟨q, ⟨h1, h2⟩, cells, hc⟩ := hS'
    rw [hc]
    refine hk.2.1 i _ hc ?_ (fun c fz e => h1 (by injection e))
    intro e
    injection e with e
    subst e
    obtain ⟨cs, fr, hg⟩ := hk.2.2
    rw [hg] at hc
    injection hc with hc
    injection hc with _ hc _
    exact h2 hc.symm
  refine Kd.R_mono (Kd.R_keptB (Kd.R_bound h) hk2 (fun k hk3 hS => hS ?_)) (fun k hk3 => hk3.1.1)
  obtain ⟨_, _, _, q, hq, cells, hc⟩ := hk3
  exact ⟨q, ht q hq, cells, hc⟩
theorem V_bd {α : Type} {d : Kd α} {e B : Nat} {w W w1 : World} {base : Nat} {ok : Nat → Prop} {v : Value} {xs : List α} {g : Nat} (_hk : BdGrow W w1 g) (h : Kd.V d e W base ok v xs) (hok : ∀ k, ok k → k < B) (h0 : Below B w W) (h1 : Below B w w1) : Kd.V d e w1 base ok v xs :=
  Kd.V_step h (fun k hk _ => (h1.block k (hok k hk)).trans (h0.block k (hok k hk)).symm)
theorem bd_cell {B : Nat} {w W w1 : World} (h0 : Below B w W) (h1 : Below B w w1) {a : Addr} {v : Value} (hlt : a.block < B) (h : W.cell? a = some v) : w1.cell? a = some v := (h1.cell hlt).trans ((h0.cell hlt).symm.trans h)
theorem V_blk {α : Type} {d : Kd α} {e n c : Nat} {W : World} {base : Nat} {ok : Nat → Prop} {ad : Addr} {xs : List α} (h : Kd.V d e W base ok (.slice (some ad) n c) xs) (hn : 0 < xs.length) (hs : 0 < d.sz) : ok ad.block := by
  cases xs with
  | nil => simp at hn
  | cons x r =>
    obtain ⟨ad', _, he, _, _, _, ho⟩ := Kd.F_get (Kd.V_F h) x 0 (by omega) (by have := (Kd.V_reads' h).1; rw [this]; simp)
    injection he with he
    subst he
    exact ho hs
def Builder_WriteString.f (s0_0 a1 : ByteArray) : Option (Int × Option Int × ByteArray) := if s0_0.size + a1.size ≤ 140737488355328 then some ((a1.size : Int), none, s0_0 ++ a1) else none
theorem Builder_WriteString.calls (g : Nat) (s0_0 a1 : ByteArray) (r1 : Int) (r2 : Option Int) (r3 : ByteArray) (w0 w : World) (hI : IsS73 w0 w g s0_0) (hB : Below w0.heap.size w0 w) (h : Builder_WriteString.f s0_0 a1 = some (r1, r2, r3)) :
    Calls Tryz.prog 37 #[.pointer (some ⟨g, 0, none⟩), .string a1] w fun e w' => e = .returned (.tuple #[.int .i64 r1, errW r2]) ∧ IsS73 w0 w' g r3 ∧ Below w0.heap.size w0 w' ∧ BdGrow w w' g := by
  unfold Builder_WriteString.f at h
  split at h
  · rename_i hsz
    simp only [Option.some.injEq, Prod.mk.injEq] at h
    obtain ⟨rfl, rfl, rfl⟩ := h
    have hblk := hI.blk
    have hlt := hI.lt
    refine (bd_WriteString w0.heap.size g _ a1 w hI (by simpa [Lib.byteCells] using hsz) hB.size).mono ?_
    rintro e w' ⟨rfl, h1, h2, h3, h4⟩
    refine ⟨rfl, .inr ?_, hB.trans h2, h4, h3, hblk⟩
    · have e1 : Lib.byteCells s0_0.data.toList ++ Lib.strCells a1 = Lib.byteCells (s0_0 ++ a1).data.toList := by simp [Lib.byteCells, Lib.strCells]
      rw [← e1]; exact h1
  · cases h
def Builder_String.f (s0_0 : ByteArray) : Option (ByteArray × ByteArray) := some (s0_0, s0_0)
theorem Builder_String.calls (g : Nat) (s0_0 : ByteArray) (r1 r2 : ByteArray) (w0 w : World) (hI : IsS73 w0 w g s0_0) (hB : Below w0.heap.size w0 w) (h : Builder_String.f s0_0 = some (r1, r2)) :
    Calls Tryz.prog 41 #[.pointer (some ⟨g, 0, none⟩)] w fun e w' => e = .returned (.string r1) ∧ IsS73 w0 w' g r2 ∧ Below w0.heap.size w0 w' ∧ BdKeep w w' g := by
  unfold Builder_String.f at h
  simp only [Option.some.injEq, Prod.mk.injEq] at h
  obtain ⟨rfl, rfl⟩ := h
  have hblk := hI.blk
  refine (Go.Proofs.Tryz.Builder_String_any_k w0.heap.size g _ w hI hB.size).mono ?_
  rintro e w' ⟨rfl, h1, h2, h3⟩
  exact ⟨rfl, h1, hB.trans h2, h3, hblk⟩

-- GIVEN quiver/hybrid.may name=hybrid_may rounds=0 g=0
-- IMPORT Derived.Test.YtkcmkedboflklaaGreatDoorShelf
/-! hybrid.may: its closure, handed to slices.ContainsFunc by the shelf's contract. -/
def oddB (width x : Int) : Bool := if x < 0 then true else decide (x / 2 ^ width.toNat > 0)
theorem odd_calls (B : Nat) (width x : Int) (h0 : 0 ≤ width) (h1 : width ≤ 16) (W : World) (hc : W.cell? ⟨B, 0, none⟩ = some (.int .i64 width)) :
    Calls Tryz.prog 128 #[.int .i64 x, .pointer (some ⟨B, 0, none⟩)] W fun e w' => e = .returned (.bool (oddB width x)) ∧ ∃ q, w' = W.drewN q := by
  by_cases hx : x < 0
  · have e : oddB width x = true := by unfold oddB; rw [if_pos hx]
    have E := Lib.hid e; clear e
    have hx' : decide (x < 0) = true := decide_eq_true hx
    go_enter Tryz.func128, Tryz.ntmps128
    go_wp2
    go_ret
    exact ⟨by rw [E.out]; rfl, 0, rfl⟩
  · have e : oddB width x = decide (x / 2 ^ width.toNat > 0) := by unfold oddB; rw [if_neg hx]
    have E := Lib.hid e; clear e
    have hx' : decide (x < 0) = false := decide_eq_false hx
    have h64 : width ≤ 64 := by omega
    go_enter Tryz.func128, Tryz.ntmps128
    go_wp2
    go_ret
    exact ⟨by rw [E.out]; rfl, 0, rfl⟩
def hybrid_may.f (l0 : List Int) (a1 : Int) : Option Bool := if 0 ≤ a1 then (if a1 ≤ 16 then (if (l0.length : Int) ≤ 4096 then some (!(l0.any (oddB a1))) else some false) else some false) else some false
theorem hybrid_may.calls (A0 : Option Addr) (c0 : Nat) (l0 : List Int) (a1 : Int) (r : Bool) (w : World) (hr0 : Kd.C (Kd.int .i64) w A0 l0.length l0) (hc0 : l0.length ≤ c0) (h : hybrid_may.f l0 a1 = some r) :
    Calls Tryz.prog 100 #[.slice A0 l0.length c0, .int .i64 a1] w fun e w' => e = .returned (.bool r) ∧ Below w.heap.size w w' := by
  have HR := am hr0
  have bel : Below w.heap.size w (w.alloc (.cells #[.int .i64 a1] 3)) := below_alloc (Below.refl _ _) _
  have HBL := am bel
  clear bel hr0
  unfold hybrid_may.f at h
  by_cases h1 : 0 ≤ a1
  · rw [if_pos h1] at h
    have d1 := decide_eq_true h1
    by_cases h2 : a1 ≤ 16
    · rw [if_pos h2] at h
      have d2 := decide_eq_true h2
      by_cases h3 : (l0.length : Int) ≤ 4096
      · rw [if_pos h3] at h
        have d3 := decide_eq_true h3
        have d3' : decide (l0.length ≤ 4096) = true := decide_eq_true (by omega)
        obtain rfl := Option.some.inj h
        clear h
        have hcont : Calls Tryz.prog 129 #[.slice A0 l0.length c0, .func (.func 128) #[] #[.pointer (some ⟨w.heap.size, 0, none⟩)]] (w.alloc (.cells #[.int .i64 a1] 3)) fun e w' => e = .returned (.bool (l0.any (oddB a1))) ∧ Below w.heap.size w w' := by
          have hpd : PredAt Tryz.prog 128 #[.pointer (some ⟨w.heap.size, 0, none⟩)] (Value.int .i64) (oddB a1) (w.alloc (.cells #[.int .i64 a1] 3)) := fun W x hb => by
            have hnew : (w.alloc (.cells #[.int .i64 a1] 3)).cell? ⟨w.heap.size, 0, none⟩ = some (.int .i64 a1) := by rw [Lib.cell_of_heap (heap_alloc_new w _)]; rfl
            exact odd_calls w.heap.size a1 x h1 h2 W ((hb.cell (World.block_lt_of_cell? _ _ hnew)).trans hnew)
          rcases Nat.eq_zero_or_pos l0.length with h0 | hp0
          · have hl : l0 = [] := List.length_eq_zero_iff.1 h0
            subst hl
            refine (Go.Proofs.Tryz.slices_ContainsFunc_empty (α := Int) A0 c0 _ _).mono ?_
            rintro e w1 ⟨rfl, rfl⟩
            exact ⟨rfl, HBL.out⟩
          · have hRd := Kd.reads_of_C (d := (0 : Int)) (Kd.C_below HR.out HBL.out)
            obtain ⟨ad, hA, hc⟩ := hRd.2.2 (by omega)
            subst hA
            obtain ⟨b, off, sp⟩ := ad
            cases sp with
            | some s =>
              have hc0' := hc 0 (by omega)
              unfold World.cell? at hc0'
              split at hc0' <;> simp [Addr.add] at hc0'
            | none =>
              refine (Go.Proofs.Tryz.slices_ContainsFunc (Value.int .i64) (oddB a1) 128 #[.pointer (some ⟨w.heap.size, 0, none⟩)] (fun args w => enters_ Tryz.func128 (by kernel_rfl) (by kernel_rfl) args w) b off l0.length c0 l0 _ hpd (Nat.le_refl _) (by omega) (fun j hj => ?_)).mono ?_
              · have h5 := hc j hj
                rw [List.getD_eq_getElem?_getD, List.getElem?_eq_getElem hj] at h5
                rw [Option.getD_some, Addr.add_lit] at h5
                rw [getElem!_pos l0 j hj]
                exact h5
              · rintro e w1 ⟨rfl, q, rfl⟩
                exact ⟨by rw [List.take_length], pw_below_drewN HBL.out q⟩
        have HCO := am hcont
        clear hcont h3 d3'
        go_enter Tryz.func100, Tryz.ntmps100
        go_wp2_with (go_at_call 129; refine HCO.out.mono ?_; rintro e w1 ⟨rfl, hb⟩)
        go_ret
        exact ⟨rfl, hb⟩
      · rw [if_neg h3] at h
        have d3 := decide_eq_false h3
        have d3' : decide (l0.length ≤ 4096) = false := decide_eq_false (by omega)
        obtain rfl := Option.some.inj h
        clear h h3
        go_enter Tryz.func100, Tryz.ntmps100
        go_wp2
        go_ret
        exact ⟨rfl, HBL.out⟩
    · rw [if_neg h2] at h
      have d2 := decide_eq_false h2
      obtain rfl := Option.some.inj h
      clear h h2
      go_enter Tryz.func100, Tryz.ntmps100
      go_wp2
      go_ret
      exact ⟨rfl, HBL.out⟩
  · rw [if_neg h1] at h
    have d1 := decide_eq_false h1
    obtain rfl := Option.some.inj h
    clear h h1
    go_enter Tryz.func100, Tryz.ntmps100
    go_wp2
    go_ret
    exact ⟨rfl, HBL.out⟩
def hybrid_Put.l0 : Nat → List Int → Int → ByteArray → Option (ByteArray × Int)
 | 0, _, _, _ => none
 | k + 1, x0, x1, x383000 => if (x0.length : Int) > 0 then ((hybrid_same.f k x0).bind fun t385 => (if t385 ≥ 8 then ((num_PutVar.f k (wrap64 (2 * t385))).bind fun bt386 => (if 0 < (x0.length : Int) then ((bits_Bytes.f x1).bind fun t389 => ((num_Word.f k (rd x0 0) t389).bind fun t390 => (if bt386.1.size + t390.size ≤ 9223372036854775807 then ((Builder_WriteString.f x383000 (bt386.1 ++ t390)).bind fun bt391 => (if 0 ≤ t385 then (if t385 ≤ (x0.length : Int) then (hybrid_Put.l0 k (x0.drop (t385 : Int).toNat) x1 bt391.2.2) else (none)) else (none))) else (none)))) else (none))) else ((hybrid_groups.f k x0).bind fun t399 => ((num_PutVar.f k (wrap64 ((wrap64 (2 * (wrap64 (Int.tdiv (wrap64 ((wrap64 (t399 + 8)) - 1)) 8)))) + 1))).bind fun bt400 => (if 0 ≤ t399 then (if t399 ≤ (x0.length : Int) then ((hybrid_wide.f k (x0.take (t399 : Int).toNat) x1).bind fun t407 => (if bt400.1.size + t407.size ≤ 9223372036854775807 then ((Builder_WriteString.f x383000 (bt400.1 ++ t407)).bind fun bt408 => (hybrid_Put.l0 k (x0.drop (t399 : Int).toNat) x1 bt408.2.2)) else (none))) else (none)) else (none)))))) else ((Builder_String.f x383000).bind fun bt383 => (some (bt383.1, 0)))
def hybrid_Put.f (k : Nat) (l0 : List Int) (a1 : Int) : Option (ByteArray × Int) := (hybrid_may.f l0 a1).bind fun t381 => (if t381 = true then (hybrid_Put.l0 k l0 a1 (⟨#[]⟩ : ByteArray)) else (some ((⟨#[]⟩ : ByteArray), 2100)))
def hybrid_Put.T8 : Bool × List (List Nat × List Nat) := (true, [([], []), ([], []), ([1], [1]), ([2], [2]), ([], []), ([4], [4]), ([3, 5, 5], [3, 5]), ([0, 6], [0, 6]), ([7, 6], [7])])
def hybrid_Put.B8 : List Nat := [0, 0, 2, 6, 0, 16, 62, 127, 255]
theorem hybrid_Put.tab8 : rtab .any (opsOf Tryz.f70 8) = hybrid_Put.T8 := by kernel_rfl
theorem hybrid_Put.bits8 : waitsOk hybrid_Put.T8.2 hybrid_Put.B8 = true := by kernel_rfl
theorem hybrid_Put.calls (k : Nat) (P0_ : Nat → Prop) (A0 : Option Addr) (c0 : Nat) (l0 : List Int) (a1 : Int) (r1 : ByteArray) (r2 : Int) (w : World) (hs0 : Kd.V (Kd.int .i64) 3 w w.heap.size (fun k_ => P0_ k_) (.slice A0 l0.length c0) l0) (h : hybrid_Put.f k l0 a1 = some (r1, r2)) :
  Calls Tryz.prog 70 #[.slice A0 l0.length c0, .int .i64 a1] w fun e w' => e = .returned (.tuple #[.string r1, .int .i64 r2]) ∧ Below w.heap.size w w' := by
 have hu73 := Tryz.underlying73
 have HO0 := am (show Kd.V (Kd.int .i64) 3 w w.heap.size (fun k_ => (P0_ k_ ∧ k_ < w.heap.size)) (.slice A0 l0.length c0) l0 from Kd.V_bound hs0)
 have HB := am (Below.refl w.heap.size w)
 have H : ((hybrid_may.f l0 a1).bind fun t381 => (if t381 = true then (hybrid_Put.l0 k l0 a1 (⟨#[]⟩ : ByteArray)) else (some ((⟨#[]⟩ : ByteArray), 2100)))) = some (r1, r2) := h
 clear h
 replace H := zo H
 obtain ⟨t381, A30, H⟩ := H
 (try dsimp only at H)
 have A3 := am A30
 clear A30
 by_cases c4 : t381 = true
 ·
  subst c4
  rw [if_pos rfl] at H
  have H' := am H
  clear H
  go_enter Tryz.func70, Tryz.ntmps70
  go_wp2_with (first | ((with_reducible refine gate_callee (f := 100) rfl ?_); refine goesL_ (some 14) rfl rfl Tryz.func100 (by kernel_rfl) rfl #[.slice A0 l0.length c0, .int .i64 a1] rfl zm ?_; (with_reducible refine (hybrid_may.calls _ _ l0 a1 true _ ?side1 ?side2 A3.out).mono ?_); (case side1 => repeat (first | exact (Kd.V_reads' HO0.out).2.2 | (with_reducible refine Kd.C_alloc ?_ _) | (with_reducible refine Kd.C_drewN ?_ _) | (with_reducible refine Kd.C_drew ?_))); (case side2 => exact (Kd.V_reads' HO0.out).2.1); rintro e w5 ⟨rfl, hb⟩; refine ⟨_, rfl, ?_⟩; have n0_ := am (Kd.V_below (by (with_reducible repeat (first | apply Kd.V_alloc | apply Kd.V_drewN | apply Kd.V_drew)); exact HO0.out) hb); have n1_ := am (below_step (zl HB.out) hb); clear HO0 HB; have HO0 := n0_; have HB := n1_; clear n0_ n1_; (try clear hb); (try clear hb2); (try clear hk); (try clear hi)) | ((with_reducible refine gate_dst (N := 6) rfl ?_); refine box_event ?hg (N := 6) ?hd (cs := #[.pointer none, .slice none 0 0]) (t := 73) ?hr ?_; (case hd => rfl); (case hg => rfl); (case hr => exact zh); intro gb382 hg w6 hbox hb; have n0_ := am (Kd.V_below (Kd.V_elderB (by (with_reducible repeat (first | apply Kd.V_alloc | apply Kd.V_drewN | apply Kd.V_drew)); exact HO0.out) gb382 (Nat.le_of_eq hg.symm)) hb); have n1_ := am (below_step (zl HB.out) hb); have n2_ := am (hbox); have n3_ := am ((by rw [hg]; exact (below_size (zl HB.out)) : w.heap.size ≤ gb382)); have n4_ := am ((by rw [hg]; exact (below_size (zl HB.out)) : w.heap.size ≤ gb382)); have n5_ := am ((show IsS73 w _ gb382 (⟨#[]⟩ : ByteArray) from bd_new hbox (by rw [hg]; exact (below_size (zl HB.out))))); clear HO0 HB; have HO0 := n0_; have HB := n1_; have BK382 := n2_; have GW382 := n3_; have GE382 := n4_; have HI382 := n5_; clear n0_ n1_ n2_ n3_ n4_ n5_; clear hb hbox hg))
  (try simp only [Act.put, List.setIfInBounds_toArray, List.set_cons_zero, List.set_cons_succ])
  go_loopg [0] k (fun kq v0 w' => ∃ (x0_1 : List Int) (x383000_1 : ByteArray), Aside0 (hybrid_Put.l0 kq x0_1 a1 x383000_1 = some (r1, r2)) ∧ Aside0 (kq ≤ k) ∧ Aside0 (Kd.V (Kd.int .i64) 3 w' w.heap.size (fun k_ => (P0_ k_ ∧ k_ < w.heap.size) ∧ k_ ≠ gb382) v0 x0_1) ∧ Aside0 (IsS73 w w' gb382 x383000_1) ∧ Aside0 (Below w.heap.size w w'))
  case atStart => exact ⟨(l0), ((⟨#[]⟩ : ByteArray)), H', ⟨Nat.le_refl _⟩, ⟨by (with_reducible repeat (first | apply Kd.V_alloc | apply Kd.V_drewN | apply Kd.V_drew)); exact HO0.out⟩, ⟨by repeat (first | (with_reducible first | exact HI382.out | apply IsS73.alloc | apply IsS73.drewN | apply IsS73.drew | apply IsS73.set_0) | exact HI382.out)⟩, ⟨zl1 HB.out (IsS73.ge HI382.out)⟩⟩
  case round =>
   clear H'
   try clear c1
   try clear p2
   try clear c4
   obtain ⟨x0_1, x383000_1, HA, HK1, HO_0, HI382, HB⟩ := hrel
   cases gk with
   | zero => exact absurd HA.out (by simp [hybrid_Put.l0])
   | succ k1 =>
    have H := HA.out
    clear HA
    simp only [hybrid_Put.l0] at H
    by_cases c7 : (x0_1.length : Int) > 0
    ·
     rw [if_pos c7] at H
     have c7b0 : decide (0 < (x0_1.length : Int)) = true := decide_eq_true c7
     have c7b1 : decide (0 < x0_1.length) = true := decide_eq_true (by omega)
     clear c7
     replace H := zo H
     obtain ⟨t385, A80, H⟩ := H
     (try dsimp only at H)
     have A8 := am A80
     clear A80
     by_cases c9 : t385 ≥ 8
     ·
      rw [if_pos c9] at H
      have c9b0 : decide (8 ≤ t385) = true := decide_eq_true c9
      clear c9
      replace H := zo H
      obtain ⟨⟨t386, t387⟩, A100, H⟩ := H
      (try dsimp only at H)
      have A10 := am A100
      clear A100
      by_cases c11 : 0 < (x0_1.length : Int)
      ·
       rw [if_pos c11] at H
       have c11b0 := decide_eq_true c11
       have c11b1 : decide (0 < x0_1.length) = true := decide_eq_true (by omega)
       clear c11
       replace H := zo H
       obtain ⟨t389, A120, H⟩ := H
       (try dsimp only at H)
       have A12 := am A120
       clear A120
       replace H := zo H
       obtain ⟨t390, A130, H⟩ := H
       (try dsimp only at H)
       have A13 := am A130
       clear A130
       by_cases c14 : t386.size + t390.size ≤ 9223372036854775807
       ·
        rw [if_pos c14] at H
        have c14b0 := eq_true c14
        have c14b1 := decide_eq_true c14
        try have c14b2 : (9223372036854775807 < t386.size + t390.size) = False := eq_false (Nat.not_lt.2 c14)
        replace H := zo H
        obtain ⟨⟨t391, t392, t393⟩, A150, H⟩ := H
        (try dsimp only at H)
        have A15 := am A150
        clear A150
        by_cases c16 : 0 ≤ t385
        ·
         rw [if_pos c16] at H
         have c16b0 := eq_true c16
         have c16b1 := decide_eq_true c16
         clear c16
         by_cases c17 : t385 ≤ (x0_1.length : Int)
         ·
          rw [if_pos c17] at H
          have c17b0 := eq_true c17
          have c17b1 := decide_eq_true c17
          clear c17
          obtain ⟨y394, hy394⟩ : ∃ y_ : List Int, y_ = (x0_1.drop (t385 : Int).toNat) := ⟨_, rfl⟩
          replace H : (hybrid_Put.l0 k1 y394 a1 t393) = some (r1, r2) := by first | (rw [hy394]; with_reducible exact H) | (have H2_ := (Option.bind_some _ _).symm.trans H; rw [hy394]; with_reducible exact H2_) | (have H2_ := (Option.bind_some _ _).symm.trans H; with_reducible exact H2_) | with_reducible exact H | (rw [hy394]; exact H) | exact H
          have Ny394 := am hy394
          clear hy394
          have H' := am H
          clear H
          obtain ⟨Ao18, co18, eo18⟩ := Kd.V_slice HO_0.out
          subst eo18
          try go_wp2_with (first | ((with_reducible refine gate_callee (f := 101) rfl ?_); refine goesL_ (some 20) rfl rfl Tryz.func101 (by kernel_rfl) rfl #[.slice Ao18 x0_1.length co18] rfl zm ?_; (with_reducible refine (hybrid_same.calls k1 _ _ x0_1 t385 _ ?side1 ?side2 A8.out).mono ?_); (case side1 => repeat (first | exact (Kd.V_reads' HO_0.out).2.2 | (with_reducible refine Kd.C_alloc ?_ _) | (with_reducible refine Kd.C_drewN ?_ _) | (with_reducible refine Kd.C_drew ?_))); (case side2 => exact (Kd.V_reads' HO_0.out).2.1); rintro e w' ⟨rfl, ⟨nd, rfl⟩⟩; refine ⟨_, rfl, ?_⟩) | ((with_reducible refine gate_callee (f := 102) rfl ?_); refine goesL_ (some 26) rfl rfl Tryz.func102 (by kernel_rfl) rfl #[.int .i64 (wrap64 (2 * t385))] rfl zm ?_; (with_reducible refine (num_PutVar.calls k1 (wrap64 (2 * t385)) t386 t387 _ A10.out).mono ?_); rintro e w19 ⟨rfl, hb⟩; refine ⟨_, rfl, ?_⟩; have n0_ := am (Kd.V_below (by (with_reducible repeat (first | apply Kd.V_alloc | apply Kd.V_drewN | apply Kd.V_drew)); exact HO_0.out) hb); have n1_ := am (IsS73.below (by repeat (first | (with_reducible first | exact HI382.out | apply IsS73.alloc | apply IsS73.drewN | apply IsS73.drew | apply IsS73.set_0) | exact HI382.out)) hb); have n2_ := am (below_step (zl1 HB.out (IsS73.ge HI382.out)) hb); clear HO_0 HI382 HB; have HO_0 := n0_; have HI382 := n1_; have HB := n2_; clear n0_ n1_ n2_; (try clear hb); (try clear hb2); (try clear hk); (try clear hi)))
          have n0_ := am (Kd.V_drew HO_0.out)
          have n1_ := am (IsS73.drew HI382.out)
          have n2_ := am (below_drew1 HB.out)
          clear HO_0
          clear HI382
          clear HB
          have HO_0 := n0_
          have HI382 := n1_
          have HB := n2_
          clear n0_ n1_ n2_
          have p388 : 0 ≤ (0 : Int) := (by omega)
          have q388 : 0 < (x0_1.length : Int) := of_decide_eq_true za
          obtain ⟨ad388, e388, hx388_0⟩ := Kd.at_int (Kd.V_reads' HO_0.out).2.2 0 p388 q388
          cases e388
          have qi388 : (0 < x0_1.length) = True := eq_true (by omega)
          (try rw [show ((0 : Int)).toNat = 0 from rfl] at hx388_0)
          (try rw [Addr.add_zero'] at hx388_0)
          replace p388 := eq_true p388
          replace q388 := eq_true q388
          refine start_ (n := 9) (S := fun w' => w'.cell? ad388 = some (.int .i64 (rd x0_1 0))) (ds := []) #[false, false, false, false, false, false, false, false, false] (by kernel_rfl) rfl rfl (hx388_0) (fun hHeld => ?_); refine with_tabW hybrid_Put.tab8 hybrid_Put.bits8 (fun HT_ HW_ => ?_)
          generalize w19.drew = w20 at HO_0 HI382 HB hx388_0 hHeld ⊢
          refine pure_ (i := 0) (N := some 29) (v := ?_) (a' := ?_) #[true, false, false, false, false, false, false, false, false] rfl rfl (any_of HT_.out (by kernel_rfl)) (fun _ _ _ h => h) (Or.inl ⟨by rfl, ?_⟩) ?_ ?_
          rotate_left
          ·
           intro w'
           go_simp
           with_reducible rfl
          rotate_left
          ·
           simp only [Act.put, List.setIfInBounds_toArray, List.set_cons_zero, List.set_cons_succ, i64_w, i32_w]
           rfl
          refine pure_ (i := 1) (N := some 30) (v := ?_) (a' := ?_) #[true, true, false, false, false, false, false, false, false] rfl rfl (any_of HT_.out (by kernel_rfl)) (fun _ _ _ h => h) (Or.inl ⟨by rfl, ?_⟩) ?_ ?_
          rotate_left
          ·
           intro w'
           go_simp
           with_reducible rfl
          rotate_left
          ·
           simp only [Act.put, List.setIfInBounds_toArray, List.set_cons_zero, List.set_cons_succ, i64_w, i32_w]
           rfl
          refine pure_ (i := 2) (N := some 31) (v := ?_) (a' := ?_) #[true, true, true, false, false, false, false, false, false] rfl rfl (any_of HT_.out (by kernel_rfl)) (fun _ _ _ h => h) (Or.inl ⟨by rfl, ?_⟩) ?_ ?_
          rotate_left
          ·
           intro w'
           go_simp
           with_reducible rfl
          rotate_left
          ·
           simp only [Act.put, List.setIfInBounds_toArray, List.set_cons_zero, List.set_cons_succ, i64_w, i32_w]
           rfl
          refine pure_ (i := 4) (N := some 33) (v := ?_) (a' := ?_) #[true, true, true, false, true, false, false, false, false] rfl rfl (any_of HT_.out (by kernel_rfl)) (fun _ _ _ h => h) (Or.inl ⟨by rfl, ?_⟩) ?_ ?_
          rotate_left
          ·
           intro w'
           go_simp
           with_reducible rfl
          rotate_left
          ·
           simp only [Act.put, List.setIfInBounds_toArray, List.set_cons_zero, List.set_cons_succ, i64_w, i32_w]
           rfl
          refine take_ (i := 3) (N := some 32) (v := ?_) (a' := ?_) #[true, true, true, true, true, false, false, false, false] rfl rfl (take_ofW HT_.out HW_.out (by kernel_rfl)) (fun _ _ _ h => h) (Or.inl ⟨by rfl, ?_⟩) hHeld ?_ ?_
          rotate_left
          ·
           intro w' s0
           go_simp
           with_reducible rfl
          rotate_left
          ·
           simp only [Act.put, List.setIfInBounds_toArray, List.set_cons_zero, List.set_cons_succ, i64_w, i32_w]
           rfl
          refine one_ (i := 5) (N := some 34) #[true, true, true, true, true, true, false, false, false] rfl rfl (one_of HT_.out (by kernel_rfl)) (by decide) (fun K hK => ?_)
          refine goes_ Tryz.func103 (by kernel_rfl) rfl #[.int .i64 a1] (by rfl) rfl rfl zm ?_
          with_reducible refine (bits_Bytes.calls a1 t389 _ A12.out).mono ?_
          rintro e w' ⟨rfl, ⟨nd, rfl⟩⟩
          refine ⟨_, rfl, ?_⟩
          refine hK.out _ _ (hHeld) (fun hHeld => ?_)
          clear hK K
          refine norm_ (a' := ?_) ?_ ?_
          rotate_left
          ·
           show Act.put _ (some 34) _ = _
           simp only [Act.put, List.setIfInBounds_toArray, List.set_cons_zero, List.set_cons_succ, i64_w, i32_w]
           rfl
          refine one_ (i := 6) (N := some 35) #[true, true, true, true, true, true, true, false, false] rfl rfl (one_of HT_.out (by kernel_rfl)) (by decide) (fun K hK => ?_)
          refine goes_ Tryz.func38 (by kernel_rfl) rfl #[.int .i64 (rd x0_1 0), .int .i64 t389] (by rfl) rfl rfl zm ?_
          with_reducible refine (num_Word.calls k1 (rd x0_1 0) t389 t390 _ A13.out).mono ?_
          rintro e w21 ⟨rfl, hb⟩
          have HS0_ := (hb.cell (World.block_lt_of_cell? _ _ (hHeld))).trans (hHeld)
          refine ⟨_, rfl, ?_⟩
          have n0_ := am (Kd.V_below (by (with_reducible repeat (first | apply Kd.V_alloc | apply Kd.V_drewN | apply Kd.V_drew)); exact HO_0.out) hb)
          have n1_ := am (IsS73.below (by repeat (first | (with_reducible first | exact HI382.out | apply IsS73.alloc | apply IsS73.drewN | apply IsS73.drew | apply IsS73.set_0) | exact HI382.out)) hb)
          have n2_ := am (below_step (zl1 HB.out (IsS73.ge HI382.out)) hb)
          clear HO_0
          clear HI382
          clear HB
          have HO_0 := n0_
          have HI382 := n1_
          have HB := n2_
          clear n0_ n1_ n2_
          (try clear hb)
          (try clear hb2)
          (try clear hk)
          (try clear hi)
          refine hK.out _ _ (HS0_) (fun hHeld => ?_)
          clear hK K
          refine norm_ (a' := ?_) ?_ ?_
          rotate_left
          ·
           show Act.put _ (some 35) _ = _
           simp only [Act.put, List.setIfInBounds_toArray, List.set_cons_zero, List.set_cons_succ, i64_w, i32_w]
           rfl
          refine pure_ (i := 7) (N := some 36) (v := ?_) (a' := ?_) #[true, true, true, true, true, true, true, true, false] rfl rfl (any_of HT_.out (by kernel_rfl)) (fun _ _ _ h => h) (Or.inl ⟨by rfl, ?_⟩) ?_ ?_
          rotate_left
          ·
           intro w'
           go_simp
           with_reducible rfl
          rotate_left
          ·
           simp only [Act.put, List.setIfInBounds_toArray, List.set_cons_zero, List.set_cons_succ, i64_w, i32_w]
           rfl
          refine one_ (i := 8) (N := some 37) #[true, true, true, true, true, true, true, true, true] rfl rfl (one_of HT_.out (by kernel_rfl)) (by decide) (fun K hK => ?_)
          refine goes_ Tryz.func37 (by kernel_rfl) rfl #[.pointer (some ⟨gb382, 0, none⟩), .string (t386 ++ t390)] (by rfl) rfl rfl zm ?_
          with_reducible refine (Builder_WriteString.calls gb382 x383000_1 (t386 ++ t390) t391 t392 t393 w _ ?side1 ?side2 A15.out).mono ?_
          (case side1 => repeat (first | (with_reducible first | exact HI382.out | apply IsS73.alloc | apply IsS73.drewN | apply IsS73.drew | apply IsS73.set_0) | exact HI382.out))
          (case side2 => exact zl1 HB.out (IsS73.ge HI382.out))
          rintro e w22 ⟨rfl, hi, hb, hk⟩
          have HS0_ := bd_cell (zl HB.out) hb (by have h_ := V_blk HO_0.out (by first | exact of_eq_true (by assumption) | omega) (by decide); first | exact (h_.1).2 | (rw [add_block]; exact (h_.1).2)) (hHeld)
          refine ⟨_, rfl, ?_⟩
          have n0_ := am (V_bd hk (by (with_reducible repeat (first | apply Kd.V_alloc | apply Kd.V_drewN | apply Kd.V_drew)); exact HO_0.out) (by exact fun k_ hk_ => (hk_.1).2) (zl1 HB.out (IsS73.ge HI382.out)) hb)
          have n1_ := am (hb)
          have n2_ := am (hi)
          clear HO_0
          clear HB
          clear HI382
          have HO_0 := n0_
          have HB := n1_
          have HI382 := n2_
          clear n0_ n1_ n2_
          (try clear hb)
          (try clear hb2)
          (try clear hk)
          (try clear hi)
          (try simp only [errW_none, errW_some])
          refine hK.out _ _ (HS0_) (fun hHeld => ?_)
          clear hK K
          refine norm_ (a' := ?_) ?_ ?_
          rotate_left
          ·
           show Act.put _ (some 37) _ = _
           simp only [Act.put, List.setIfInBounds_toArray, List.set_cons_zero, List.set_cons_succ, i64_w, i32_w]
           rfl
          refine done_ (done_of HT_.out (by kernel_rfl)) ?_
          have q23 : (t385 : Int) ≤ ((x0_1.length : Int) : Int) := of_decide_eq_true za
          obtain ⟨i023, hi023, _, hsz23, _⟩ := info_parts info3
          have hroom23 : x0_1.length ≤ co18 := (Kd.V_reads' HO_0.out).2.1
          have hC23 : Kd.F (Kd.int .i64) _ _ (some ad388) x0_1.length x0_1 := (Kd.V_at (base := w.heap.size) HO_0.out).2.2
          have q023 : (0 : Int) ≤ (t385 : Int) := of_decide_eq_true za
          have hcut23 := cut_from (P := Tryz.prog) 28 3 .i64 Tryz.underlying28 hi023 1 hsz23 (some ad388) x0_1.length co18 t385 q023 q23
          have hr23 := Kd.F_cut (m := (t385 : Int).toNat) (c := co18) hC23 (by omega) hroom23
          obtain ⟨A23, hA23⟩ : ∃ A1, A1 = (if co18 = (t385 : Int).toNat then (some ad388) else ((some ad388) : Option Addr).map (·.add ((t385 : Int).toNat * 1))) := ⟨_, rfl⟩
          obtain ⟨c23, hc23⟩ : ∃ c1, c1 = co18 - (t385 : Int).toNat := ⟨_, rfl⟩
          have hy23 : y394.length = x0_1.length - (t385 : Int).toNat := (by rw [Ny394.out, List.length_drop] <;> omega)
          rw [show (x0_1).drop (t385 : Int).toNat = y394 from Ny394.out.symm] at hr23
          replace hr23 : Kd.F (Kd.int .i64) _ _ A23 y394.length y394 := (by rw [hA23]; exact hr23)
          rw [← hy23, ← hA23, ← hc23] at hcut23
          have HO398 := am (show Kd.V (Kd.int .i64) 3 _ w.heap.size _ (.slice A23 y394.length c23) y394 from Kd.V_mk (by rw [hy23, hc23]; exact Nat.sub_le_sub_right hroom23 _) hr23)
          have HC398 := am (show y394.length ≤ c23 from by rw [hy23, hc23]; exact Nat.sub_le_sub_right hroom23 _)
          clear hr23 hC23 hroom23 hi023 hsz23 hc23
          have KY23 := am hy23
          have KA23 := am hA23
          clear hy23 hA23
          replace q23 := eq_true q23
          try go_wp2
          go_roundg k1
          case measure => have := HK1.out; omega
          case rel => exact ⟨(y394), (t393), H', ⟨by have := HK1.out; omega⟩, ⟨by (with_reducible repeat (first | apply Kd.V_alloc | apply Kd.V_drewN | apply Kd.V_drew)); exact HO398.out⟩, ⟨by repeat (first | (with_reducible first | exact HI382.out | apply IsS73.alloc | apply IsS73.drewN | apply IsS73.drew | apply IsS73.set_0) | exact HI382.out)⟩, ⟨zl1 HB.out (IsS73.ge HI382.out)⟩⟩
         ·
          rw [if_neg c17] at H
          exact absurd H (by simp)
        ·
         rw [if_neg c16] at H
         exact absurd H (by simp)
       ·
        rw [if_neg c14] at H
        exact absurd H (by simp)
      ·
       rw [if_neg c11] at H
       exact absurd H (by simp)
     ·
      rw [if_neg c9] at H
      have c9b0 : decide (8 ≤ t385) = false := decide_eq_false c9
      clear c9
      replace H := zo H
      obtain ⟨t399, A240, H⟩ := H
      (try dsimp only at H)
      have A24 := am A240
      clear A240
      replace H := zo H
      obtain ⟨⟨t400, t401⟩, A250, H⟩ := H
      (try dsimp only at H)
      have A25 := am A250
      clear A250
      by_cases c26 : 0 ≤ t399
      ·
       rw [if_pos c26] at H
       have c26b0 := eq_true c26
       have c26b1 := decide_eq_true c26
       clear c26
       by_cases c27 : t399 ≤ (x0_1.length : Int)
       ·
        rw [if_pos c27] at H
        have c27b0 := eq_true c27
        have c27b1 := decide_eq_true c27
        clear c27
        obtain ⟨y402, hy402⟩ : ∃ y_ : List Int, y_ = (x0_1.take (t399 : Int).toNat) := ⟨_, rfl⟩
        replace H : ((hybrid_wide.f k1 y402 a1).bind fun t407 => (if t400.size + t407.size ≤ 9223372036854775807 then ((Builder_WriteString.f x383000_1 (t400 ++ t407)).bind fun bt408 => (hybrid_Put.l0 k1 (x0_1.drop (t399 : Int).toNat) a1 bt408.2.2)) else (none))) = some (r1, r2) := by first | (rw [hy402]; with_reducible exact H) | (have H2_ := (Option.bind_some _ _).symm.trans H; rw [hy402]; with_reducible exact H2_) | (have H2_ := (Option.bind_some _ _).symm.trans H; with_reducible exact H2_) | with_reducible exact H | (rw [hy402]; exact H) | exact H
        have Ny402 := am hy402
        clear hy402
        replace H := zo H
        obtain ⟨t407, A280, H⟩ := H
        (try dsimp only at H)
        have A28 := am A280
        clear A280
        by_cases c29 : t400.size + t407.size ≤ 9223372036854775807
        ·
         rw [if_pos c29] at H
         have c29b0 := eq_true c29
         have c29b1 := decide_eq_true c29
         try have c29b2 : (9223372036854775807 < t400.size + t407.size) = False := eq_false (Nat.not_lt.2 c29)
         replace H := zo H
         obtain ⟨⟨t408, t409, t410⟩, A300, H⟩ := H
         (try dsimp only at H)
         have A30 := am A300
         clear A300
         have c31b0 := eq_true (of_decide_eq_true za : 0 ≤ t399)
         have c32b0 := eq_true (of_decide_eq_true za : t399 ≤ (x0_1.length : Int))
         obtain ⟨y411, hy411⟩ : ∃ y_ : List Int, y_ = (x0_1.drop (t399 : Int).toNat) := ⟨_, rfl⟩
         replace H : (hybrid_Put.l0 k1 y411 a1 t410) = some (r1, r2) := by first | (rw [hy411]; with_reducible exact H) | (have H2_ := (Option.bind_some _ _).symm.trans H; rw [hy411]; with_reducible exact H2_) | (have H2_ := (Option.bind_some _ _).symm.trans H; with_reducible exact H2_) | with_reducible exact H | (rw [hy411]; exact H) | exact H
         have Ny411 := am hy411
         clear hy411
         have H' := am H
         clear H
         obtain ⟨Ao33, co33, eo33⟩ := Kd.V_slice HO_0.out
         subst eo33
         go_wp2_with (first | ((with_reducible refine gate_callee (f := 101) rfl ?_); refine goesL_ (some 20) rfl rfl Tryz.func101 (by kernel_rfl) rfl #[.slice Ao33 x0_1.length co33] rfl zm ?_; (with_reducible refine (hybrid_same.calls k1 _ _ x0_1 t385 _ ?side1 ?side2 A8.out).mono ?_); (case side1 => repeat (first | exact (Kd.V_reads' HO_0.out).2.2 | (with_reducible refine Kd.C_alloc ?_ _) | (with_reducible refine Kd.C_drewN ?_ _) | (with_reducible refine Kd.C_drew ?_))); (case side2 => exact (Kd.V_reads' HO_0.out).2.1); rintro e w' ⟨rfl, ⟨nd, rfl⟩⟩; refine ⟨_, rfl, ?_⟩) | ((with_reducible refine gate_callee (f := 104) rfl ?_); refine goesL_ (some 39) rfl rfl Tryz.func104 (by kernel_rfl) rfl #[.slice Ao33 x0_1.length co33] rfl zm ?_; (with_reducible refine (hybrid_groups.calls k1 _ _ x0_1 t399 _ ?side1 ?side2 A24.out).mono ?_); (case side1 => repeat (first | exact (Kd.V_reads' HO_0.out).2.2 | (with_reducible refine Kd.C_alloc ?_ _) | (with_reducible refine Kd.C_drewN ?_ _) | (with_reducible refine Kd.C_drew ?_))); (case side2 => exact (Kd.V_reads' HO_0.out).2.1); rintro e w' ⟨rfl, ⟨nd, rfl⟩⟩; refine ⟨_, rfl, ?_⟩) | ((with_reducible refine gate_callee (f := 102) rfl ?_); refine goesL_ (some 47) rfl rfl Tryz.func102 (by kernel_rfl) rfl #[.int .i64 (wrap64 ((wrap64 (2 * (wrap64 (Int.tdiv (wrap64 ((wrap64 (t399 + 8)) - 1)) 8)))) + 1))] rfl zm ?_; (with_reducible refine (num_PutVar.calls k1 (wrap64 ((wrap64 (2 * (wrap64 (Int.tdiv (wrap64 ((wrap64 (t399 + 8)) - 1)) 8)))) + 1)) t400 t401 _ A25.out).mono ?_); rintro e w34 ⟨rfl, hb⟩; refine ⟨_, rfl, ?_⟩; have n0_ := am (Kd.V_below (by (with_reducible repeat (first | apply Kd.V_alloc | apply Kd.V_drewN | apply Kd.V_drew)); exact HO_0.out) hb); have n1_ := am (IsS73.below (by repeat (first | (with_reducible first | exact HI382.out | apply IsS73.alloc | apply IsS73.drewN | apply IsS73.drew | apply IsS73.set_0) | exact HI382.out)) hb); have n2_ := am (below_step (zl1 HB.out (IsS73.ge HI382.out)) hb); clear HO_0 HI382 HB; have HO_0 := n0_; have HI382 := n1_; have HB := n2_; clear n0_ n1_ n2_; (try clear hb); (try clear hb2); (try clear hk); (try clear hi); have q35 : (t399 : Int) ≤ ((x0_1.length : Int) : Int) := of_decide_eq_true za; obtain ⟨i035, hi035, _, hsz35, _⟩ := info_parts info3; have hroom35 : x0_1.length ≤ co33 := (Kd.V_reads' HO_0.out).2.1; have hC35 : Kd.F (Kd.int .i64) _ _ Ao33 x0_1.length x0_1 := (Kd.V_at (base := w.heap.size) HO_0.out).2.2; have hcut35 := cut_to (P := Tryz.prog) 28 3 .i64 Tryz.underlying28 hi035 Ao33 x0_1.length co33 t399 (of_decide_eq_true za) q35 hroom35; have hr35 := Kd.F_take (m := (t399 : Int).toNat) hC35 (by omega); have hy35 : y402.length = (t399 : Int).toNat := (by rw [Ny402.out, List.length_take]; omega); rw [← Ny402.out] at hr35; rw [← hy35] at hcut35; have HO406 := am (show Kd.V (Kd.int .i64) 3 _ w.heap.size _ (.slice Ao33 y402.length co33) y402 from Kd.V_mk (by omega) hr35); have HC406 := am (show y402.length ≤ co33 from by omega); clear hr35 hC35 hroom35 hi035 hsz35; have KY35 := am hy35; clear hy35; replace q35 := eq_true q35) | ((with_reducible refine gate_callee (f := 105) rfl ?_); refine goesL_ (some 55) rfl rfl Tryz.func105 (by kernel_rfl) rfl #[.slice Ao33 y402.length co33, .int .i64 a1] rfl zm ?_; (with_reducible refine (hybrid_wide.calls k1 _ _ y402 a1 t407 _ ?side1 ?side2 A28.out).mono ?_); (case side1 => repeat (first | exact (Kd.V_reads' HO406.out).2.2 | (with_reducible refine Kd.C_alloc ?_ _) | (with_reducible refine Kd.C_drewN ?_ _) | (with_reducible refine Kd.C_drew ?_))); (case side2 => exact (Kd.V_reads' HO406.out).2.1); rintro e w36 ⟨rfl, hb⟩; refine ⟨_, rfl, ?_⟩; have n0_ := am (Kd.V_below (by (with_reducible repeat (first | apply Kd.V_alloc | apply Kd.V_drewN | apply Kd.V_drew)); exact HO_0.out) hb); have n1_ := am (Kd.V_below (by (with_reducible repeat (first | apply Kd.V_alloc | apply Kd.V_drewN | apply Kd.V_drew)); exact HO406.out) hb); have n2_ := am (IsS73.below (by repeat (first | (with_reducible first | exact HI382.out | apply IsS73.alloc | apply IsS73.drewN | apply IsS73.drew | apply IsS73.set_0) | exact HI382.out)) hb); have n3_ := am (below_step (zl1 HB.out (IsS73.ge HI382.out)) hb); clear HO_0 HO406; clear HI382 HB; have HO_0 := n0_; have HO406 := n1_; have HI382 := n2_; have HB := n3_; clear n0_ n1_ n2_ n3_; (try clear hb); (try clear hb2); (try clear hk); (try clear hi)) | ((with_reducible refine gate_callee (f := 37) rfl ?_); refine goesL_ (some 57) rfl rfl Tryz.func37 (by kernel_rfl) rfl #[.pointer (some ⟨gb382, 0, none⟩), .string (t400 ++ t407)] rfl zm ?_; (with_reducible refine (Builder_WriteString.calls gb382 x383000_1 (t400 ++ t407) t408 t409 t410 w _ ?side1 ?side2 A30.out).mono ?_); (case side1 => repeat (first | (with_reducible first | exact HI382.out | apply IsS73.alloc | apply IsS73.drewN | apply IsS73.drew | apply IsS73.set_0) | exact HI382.out)); (case side2 => exact zl1 HB.out (IsS73.ge HI382.out)); rintro e w37 ⟨rfl, hi, hb, hk⟩; refine ⟨_, rfl, ?_⟩; have n0_ := am (V_bd hk (by (with_reducible repeat (first | apply Kd.V_alloc | apply Kd.V_drewN | apply Kd.V_drew)); exact HO_0.out) (by exact fun k_ hk_ => (hk_.1).2) (zl1 HB.out (IsS73.ge HI382.out)) hb); have n1_ := am (V_bd hk (by (with_reducible repeat (first | apply Kd.V_alloc | apply Kd.V_drewN | apply Kd.V_drew)); exact HO406.out) (by exact fun k_ hk_ => (hk_.1).2) (zl1 HB.out (IsS73.ge HI382.out)) hb); have n2_ := am (hb); have n3_ := am (hi); clear HO_0 HO406; clear HB HI382; have HO_0 := n0_; have HO406 := n1_; have HB := n2_; have HI382 := n3_; clear n0_ n1_ n2_ n3_; (try clear hb); (try clear hb2); (try clear hk); (try clear hi); (try simp only [errW_none, errW_some]); have q38 : (t399 : Int) ≤ ((x0_1.length : Int) : Int) := of_decide_eq_true za; obtain ⟨i038, hi038, _, hsz38, _⟩ := info_parts info3; have hroom38 : x0_1.length ≤ co33 := (Kd.V_reads' HO_0.out).2.1; have hC38 : Kd.F (Kd.int .i64) _ _ Ao33 x0_1.length x0_1 := (Kd.V_at (base := w.heap.size) HO_0.out).2.2; have q038 : (0 : Int) ≤ (t399 : Int) := of_decide_eq_true za; have hcut38 := cut_from (P := Tryz.prog) 28 3 .i64 Tryz.underlying28 hi038 1 hsz38 Ao33 x0_1.length co33 t399 q038 q38; have hr38 := Kd.F_cut (m := (t399 : Int).toNat) (c := co33) hC38 (by omega) hroom38; obtain ⟨A38, hA38⟩ : ∃ A1, A1 = (if co33 = (t399 : Int).toNat then Ao33 else (Ao33 : Option Addr).map (·.add ((t399 : Int).toNat * 1))) := ⟨_, rfl⟩; obtain ⟨c38, hc38⟩ : ∃ c1, c1 = co33 - (t399 : Int).toNat := ⟨_, rfl⟩; have hy38 : y411.length = x0_1.length - (t399 : Int).toNat := (by rw [Ny411.out, List.length_drop] <;> omega); rw [show (x0_1).drop (t399 : Int).toNat = y411 from Ny411.out.symm] at hr38; replace hr38 : Kd.F (Kd.int .i64) _ _ A38 y411.length y411 := (by rw [hA38]; exact hr38); rw [← hy38, ← hA38, ← hc38] at hcut38; have HO415 := am (show Kd.V (Kd.int .i64) 3 _ w.heap.size _ (.slice A38 y411.length c38) y411 from Kd.V_mk (by rw [hy38, hc38]; exact Nat.sub_le_sub_right hroom38 _) hr38); have HC415 := am (show y411.length ≤ c38 from by rw [hy38, hc38]; exact Nat.sub_le_sub_right hroom38 _); clear hr38 hC38 hroom38 hi038 hsz38 hc38; have KY38 := am hy38; have KA38 := am hA38; clear hy38 hA38; replace q38 := eq_true q38))
         go_roundg k1
         case measure => have := HK1.out; omega
         case rel => exact ⟨(y411), (t410), H', ⟨by have := HK1.out; omega⟩, ⟨by (with_reducible repeat (first | apply Kd.V_alloc | apply Kd.V_drewN | apply Kd.V_drew)); exact HO415.out⟩, ⟨by repeat (first | (with_reducible first | exact HI382.out | apply IsS73.alloc | apply IsS73.drewN | apply IsS73.drew | apply IsS73.set_0) | exact HI382.out)⟩, ⟨zl1 HB.out (IsS73.ge HI382.out)⟩⟩
        ·
         rw [if_neg c29] at H
         exact absurd H (by simp)
       ·
        rw [if_neg c27] at H
        exact absurd H (by simp)
      ·
       rw [if_neg c26] at H
       exact absurd H (by simp)
    ·
     rw [if_neg c7] at H
     have c7b0 : decide (0 < (x0_1.length : Int)) = false := decide_eq_false c7
     have c7b1 : decide (0 < x0_1.length) = false := decide_eq_false (by omega)
     clear c7
     replace H := zo H
     obtain ⟨⟨t383, t384⟩, A390, H⟩ := H
     (try dsimp only at H)
     have A39 := am A390
     clear A390
     simp only [Option.some.injEq, Prod.mk.injEq] at H
     obtain ⟨rfl, rfl⟩ := H
     obtain ⟨Ao40, co40, eo40⟩ := Kd.V_slice HO_0.out
     subst eo40
     go_wp2_with (first | ((with_reducible refine gate_callee (f := 41) rfl ?_); refine goesL_ (some 61) rfl rfl Tryz.func41 (by kernel_rfl) rfl #[.pointer (some ⟨gb382, 0, none⟩)] rfl zm ?_; (with_reducible refine (Builder_String.calls gb382 x383000_1 t383 t384 w _ ?side1 ?side2 A39.out).mono ?_); (case side1 => repeat (first | (with_reducible first | exact HI382.out | apply IsS73.alloc | apply IsS73.drewN | apply IsS73.drew | apply IsS73.set_0) | exact HI382.out)); (case side2 => exact zl1 HB.out (IsS73.ge HI382.out)); rintro e w41 ⟨rfl, hi, hb, hk⟩; refine ⟨_, rfl, ?_⟩; have n0_ := am (hb); have n1_ := am (hi); clear HB HI382; have HB := n0_; have HI382 := n1_; clear n0_ n1_; (try clear hb); (try clear hb2); (try clear hk); (try clear hi)))
     go_ret2
     exact ⟨ze, zl1 HB.out (IsS73.ge HI382.out)⟩
 ·
  replace c4 := Bool.eq_false_iff.mpr c4
  subst c4
  rw [if_neg (show ¬ (false = true) by decide)] at H
  simp only [Option.some.injEq, Prod.mk.injEq] at H
  obtain ⟨rfl, rfl⟩ := H
  go_enter Tryz.func70, Tryz.ntmps70
  go_wp2_with (first | ((with_reducible refine gate_callee (f := 100) rfl ?_); refine goesL_ (some 14) rfl rfl Tryz.func100 (by kernel_rfl) rfl #[.slice A0 l0.length c0, .int .i64 a1] rfl zm ?_; (with_reducible refine (hybrid_may.calls _ _ l0 a1 false _ ?side1 ?side2 A3.out).mono ?_); (case side1 => repeat (first | exact (Kd.V_reads' HO0.out).2.2 | (with_reducible refine Kd.C_alloc ?_ _) | (with_reducible refine Kd.C_drewN ?_ _) | (with_reducible refine Kd.C_drew ?_))); (case side2 => exact (Kd.V_reads' HO0.out).2.1); rintro e w42 ⟨rfl, hb⟩; refine ⟨_, rfl, ?_⟩; have n0_ := am (Kd.V_below (by (with_reducible repeat (first | apply Kd.V_alloc | apply Kd.V_drewN | apply Kd.V_drew)); exact HO0.out) hb); have n1_ := am (below_step (zl HB.out) hb); clear HO0 HB; have HO0 := n0_; have HB := n1_; clear n0_ n1_; (try clear hb); (try clear hb2); (try clear hk); (try clear hi)))
  go_ret2
  exact ⟨ze, zl HB.out⟩
end Go.Proofs.YtkcmkedboflklaaGreatDoor.Q
namespace Go.Proofs.YtkcmkedboflklaaGreatDoor.Q
open Go.RowKit Go.Proofs.YtkcmkedboflklaaGreatDoorW.PrintWords Go.Proofs.YtkcmkedboflklaaGreatDoorW.PrintLast Go.Proofs.YtkcmkedboflklaaGreatDoorW.PrintMore
/-- What a group's text is. -/
def WD (w : Nat) (xs : List Int) (out : List UInt8) : Prop := out.length = (xs.length + 7) / 8 * w ∧ ∀ m, bitAt out m = (onsL w xs).getD m false
/-- The text of numbers of a width: runs and groups. -/
inductive HP (w : Nat) : List Int → List UInt8 → Prop
  | nil : HP w [] []
  | run (n : Nat) (x : Int) (ys : List Int) (r : List UInt8) : 8 ≤ n → HP w ys r → HP w (List.replicate n x ++ ys) (varL (2 * n) ++ (wordL x ((w + 7) / 8) ++ r))
  | grp (xs ys : List Int) (out r : List UInt8) : 0 < xs.length → (ys = [] ∨ xs.length % 8 = 0) → WD w xs out → HP w ys r → HP w (xs ++ ys) (varL (2 * ((xs.length + 7) / 8) + 1) ++ (out ++ r))
def InW (w : Nat) (xs : List Int) : Prop := ∀ x ∈ xs, 0 ≤ x ∧ x < 2 ^ w
theorem WD_inj {w : Nat} {xs ys : List Int} {out : List UInt8} (hl : xs.length = ys.length) (hx : InW w xs) (hy : InW w ys) (h : WD w xs out) (h' : WD w ys out) : xs = ys := by
  refine onsL_inj hl hx hy ?_
  apply List.ext_getElem?
  intro m
  have e := (h.2 m).symm.trans (h'.2 m)
  by_cases hm : m < (onsL w xs).length
  · have hm' : m < (onsL w ys).length := by rw [onsL_length] at hm ⊢; rw [← hl]; exact hm
    rw [List.getD_eq_getElem?_getD, List.getD_eq_getElem?_getD, List.getElem?_eq_getElem hm, List.getElem?_eq_getElem hm'] at e
    rw [List.getElem?_eq_getElem hm, List.getElem?_eq_getElem hm']
    exact congrArg some e
  · rw [List.getElem?_eq_none (by omega), List.getElem?_eq_none (by rw [onsL_length] at hm ⊢; rw [← hl]; omega)]
theorem varL_ne (x : Nat) : varL x ≠ [] := by rw [varL]; split <;> simp
theorem HP_inj {w : Nat} (hw : w ≤ 16) {a : List Int} {b : List UInt8} (h : HP w a b) : ∀ {a' : List Int} {b' : List UInt8}, HP w a' b' → b = b' → a.length = a'.length → InW w a → InW w a' → a = a' := by
  induction h with
  | nil => intro a' b' _ _ hl _ _; exact (List.length_eq_zero_iff.1 hl.symm).symm
  | run n x ys r hn hr ih =>
    intro a' b' h' hb hl hi hi'
    cases h' with
    | nil => exact absurd (List.append_eq_nil_iff.1 hb).1 (varL_ne _)
    | run n' x' ys' r' hn' hr' =>
      obtain ⟨h1, h2⟩ := varL_inj _ _ _ _ hb
      obtain ⟨h3, h4⟩ := List.append_inj h2 (by rw [wordL_length, wordL_length])
      have hnn : n = n' := by omega
      subst hnn
      have h5 := wordL_inj _ _ _ h3
      have m1 := hi x (by simp; omega)
      have m2 := hi' x' (by simp; omega)
      have hp : (2 : Int) ^ w ≤ 256 ^ ((w + 7) / 8) := by
        have : ∀ v : Fin 17, (2 : Int) ^ v.val ≤ 256 ^ ((v.val + 7) / 8) := by decide +kernel
        exact this ⟨w, by omega⟩
      rw [Int.emod_eq_of_lt m1.1 (by omega), Int.emod_eq_of_lt m2.1 (by omega)] at h5
      rw [h5, ih hr' h4 (by simpa using hl) (fun z hz => hi z (by simp [hz])) (fun z hz => hi' z (by simp [hz]))]
    | grp xs' ys' out' r' h0 h1 h2 h3 =>
      obtain ⟨h4, _⟩ := varL_inj _ _ _ _ hb
      omega
  | grp xs ys out r h0 h1 h2 h3 ih =>
    intro a' b' h' hb hl hi hi'
    cases h' with
    | nil => exact absurd (List.append_eq_nil_iff.1 hb).1 (varL_ne _)
    | run n' x' ys' r' hn' hr' =>
      obtain ⟨h4, _⟩ := varL_inj _ _ _ _ hb
      omega
    | grp xs' ys' out' r' h0' h1' h2' h3' =>
      obtain ⟨h4, h5⟩ := varL_inj _ _ _ _ hb
      have hg : (xs.length + 7) / 8 = (xs'.length + 7) / 8 := by omega
      obtain ⟨h6, h7⟩ := List.append_inj h5 (by rw [h2.1, h2'.1, hg])
      have hll : xs.length = xs'.length := by
        simp only [List.length_append] at hl
        rcases h1 with h1 | h1 <;> rcases h1' with h1' | h1'
        · subst h1 h1'; simpa using hl
        · subst h1; simp only [List.length_nil] at hl; omega
        · subst h1'; simp only [List.length_nil] at hl; omega
        · omega
      subst h6
      have e1 := WD_inj hll (fun z hz => hi z (by simp [hz])) (fun z hz => hi' z (by simp [hz])) h2 h2'
      subst e1
      rw [ih h3' h7 (by simpa using hl) (fun z hz => hi z (by simp [hz])) (fun z hz => hi' z (by simp [hz]))]
theorem take_same (xs : List Int) : xs.take (sameL xs) = List.replicate (sameL xs) (xs.headD 0) := by
  have h1 : xs.take (sameL xs) = xs.takeWhile (· == xs.headD 0) := (List.prefix_iff_eq_take.1 (List.takeWhile_prefix _)).symm
  rw [h1]
  refine List.eq_replicate_iff.2 ⟨rfl, fun b hb => ?_⟩
  have := List.all_takeWhile (l := xs) (p := (· == xs.headD 0))
  simpa using List.all_eq_true.1 this b hb
theorem Bytes_some (w : Nat) (hw : w ≤ 16) : bits_Bytes.f (w : Int) = some (((w + 7) / 8 : Nat) : Int) := by
  unfold bits_Bytes.f
  rw [wrap64_id (x := (w : Int) + 7) (by omega) (by omega), Int.tdiv_eq_ediv_of_nonneg (by omega), wrap64_id (by omega) (by omega)]
  congr 1
theorem WS (l m : List UInt8) (h : l.length + m.length ≤ 140737488355328) : Builder_WriteString.f (bs l) (bs m) = some ((m.length : Int), none, bs (l ++ m)) := by
  unfold Builder_WriteString.f
  rw [if_pos (by rw [bs_size, bs_size]; exact h), bs_append, bs_size]
theorem HPut_l0 (w : Nat) (hw : w ≤ 16) : ∀ n (xs : List Int), xs.length ≤ n → n ≤ 4096 → InW w xs → ∀ acc : List UInt8, acc.length + 30 * xs.length ≤ 1000000000 →
    ∃ b, HP w xs b ∧ b.length ≤ 30 * xs.length ∧ T (fun k => hybrid_Put.l0 k xs (w : Int) (bs acc)) (bs (acc ++ b), 0) := by
  have hw2 : (2 : Int) ^ w ≤ 65536 := by
    have : ∀ v : Fin 17, (2 : Int) ^ v.val ≤ 65536 := by decide +kernel
    exact this ⟨w, by omega⟩
  intro n
  induction n with
  | zero =>
    intro xs hn h hi acc ha
    obtain rfl : xs = [] := List.length_eq_zero_iff.1 (by omega)
    refine ⟨[], HP.nil, by simp, T.succ ?_⟩
    simp only [hybrid_Put.l0]
    refine T.ite' (by simp) (T.cbind (a := (bs acc, bs acc)) rfl (T.const ?_))
    simp
  | succ n ih =>
    intro xs hn h hi acc ha
    by_cases hx : xs.length = 0
    · obtain rfl : xs = [] := List.length_eq_zero_iff.1 (by omega)
      refine ⟨[], HP.nil, by simp, T.succ ?_⟩
      simp only [hybrid_Put.l0]
      refine T.ite' (by simp) (T.cbind (a := (bs acc, bs acc)) rfl (T.const ?_))
      simp
    have hsl := sameL_le xs
    by_cases hs : sameL xs ≥ 8
    · have hv := varL_length (2 * sameL xs) 4 (by omega)
      have hword := wordL_length ((w + 7) / 8) (xs.headD 0)
      obtain ⟨b, h1, h2, h3⟩ := ih (xs.drop (sameL xs)) (by rw [List.length_drop]; omega) (by omega) (fun z hz => hi z (List.mem_of_mem_drop hz)) (acc ++ (varL (2 * sameL xs) ++ wordL (xs.headD 0) ((w + 7) / 8))) (by simp only [List.length_append, List.length_drop]; omega)
      rw [List.length_drop] at h2
      refine ⟨varL (2 * sameL xs) ++ (wordL (xs.headD 0) ((w + 7) / 8) ++ b), ?_, by simp only [List.length_append]; omega, T.succ ?_⟩
      · have := HP.run (w := w) (sameL xs) (xs.headD 0) (xs.drop (sameL xs)) b hs h1
        rwa [← take_same, List.take_append_drop] at this
      · simp only [hybrid_Put.l0]
        have h0 : rd xs (0 : Int) = xs.headD 0 := by cases xs <;> simp [rd]
        refine T.ite (by omega) (T.bind (same_T xs (by omega)) (T.ite (by omega) ?_))
        rw [wrap64_id (by omega) (by omega)]
        have hp := PutVar_T (2 * (sameL xs : Int)) (by omega) (by omega)
        rw [show (2 * (sameL xs : Int)).toNat = 2 * sameL xs by omega] at hp
        refine T.bind hp (T.ite (by omega) (T.cbind (Bytes_some w hw) ?_))
        rw [h0]
        refine T.bind (Word_T _ _ (by omega)) (T.ite (by rw [bs_size, bs_size]; omega) ?_)
        rw [bs_append]
        refine T.cbind (WS _ _ (by rw [List.length_append]; omega)) (T.ite (by omega) (T.ite (by omega) ?_))
        rw [Int.toNat_natCast]
        refine T.eq h3 ?_
        simp
    · obtain ⟨g, g1, g2, g3, g4⟩ := groups_T xs (by omega)
      have g5 := g4 (by omega) (by omega)
      have hv := varL_length (2 * ((g + 7) / 8) + 1) 4 (by omega)
      have htl : (xs.take g).length = g := by rw [List.length_take]; omega
      obtain ⟨out, o1, o2, o3⟩ := wide_T (xs.take g) w hw (by omega) (fun z hz => by have := hi z (List.mem_of_mem_take hz); omega)
      have hol : out.length ≤ (g + 7) / 8 * 16 := by rw [o2, htl]; exact Nat.mul_le_mul_left _ hw
      obtain ⟨b, h1, h2, h3⟩ := ih (xs.drop g) (by rw [List.length_drop]; omega) (by omega) (fun z hz => hi z (List.mem_of_mem_drop hz)) (acc ++ (varL (2 * ((g + 7) / 8) + 1) ++ out)) (by simp only [List.length_append, List.length_drop]; omega)
      rw [List.length_drop] at h2
      refine ⟨varL (2 * ((g + 7) / 8) + 1) ++ (out ++ b), ?_, by simp only [List.length_append]; omega, T.succ ?_⟩
      · have := HP.grp (w := w) (xs.take g) (xs.drop g) out b (by omega) (by rw [htl]; rcases g3 with e | e; · left; exact List.drop_of_length_le (by omega)
                                                                             · exact Or.inr e) ⟨o2, o3⟩ h1
        rwa [List.take_append_drop, htl] at this
      · simp only [hybrid_Put.l0]
        refine T.ite (by omega) (T.bind (same_T xs (by omega)) (T.ite' (by omega) (T.bind g1 ?_)))
        have e0 : wrap64 ((wrap64 (2 * (wrap64 (Int.tdiv (wrap64 ((wrap64 ((g : Int) + 8)) - 1)) 8)))) + 1) = ((2 * ((g + 7) / 8) + 1 : Nat) : Int) := by
          rw [wrap64_id (x := (g : Int) + 8) (by omega) (by omega), wrap64_id (x := (g : Int) + 8 - 1) (by omega) (by omega), Int.tdiv_eq_ediv_of_nonneg (by omega)]
          rw [wrap64_id (x := ((g : Int) + 8 - 1) / 8) (by omega) (by omega), wrap64_id (x := 2 * (((g : Int) + 8 - 1) / 8)) (by omega) (by omega), wrap64_id (by omega) (by omega)]
          omega
        rw [e0]
        have hp := PutVar_T ((2 * ((g + 7) / 8) + 1 : Nat) : Int) (by omega) (by omega)
        rw [Int.toNat_natCast] at hp
        refine T.bind hp (T.ite (by omega) (T.ite (by omega) ?_))
        rw [Int.toNat_natCast]
        refine T.bind o1 (T.ite (by rw [bs_size, bs_size]; omega) ?_)
        rw [bs_append]
        refine T.cbind (WS _ _ (by rw [List.length_append]; omega)) ?_
        refine T.eq h3 ?_
        simp
theorem HMay_some (w : Nat) (hw : w ≤ 16) (xs : List Int) (hl : xs.length ≤ 4096) (hi : InW w xs) : hybrid_may.f xs (w : Int) = some true := by
  unfold hybrid_may.f
  rw [if_pos (by omega), if_pos (by omega), if_pos (by omega)]
  have : xs.any (oddB (w : Int)) = false := by
    rw [List.any_eq_false]
    intro x hx
    have := hi x hx
    unfold oddB
    rw [if_neg (by omega), Int.toNat_natCast, Int.ediv_eq_zero_of_lt this.1 this.2]; decide
  rw [this]; rfl
theorem HPut_T (w : Nat) (hw : w ≤ 16) (xs : List Int) (hl : xs.length ≤ 4096) (hi : InW w xs) : ∃ b, HP w xs b ∧ b.length ≤ 30 * xs.length ∧ T (fun k => hybrid_Put.f k xs (w : Int)) (bs b, 0) := by
  obtain ⟨b, h1, h2, h3⟩ := HPut_l0 w hw xs.length xs (Nat.le_refl _) hl hi [] (by simp; omega)
  refine ⟨b, h1, h2, ?_⟩
  unfold hybrid_Put.f
  refine T.cbind (HMay_some w hw xs hl hi) (T.ite rfl ?_)
  simpa using h3
end Go.Proofs.YtkcmkedboflklaaGreatDoor.Q
