/- Steps towards: PageUnlike: unlike columns have unlike pages, for every type, every leaf and every two columns; no condition beside the row's own (the library's listed variables hold what the program's text lays). -/
import Derived.Test.YtkcmkedboflklaaGreatDoorProg
import Derived.Below
import Derived.Deep.Draws
import Derived.Deep.AppendLies
import Derived.Maps.AppendAt
import Derived.OwnWalk
import Derived.Laws.BytesArg
import Derived.Laws.MakeOwn
import Derived.Laws.OwnMore
import Derived.Deep.OwnRows
import Derived.Tactics
import Derived.Lib.ConvBytes
import Derived.Laws.Slices
import Derived.WalkKit
import Derived.KernelRfl
import Derived.RowKit3
import Derived.Deep.LoopGhost
import Derived.Deep.QuietTactic
import Derived.BigQuiet
import Derived.WideLaws
import Derived.Deep.DeepCutAuto
import Derived.Deep.CutBlock
import Derived.Deep.RegionHeld3
import Derived.Laws.Rows
import Derived.Lib.AppendStr
import Derived.ArgAppend
import Derived.Laws.IdiomCopy
import Derived.OrdersHeld
import Derived.Laws.BitsLemmas
import Derived.RowKit
import Derived.Lib.ItoaNum
import Derived.Laws.BitsAllLaws
import Derived.Test.YtkcmkedboflklaaGreatDoorA0
namespace Go.Proofs.YtkcmkedboflklaaGreatDoor.Q
open Go.RowKit Go.Proofs.YtkcmkedboflklaaGreatDoorW.PrintWords Go.Proofs.YtkcmkedboflklaaGreatDoorW.PrintLast Go.Proofs.YtkcmkedboflklaaGreatDoorW.PrintMore
attribute [local go_sem] max2_int min2_int max_two min_two max_three min_three max_four min_four
set_option linter.unusedVariables false
set_option linter.unusedSimpArgs false

def errW : Option Int → Value
  | none => .nilIface
  | some c => .iface 0 (.int .i64 c)
theorem errW_none : errW none = .nilIface := rfl
theorem errW_some (c : Int) : errW (some c) = .iface 0 (.int .i64 c) := rfl

theorem info3 : (Tryz.prog.info? 3).map (fun i => (i.zero, i.size, i.bytes)) = some (some (.int .i64 0), 1, 8) := by kernel_rfl
theorem info4 : (Tryz.prog.info? 4).map (fun i => (i.zero, i.size, i.bytes)) = some (some (.bool false), 1, 1) := by kernel_rfl
theorem info5 : (Tryz.prog.info? 5).map (fun i => (i.zero, i.size, i.bytes)) = some (some (.int .u8 0), 1, 1) := by kernel_rfl
theorem info9 : (Tryz.prog.info? 9).map (fun i => (i.zero, i.size, i.bytes)) = some (some (.string ⟨#[]⟩), 1, 16) := by kernel_rfl
theorem info24 : (Tryz.prog.info? 24).map (fun i => (i.zero, i.size, i.bytes)) = some (some (.agg #[(.int .i64 0), (.int .i64 0), (.bool false)]), 3, 24) := by kernel_rfl
-- the values' own types
/-! #### struct type 24 -/
structure S24 where
  f0 : Int
  f1 : Int
  f2 : Bool
def z24 : S24 := ⟨(0 : Int), (0 : Int), false⟩
def k24 : Kd S24 := Kd.iso (Kd.pair (Kd.int .i64) (Kd.pair (Kd.int .i64) Kd.bool)) (fun x : S24 => (x.f0, x.f1, x.f2))
theorem k24_heap : Kd.Heap k24 := Kd.heap_iso _ (Kd.heap_pair (Kd.heap_int .i64) (Kd.heap_pair (Kd.heap_int .i64) Kd.heap_bool))
theorem k24_open {w : World} {x : S24} {cs : List Value} (h : k24.K w x cs) : cs = [.int .i64 x.f0, .int .i64 x.f1, .bool x.f2] := by
  obtain ⟨_, _, rfl, rfl, ⟨_, _, rfl, rfl, rfl⟩⟩ := h
  exact rfl
theorem k24_openM {w : World} {base : Nat} {ok : Nat → Prop} {x : S24} {cs : List Value} (h : k24.M w base ok x cs) : cs = [.int .i64 x.f0, .int .i64 x.f1, .bool x.f2] := by
  obtain ⟨_, _, rfl, rfl, ⟨_, _, rfl, rfl, rfl⟩⟩ := h
  exact rfl
theorem k24_mk (w : World) (x : S24)  : k24.K w x [.int .i64 x.f0, .int .i64 x.f1, .bool x.f2] := ⟨[.int .i64 x.f0], [.int .i64 x.f1, .bool x.f2], rfl, rfl, ⟨[.int .i64 x.f1], [.bool x.f2], rfl, rfl, rfl⟩⟩
theorem k24_mkM (w : World) (base : Nat) (ok : Nat → Prop) (x : S24)  : k24.M w base ok x [.int .i64 x.f0, .int .i64 x.f1, .bool x.f2] := ⟨[.int .i64 x.f0], [.int .i64 x.f1, .bool x.f2], rfl, rfl, ⟨[.int .i64 x.f1], [.bool x.f2], rfl, rfl, rfl⟩⟩
theorem k24_mkF (W : World) (ok : Nat → Prop) (x : S24) : Kd.FK k24 W ok x [.int .i64 x.f0, .int .i64 x.f1, .bool x.f2] := fun W2 _ => k24_mk W2 x
def rd_T24 (xs : List S24) (i : Int) : S24 := xs.getD i.toNat z24
theorem at_T24 {w : World} {A : Option Addr} {n : Nat} {xs : List S24} (h : Kd.C k24 w A n xs) (i : Int) (h0 : 0 ≤ i) (h1 : i < n) : ∃ ad , A = some ad ∧ w.cell? (ad.add (i.toNat * 3)) = some (.int .i64 (rd_T24 xs i).f0) ∧ w.cell? ⟨(ad.add (i.toNat * 3)).block, (ad.add (i.toNat * 3)).off + 1, none⟩ = some (.int .i64 (rd_T24 xs i).f1) ∧ w.cell? ⟨(ad.add (i.toNat * 3)).block, (ad.add (i.toNat * 3)).off + 2, none⟩ = some (.bool (rd_T24 xs i).f2) := by
  obtain ⟨ad, c, e, _, hK, hc0⟩ := Kd.C_get h z24 i h0 h1
  have hc : ∀ j u, c[j]? = some u → w.cell? (ad.add (i.toNat * 3 + j)) = some u := hc0
  obtain rfl := k24_open hK
  exact ⟨ad, e, hc 0 _ rfl, by rw [← add_field _ _ 1 (by omega)]; exact hc 1 _ rfl, by rw [← add_field _ _ 2 (by omega)]; exact hc 2 _ rfl⟩

def rd_L6 (xs : List (List Int)) (i : Int) : (List Int) := xs.getD i.toNat ([] : List Int)
theorem at_L6 {w : World} {A : Option Addr} {n : Nat} {xs : List (List Int)} (h : Kd.C (Kd.slice 3 (Kd.int .i64)) w A n xs) (i : Int) (h0 : 0 ≤ i) (h1 : i < n) : ∃ ad A0 c0, A = some ad ∧ w.cell? (ad.add i.toNat) = some (.slice A0 (rd_L6 xs i).length c0) ∧ (rd_L6 xs i).length ≤ c0 ∧ (Kd.int .i64).C w A0 (rd_L6 xs i).length (rd_L6 xs i) := by
  obtain ⟨ad, c, e, _, hK, hc0⟩ := Kd.C_get h ([] : List Int) i h0 h1
  have hc : ∀ j u, c[j]? = some u → w.cell? (ad.add (i.toNat * 1 + j)) = some u := hc0
  obtain ⟨A0, c0, rfl, l0, g0⟩ := hK
  exact ⟨ad, A0, c0, e, by have hq := hc 0 _ rfl; rwa [Nat.mul_one, Nat.add_zero] at hq, l0, g0⟩

/-- What the package-level variables that the library's functions read hold. -/
def GL (w : World) : Prop := (∃ m, w.var? Tryz.prog "internal/bytealg.MaxLen" = some #[.int .i64 m]) ∧ (w.var? Tryz.prog "internal/strconv.uint64pow10" = some (Lib.pow10Tab.map fun z => Value.int .u64 z).toArray) ∧ (∃ tp p, w.var? Tryz.prog "strconv.ErrSyntax" = some #[.iface tp p]) ∧ (∃ tp p, w.var? Tryz.prog "strconv.ErrRange" = some #[.iface tp p])
theorem var_below_ {n : String} {cs : Array Value} {W w : World} (h : W.var? Tryz.prog n = some cs) (hb : Below W.heap.size W w) : w.var? Tryz.prog n = some cs := by
  unfold World.var? at h ⊢
  cases hg : Tryz.prog.globalNamed n with
  | none => simp [hg] at h
  | some g =>
    simp only [hg, Option.bind_some] at h ⊢
    have hlt : g < W.heap.size := by
      rcases Nat.lt_or_ge g W.heap.size with h' | h'
      · exact h'
      · rw [Array.getElem?_eq_none h'] at h; simp at h
    rw [hb.block g hlt]; exact h
theorem GL.below {W w : World} (h : GL W) (hb : Below W.heap.size W w) : GL w := by
  obtain ⟨⟨m, h1⟩, h2, ⟨t, p, h3⟩, ⟨t', p', h4⟩⟩ := h
  exact ⟨⟨m, var_below_ h1 hb⟩, var_below_ h2 hb, ⟨t, p, var_below_ h3 hb⟩, ⟨t', p', var_below_ h4 hb⟩⟩
/-- A call by way of a function value that lies in a temporary, in a region that draws. -/
theorem goesV_ {P : Program} {ops : Array Oper} {Q : Exit → Act → World → Prop} {oi : Oper} {N : Option Tmp} {a : Act} {w : World} {K : Act → World → Prop} {f : FuncId} {fn : Func} {t : Tmp} {os : Array Operand} {ts : Array TypeId} (caps : Array Value) (hf : P.funcs[f]? = some fn) (hname : (fn.name == "runtime.NumGoroutine") = false) (hb : fn.body.isSome = true) (args : Array Value)
    (hw : Region.wanted oi (yielded ops a.tmps) = true) (hN : oi.dst = N) (hop : oi.op = .call { callee := .value (.tmp t), args := os, argTypes := ts }) (hfv : a.eval (.tmp t) = .func (.func f) #[] caps) (hargs : os.map a.eval ++ caps = args)
    (h : Calls P f args w fun e w' => ∃ v, e = .returned v ∧ K (a.put N v) w') : if Region.wanted oi (yielded ops a.tmps) = true then Oper.wp P oi a w K Q else K (a.put N undef) w := by
  refine call_ f args hw hN ?_ h
  have he := enters_ hf hname hb args w
  unfold execOp
  simp [hop, resolve, Deferred.ofValue, invoke, hfv, hargs, he]

end Go.Proofs.YtkcmkedboflklaaGreatDoor.Q
namespace Go.Proofs.YtkcmkedboflklaaGreatDoor.Q
open Go.RowKit Go.Proofs.YtkcmkedboflklaaGreatDoorW.PrintWords Go.Proofs.YtkcmkedboflklaaGreatDoorW.PrintLast Go.Proofs.YtkcmkedboflklaaGreatDoorW.PrintMore
def T {α : Type} (f : Nat → Option α) (r : α) : Prop := ∃ K, ∀ k, K ≤ k → f k = some r
theorem T.pure {α : Type} (r : α) : T (fun _ => Option.some r) r := ⟨0, fun _ _ => rfl⟩
theorem T.const {α : Type} {a : Option α} {r : α} (h : a = some r) : T (fun _ => a) r := ⟨0, fun _ _ => h⟩
theorem T.bind {α β : Type} {f : Nat → Option α} {g : Nat → α → Option β} {a : α} {r : β} (h : T f a) (h' : T (fun k => g k a) r) : T (fun k => (f k).bind (g k)) r := by
  obtain ⟨K, hK⟩ := h; obtain ⟨L, hL⟩ := h'
  exact ⟨K + L, fun k hk => by show (f k).bind (g k) = _; rw [hK k (by omega)]; exact hL k (by omega)⟩
theorem T.cbind {α β : Type} {f : Option α} {g : Nat → α → Option β} {a : α} {r : β} (h : f = some a) (h' : T (fun k => g k a) r) : T (fun k => f.bind (g k)) r := T.bind (T.const h) h'
theorem T.ite {α : Type} {c : Prop} [Decidable c] {f g : Nat → Option α} {r : α} (hc : c) (h : T f r) : T (fun k => if c then f k else g k) r := by simpa only [if_pos hc] using h
theorem T.ite' {α : Type} {c : Prop} [Decidable c] {f g : Nat → Option α} {r : α} (hc : ¬ c) (h : T g r) : T (fun k => if c then f k else g k) r := by simpa only [if_neg hc] using h
theorem T.ites {α : Type} {c : Prop} [Decidable c] {f g : Nat → Option α} {r s : α} (h : c → T f r) (h' : ¬ c → T g s) : T (fun k => if c then f k else g k) (if c then r else s) := by
  by_cases hc : c
  · simp only [if_pos hc]; exact h hc
  · simp only [if_neg hc]; exact h' hc
theorem T.succ {α : Type} {f : Nat → Option α} {r : α} (h : T (fun k => f (k + 1)) r) : T f r := by
  obtain ⟨K, hK⟩ := h
  exact ⟨K + 1, fun k hk => by obtain ⟨j, rfl⟩ : ∃ j, k = j + 1 := ⟨k - 1, by omega⟩; exact hK j (by omega)⟩
theorem T.eq {α : Type} {f : Nat → Option α} {r s : α} (h : T f r) (e : r = s) : T f s := e ▸ h
theorem T.uniq {α : Type} {f : Nat → Option α} {r s : α} (h : T f r) (h' : T f s) : r = s := by
  obtain ⟨K, hK⟩ := h; obtain ⟨L, hL⟩ := h'
  exact Option.some.inj ((hK (K + L) (by omega)).symm.trans (hL (K + L) (by omega)))
theorem T.ends {α : Type} {f : Nat → Option α} {r : α} (h : T f r) : ∃ k, f k = some r := by obtain ⟨K, hK⟩ := h; exact ⟨K, hK K (Nat.le_refl _)⟩
theorem T.of_mono {α : Type} {f : Nat → Option α} {r : α} (hm : ∀ k, LeO (f k) (f (k + 1))) {K : Nat} (h : f K = some r) : T f r := by
  refine ⟨K, fun k hk => ?_⟩
  induction k with
  | zero => obtain rfl : K = 0 := by omega
            exact h
  | succ k ih => by_cases e : K = k + 1
                 · exact e ▸ h
                 · exact hm k r (ih (by omega))
theorem wrap64_id {x : Int} (h : -9223372036854775808 ≤ x) (h' : x < 9223372036854775808) : wrap64 x = x := by unfold wrap64; omega
abbrev ls (s : ByteArray) : List UInt8 := s.data.toList
theorem ls_length (s : ByteArray) : (ls s).length = s.size := by rw [Array.length_toList]; rfl
theorem ls_append (s t : ByteArray) : ls (s ++ t) = ls s ++ ls t := by simp [ls, ByteArray.data_append]
theorem ls_inj {s t : ByteArray} (h : ls s = ls t) : s = t := by
  cases s; cases t; simpa [ls] using h
theorem toList_loop (s : ByteArray) : ∀ n i acc, s.size - i = n → ByteArray.toList.loop s i acc = acc.reverse ++ (ls s).drop i := by
  intro n
  induction n with
  | zero => intro i acc h; rw [ByteArray.toList.loop, if_neg (by omega), List.drop_of_length_le (by rw [ls_length]; omega), List.append_nil]
  | succ n ih =>
    intro i acc h
    have hi : i < (ls s).length := by rw [ls_length]; omega
    rw [ByteArray.toList.loop, if_pos (by omega), ih (i + 1) _ (by omega), List.drop_eq_getElem_cons hi]
    have : s.get! i = (ls s)[i] := by
      show s.data[i]! = _
      have hd : i < s.data.size := by have : s.data.size = s.size := rfl
                                      omega
      rw [getElem!_pos s.data i hd]; exact (Array.getElem_toList (xs := s.data) hd).symm
    rw [this]; simp
theorem toList_ls (s : ByteArray) : s.toList = ls s := by rw [ByteArray.toList, toList_loop s _ 0 [] rfl]; simp
theorem bt_ls (s : ByteArray) (i : Nat) (h : i < (ls s).length) : bt s (i : Int) = (((ls s)[i]).toNat : Int) := by
  have h2 : i < s.size := by rw [← ls_length]; exact h
  unfold bt
  rw [dif_pos (by simpa using h2)]
  simp [ls, ByteArray.getElem_eq_getElem_data]
theorem rd_get (xs : List Int) (i : Nat) (h : i < xs.length) : rd xs (i : Int) = xs[i] := by simp [rd, h]
theorem rdOf_get {α : Type} (d : α) (xs : List α) (i : Nat) (h : i < xs.length) : rdOf d xs (i : Int) = xs[i] := by simp [rdOf, h]
end Go.Proofs.YtkcmkedboflklaaGreatDoor.Q
namespace Go.Proofs.YtkcmkedboflklaaGreatDoor.Q
set_option linter.unusedVariables false
open Go.RowKit Go.Proofs.YtkcmkedboflklaaGreatDoorW.PrintWords Go.Proofs.YtkcmkedboflklaaGreatDoorW.PrintLast Go.Proofs.YtkcmkedboflklaaGreatDoorW.PrintMore
theorem zb {P Q : Prop} (h : Q) (f : Q → P := by intro q; (with_reducible repeat (first | refine blk_drewN ?_ _ | refine blk_drew ?_ | refine blk_alloc ?_ _)); exact q) : P := f h
theorem zr {P Q : Prop} (h : Q) (f : Q → P := by intro q; (with_reducible repeat (first | apply Kd.R_alloc | apply Kd.R_drewN | apply Kd.R_drew)); exact q) : P := f h
theorem zl {P Q : Prop} (h : Q) (f : Q → P := by intro q; repeat (first | (with_reducible first | exact q | apply below_alloc | apply pw_below_drewN | apply below_drew1) | exact q)) : P := f h
theorem zl1 {P Q A : Prop} (h : Q) (a : A) (f : Q → A → P := by intro q a; repeat (first | (with_reducible first | exact q | apply below_alloc | apply pw_below_drewN | apply below_drew1 | refine below_set ?_ a) | exact q)) : P := f h a
theorem zl2 {P Q A B : Prop} (h : Q) (a : A) (b : B) (f : Q → A → B → P := by intro q a b; repeat (first | (with_reducible first | exact q | apply below_alloc | apply pw_below_drewN | apply below_drew1 | refine below_set ?_ a | refine below_set ?_ b) | exact q)) : P := f h a b
theorem zl3 {P Q A B C : Prop} (h : Q) (a : A) (b : B) (c : C) (f : Q → A → B → C → P := by intro q a b c; repeat (first | (with_reducible first | exact q | apply below_alloc | apply pw_below_drewN | apply below_drew1 | refine below_set ?_ a | refine below_set ?_ b | refine below_set ?_ c) | exact q)) : P := f h a b c
theorem zl4 {P Q A B C D : Prop} (h : Q) (a : A) (b : B) (c : C) (d : D) (f : Q → A → B → C → D → P := by intro q a b c d; repeat (first | (with_reducible first | exact q | apply below_alloc | apply pw_below_drewN | apply below_drew1 | refine below_set ?_ a | refine below_set ?_ b | refine below_set ?_ c | refine below_set ?_ d) | exact q)) : P := f h a b c d
theorem zl5 {P Q A B C D E : Prop} (h : Q) (a : A) (b : B) (c : C) (d : D) (e : E) (f : Q → A → B → C → D → E → P := by intro q a b c d e; repeat (first | (with_reducible first | exact q | apply below_alloc | apply pw_below_drewN | apply below_drew1 | refine below_set ?_ a | refine below_set ?_ b | refine below_set ?_ c | refine below_set ?_ d | refine below_set ?_ e) | exact q)) : P := f h a b c d e
theorem zk {P Q : Prop} (h : Q) (f : Q → P := by intro q; repeat (first | (with_reducible first | exact q | apply KeepBut.set_ | apply keep_drewN | apply keep_drew | apply keep_alloc) | exact q)) : P := f h
theorem zc {P Q : Prop} (h : Q) (f : Q → P := by intro q; repeat (first | exact q | (with_reducible refine Kd.C_alloc ?_ _) | (with_reducible refine Kd.C_drewN ?_ _) | (with_reducible refine Kd.C_drew ?_))) : P := f h
theorem zm {P : Prop} (f : P := by (try simp only [List.map_toArray, List.map_cons, List.map_nil]); first | done | rfl | (simp only [List.length_drop, List.length_take]; rfl)) : P := f
theorem zh {P : Prop} (f : P := by first | (go_simp; done) | (go_simp; rfl)) : P := f
theorem am {P : Prop} (h : P) : Aside0 P := ⟨h⟩
theorem zpa {P : Prop} (f : P := by intro w'; go_simp; with_reducible rfl) : P := f
theorem zpb {P : Prop} (f : P := by simp only [Act.put, List.setIfInBounds_toArray, List.set_cons_zero, List.set_cons_succ, i64_w, i32_w]; rfl) : P := f
theorem zbb {w w1 w2 : World} {g : Nat} {o : Obj} (h : w.heap[g]? = some o) (hb : Below w1.heap.size w1 w2) (f : w.heap[g]? = some o → w1.heap[g]? = some o := by intro q; (with_reducible repeat (first | refine blk_drewN ?_ _ | refine blk_drew ?_ | refine blk_alloc ?_ _)); exact q) : w2.heap[g]? = some o := blk_below (f h) hb
theorem za {P : Prop} (f : P := by first | (with_reducible assumption) | assumption) : P := f
theorem zs {P : Prop} (f : P := by first | rfl | (simp; done) | (simp [*]; done)) : P := f
theorem ze {P : Prop} (f : P := by first | rfl | (simp [errW_none, errW_some] <;> rfl) | (simp [*, errW_none, errW_some] <;> rfl)) : P := f
theorem zd {P : Prop} (f : P := by first | exact ⟨rfl, _, World.drewN_drewN _ _ _⟩ | exact ⟨rfl, _, Eq.trans (World.drewN_drewN _ _ _) (congrArg (World.drewN _) (Nat.add_assoc _ _ _))⟩) : P := f
theorem zq {w w' : World} {a : Addr} {v : Value} (h : Below w.heap.size w w') (hx : w.cell? a = some v) : w'.cell? a = some v := (h.cell (World.block_lt_of_cell? w _ hx)).trans hx
theorem zo {α β : Type} {a : Option α} {f : α → Option β} {b : β} (h : a.bind f = some b) : ∃ x, a = some x ∧ f x = some b := Option.bind_eq_some_iff.mp h
section
variable {α : Type} {d : Kd α} {e base g t j : Nat} {ok q : Nat → Prop} {W : World} {v : Value} {xs : List α} {cells : Array Value}
theorem zx (h : d.R e W base (fun k => ok k ∧ q k) v xs) : d.R e W base ok v xs := Kd.R_mono h (fun _ h_ => h_.1)
theorem zf (u : Value) (h : d.R e W base (fun k => ok k ∧ k ≠ g) v xs) : d.R e (W.setCell ⟨g, j, none⟩ u) base (fun k => ok k ∧ k ≠ g) v xs := Kd.R_far h (fun _ hk => hk.2) u
theorem zf1 {a : Nat} (u : Value) (h : d.R e W base ok v xs) (hb : W.heap[g]? = some (.cells cells t (0, 0))) (ht : ∀ q, q ∈ e :: d.E → q ≠ t := by decide) : d.R e (W.setCell ⟨g, a, none⟩ u) base (fun k => ok k ∧ k ≠ g) v xs := zf u (Kd.R_types h hb ht)
theorem zf2 {a b : Nat} (u1 u2 : Value) (h : d.R e W base ok v xs) (hb : W.heap[g]? = some (.cells cells t (0, 0))) (ht : ∀ q, q ∈ e :: d.E → q ≠ t := by decide) : d.R e ((W.setCell ⟨g, a, none⟩ u1).setCell ⟨g, b, none⟩ u2) base (fun k => ok k ∧ k ≠ g) v xs := zf u2 (zf1 u1 h hb ht)
theorem zf3 {a b c : Nat} (u1 u2 u3 : Value) (h : d.R e W base ok v xs) (hb : W.heap[g]? = some (.cells cells t (0, 0))) (ht : ∀ q, q ∈ e :: d.E → q ≠ t := by decide) : d.R e (((W.setCell ⟨g, a, none⟩ u1).setCell ⟨g, b, none⟩ u2).setCell ⟨g, c, none⟩ u3) base (fun k => ok k ∧ k ≠ g) v xs := zf u3 (zf2 u1 u2 h hb ht)
end
theorem zy1 {P Q B : Prop} (h : Q) (b : B) (f : Q → B → P := by intro q b; (with_reducible repeat (first | apply Kd.R_alloc | apply Kd.R_drewN | apply Kd.R_drew)); exact zx (zf1 _ q b)) : P := f h b
theorem zy2 {P Q B : Prop} (h : Q) (b : B) (f : Q → B → P := by intro q b; (with_reducible repeat (first | apply Kd.R_alloc | apply Kd.R_drewN | apply Kd.R_drew)); exact zx (zf2 _ _ q b)) : P := f h b
theorem zy3 {P Q B : Prop} (h : Q) (b : B) (f : Q → B → P := by intro q b; (with_reducible repeat (first | apply Kd.R_alloc | apply Kd.R_drewN | apply Kd.R_drew)); exact zx (zf3 _ _ _ q b)) : P := f h b
theorem zw1 {P Q B : Prop} (h : Q) (b : B) (f : Q → B → P := by intro q b; (with_reducible repeat (first | apply Kd.R_alloc | apply Kd.R_drewN | apply Kd.R_drew)); exact zf1 _ q b) : P := f h b
theorem zw2 {P Q B : Prop} (h : Q) (b : B) (f : Q → B → P := by intro q b; (with_reducible repeat (first | apply Kd.R_alloc | apply Kd.R_drewN | apply Kd.R_drew)); exact zf2 _ _ q b) : P := f h b
theorem zw3 {P Q B : Prop} (h : Q) (b : B) (f : Q → B → P := by intro q b; (with_reducible repeat (first | apply Kd.R_alloc | apply Kd.R_drewN | apply Kd.R_drew)); exact zf3 _ _ _ q b) : P := f h b
theorem zn {P Q B : Prop} (b : B) (h : Q) (f : Q → B → P := by intro q b; repeat (first | (with_reducible first | refine blk_drewN ?_ _ | refine blk_drew ?_ | refine blk_alloc ?_ _) | refine blk_far ?_ b _); exact q) : P := f h b
end Go.Proofs.YtkcmkedboflklaaGreatDoor.Q
namespace Go.Proofs.YtkcmkedboflklaaGreatDoor.Q
open Go.RowKit Go.Proofs.YtkcmkedboflklaaGreatDoorW.PrintWords Go.Proofs.YtkcmkedboflklaaGreatDoorW.PrintLast Go.Proofs.YtkcmkedboflklaaGreatDoorW.PrintMore
attribute [local go_sem] max2_int min2_int max_two min_two max_three min_three max_four min_four
set_option linter.unusedVariables false
set_option linter.unusedSimpArgs false
set_option maxHeartbeats 8000000
set_option maxRecDepth 100000

mutual
def crc_Sum.l0 : Nat → ByteArray → Int → Int → Int → Option (Int)
 | 0, _, _, _, _ => none
 | k + 1, x0, x3, x7, x8 => if x8 < x7 then (if 0 ≤ x8 then (if x8 < (x0.size : Int) then (crc_Sum.l1 k x0 (Go.bits .xor .u32 x3 ((bt x0 x8) % 4294967296)) x7 x8 0) else (none)) else (none)) else (some (wrap64 (Go.bits .xor .u32 x3 4294967295)))
def crc_Sum.l1 : Nat → ByteArray → Int → Int → Int → Int → Option (Int)
 | 0, _, _, _, _, _ => none
 | k + 1, x0, x3, x7, x8, x17 => if x17 < 8 then (crc_Sum.l1 k x0 (Go.bits .xor .u32 (x3 / 2) ((3988292384 * (Go.bits .and .u32 x3 1)) % 4294967296)) x7 x8 (wrap64 (x17 + 1))) else (crc_Sum.l0 k x0 x3 x7 (wrap64 (x8 + 1)))
end
def crc_Sum.f (k : Nat) (a0 : ByteArray) : Option (Int) := crc_Sum.l0 k a0 4294967295 (a0.size : Int) 0
theorem crc_Sum.calls (k : Nat) (a0 : ByteArray) (r : Int) (w : World) (h : crc_Sum.f k a0 = some r) :
  Calls Tryz.prog 40 #[.string a0] w fun e w' => e = .returned (.int .i64 r) ∧ Drawn0 w w' := by
 have H : (crc_Sum.l0 k a0 4294967295 (a0.size : Int) 0) = some r := h
 clear h
 have H' := am H
 clear H
 go_enter Tryz.func40, Tryz.ntmps40
 go_wp2
 (try simp only [Act.put, List.setIfInBounds_toArray, List.set_cons_zero, List.set_cons_succ])
 go_loopg [3, 8] k (fun kq v3 v8 w' => ∃ (x3_1 : Int) (x8_1 : Int), v3 = .int .u32 x3_1 ∧ v8 = .int .i64 x8_1 ∧ Aside0 (crc_Sum.l0 kq a0 x3_1 (a0.size : Int) x8_1 = some r) ∧ Aside0 (kq ≤ k) ∧ Drawn0 w w')
 case atStart => exact ⟨(4294967295), (0), zs, zs, H', ⟨Nat.le_refl _⟩, by repeat (first | exact Drawn0.refl _ | apply Drawn0.step)⟩
 case round =>
  clear H'
  obtain ⟨x3_1, x8_1, rfl, rfl, HA, HK1, ⟨m1, rfl⟩⟩ := hrel
  cases gk with
  | zero => exact absurd HA.out (by simp [crc_Sum.l0])
  | succ k1 =>
   have H := HA.out
   clear HA
   simp only [crc_Sum.l0] at H
   by_cases c2 : x8_1 < (a0.size : Int)
   ·
    rw [if_pos c2] at H
    have c2b0 := decide_eq_true c2
    clear c2
    by_cases c3 : 0 ≤ x8_1
    ·
     rw [if_pos c3] at H
     have c3b0 := decide_eq_true c3
     clear c3
     by_cases c4 : x8_1 < (a0.size : Int)
     ·
      rw [if_pos c4] at H
      have c4b0 := decide_eq_true c4
      clear c4
      have H' := am H
      clear H
      have p5 : 0 ≤ (x8_1 : Int) := of_decide_eq_true za
      have q5 : x8_1 < (a0.size : Int) := of_decide_eq_true za
      have hx5 := bt_at a0 x8_1
      replace p5 := eq_true p5
      replace q5 := eq_true q5
      go_wp2
      (try simp only [Act.put, List.setIfInBounds_toArray, List.set_cons_zero, List.set_cons_succ])
      go_loopg [3, 17] k1 (fun kq v3 v17 w' => ∃ (x3_2 : Int) (x17_2 : Int), v3 = .int .u32 x3_2 ∧ v17 = .int .i64 x17_2 ∧ Aside0 (crc_Sum.l1 kq a0 x3_2 (a0.size : Int) x8_1 x17_2 = some r) ∧ Aside0 (kq ≤ k1) ∧ Drawn0 w w')
      case atStart => exact ⟨(Go.bits .xor .u32 x3_1 ((bt a0 x8_1) % 4294967296)), (0), zs, zs, H', ⟨Nat.le_refl _⟩, by repeat (first | exact Drawn0.refl _ | apply Drawn0.step)⟩
      case round =>
       clear H'
       try clear c2
       try clear c2b0
       try clear p2
       try clear c3
       try clear c3b0
       try clear c4
       try clear c4b0
       try clear p5
       try clear q5
       try clear hx5
       try clear p5
       try clear q5
       obtain ⟨x3_2, x17_2, rfl, rfl, HA, HK2, ⟨m2, rfl⟩⟩ := hrel
       cases gk with
       | zero => exact absurd HA.out (by simp [crc_Sum.l1])
       | succ k2 =>
        have H := HA.out
        clear HA
        simp only [crc_Sum.l1] at H
        by_cases c6 : x17_2 < 8
        ·
         rw [if_pos c6] at H
         have c6b0 := decide_eq_true c6
         clear c6
         have H' := am H
         clear H
         go_wp2
         go_roundg k2
         case measure => have := HK1.out; have := HK2.out; omega
         case rel => exact ⟨(Go.bits .xor .u32 (x3_2 / 2) ((3988292384 * (Go.bits .and .u32 x3_2 1)) % 4294967296)), (wrap64 (x17_2 + 1)), zs, zs, H', ⟨by have := HK1.out; have := HK2.out; omega⟩, by repeat (first | exact Drawn0.refl _ | apply Drawn0.step)⟩
        ·
         rw [if_neg c6] at H
         have c6b0 := decide_eq_false c6
         clear c6
         have H' := am H
         clear H
         go_wp2
         go_roundg k2
         case measure => have := HK1.out; have := HK2.out; omega
         case rel => exact ⟨(x3_2), (wrap64 (x8_1 + 1)), zs, zs, H', ⟨by have := HK1.out; have := HK2.out; omega⟩, by repeat (first | exact Drawn0.refl _ | apply Drawn0.step)⟩
     ·
      rw [if_neg c4] at H
      exact absurd H (by simp)
    ·
     rw [if_neg c3] at H
     exact absurd H (by simp)
   ·
    rw [if_neg c2] at H
    have c2b0 := decide_eq_false c2
    clear c2
    obtain rfl := Option.some.inj H
    go_wp2
    go_ret
    exact ⟨by first | rfl | (simp; done) | (simp [*]; done), by repeat (first | exact Drawn0.refl _ | apply Drawn0.step)⟩

end Go.Proofs.YtkcmkedboflklaaGreatDoor.Q
namespace Go.Proofs.YtkcmkedboflklaaGreatDoor.Q
open Go.RowKit Go.Proofs.YtkcmkedboflklaaGreatDoorW.PrintWords Go.Proofs.YtkcmkedboflklaaGreatDoorW.PrintLast Go.Proofs.YtkcmkedboflklaaGreatDoorW.PrintMore
def strictN {α : Type} (x : Nat) (f : Nat → α) : α := Nat.rec (f 0) (fun n _ => f (n + 1)) x
theorem strictN_eq {α : Type} (x : Nat) (f : Nat → α) : strictN x f = f x := by cases x <;> rfl
def crcBit (x : Nat) : Nat := (x / 2) ^^^ (3988292384 * (x % 2))
def crcByte (x : Nat) : Nat := crcBit (crcBit (crcBit (crcBit (crcBit (crcBit (crcBit (crcBit x)))))))
def crcL : List UInt8 → Nat → Nat
  | [], x => x ^^^ 4294967295
  | b :: r, x => strictN (crcByte (x ^^^ b.toNat)) (fun y => crcL r y)
theorem crcBit_lt {x : Nat} (h : x < 4294967296) : crcBit x < 4294967296 := by
  have : crcBit x < 2 ^ 32 := Nat.xor_lt_two_pow (by omega) (by omega)
  omega
theorem crcByte_lt {x : Nat} (h : x < 4294967296) : crcByte x < 4294967296 := by
  unfold crcByte; repeat' apply crcBit_lt
  exact h
theorem crcL_lt (l : List UInt8) : ∀ {x : Nat}, x < 4294967296 → crcL l x < 4294967296 := by
  induction l with
  | nil => intro x h; have : crcL [] x < 2 ^ 32 := Nat.xor_lt_two_pow (by omega) (by omega)
           omega
  | cons b r ih =>
    intro x h
    rw [crcL, strictN_eq]
    refine ih (crcByte_lt ?_)
    have hb := b.toNat_lt
    have : x ^^^ b.toNat < 2 ^ 32 := Nat.xor_lt_two_pow (by omega) (by omega)
    omega
theorem crcBit_eq {x : Nat} (h : x < 4294967296) : Go.bits .xor .u32 ((x : Int) / 2) ((3988292384 * (Go.bits .and .u32 (x : Int) 1)) % 4294967296) = (crcBit x : Int) := by
  have h1 : Go.bits .and .u32 (x : Int) 1 = ((x % 2 : Nat) : Int) := by
    have := u32_and_nat x 1 h (by omega)
    rw [Nat.and_one_is_mod] at this
    exact this
  have h2 := u32_xor_nat (x / 2) (3988292384 * (x % 2)) (by omega) (by omega)
  rw [h1]; unfold crcBit; rw [← h2]
  congr 1
  omega
theorem crc_l1 (k : Nat) (s : ByteArray) (x : Nat) (h : x < 4294967296) (n i : Int) : crc_Sum.l1 (k + 9) s (x : Int) n i 0 = crc_Sum.l0 k s (crcByte x : Int) n (wrap64 (i + 1)) := by
  have e : ∀ k (x : Nat) (j : Int), x < 4294967296 → 0 ≤ j → j < 8 → crc_Sum.l1 (k + 1) s (x : Int) n i j = crc_Sum.l1 k s (crcBit x : Int) n i (j + 1) := by
    intro k x j h0 h1 h2
    rw [crc_Sum.l1, if_pos h2, crcBit_eq h0, wrap64_id (by omega) (by omega)]
  rw [e _ _ _ h (by omega) (by omega), e _ _ _ (by repeat' apply crcBit_lt; exact h) (by omega) (by omega), e _ _ _ (by (repeat' apply crcBit_lt); exact h) (by omega) (by omega), e _ _ _ (by (repeat' apply crcBit_lt); exact h) (by omega) (by omega), e _ _ _ (by (repeat' apply crcBit_lt); exact h) (by omega) (by omega), e _ _ _ (by (repeat' apply crcBit_lt); exact h) (by omega) (by omega), e _ _ _ (by (repeat' apply crcBit_lt); exact h) (by omega) (by omega), e _ _ _ (by (repeat' apply crcBit_lt); exact h) (by omega) (by omega), crc_Sum.l1, if_neg (by omega)]
  rfl
theorem crc_l0 (s : ByteArray) (hs : s.size < 9223372036854775807) : ∀ n i (x : Nat), x < 4294967296 → i + n = s.size → T (fun k => crc_Sum.l0 k s (x : Int) (s.size : Int) (i : Int)) ((crcL ((ls s).drop i) x : Nat) : Int) := by
  intro n
  induction n with
  | zero =>
    intro i x h hi
    rw [List.drop_of_length_le (by rw [ls_length]; omega)]
    refine T.succ ?_
    simp only [crc_Sum.l0]
    refine T.ite' (by omega) (T.const ?_)
    rw [show (4294967295 : Int) = ((4294967295 : Nat) : Int) from rfl, u32_xor_nat _ _ h (by omega), crcL]
    have : x ^^^ 4294967295 < 2 ^ 32 := Nat.xor_lt_two_pow (by omega) (by omega)
    rw [wrap64_id (by omega) (by omega)]
  | succ n ih =>
    intro i x h hi
    have hi' : i < (ls s).length := by rw [ls_length]; omega
    rw [List.drop_eq_getElem_cons hi']
    have hb := ((ls s)[i]).toNat_lt
    have hx : x ^^^ ((ls s)[i]).toNat < 2 ^ 32 := Nat.xor_lt_two_pow (by omega) (by omega)
    have hbt := bt_ls s i hi'
    have e : Go.bits .xor .u32 (x : Int) ((bt s (i : Int)) % 4294967296) = ((x ^^^ ((ls s)[i]).toNat : Nat) : Int) := by
      rw [hbt, Int.emod_eq_of_lt (by omega) (by omega)]
      exact u32_xor_nat _ _ h (by omega)
    obtain ⟨K, hK⟩ := ih (i + 1) (crcByte (x ^^^ ((ls s)[i]).toNat)) (crcByte_lt (by omega)) (by omega)
    refine ⟨K + 10, fun k hk => ?_⟩
    obtain ⟨j, rfl⟩ : ∃ j, k = j + 9 + 1 := ⟨k - 10, by omega⟩
    show crc_Sum.l0 (j + 9 + 1) s (x : Int) (s.size : Int) (i : Int) = _
    rw [crc_Sum.l0, if_pos (by omega), if_pos (by omega), if_pos (by omega), e, crc_l1 _ _ _ (by omega), wrap64_id (by omega) (by omega)]
    rw [crcL, strictN_eq]
    exact hK j (by omega)
/-- crc.Sum's answer. -/
def crcV (s : ByteArray) : Int := ((crcL (ls s) 4294967295 : Nat) : Int)
theorem crc_T (s : ByteArray) (hs : s.size < 9223372036854775807) : T (fun k => crc_Sum.f k s) (crcV s) := crc_l0 s hs s.size 0 4294967295 (by omega) (by omega)
theorem crcV_range (s : ByteArray) : 0 ≤ crcV s ∧ crcV s < 4294967296 := by
  have := crcL_lt (ls s) (x := 4294967295) (by omega)
  unfold crcV; omega
end Go.Proofs.YtkcmkedboflklaaGreatDoor.Q
namespace Go.Proofs.YtkcmkedboflklaaGreatDoor.Q
open Go.RowKit Go.Proofs.YtkcmkedboflklaaGreatDoorW.PrintWords Go.Proofs.YtkcmkedboflklaaGreatDoorW.PrintLast Go.Proofs.YtkcmkedboflklaaGreatDoorW.PrintMore
attribute [local go_sem] max2_int min2_int max_two min_two max_three min_three max_four min_four
set_option linter.unusedVariables false
set_option linter.unusedSimpArgs false
set_option maxHeartbeats 8000000
set_option maxRecDepth 100000

def num_Word.l0 : Nat → Int → List Int → Int → Int → Option (ByteArray)
 | 0, _, _, _, _ => none
 | k + 1, x0, x5, x10, x11 => if x11 < x10 then (if 0 ≤ (wrap64 (8 * x11)) then (if 0 ≤ x11 then (if x11 < (x5.length : Int) then (num_Word.l0 k x0 (x5.set (x11 : Int).toNat ((shr .i64 x0 (wrap64 (8 * x11))) % 256)) x10 (wrap64 (x11 + 1))) else (none)) else (none)) else (none)) else (some (strOfNums x5))
def num_Word.f (k : Nat) (a0 : Int) (a1 : Int) : Option (ByteArray) := if 0 ≤ a1 then (if (a1 : Int).toNat ≤ 281474976710656 then ((some (List.replicate (a1 : Int).toNat 0 : List Int)).bind fun y358 => (num_Word.l0 k a0 y358 (y358.length : Int) 0)) else (none)) else (none)
theorem num_Word.calls (k : Nat) (a0 : Int) (a1 : Int) (r : ByteArray) (w : World) (h : num_Word.f k a0 a1 = some r) :
  Calls Tryz.prog 38 #[.int .i64 a0, .int .i64 a1] w fun e w' => e = .returned (.string r) ∧ Below w.heap.size w w' := by
 have HB := am (Below.refl w.heap.size w)
 have H : (if 0 ≤ a1 then (if (a1 : Int).toNat ≤ 281474976710656 then ((some (List.replicate (a1 : Int).toNat 0 : List Int)).bind fun y358 => (num_Word.l0 k a0 y358 (y358.length : Int) 0)) else (none)) else (none)) = some r := h
 clear h
 by_cases c3 : 0 ≤ a1
 ·
  rw [if_pos c3] at H
  have c3b0 := eq_true c3
  have c3b1 := decide_eq_true c3
  clear c3
  by_cases c4 : (a1 : Int).toNat ≤ 281474976710656
  ·
   rw [if_pos c4] at H
   have c4b0 := eq_true c4
   have c4b1 := decide_eq_true c4
   clear c4
   obtain ⟨y358, hy358⟩ : ∃ y_ : List Int, y_ = (List.replicate (a1 : Int).toNat 0) := ⟨_, rfl⟩
   replace H : (num_Word.l0 k a0 y358 (y358.length : Int) 0) = some r := by first | (rw [hy358]; with_reducible exact H) | (have H2_ := (Option.bind_some _ _).symm.trans H; rw [hy358]; with_reducible exact H2_) | (have H2_ := (Option.bind_some _ _).symm.trans H; with_reducible exact H2_) | with_reducible exact H | (rw [hy358]; exact H) | exact H
   have Ny358 := am hy358
   clear hy358
   have H' := am H
   clear H
   go_enter Tryz.func38, Tryz.ntmps38
   go_wp2_with (first | ((with_reducible refine gate_dst (N := 8) rfl ?_); refine Kd.R_make (Kd.int .u8) _ 5 rfl (N := 8) rfl 71 _ _ rfl a1 rfl rfl Tryz.underlying71 (.int .u8 0) 1 info5 rfl (by decide) (by omega) 0 (ok := fun _ => True) (okp := fun _ => True) rfl (fun _ hk => hk) trivial (of_decide_eq_true za) (Nat.le_trans (Nat.mul_le_mul_right _ (of_decide_eq_true za : a1.toNat ≤ 281474976710656)) (by omega)) (Below.refl _ _) (Nat.le_refl _) ?_; intro v359 w5 ho6 hb hg_ hnew_; clear hg_ hnew_; (first | rw [← Ny358.out] at ho6 | (simp only [Int.reduceToNat] at ho6; rw [← Ny358.out] at ho6)); have n0_ := am (Kd.R_lower ho6 (below_size (zl HB.out))); have n1_ := am (below_step (zl HB.out) hb); clear HB; have HO360 := n0_; have HB := n1_; clear n0_ n1_; clear hb ho6; obtain ⟨Ao7, co7, eo7⟩ := Kd.R_slice HO360.out; subst eo7))
   (try simp only [Act.put, List.setIfInBounds_toArray, List.set_cons_zero, List.set_cons_succ])
   go_loopg [11] k (fun kq v11 w' => ∃ (x5_1 : List Int) (x11_1 : Int), v11 = .int .i64 x11_1 ∧ Aside0 (num_Word.l0 kq a0 x5_1 (y358.length : Int) x11_1 = some r) ∧ Aside0 (kq ≤ k) ∧ Aside0 (Kd.R (Kd.int .u8) 5 w' w.heap.size (fun _ => True) (.slice Ao7 y358.length co7) x5_1) ∧ Aside0 (Below w.heap.size w w'))
   case atStart => exact ⟨(y358), (0), zs, H', ⟨Nat.le_refl _⟩, ⟨by refine zr ?_; exact HO360.out⟩, ⟨zl HB.out⟩⟩
   case round =>
    clear H'
    try clear p2
    try clear c3
    try clear c3b0
    try clear c3b1
    try clear c4
    try clear c4b0
    try clear c4b1
    obtain ⟨x5_1, x11_1, rfl, HA, HK1, HO_5, HB⟩ := hrel
    have hl5_1 := (Kd.R_reads' HO_5.out).1
    rw [hl5_1] at HO_5
    (try simp only [hl5_1])
    cases gk with
    | zero => exact absurd HA.out (by simp [num_Word.l0])
    | succ k1 =>
     have H := HA.out
     clear HA
     simp only [num_Word.l0] at H
     by_cases c8 : x11_1 < (y358.length : Int)
     ·
      rw [if_pos c8] at H
      have c8b0 := decide_eq_true c8
      (try simp only [hl5_1] at c8b0)
      clear c8
      obtain ⟨ji9, hji9⟩ : ∃ j_ : Int, (wrap64 (8 * x11_1)) = j_ := ⟨_, rfl⟩
      replace H : (if 0 ≤ (ji9) then (if 0 ≤ x11_1 then (if x11_1 < (x5_1.length : Int) then (num_Word.l0 k1 a0 (x5_1.set (x11_1 : Int).toNat ((shr .i64 a0 (ji9)) % 256)) (y358.length : Int) (wrap64 (x11_1 + 1))) else (none)) else (none)) else (none)) = some r := by first | (rw [hji9] at H; exact H) | (simp only [hji9] at H ⊢; exact H)
      have hji9w : (IntKind.i64.wrap (8 * x11_1)) = ji9 := (i64_w _).trans hji9
      by_cases c10 : 0 ≤ (ji9)
      ·
       rw [if_pos c10] at H
       have c10b0 := eq_true c10
       have c10b1 := decide_eq_true c10
       clear c10
       obtain ⟨ji11, hji11⟩ : ∃ j_ : Int, (shr .i64 a0 (ji9)) = j_ := ⟨_, rfl⟩
       replace H : (if 0 ≤ x11_1 then (if x11_1 < (x5_1.length : Int) then (num_Word.l0 k1 a0 (x5_1.set (x11_1 : Int).toNat ((ji11) % 256)) (y358.length : Int) (wrap64 (x11_1 + 1))) else (none)) else (none)) = some r := by first | (rw [hji11] at H; exact H) | (simp only [hji11] at H ⊢; exact H)
       have hji11_ : (a0 / 2 ^ min (ji9).toNat 64) = ji11 := hji11
       have hji11z : (ji9) ≤ 64 → (a0 / 2 ^ (ji9).toNat) = ji11 := shr_small hji11
       by_cases c12 : 0 ≤ x11_1
       ·
        rw [if_pos c12] at H
        have c12b0 := decide_eq_true c12
        (try simp only [hl5_1] at c12b0)
        clear c12
        by_cases c13 : x11_1 < (x5_1.length : Int)
        ·
         rw [if_pos c13] at H
         have c13b0 := decide_eq_true c13
         (try simp only [hl5_1] at c13b0)
         clear c13
         obtain ⟨y361, hy361⟩ : ∃ y_ : List Int, y_ = (x5_1.set (x11_1 : Int).toNat ((ji11) % 256)) := ⟨_, rfl⟩
         replace H : (num_Word.l0 k1 a0 y361 (y358.length : Int) (wrap64 (x11_1 + 1))) = some r := by first | (rw [hy361]; with_reducible exact H) | (have H2_ := (Option.bind_some _ _).symm.trans H; rw [hy361]; with_reducible exact H2_) | (have H2_ := (Option.bind_some _ _).symm.trans H; with_reducible exact H2_) | with_reducible exact H | (rw [hy361]; exact H) | exact H
         have Ny361 := am hy361
         clear hy361
         have H' := am H
         clear H
         have p14 : 0 ≤ (x11_1 : Int) := of_decide_eq_true za
         have q14 : (x11_1 : Int) < ((x5_1.length : Int) : Int) := of_decide_eq_true za
         obtain ⟨go14, co14, eo14, gb14, gl14, cl14, HG14⟩ := Kd.R_form HO_5.out (by omega)
         (first | cases eo14 | (injection eo14 with ea_ en_ ec_; (first | subst ea_ | (injection ea_ with ea_; subst ea_)); subst ec_; clear en_))
         have GB14 := am gb14
         have GG14 := am HG14
         clear gb14 gl14 HG14
         obtain ⟨hx14_0, hf14_0⟩ := Kd.R_celln 0 HO_5.out (x11_1 : Int) p14 q14
         replace p14 := eq_true p14
         replace q14 := eq_true q14
         have HP15 := Kd.R_putg HO_5.out (x11_1 : Int) ((ji11) % 256)
         go_wp2_with (first | ((with_reducible refine gate_store (t := 5) (p := 21) rfl ?_); refine store_event (t := 5) (p := 21) (v := ?vo_w16) (w1 := (wr.setCell ⟨go14, (x11_1 : Int).toNat, none⟩ (.int .u8 ((ji11) % 256)))) ?hg ?ho ?hn ?hr ?_; (case ho => rfl); (case hg => rfl); (case hn => rfl); (case hr => exact zh); intro w16 hw; have hg : wr.grownBy w16 (some go14) := (by rw [hw]; exact HP15.2); have hp_ : Kd.R (Kd.int .u8) 5 w16 w.heap.size (fun _ => True) (.slice (some ⟨go14, 0, none⟩) x5_1.length co7) y361 := (by rw [hw, Ny361.out]; exact HP15.1); clear HP15; have n0_ := am (hp_); have n1_ := am ((by rw [hw]; exact below_set (HB.out) GB14.out : Below w.heap.size w w16)); clear HO_5 HB; have HO_5 := n0_; have HB := n1_; clear n0_ n1_; clear hg hw hp_))
         (try simp only [← hl5_1])
         go_roundg k1
         case measure => have := HK1.out; omega
         case rel => exact ⟨(y361), (wrap64 (x11_1 + 1)), zs, H', ⟨by have := HK1.out; omega⟩, ⟨by (try simp only [hl5_1]); refine zr ?_; exact HO_5.out⟩, ⟨zl HB.out⟩⟩
        ·
         rw [if_neg c13] at H
         exact absurd H (by simp)
       ·
        rw [if_neg c12] at H
        exact absurd H (by simp)
      ·
       rw [if_neg c10] at H
       exact absurd H (by simp)
     ·
      rw [if_neg c8] at H
      have c8b0 := decide_eq_false c8
      (try simp only [hl5_1] at c8b0)
      clear c8
      obtain rfl := Option.some.inj H
      have hcv17 := own_string (P := Tryz.prog) Tryz.underlying71 Tryz.underlying5 Tryz.underlying9 (Kd.own_of_R HO_5.out)
      go_wp2
      go_ret
      exact ⟨ze, zl HB.out⟩
  ·
   rw [if_neg c4] at H
   exact absurd H (by simp)
 ·
  rw [if_neg c3] at H
  exact absurd H (by simp)

def pad_May.f (a0 : Int) : Option (Bool) := if a0 ≥ 0 then (some (decide (a0 ≤ 2147483647))) else (some false)
theorem pad_May.calls (a0 : Int) (r : Bool) (w : World) (h : pad_May.f a0 = some r) :
  Calls Tryz.prog 110 #[.int .i64 a0] w fun e w' => e = .returned (.bool r) ∧ Drawn0 w w' := by
 have H : (if a0 ≥ 0 then (some (decide (a0 ≤ 2147483647))) else (some false)) = some r := h
 clear h
 by_cases c2 : a0 ≥ 0
 ·
  rw [if_pos c2] at H
  have c2b0 : decide (0 ≤ a0) = true := decide_eq_true c2
  clear c2
  obtain rfl := Option.some.inj H
  go_enter Tryz.func110, Tryz.ntmps110
  go_wp2
  go_ret
  exact ⟨by first | rfl | (simp; done) | (simp [*]; done), by repeat (first | exact Drawn0.refl _ | apply Drawn0.step)⟩
 ·
  rw [if_neg c2] at H
  have c2b0 : decide (0 ≤ a0) = false := decide_eq_false c2
  clear c2
  obtain rfl := Option.some.inj H
  go_enter Tryz.func110, Tryz.ntmps110
  go_wp2
  go_ret
  exact ⟨by first | rfl | (simp; done) | (simp [*]; done), by repeat (first | exact Drawn0.refl _ | apply Drawn0.step)⟩
def num_PutVar.l0 : Nat → Int → List Int → Option (ByteArray × Int)
 | 0, _, _ => none
 | k + 1, x0, x4 => if x0 ≥ 128 then (if x4.length < 140737488355328 then (num_PutVar.l0 k (x0 / 128) (x4 ++ [Go.bits .or .u8 ((x0) % 256) 128])) else (none)) else (if x4.length < 140737488355328 then (some (strOfNums (x4 ++ [(x0) % 256]), 0)) else (none))
def num_PutVar.f (k : Nat) (a0 : Int) : Option (ByteArray × Int) := (pad_May.f a0).bind fun t351 => (if t351 = true then (num_PutVar.l0 k a0 ([] : List Int)) else (some ((⟨#[]⟩ : ByteArray), 300)))
theorem num_PutVar.calls (k : Nat) (a0 : Int) (r1 : ByteArray) (r2 : Int) (w : World) (h : num_PutVar.f k a0 = some (r1, r2)) :
  Calls Tryz.prog 102 #[.int .i64 a0] w fun e w' => e = .returned (.tuple #[.string r1, .int .i64 r2]) ∧ Below w.heap.size w w' := by
 have HB := am (Below.refl w.heap.size w)
 have H : ((pad_May.f a0).bind fun t351 => (if t351 = true then (num_PutVar.l0 k a0 ([] : List Int)) else (some ((⟨#[]⟩ : ByteArray), 300)))) = some (r1, r2) := h
 clear h
 replace H := zo H
 obtain ⟨t351, A20, H⟩ := H
 (try dsimp only at H)
 have A2 := am A20
 clear A20
 by_cases c3 : t351 = true
 ·
  subst c3
  rw [if_pos rfl] at H
  have H' := am H
  clear H
  go_enter Tryz.func102, Tryz.ntmps102
  go_wp2_with (first | ((with_reducible refine gate_callee (f := 110) rfl ?_); refine goesL_ (some 6) rfl rfl Tryz.func110 (by kernel_rfl) rfl #[.int .i64 a0] rfl zm ?_; (with_reducible refine (pad_May.calls a0 true _ A2.out).mono ?_); rintro e w' ⟨rfl, ⟨nd, rfl⟩⟩; refine ⟨_, rfl, ?_⟩))
  (try simp only [Act.put, List.setIfInBounds_toArray, List.set_cons_zero, List.set_cons_succ])
  go_loopg [0, 4] k (fun kq v0 v4 w' => ∃ (x0_1 : Int) (x4_1 : List Int), v0 = .int .i64 x0_1 ∧ Aside0 (num_PutVar.l0 kq x0_1 x4_1 = some (r1, r2)) ∧ Aside0 (kq ≤ k) ∧ Aside0 (Kd.R (Kd.int .u8) 5 w' w.heap.size (fun _ => True) v4 x4_1) ∧ Aside0 (Below w.heap.size w w'))
  case atStart => exact ⟨(a0), (([] : List Int)), zs, H', ⟨Nat.le_refl _⟩, ⟨by first | exact Kd.R_nil _ _ _ _ _ | exact Kd.N_nil _ _ _ _ _ | exact Kd.V_nil _ _ _ _ _ | exact Kd.Q_nil _ _ _ _ _ | exact Kd.S_nil _ _ _ _ _⟩, ⟨zl HB.out⟩⟩
  case round =>
   clear H'
   try clear c1
   try clear p2
   try clear c3
   obtain ⟨x0_1, x4_1, rfl, HA, HK1, HO_4, HB⟩ := hrel
   cases gk with
   | zero => exact absurd HA.out (by simp [num_PutVar.l0])
   | succ k1 =>
    have H := HA.out
    clear HA
    simp only [num_PutVar.l0] at H
    by_cases c4 : x0_1 ≥ 128
    ·
     rw [if_pos c4] at H
     have c4b0 : decide (128 ≤ x0_1) = true := decide_eq_true c4
     clear c4
     by_cases c5 : x4_1.length < 140737488355328
     ·
      rw [if_pos c5] at H
      have LMc5 := am c5
      clear c5
      obtain ⟨y352, hy352⟩ : ∃ y_ : List Int, y_ = (x4_1 ++ [Go.bits .or .u8 ((x0_1) % 256) 128]) := ⟨_, rfl⟩
      replace H : (num_PutVar.l0 k1 (x0_1 / 128) y352) = some (r1, r2) := by first | (rw [hy352]; with_reducible exact H) | (have H2_ := (Option.bind_some _ _).symm.trans H; rw [hy352]; with_reducible exact H2_) | (have H2_ := (Option.bind_some _ _).symm.trans H; with_reducible exact H2_) | with_reducible exact H | (rw [hy352]; exact H) | exact H
      have Ny352 := am hy352
      clear hy352
      have H' := am H
      clear H
      go_wp2_with (first | ((with_reducible refine gate_builtin (b := .append) (xs := #[.tmp 12, .tmp 16]) rfl ?_); at_builtin; refine Kd.R_append (Kd.int .u8) (w0 := w) w.heap.size rfl (.tmp 12) (.tmp 16) 71 5 (.int .u8 0) 1 rfl Tryz.underlying71 info5 rfl (by decide) (by omega) u4 x4_1 (Go.bits .or .u8 ((x0_1) % 256) 128) [.int .u8 (Go.bits .or .u8 ((x0_1) % 256) 128)] (fun _ => True) (fun _ => False) rfl rfl ?aP (fun _ hk => hk.elim) ?aF ?aO ?aB ?aS ?aL ?_; (case aP => exact rfl); (case aB => exact (zl HB.out)); (case aF => exact (fun _ _ => trivial)); (case aO => exact (zr HO_4.out)); (case aS => exact (below_size (zl HB.out))); (case aL => have := LMc5.out; omega); intro v353 w6 ho hb hg hat; rw [← Ny352.out] at ho; have n0_ := am (hb); have n1_ := am (ho); clear HB HO_4; have HB := n0_; have HO354 := n1_; clear n0_ n1_; clear ho hb hg hat))
      go_roundg k1
      case measure => have := HK1.out; omega
      case rel => exact ⟨(x0_1 / 128), (y352), zs, H', ⟨by have := HK1.out; omega⟩, ⟨by refine zr ?_; exact HO354.out⟩, ⟨zl HB.out⟩⟩
     ·
      rw [if_neg c5] at H
      exact absurd H (by simp)
    ·
     rw [if_neg c4] at H
     have c4b0 : decide (128 ≤ x0_1) = false := decide_eq_false c4
     clear c4
     by_cases c7 : x4_1.length < 140737488355328
     ·
      rw [if_pos c7] at H
      have LMc7 := am c7
      clear c7
      obtain ⟨y355, hy355⟩ : ∃ y_ : List Int, y_ = (x4_1 ++ [(x0_1) % 256]) := ⟨_, rfl⟩
      replace H : (some (strOfNums y355, 0)) = some (r1, r2) := by first | (rw [hy355]; with_reducible exact H) | (have H2_ := (Option.bind_some _ _).symm.trans H; rw [hy355]; with_reducible exact H2_) | (have H2_ := (Option.bind_some _ _).symm.trans H; with_reducible exact H2_) | with_reducible exact H | (rw [hy355]; exact H) | exact H
      have Ny355 := am hy355
      clear hy355
      simp only [Option.some.injEq, Prod.mk.injEq] at H
      obtain ⟨rfl, rfl⟩ := H
      go_wp2_with (first | ((with_reducible refine gate_builtin (b := .append) (xs := #[.tmp 18, .tmp 21]) rfl ?_); at_builtin; refine Kd.R_append (Kd.int .u8) (w0 := w) w.heap.size rfl (.tmp 18) (.tmp 21) 71 5 (.int .u8 0) 1 rfl Tryz.underlying71 info5 rfl (by decide) (by omega) u4 x4_1 ((x0_1) % 256) [.int .u8 ((x0_1) % 256)] (fun _ => True) (fun _ => False) rfl rfl ?aP (fun _ hk => hk.elim) ?aF ?aO ?aB ?aS ?aL ?_; (case aP => exact rfl); (case aB => exact (zl HB.out)); (case aF => exact (fun _ _ => trivial)); (case aO => exact (zr HO_4.out)); (case aS => exact (below_size (zl HB.out))); (case aL => have := LMc7.out; omega); intro v356 w8 ho hb hg hat; rw [← Ny355.out] at ho; have n0_ := am (hb); have n1_ := am (ho); clear HB HO_4; have HB := n0_; have HO357 := n1_; clear n0_ n1_; clear ho hb hg hat; have hcv9 := own_string (P := Tryz.prog) Tryz.underlying71 Tryz.underlying5 Tryz.underlying9 (Kd.own_of_R HO357.out)))
      go_ret2
      exact ⟨ze, zl HB.out⟩
     ·
      rw [if_neg c7] at H
      exact absurd H (by simp)
 ·
  replace c3 := Bool.eq_false_iff.mpr c3
  subst c3
  rw [if_neg (show ¬ (false = true) by decide)] at H
  simp only [Option.some.injEq, Prod.mk.injEq] at H
  obtain ⟨rfl, rfl⟩ := H
  go_enter Tryz.func102, Tryz.ntmps102
  go_wp2_with (first | ((with_reducible refine gate_callee (f := 110) rfl ?_); refine goesL_ (some 6) rfl rfl Tryz.func110 (by kernel_rfl) rfl #[.int .i64 a0] rfl zm ?_; (with_reducible refine (pad_May.calls a0 false _ A2.out).mono ?_); rintro e w' ⟨rfl, ⟨nd, rfl⟩⟩; refine ⟨_, rfl, ?_⟩))
  go_ret2
  exact ⟨ze, zl HB.out⟩
end Go.Proofs.YtkcmkedboflklaaGreatDoor.Q
namespace Go.Proofs.YtkcmkedboflklaaGreatDoor.Q
open Go.RowKit Go.Proofs.YtkcmkedboflklaaGreatDoorW.PrintWords Go.Proofs.YtkcmkedboflklaaGreatDoorW.PrintLast Go.Proofs.YtkcmkedboflklaaGreatDoorW.PrintMore
abbrev bs (l : List UInt8) : ByteArray := ⟨l.toArray⟩
theorem ls_bs (l : List UInt8) : ls (bs l) = l := rfl
theorem bs_ls (s : ByteArray) : bs (ls s) = s := ls_inj rfl
theorem bs_size (l : List UInt8) : (bs l).size = l.length := by rw [← ls_length]
theorem bs_append (l m : List UInt8) : bs l ++ bs m = bs (l ++ m) := ls_inj (by rw [ls_append])
theorem bs_inj {l m : List UInt8} (h : bs l = bs m) : l = m := congrArg ls h
def wordL (x : Int) : Nat → List UInt8
  | 0 => []
  | n + 1 => UInt8.ofNat (x % 256).toNat :: wordL (x / 256) n
theorem wordL_length (n : Nat) : ∀ x, (wordL x n).length = n := by
  induction n with
  | zero => intro x; rfl
  | succ n ih => intro x; simp [wordL, ih]
theorem wordL_inj (n : Nat) : ∀ x y, wordL x n = wordL y n → x % 256 ^ n = y % 256 ^ n := by
  induction n with
  | zero => intro x y _; simp [Int.emod_one]
  | succ n ih =>
    intro x y h
    simp only [wordL, List.cons.injEq] at h
    have h1 := congrArg UInt8.toNat h.1
    have h2 := ih _ _ h.2
    simp only [UInt8.toNat_ofNat'] at h1
    have h3 : x % 256 = y % 256 := by omega
    have e : ∀ z : Int, z % 256 ^ (n + 1) = z % 256 + 256 * (z / 256 % 256 ^ n) := by
      intro z
      have hp : (0 : Int) < 256 ^ n := Int.pow_pos (by omega)
      rw [Int.pow_succ]
      generalize (256 : Int) ^ n = p at hp ⊢
      have h5 := Int.mul_ediv_add_emod (z / 256) p
      have h6 := Int.emod_nonneg (z / 256) (Int.ne_of_gt hp)
      have h7 := Int.emod_lt_of_pos (z / 256) hp
      have h8 : z = (z % 256 + 256 * (z / 256 % p)) + (p * 256) * (z / 256 / p) := by
        have h9 : p * 256 * (z / 256 / p) = 256 * (p * (z / 256 / p)) := by rw [Int.mul_comm p 256, Int.mul_assoc]
        rw [h9]; omega
      have h10 : z % (p * 256) = (z % 256 + 256 * (z / 256 % p)) % (p * 256) := by
        conv => lhs; rw [h8]
        rw [Int.add_mul_emod_self_left]
      rw [h10, Int.emod_eq_of_lt (by omega) (by omega)]
    rw [e x, e y, h2, h3]
theorem shr_word (x : Int) (i : Nat) (h : i < 8) : shr .i64 x (wrap64 (8 * (i : Int))) = x / 2 ^ (8 * i) := by
  rw [wrap64_id (by omega) (by omega)]
  unfold shr
  have : ((8 * (i : Int)).toNat) = 8 * i := by omega
  rw [this, show IntKind.i64.bits = 64 from rfl, Nat.min_eq_left (by omega)]
theorem take_set_succ {α : Type} (xs : List α) (i : Nat) (v : α) (h : i < xs.length) : (xs.set i v).take (i + 1) = xs.take i ++ [v] := by
  rw [List.take_add_one, List.take_set_of_le (Nat.le_refl _)]
  simp [h]
theorem Word_l0 (x : Int) (n : Nat) (hn : n ≤ 8) : ∀ m i (xs : List Int), i + m = n → xs.length = n → T (fun k => num_Word.l0 k x xs (n : Int) (i : Int)) (bs ((xs.take i).map (fun v => UInt8.ofNat v.toNat) ++ wordL (x / 2 ^ (8 * i)) m)) := by
  intro m
  induction m with
  | zero =>
    intro i xs hi hx
    refine T.succ ?_
    simp only [num_Word.l0]
    refine T.ite' (by omega) (T.const ?_)
    rw [List.take_of_length_le (by omega)]
    simp [strOfNums, wordL]
  | succ m ih =>
    intro i xs hi hx
    refine T.succ ?_
    simp only [num_Word.l0]
    refine T.ite (by omega) (T.ite (by rw [wrap64_id (by omega) (by omega)]; omega) (T.ite (by omega) (T.ite (by omega) ?_)))
    rw [shr_word x i (by omega), wrap64_id (x := (i : Int) + 1) (by omega) (by omega)]
    refine T.eq (ih (i + 1) (xs.set i _) (by omega) (by simp [hx])) ?_
    rw [take_set_succ _ _ _ (by omega)]
    congr 1
    have e : x / 2 ^ (8 * (i + 1)) = x / 2 ^ (8 * i) / 256 := by
      have hp : (0 : Int) < 2 ^ (8 * i) := Int.pow_pos (by omega)
      rw [Int.ediv_ediv, if_neg (fun h => by omega), Int.sub_zero, show (8 * (i + 1)) = 8 * i + 8 by omega, Int.pow_add]; rfl
    rw [e]
    simp [wordL]
theorem Word_T (x : Int) (n : Nat) (hn : n ≤ 8) : T (fun k => num_Word.f k x (n : Int)) (bs (wordL x n)) := by
  unfold num_Word.f
  refine T.ite (by omega) (T.ite (by omega) (T.cbind rfl ?_))
  rw [show ((n : Int)).toNat = n by omega]
  have := Word_l0 x n hn n 0 (List.replicate n 0) (by omega) (by simp)
  simpa using this
def varL (x : Nat) : List UInt8 := if _h : x ≥ 128 then UInt8.ofNat (x % 128 + 128) :: varL (x / 128) else [UInt8.ofNat x]
  termination_by x
theorem varL_inj (x : Nat) : ∀ y r r', varL x ++ r = varL y ++ r' → x = y ∧ r = r' := by
  induction x using Nat.strongRecOn with
  | ind x ih =>
    intro y r r' h
    rw [varL.eq_def x, varL.eq_def y] at h
    have m : ∀ z : Nat, z < 256 → (UInt8.ofNat z).toNat = z := by intro z hz; simp [UInt8.toNat_ofNat']; omega
    by_cases hx : x ≥ 128 <;> by_cases hy : y ≥ 128 <;> simp only [hx, hy, dif_pos, dif_neg, not_false_eq_true, List.cons_append, List.nil_append, List.cons.injEq] at h
    · obtain ⟨h1, h2⟩ := h
      have h1 := congrArg UInt8.toNat h1
      rw [m _ (by omega), m _ (by omega)] at h1
      obtain ⟨h3, h4⟩ := ih (x / 128) (by omega) _ _ _ h2
      exact ⟨by omega, h4⟩
    · have h1 := congrArg UInt8.toNat h.1
      rw [m _ (by omega), m _ (by omega)] at h1
      omega
    · have h1 := congrArg UInt8.toNat h.1
      rw [m _ (by omega), m _ (by omega)] at h1
      omega
    · have h1 := congrArg UInt8.toNat h.1
      rw [m _ (by omega), m _ (by omega)] at h1
      exact ⟨h1, h.2⟩
theorem varL_length (x : Nat) : ∀ n, x < 128 ^ (n + 1) → 1 ≤ (varL x).length ∧ (varL x).length ≤ n + 1 := by
  induction x using Nat.strongRecOn with
  | ind x ih =>
    intro n h
    rw [varL]
    by_cases hx : x ≥ 128
    · simp only [hx, dif_pos, List.length_cons]
      cases n with
      | zero => simp at h; omega
      | succ n =>
        have := ih (x / 128) (by omega) n (by rw [Nat.pow_succ] at h; omega)
        omega
    · simp only [hx, dif_neg, not_false_eq_true, List.length_cons, List.length_nil]; omega
theorem or128 (x : Nat) : Go.bits .or .u8 ((x : Int) % 256) 128 = ((x % 128 + 128 : Nat) : Int) := by
  have h : ∀ a : Fin 256, a.val ||| 128 = a.val % 128 + 128 := by decide +kernel
  have h1 := u8_or_nat (x % 256) 128 (by omega) (by omega)
  have h2 := h ⟨x % 256, by omega⟩
  simp only at h2
  rw [h2] at h1
  have e : ((x % 256 : Nat) : Int) = (x : Int) % 256 := by omega
  rw [e] at h1
  rw [show (128 : Int) = ((128 : Nat) : Int) from rfl, h1]
  omega
theorem PutVar_l0 (x : Nat) : ∀ xs : List Int, x ≤ 2147483647 → xs.length < 900 → T (fun k => num_PutVar.l0 k (x : Int) xs) (bs (xs.map (fun v => UInt8.ofNat v.toNat) ++ varL x), 0) := by
  have main : ∀ n x : Nat, x < 128 ^ (n + 1) → ∀ xs : List Int, xs.length + n < 1000 → T (fun k => num_PutVar.l0 k (x : Int) xs) (bs (xs.map (fun v => UInt8.ofNat v.toNat) ++ varL x), 0) := by
    intro n
    induction n with
    | zero =>
      intro x hx xs hl
      refine T.succ ?_
      simp only [num_PutVar.l0]
      refine T.ite' (by omega) (T.ite (by omega) (T.const ?_))
      rw [varL, dif_neg (by omega)]
      simp only [strOfNums, List.map_append, List.map_cons, List.map_nil]
      rw [show ((x : Int) % 256).toNat = x by omega]
    | succ n ih =>
      intro x hx xs hl
      refine T.succ ?_
      simp only [num_PutVar.l0]
      by_cases h : x ≥ 128
      · refine T.ite (by omega) (T.ite (by omega) ?_)
        rw [or128, show ((x : Int) / 128) = ((x / 128 : Nat) : Int) by omega]
        refine T.eq (ih (x / 128) (by rw [Nat.pow_succ] at hx; omega) _ (by simp; omega)) ?_
        rw [varL.eq_def x, dif_pos h]
        rw [List.map_append, List.map_cons, List.map_nil, List.append_assoc, Int.toNat_natCast]
        rfl
      · refine T.ite' (by omega) (T.ite (by omega) (T.const ?_))
        rw [varL, dif_neg h]
        simp only [strOfNums, List.map_append, List.map_cons, List.map_nil]
        rw [show ((x : Int) % 256).toNat = x by omega]
  intro xs hx hl
  exact main 4 x (by omega) xs (by omega)
theorem PutVar_T (x : Int) (h0 : 0 ≤ x) (h1 : x ≤ 2147483647) : T (fun k => num_PutVar.f k x) (bs (varL x.toNat), 0) := by
  obtain ⟨n, rfl⟩ := Int.eq_ofNat_of_zero_le h0
  unfold num_PutVar.f
  refine T.cbind (a := true) (by unfold pad_May.f; rw [if_pos (by omega)]; simpa using h1) (T.ite rfl ?_)
  simpa using PutVar_l0 n [] (by omega) (by simp)
end Go.Proofs.YtkcmkedboflklaaGreatDoor.Q
namespace Go.Proofs.YtkcmkedboflklaaGreatDoor.Q
open Go.RowKit Go.Proofs.YtkcmkedboflklaaGreatDoorW.PrintWords Go.Proofs.YtkcmkedboflklaaGreatDoorW.PrintLast Go.Proofs.YtkcmkedboflklaaGreatDoorW.PrintMore
attribute [local go_sem] max2_int min2_int max_two min_two max_three min_three max_four min_four
set_option linter.unusedVariables false
set_option linter.unusedSimpArgs false
set_option maxHeartbeats 8000000
set_option maxRecDepth 100000

def bits_Bytes.f (a0 : Int) : Option (Int) := some (wrap64 (Int.tdiv (wrap64 (a0 + 7)) 8))
theorem bits_Bytes.calls (a0 : Int) (r : Int) (w : World) (h : bits_Bytes.f a0 = some r) :
  Calls Tryz.prog 103 #[.int .i64 a0] w fun e w' => e = .returned (.int .i64 r) ∧ Drawn0 w w' := by
 have H : (some (wrap64 (Int.tdiv (wrap64 (a0 + 7)) 8))) = some r := h
 clear h
 obtain rfl := Option.some.inj H
 go_enter Tryz.func103, Tryz.ntmps103
 go_wp2
 go_ret
 exact ⟨by first | rfl | (simp; done) | (simp [*]; done), by repeat (first | exact Drawn0.refl _ | apply Drawn0.step)⟩

end Go.Proofs.YtkcmkedboflklaaGreatDoor.Q
