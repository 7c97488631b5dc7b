/- Steps towards: PageUnlike: unlike columns have unlike pages, for every type, every leaf and every two columns; no condition beside the row's own (the library's listed variables hold what the program's text lays). -/
import Derived.Lib.AtoiAllCases
import Derived.Lib.IndexBytes
import Derived.Test.YtkcmkedboflklaaGreatDoorA2
import Derived.Test.YtkcmkedboflklaaGreatDoorA9
namespace Go.Proofs.YtkcmkedboflklaaGreatDoor.Q
open Go.RowKit Go.Proofs.YtkcmkedboflklaaGreatDoorW.PrintWords Go.Proofs.YtkcmkedboflklaaGreatDoorW.PrintLast Go.Proofs.YtkcmkedboflklaaGreatDoorW.PrintMore
theorem ls_extract (s : ByteArray) (a b : Nat) : ls (s.extract a b) = ((ls s).drop a).take (b - a) := by
  simp [ls, ByteArray.data_extract, Array.toList_extract, List.extract]
theorem ls_nil {s : ByteArray} : s.toList = ([] : List UInt8) ↔ s.size = 0 := by
  rw [toList_ls, ← List.length_eq_zero_iff, ls_length]
theorem cut_one (l : List UInt8) (c : UInt8) : (∃ p q, Lib.cut l [c] = (p, q, true) ∧ l = p ++ c :: q) ∨ Lib.cut l [c] = (l, [], false) := by
  have main : ∀ l : List UInt8, Lib.indexByte l c = -1 ∨ ∃ i : Nat, Lib.indexByte l c = i ∧ i < l.length ∧ l = l.take i ++ c :: l.drop (i + 1) := by
    intro l
    induction l with
    | nil => left; rfl
    | cons b r ih =>
      unfold Lib.indexByte
      by_cases h : b == c
      · right; refine ⟨0, by rw [if_pos h]; rfl, by simp, ?_⟩
        have := beq_iff_eq.1 h
        simp [this]
      · rw [if_neg h]
        rcases ih with e | ⟨i, e1, e2, e3⟩
        · left; rw [e]; rfl
        · right
          refine ⟨i + 1, ?_, by simp; omega, ?_⟩
          · rw [e1, if_neg (by simp <;> omega)]; omega
          · simp only [List.take_succ_cons, List.drop_succ_cons, List.cons_append]
            rw [← e3]
  unfold Lib.cut
  rw [Lib.index_one]
  rcases main l with e | ⟨i, e1, e2, e3⟩
  · right; rw [e]; rfl
  · left
    refine ⟨l.take i, l.drop (i + 1), ?_, e3⟩
    rw [e1, if_pos (by omega)]; rfl
theorem atoiV_bounds (d : ByteArray) (h : atoiB d = true) : -9223372036854775808 ≤ atoiV d ∧ atoiV d ≤ 9223372036854775807 := by
  unfold atoiB at h; unfold atoiV
  split at h
  · rename_i v e; rw [e]; exact Lib.atoiAll_bounds e
  · cases h
theorem number_some (s : ByteArray) (b : Bool) (c : UInt8) (hs : s.size ≤ 65536) :
    ∃ r, value_taker_number.f s b (bs [c]) = some r ∧ r.2.2.1.size ≤ s.size ∧ (r.2.2.2 = false → b = false ∧ atoiB r.2.1 = true ∧ strconv_Itoa.f (atoiV r.2.1) = some r.2.1 ∧ r.1 = atoiV r.2.1 ∧ ls s = ls r.2.1 ++ c :: ls r.2.2.1) := by
  unfold value_taker_number.f strings_Cut.f
  rw [if_pos (by omega), Option.bind_some]
  have hcut := cut_one (ls s) c
  have hk : (⟨#[c]⟩ : ByteArray).data.toList = [c] := rfl
  rcases hcut with ⟨p, q, e1, e2⟩ | e1
  · have hl : p.length + 1 + q.length = s.size := by rw [← ls_length s, e2]; simp; omega
    show ∃ r, (if (bs (Lib.cut (ls s) [c]).1).size ≤ 281474976710656 then _ else _) = some r ∧ _
    simp only [show s.data.toList = ls s from rfl, e1]
    rw [if_pos (by show p.length ≤ _; omega)]
    by_cases h1 : atoiB (bs p) = true
    · have hb := atoiV_bounds (bs p) h1
      by_cases h2 : strconv_Itoa.f (atoiV (bs p)) = some (bs p)
      · refine ⟨(atoiV (bs p), bs p, bs q, b), by rw [if_pos ⟨trivial, h1, h2⟩], by show q.length ≤ _; omega, fun hb' => ⟨hb', h1, h2, rfl, e2⟩⟩
      · have h3 : strconv_Itoa.f (atoiV (bs p)) ≠ none := by unfold strconv_Itoa.f; rw [if_pos hb]; simp
        refine ⟨(atoiV (bs p), bs p, bs q, true), by rw [if_neg (fun h => h2 h.2.2), if_neg (fun h => h3 h.2.2)], by show q.length ≤ _; omega, fun h => (by cases h)⟩
    · refine ⟨(atoiV (bs p), bs p, bs q, true), by rw [if_neg (fun h => h1 h.2.1), if_neg (fun h => h1 h.2.1)], by show q.length ≤ _; omega, fun h => (by cases h)⟩
  · show ∃ r, (if (bs (Lib.cut (ls s) [c]).1).size ≤ 281474976710656 then _ else _) = some r ∧ _
    simp only [show s.data.toList = ls s from rfl, e1]
    rw [if_pos (by rw [bs_size, ls_length]; omega)]
    refine ⟨(atoiV (bs (ls s)), bs (ls s), bs [], true), by simp, by show 0 ≤ _; omega, fun h => (by cases h)⟩
theorem vbytes_some (s : ByteArray) (b : Bool) (n : Int) :
    ∃ r, value_taker_bytes.f s b n = some r ∧ r.2.1.size ≤ s.size ∧ (r.2.2 = false → b = false ∧ (r.1.size : Int) = n ∧ ls s = ls r.1 ++ ls r.2.1) := by
  unfold value_taker_bytes.f
  by_cases h1 : b = true
  · exact ⟨_, by rw [if_pos h1], Nat.le_refl _, fun h => (by cases h)⟩
  by_cases h2 : n < 0
  · exact ⟨_, by rw [if_neg h1, if_pos h2], Nat.le_refl _, fun h => (by cases h)⟩
  by_cases h3 : n > (s.size : Int)
  · exact ⟨_, by rw [if_neg h1, if_neg h2, if_pos h3], Nat.le_refl _, fun h => (by cases h)⟩
  refine ⟨_, by rw [if_neg h1, if_neg h2, if_neg h3, if_pos (by omega), if_pos (by omega)], ?_, fun h => ⟨h, ?_, ?_⟩⟩
  · show (s.extract n.toNat s.size).size ≤ _
    rw [← ls_length, ls_extract, List.length_take, List.length_drop, ls_length]; omega
  · show ((s.extract 0 n.toNat).size : Int) = n
    rw [← ls_length, ls_extract, List.drop_zero, List.length_take, ls_length]; omega
  · show ls s = ls (s.extract 0 n.toNat) ++ ls (s.extract n.toNat s.size)
    rw [ls_extract, ls_extract, List.drop_zero, Nat.sub_zero, List.take_of_length_le (l := (ls s).drop n.toNat) (by rw [List.length_drop, ls_length]; omega), List.take_append_drop]
theorem byte_some (s : ByteArray) (b : Bool) : (s.size = 0 ∧ value_taker_byte.f s b = some (0, s, true)) ∨ ∃ (c : UInt8) (r : ByteArray), value_taker_byte.f s b = some ((c.toNat : Int), r, b) ∧ ls s = c :: ls r ∧ bt s 0 = (c.toNat : Int) := by
  unfold value_taker_byte.f
  by_cases h : s.size = 0
  · left; exact ⟨h, by rw [if_pos (ls_nil.2 h)]⟩
  · right
    rw [if_neg (fun e => h (ls_nil.1 e)), if_pos (by omega), if_pos (by omega)]
    have hl : 0 < (ls s).length := by rw [ls_length]; omega
    have hb := bt_ls s 0 hl
    have e0 : bt s 0 = (((ls s)[0]).toNat : Int) := hb
    refine ⟨(ls s)[0], s.extract 1 s.size, by rw [e0], ?_, e0⟩
    rw [ls_extract, List.take_of_length_le (by rw [List.length_drop, ls_length]; omega)]
    exact (List.getElem_cons_drop hl).symm
/-- What a value taken says. -/
def VP (s : ByteArray) (b : Bool) (r : Int × List ByteArray × ByteArray × Bool) : Prop :=
  r.2.1.length ≤ 200001 ∧ r.2.2.1.size ≤ s.size ∧ (0 < s.size → r.2.2.2 = true ∨ r.2.2.1.size < s.size) ∧ (r.2.2.2 = false → b = false ∧
    (r.1 = 0 → ∃ d, r.2.1 = [d] ∧ atoiB d = true ∧ strconv_Itoa.f (atoiV d) = some d ∧ ls s = 105 :: (ls d ++ 59 :: ls r.2.2.1)) ∧
    (r.1 = 1 → ∃ c : UInt8, r.2.1 = [bs [c]] ∧ (c = 116 ∨ c = 102) ∧ ls s = c :: ls r.2.2.1) ∧
    (r.1 = 2 → ∃ x, r.2.1 = [x] ∧ ls s = 115 :: (Lib.itoa (x.size : Int) ++ 58 :: (ls x ++ ls r.2.2.1))) ∧
    (r.1 = -1 → ls s = 110 :: ls r.2.2.1))
theorem vrow_T (w : Int) (e : Int) (hv : ∀ s b, s.size ≤ 65536 → ∃ r, T (fun k => value_taker_value.f k s b w) r ∧ VP s b r) :
    ∀ n (s : ByteArray) (b : Bool) (acc : List ByteArray), s.size ≤ n → n ≤ 65536 → acc.length + n ≤ 200000 → ∃ r, T (fun k => value_taker_row.l0 k e w acc s b) r ∧ r.2.1.size ≤ s.size ∧ (r.2.2 = false → b = false) ∧ r.1.length ≤ 200001 := by
  have hbyte : ∀ (s : ByteArray) (b : Bool), ∃ r, value_taker_byte.f s b = some r ∧ r.2.1.size ≤ s.size ∧ (r.2.2 = false → b = false) := by
    intro s b
    rcases byte_some s b with ⟨h, h2⟩ | ⟨c, r, h1, h2, h3⟩
    · exact ⟨_, h2, Nat.le_refl _, fun h => (by cases h)⟩
    · refine ⟨_, h1, ?_, fun h => h⟩
      have := congrArg List.length h2
      rw [List.length_cons, ls_length, ls_length] at this
      show r.size ≤ s.size
      omega
  have hbad2 : ∀ (s : ByteArray) (acc : List ByteArray), ∃ r, T (fun k => value_taker_row.l0 k e w acc s true) r ∧ r.2.1.size ≤ s.size ∧ (r.2.2 = false → False) ∧ r.1 = acc := by
    intro s acc
    obtain ⟨r, h1, h2, h3⟩ := hbyte s true
    refine ⟨(acc, r.2.1, r.2.2), T.succ ?_, h2, (fun h => by have := h3 h; cases this), rfl⟩
    simp only [value_taker_row.l0]
    exact T.ite trivial (T.cbind h1 (T.pure _))
  intro n
  induction n with
  | zero =>
    intro s b acc hs hn ha
    cases b with
    | true => obtain ⟨r, h1, h2, h3, h4⟩ := hbad2 s acc; exact ⟨r, h1, h2, fun h => (h3 h).elim, by rw [h4]; omega⟩
    | false =>
      obtain ⟨r, h1, h2, h3⟩ := hbyte s false
      refine ⟨(acc, r.2.1, r.2.2), T.succ ?_, h2, h3, by show acc.length ≤ _; omega⟩
      simp only [value_taker_row.l0]
      exact T.ite' (by simp) (T.ite (ls_nil.2 (by omega)) (T.cbind h1 (T.pure _)))
  | succ n ih =>
    intro s b acc hs hn ha
    cases b with
    | true => obtain ⟨r, h1, h2, h3, h4⟩ := hbad2 s acc; exact ⟨r, h1, h2, fun h => (h3 h).elim, by rw [h4]; omega⟩
    | false =>
      by_cases hz : s.size = 0
      · obtain ⟨r, h1, h2, h3⟩ := hbyte s false
        refine ⟨(acc, r.2.1, r.2.2), T.succ ?_, h2, h3, by show acc.length ≤ _; omega⟩
        simp only [value_taker_row.l0]
        exact T.ite' (by simp) (T.ite (ls_nil.2 hz) (T.cbind h1 (T.pure _)))
      by_cases he : bt s 0 = e
      · obtain ⟨r, h1, h2, h3⟩ := hbyte s false
        refine ⟨(acc, r.2.1, r.2.2), T.succ ?_, h2, h3, by show acc.length ≤ _; omega⟩
        simp only [value_taker_row.l0]
        exact T.ite' (by simp) (T.ite' (fun h => hz (ls_nil.1 h)) (T.ite (by omega) (T.ite he (T.cbind h1 (T.pure _)))))
      obtain ⟨v, v1, v0, v2, v3, v4⟩ := hv s false (by omega)
      have hgo : ∃ r, T (fun k => value_taker_row.l0 k e w (acc ++ [s.extract 0 ((s.size : Int) - (v.2.2.1.size : Int)).toNat]) v.2.2.1 v.2.2.2) r ∧ r.2.1.size ≤ s.size ∧ (r.2.2 = false → false = false) ∧ r.1.length ≤ 200001 := by
        rcases v3 (by omega) with h | h
        · rw [h]
          obtain ⟨r, h1, h2, h3, h4⟩ := hbad2 v.2.2.1 (acc ++ [s.extract 0 ((s.size : Int) - (v.2.2.1.size : Int)).toNat])
          exact ⟨r, h1, by omega, fun _ => rfl, by rw [h4]; simp; omega⟩
        · obtain ⟨r, h1, h2, h3, h4⟩ := ih v.2.2.1 v.2.2.2 (acc ++ [s.extract 0 ((s.size : Int) - (v.2.2.1.size : Int)).toNat]) (by omega) (by omega) (by simp; omega)
          exact ⟨r, h1, by omega, fun _ => rfl, h4⟩
      obtain ⟨r, h1, h2, h3⟩ := hgo
      refine ⟨r, T.succ ?_, h2, h3⟩
      simp only [value_taker_row.l0]
      refine T.ite' (by simp) (T.ite' (fun h => hz (ls_nil.1 h)) (T.ite (by omega) (T.ite' he (T.bind v1 ?_))))
      rw [wrap64_id (by omega) (by omega)]
      exact T.ite (by omega) (T.ite (by omega) (T.ite (by omega) h1))
theorem vj0_T (w : Int) (h0 : 0 ≤ w) (h4 : w ≤ 4) (hv : ∀ s b, s.size ≤ 65536 → ∃ r, T (fun k => value_taker_value.f k s b (w + 1)) r ∧ VP s b r)
    (s : ByteArray) (b : Bool) (c : UInt8) (q : ByteArray) (hs : s.size ≤ 65536) (hc : ls s = c :: ls q) (p : Bool) (hp : p = true → c = 116 ∨ c = 102) :
    ∃ r, T (fun k => value_taker_value.j0 k w (c.toNat : Int) (c.toNat : Int) p q b) r ∧ VP s b r := by
  have hq : q.size + 1 = s.size := by
    have := congrArg List.length hc
    rw [List.length_cons, ls_length, ls_length] at this; omega
  have hn : ∀ n : Nat, n < 256 → ((c.toNat : Int) = (n : Int) → c = UInt8.ofNat n) := by
    intro n hn h
    apply UInt8.toNat_inj.1
    rw [UInt8.toNat_ofNat']
    omega
  cases p with
  | true =>
    refine ⟨(1, [bs [c]], q, b), T.succ ?_, (by simp), by show q.size ≤ _; omega, fun _ => Or.inr (by show q.size < _; omega), fun hb => ⟨hb, fun h => (by cases h), fun _ => ⟨c, rfl, hp rfl, hc⟩, fun h => (by cases h), fun h => (by cases h)⟩⟩
    simp only [value_taker_value.j0]
    refine T.ite trivial (T.const ?_)
    simp [strOfNums, bs]
  | false =>
    by_cases a1 : (c.toNat : Int) = 115
    · obtain ⟨r, r1, r2, r3⟩ := number_some q b 58 (by omega)
      obtain ⟨y, y1, y2, y3⟩ := vbytes_some r.2.2.1 r.2.2.2 r.1
      refine ⟨(2, [y.1], y.2.1, y.2.2), T.succ ?_, (by simp), by show y.2.1.size ≤ _; omega, fun _ => Or.inr (by show y.2.1.size < _; omega), fun hb => ?_⟩
      · simp only [value_taker_value.j0]
        exact T.ite' (by simp) (T.ite a1 (T.cbind r1 (T.cbind y1 (T.pure _))))
      · obtain ⟨z1, z2, z3⟩ := y3 hb
        obtain ⟨u1, u2, u3, u4, u5⟩ := r3 z1
        refine ⟨u1, fun h => (by cases h), fun h => (by cases h), fun _ => ⟨y.1, rfl, ?_⟩, fun h => (by cases h)⟩
        have e1 : c = 115 := hn 115 (by omega) a1
        show ls s = 115 :: (Lib.itoa (y.1.size : Int) ++ 58 :: (ls y.1 ++ ls y.2.1))
        rw [hc, e1, u5, z3]
        have hbd := atoiV_bounds _ u2
        unfold strconv_Itoa.f at u3
        rw [if_pos hbd] at u3
        have u6 := congrArg ls (Option.some.inj u3)
        rw [z2, u4, ← u6]
    by_cases a2 : (c.toNat : Int) = 91
    · obtain ⟨r, r1, r2, r3, r4⟩ := vrow_T (w + 1) 93 hv q.size q b [] (Nat.le_refl _) (by omega) (by simp; omega)
      refine ⟨(3, r.1, r.2.1, r.2.2), T.succ ?_, r4, by show r.2.1.size ≤ _; omega, fun _ => Or.inr (by show r.2.1.size < _; omega), fun hb => ⟨r3 hb, fun h => (by cases h), fun h => (by cases h), fun h => (by cases h), fun h => (by cases h)⟩⟩
      simp only [value_taker_value.j0]
      rw [wrap64_id (by omega) (by omega)]
      refine T.ite' (by simp) (T.ite' a1 (T.ite a2 (T.bind (T.succ ?_) (T.pure _))))
      simp only [value_taker_row.f]
      exact r1
    by_cases a3 : (c.toNat : Int) = 123
    · obtain ⟨r, r1, r2, r3, r4⟩ := vrow_T (w + 1) 125 hv q.size q b [] (Nat.le_refl _) (by omega) (by simp; omega)
      refine ⟨(4, r.1, r.2.1, r.2.2), T.succ ?_, r4, by show r.2.1.size ≤ _; omega, fun _ => Or.inr (by show r.2.1.size < _; omega), fun hb => ⟨r3 hb, fun h => (by cases h), fun h => (by cases h), fun h => (by cases h), fun h => (by cases h)⟩⟩
      simp only [value_taker_value.j0]
      rw [wrap64_id (by omega) (by omega)]
      refine T.ite' (by simp) (T.ite' a1 (T.ite' a2 (T.ite a3 (T.bind (T.succ ?_) (T.pure _)))))
      simp only [value_taker_row.f]
      exact r1
    · refine ⟨(0, [], q, true), T.succ ?_, (by simp), by show q.size ≤ _; omega, fun _ => Or.inl rfl, fun hb => (by cases hb)⟩
      simp only [value_taker_value.j0]
      exact T.ite' (by simp) (T.ite' a1 (T.ite' a2 (T.ite' a3 (T.cbind (a := (0, [], q, true)) rfl (T.pure _)))))
theorem value_T : ∀ n : Nat, ∀ w : Int, 0 ≤ w → 5 - w ≤ n → ∀ s b, s.size ≤ 65536 → ∃ r, T (fun k => value_taker_value.f k s b w) r ∧ VP s b r := by
  intro n
  induction n with
  | zero =>
    intro w h0 hn s b hs
    refine ⟨(0, [], s, true), T.succ ?_, (by simp), Nat.le_refl _, fun _ => Or.inl rfl, fun hb => (by cases hb)⟩
    simp only [value_taker_value.f]
    exact T.ite (by omega) (T.cbind (a := (0, [], s, true)) rfl (T.pure _))
  | succ n ih =>
    intro w h0 hn s b hs
    by_cases h4 : w > 4
    · refine ⟨(0, [], s, true), T.succ ?_, (by simp), Nat.le_refl _, fun _ => Or.inl rfl, fun hb => (by cases hb)⟩
      simp only [value_taker_value.f]
      exact T.ite h4 (T.cbind (a := (0, [], s, true)) rfl (T.pure _))
    have hv := ih (w + 1) (by omega) (by omega)
    rcases byte_some s b with ⟨hz, hb⟩ | ⟨c, q, h1, h2, h3⟩
    · refine ⟨(0, [], s, true), T.succ ?_, (by simp), Nat.le_refl _, fun _ => Or.inl rfl, fun hb => (by cases hb)⟩
      simp only [value_taker_value.f]
      refine T.ite' h4 (T.cbind hb (T.ite' (by simp) (T.ite' (by simp) (T.ite' (by simp) (T.succ ?_)))))
      simp only [value_taker_value.j0]
      exact T.ite' (by simp) (T.ite' (by simp) (T.ite' (by simp) (T.ite' (by simp) (T.cbind (a := (0, [], s, true)) rfl (T.pure _)))))
    · have hq : q.size + 1 = s.size := by
        have := congrArg List.length h2
        rw [List.length_cons, ls_length, ls_length] at this; omega
      have hn : ∀ n : Nat, n < 256 → ((c.toNat : Int) = (n : Int) → c = UInt8.ofNat n) := by
        intro n hn h
        apply UInt8.toNat_inj.1
        rw [UInt8.toNat_ofNat']
        omega
      by_cases a1 : (c.toNat : Int) = 110
      · refine ⟨(-1, [], q, b), T.succ ?_, (by simp), by show q.size ≤ _; omega, fun _ => Or.inr (by show q.size < _; omega), fun hb => ⟨hb, fun h => (by cases h), fun h => (by cases h), fun h => (by cases h), fun _ => (by have e1 : c = 110 := hn 110 (by omega) a1; rw [h2, e1])⟩⟩
        simp only [value_taker_value.f]
        exact T.ite' h4 (T.cbind h1 (T.ite a1 (T.pure _)))
      by_cases a2 : (c.toNat : Int) = 105
      · obtain ⟨r, r1, r2, r3⟩ := number_some q b 59 (by omega)
        refine ⟨(0, [r.2.1], r.2.2.1, r.2.2.2), T.succ ?_, (by simp), by show r.2.2.1.size ≤ _; omega, fun _ => Or.inr (by show r.2.2.1.size < _; omega), fun hb => ?_⟩
        · simp only [value_taker_value.f]
          exact T.ite' h4 (T.cbind h1 (T.ite' a1 (T.ite a2 (T.cbind r1 (T.pure _)))))
        · obtain ⟨u1, u2, u3, u4, u5⟩ := r3 hb
          refine ⟨u1, fun _ => ⟨r.2.1, rfl, u2, u3, ?_⟩, fun h => (by cases h), fun h => (by cases h), fun h => (by cases h)⟩
          have e1 : c = 105 := hn 105 (by omega) a2
          rw [h2, e1, u5]
      by_cases a3 : (c.toNat : Int) = 116
      · obtain ⟨r, r1, r2⟩ := vj0_T w h0 (by omega) hv s b c q hs h2 ((c.toNat : Int) == 116) (fun _ => Or.inl (hn 116 (by omega) a3))
        refine ⟨r, T.succ ?_, r2⟩
        simp only [value_taker_value.f]
        exact T.ite' h4 (T.cbind h1 (T.ite' a1 (T.ite' a2 (T.ite a3 r1))))
      · obtain ⟨r, r1, r2⟩ := vj0_T w h0 (by omega) hv s b c q hs h2 ((c.toNat : Int) == 102) (fun h => Or.inr (hn 102 (by omega) (by simpa using h)))
        refine ⟨r, T.succ ?_, r2⟩
        simp only [value_taker_value.f]
        exact T.ite' h4 (T.cbind h1 (T.ite' a1 (T.ite' a2 (T.ite' a3 r1))))
/-- What a value's kind and parts say of it. -/
def PartsOK (v : ByteArray) (kind : Int) (parts : List ByteArray) : Prop :=
    (kind = 0 → ∃ d, parts = [d] ∧ atoiB d = true ∧ strconv_Itoa.f (atoiV d) = some d ∧ ls v = 105 :: (ls d ++ [59])) ∧
    (kind = 1 → ∃ c : UInt8, parts = [bs [c]] ∧ (c = 116 ∨ c = 102) ∧ ls v = [c]) ∧
    (kind = 2 → ∃ x, parts = [x] ∧ ls v = 115 :: (Lib.itoa (x.size : Int) ++ 58 :: ls x)) ∧
    (kind = -1 → ls v = [110]) ∧ parts.length ≤ 200001
theorem Parts_T (v : ByteArray) : ∃ kind parts e, T (fun k => value_Parts.f k v) (kind, parts, e) ∧ (e = 0 → PartsOK v kind parts ∧ v.size ≤ 65536) := by
  unfold value_Parts.f
  by_cases h : (v.size : Int) > 65536
  · exact ⟨0, [], 700, T.ite h (T.pure _), fun h => (by cases h)⟩
  obtain ⟨r, r1, r0, r2, r3, r4⟩ := value_T 5 0 (by omega) (by omega) v false (by omega)
  by_cases hb : r.2.2.2 = true
  · exact ⟨0, [], 700, T.ite' h (T.bind r1 (T.ite hb (T.pure _))), fun h => (by cases h)⟩
  by_cases hz : r.2.2.1.toList = ([] : List UInt8)
  · refine ⟨r.1, r.2.1, 0, T.ite' h (T.bind r1 (T.ite' hb (T.ite hz (T.pure _)))), fun _ => ⟨?_, by omega⟩⟩
    rw [toList_ls] at hz
    obtain ⟨_, h0, h1, h2, h3⟩ := r4 (by simpa using hb)
    refine ⟨fun e => ?_, fun e => ?_, fun e => ?_, fun e => ?_, r0⟩
    · obtain ⟨d, d1, d2, d3, d4⟩ := h0 e
      rw [hz] at d4; exact ⟨d, d1, d2, d3, d4⟩
    · obtain ⟨d, d1, d2, d3⟩ := h1 e
      rw [hz] at d3; exact ⟨d, d1, d2, d3⟩
    · obtain ⟨d, d1, d2⟩ := h2 e
      rw [hz, List.append_nil] at d2; exact ⟨d, d1, d2⟩
    · have := h3 e
      rw [hz] at this; exact this
  · exact ⟨0, [], 700, T.ite' h (T.bind r1 (T.ite' hb (T.ite' hz (T.pure _)))), fun h => (by cases h)⟩
end Go.Proofs.YtkcmkedboflklaaGreatDoor.Q
namespace Go.Proofs.YtkcmkedboflklaaGreatDoor.Q
open Go.RowKit Go.Proofs.YtkcmkedboflklaaGreatDoorW.PrintWords Go.Proofs.YtkcmkedboflklaaGreatDoorW.PrintLast Go.Proofs.YtkcmkedboflklaaGreatDoorW.PrintMore
attribute [local go_sem] max2_int min2_int max_two min_two max_three min_three max_four min_four
set_option linter.unusedVariables false
set_option linter.unusedSimpArgs false
set_option maxHeartbeats 8000000
set_option maxRecDepth 100000

def page_there.l0 : Nat → Int → Int → List Int → Int → Int → Option (Int)
 | 0, _, _, _, _, _ => none
 | k + 1, x1, x5, x8, x9, x10 => if x10 < x9 then (if 0 ≤ x10 then (if x10 < (x8.length : Int) then (if (rd x8 x10) = x1 then (page_there.l0 k x1 (wrap64 (x5 + 1)) x8 x9 (wrap64 (x10 + 1))) else (page_there.l0 k x1 x5 x8 x9 (wrap64 (x10 + 1)))) else (none)) else (none)) else (some x5)
def page_there.f (k : Nat) (l0 : List Int) (a1 : Int) : Option (Int) := page_there.l0 k a1 0 l0 (l0.length : Int) 0
theorem page_there.calls (k : Nat) (A0 : Option Addr) (c0 : Nat) (l0 : List Int) (a1 : Int) (r : Int) (w : World) (hr0 : Kd.C (Kd.int .i64) w A0 l0.length l0) (hc0 : l0.length ≤ c0) (h : page_there.f k l0 a1 = some r) :
  Calls Tryz.prog 48 #[.slice A0 l0.length c0, .int .i64 a1] w fun e w' => e = .returned (.int .i64 r) ∧ Drawn0 w w' := by
 have HR0 := am hr0
 have HC0 := am hc0
 clear hr0 hc0
 have H : (page_there.l0 k a1 0 l0 (l0.length : Int) 0) = some r := h
 clear h
 have H' := am H
 clear H
 go_enter Tryz.func48, Tryz.ntmps48
 go_wp2
 (try simp only [Act.put, List.setIfInBounds_toArray, List.set_cons_zero, List.set_cons_succ])
 go_loopg [5, 10] k (fun kq v5 v10 w' => ∃ (x5_1 : Int) (x10_1 : Int), v5 = .int .i64 x5_1 ∧ v10 = .int .i64 x10_1 ∧ Aside0 (page_there.l0 kq a1 x5_1 l0 (l0.length : Int) x10_1 = some r) ∧ Aside0 (kq ≤ k) ∧ Drawn0 w w')
 case atStart => exact ⟨(0), (0), zs, zs, H', ⟨Nat.le_refl _⟩, by repeat (first | exact Drawn0.refl _ | apply Drawn0.step)⟩
 case round =>
  clear H'
  try clear p2
  obtain ⟨x5_1, x10_1, rfl, rfl, HA, HK1, ⟨m1, rfl⟩⟩ := hrel
  cases gk with
  | zero => exact absurd HA.out (by simp [page_there.l0])
  | succ k1 =>
   have H := HA.out
   clear HA
   simp only [page_there.l0] at H
   by_cases c3 : x10_1 < (l0.length : Int)
   ·
    rw [if_pos c3] at H
    have c3b0 := decide_eq_true c3
    clear c3
    by_cases c4 : 0 ≤ x10_1
    ·
     rw [if_pos c4] at H
     have c4b0 := decide_eq_true c4
     clear c4
     by_cases c5 : x10_1 < (l0.length : Int)
     ·
      rw [if_pos c5] at H
      have c5b0 := decide_eq_true c5
      clear c5
      by_cases c6 : (rd l0 x10_1) = a1
      ·
       rw [if_pos c6] at H
       have c6b0 := beq_iff_eq.mpr c6
       have c6b1 := bne_eq_false_iff_eq.mpr c6
       clear c6
       have H' := am H
       clear H
       have p293 : 0 ≤ (x10_1 : Int) := of_decide_eq_true za
       have q293 : x10_1 < (l0.length : Int) := of_decide_eq_true za
       obtain ⟨ad293, e293, hx293_0⟩ := Kd.at_int HR0.out x10_1 p293 q293
       cases e293
       replace p293 := eq_true p293
       replace q293 := eq_true q293
       go_wp2
       go_roundg k1
       case measure => have := HK1.out; omega
       case rel => exact ⟨(wrap64 (x5_1 + 1)), (wrap64 (x10_1 + 1)), zs, zs, H', ⟨by have := HK1.out; omega⟩, by repeat (first | exact Drawn0.refl _ | apply Drawn0.step)⟩
      ·
       rw [if_neg c6] at H
       have c6b0 := beq_eq_false_iff_ne.mpr c6
       have c6b1 := bne_iff_ne.mpr c6
       have H' := am H
       clear H
       have p293 : 0 ≤ (x10_1 : Int) := of_decide_eq_true za
       have q293 : x10_1 < (l0.length : Int) := of_decide_eq_true za
       obtain ⟨ad293, e293, hx293_0⟩ := Kd.at_int HR0.out x10_1 p293 q293
       cases e293
       replace p293 := eq_true p293
       replace q293 := eq_true q293
       go_wp2
       go_roundg k1
       case measure => have := HK1.out; omega
       case rel => exact ⟨(x5_1), (wrap64 (x10_1 + 1)), zs, zs, H', ⟨by have := HK1.out; omega⟩, by repeat (first | exact Drawn0.refl _ | apply Drawn0.step)⟩
     ·
      rw [if_neg c5] at H
      exact absurd H (by simp)
    ·
     rw [if_neg c4] at H
     exact absurd H (by simp)
   ·
    rw [if_neg c3] at H
    have c3b0 := decide_eq_false c3
    clear c3
    obtain rfl := Option.some.inj H
    go_wp2
    go_ret
    exact ⟨by first | rfl | (simp; done) | (simp [*]; done), by repeat (first | exact Drawn0.refl _ | apply Drawn0.step)⟩

def page_within.l0 : Nat → Int → List Int → Int → Int → Option (Bool)
 | 0, _, _, _, _ => none
 | k + 1, x1, x7, x8, x9 => if x9 < x8 then (if 0 ≤ x9 then (if x9 < (x7.length : Int) then (if (rd x7 x9) < 0 then (some false) else (if (rd x7 x9) > x1 then (some false) else (page_within.l0 k x1 x7 x8 (wrap64 (x9 + 1))))) else (none)) else (none)) else (some true)
def page_within.f (k : Nat) (l0 : List Int) (a1 : Int) : Option (Bool) := page_within.l0 k a1 l0 (l0.length : Int) 0
theorem page_within.calls (k : Nat) (A0 : Option Addr) (c0 : Nat) (l0 : List Int) (a1 : Int) (r : Bool) (w : World) (hr0 : Kd.C (Kd.int .i64) w A0 l0.length l0) (hc0 : l0.length ≤ c0) (h : page_within.f k l0 a1 = some r) :
  Calls Tryz.prog 65 #[.slice A0 l0.length c0, .int .i64 a1] w fun e w' => e = .returned (.bool r) ∧ Drawn0 w w' := by
 have HR0 := am hr0
 have HC0 := am hc0
 clear hr0 hc0
 have H : (page_within.l0 k a1 l0 (l0.length : Int) 0) = some r := h
 clear h
 have H' := am H
 clear H
 go_enter Tryz.func65, Tryz.ntmps65
 go_wp2
 (try simp only [Act.put, List.setIfInBounds_toArray, List.set_cons_zero, List.set_cons_succ])
 go_loopg [9] k (fun kq v9 w' => ∃ (x9_1 : Int), v9 = .int .i64 x9_1 ∧ Aside0 (page_within.l0 kq a1 l0 (l0.length : Int) x9_1 = some r) ∧ Aside0 (kq ≤ k) ∧ Drawn0 w w')
 case atStart => exact ⟨(0), zs, H', ⟨Nat.le_refl _⟩, by repeat (first | exact Drawn0.refl _ | apply Drawn0.step)⟩
 case round =>
  clear H'
  try clear p2
  obtain ⟨x9_1, rfl, HA, HK1, ⟨m1, rfl⟩⟩ := hrel
  cases gk with
  | zero => exact absurd HA.out (by simp [page_within.l0])
  | succ k1 =>
   have H := HA.out
   clear HA
   simp only [page_within.l0] at H
   by_cases c3 : x9_1 < (l0.length : Int)
   ·
    rw [if_pos c3] at H
    have c3b0 := decide_eq_true c3
    clear c3
    by_cases c4 : 0 ≤ x9_1
    ·
     rw [if_pos c4] at H
     have c4b0 := decide_eq_true c4
     clear c4
     by_cases c5 : x9_1 < (l0.length : Int)
     ·
      rw [if_pos c5] at H
      have c5b0 := decide_eq_true c5
      clear c5
      by_cases c6 : (rd l0 x9_1) < 0
      ·
       rw [if_pos c6] at H
       have c6b0 := decide_eq_true c6
       clear c6
       obtain rfl := Option.some.inj H
       have p294 : 0 ≤ (x9_1 : Int) := of_decide_eq_true za
       have q294 : x9_1 < (l0.length : Int) := of_decide_eq_true za
       obtain ⟨ad294, e294, hx294_0⟩ := Kd.at_int HR0.out x9_1 p294 q294
       cases e294
       replace p294 := eq_true p294
       replace q294 := eq_true q294
       go_wp2
       go_ret
       exact ⟨by first | rfl | (simp; done) | (simp [*]; done), by repeat (first | exact Drawn0.refl _ | apply Drawn0.step)⟩
      ·
       rw [if_neg c6] at H
       have c6b0 := decide_eq_false c6
       clear c6
       by_cases c7 : (rd l0 x9_1) > a1
       ·
        rw [if_pos c7] at H
        have c7b0 : decide (a1 < (rd l0 x9_1)) = true := decide_eq_true c7
        clear c7
        obtain rfl := Option.some.inj H
        have p294 : 0 ≤ (x9_1 : Int) := of_decide_eq_true za
        have q294 : x9_1 < (l0.length : Int) := of_decide_eq_true za
        obtain ⟨ad294, e294, hx294_0⟩ := Kd.at_int HR0.out x9_1 p294 q294
        cases e294
        replace p294 := eq_true p294
        replace q294 := eq_true q294
        go_wp2
        go_ret
        exact ⟨by first | rfl | (simp; done) | (simp [*]; done), by repeat (first | exact Drawn0.refl _ | apply Drawn0.step)⟩
       ·
        rw [if_neg c7] at H
        have c7b0 : decide (a1 < (rd l0 x9_1)) = false := decide_eq_false c7
        clear c7
        have H' := am H
        clear H
        have p294 : 0 ≤ (x9_1 : Int) := of_decide_eq_true za
        have q294 : x9_1 < (l0.length : Int) := of_decide_eq_true za
        obtain ⟨ad294, e294, hx294_0⟩ := Kd.at_int HR0.out x9_1 p294 q294
        cases e294
        replace p294 := eq_true p294
        replace q294 := eq_true q294
        go_wp2
        go_roundg k1
        case measure => have := HK1.out; omega
        case rel => exact ⟨(wrap64 (x9_1 + 1)), zs, H', ⟨by have := HK1.out; omega⟩, by repeat (first | exact Drawn0.refl _ | apply Drawn0.step)⟩
     ·
      rw [if_neg c5] at H
      exact absurd H (by simp)
    ·
     rw [if_neg c4] at H
     exact absurd H (by simp)
   ·
    rw [if_neg c3] at H
    have c3b0 := decide_eq_false c3
    clear c3
    obtain rfl := Option.some.inj H
    go_wp2
    go_ret
    exact ⟨by first | rfl | (simp; done) | (simp [*]; done), by repeat (first | exact Drawn0.refl _ | apply Drawn0.step)⟩
def value_Null.f  : Option (ByteArray) := some (⟨#[110]⟩ : ByteArray)
theorem value_Null.calls  (r : ByteArray) (w : World) (h : value_Null.f  = some r) :
  Calls Tryz.prog 66 #[] w fun e w' => e = .returned (.string r) ∧ Drawn0 w w' := by
 have H : (some (⟨#[110]⟩ : ByteArray)) = some r := h
 clear h
 obtain rfl := Option.some.inj H
 go_enter Tryz.func66, Tryz.ntmps66
 go_wp2
 go_ret
 exact ⟨by first | rfl | (simp; done) | (simp [*]; done), by repeat (first | exact Drawn0.refl _ | apply Drawn0.step)⟩
end Go.Proofs.YtkcmkedboflklaaGreatDoor.Q
