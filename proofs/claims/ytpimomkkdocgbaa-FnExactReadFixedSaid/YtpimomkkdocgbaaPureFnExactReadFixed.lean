/- The pure statement of the law FnExactReadFixed is proved: for all arguments within the stated bounds the printed function answers true. Conditions: none beyond those bounds. -/
import Derived.Test.YtpimomkkdocgbaaPFnExactReadFixedx1
import Derived.Laws.BitsLemmas
import Derived.Lib.Strings
namespace Go.Proofs.Ytpimomkkdocgbaa.Pure
open Go Go.RowKit Go.Proofs.Ytpimomkkdocgbaa.PFnExactReadFixed Go.Proofs.YtpimomkkdocgbaaW.PrintWords Go.Proofs.YtpimomkkdocgbaaW.PrintLast Go.Proofs.YtpimomkkdocgbaaW.PrintMore
set_option linter.unusedVariables false
set_option linter.unusedSimpArgs false

/-! ### Base: rounds, whole numbers, bits, byte strings (no program in sight) -/
theorem Ev.pos {α : Type} {c : Prop} [Decidable c] {g f : Nat → Option α} {r : α} (h : c) (e : Ev g r) : Ev (fun k => if c then g k else f k) r := by
  simpa only [if_pos h] using e
theorem Ev.neg {α : Type} {c : Prop} [Decidable c] {g f : Nat → Option α} {r : α} (h : ¬ c) (e : Ev f r) : Ev (fun k => if c then g k else f k) r := by
  simpa only [if_neg h] using e
theorem Ev.val {α : Type} (r s : α) (h : r = s) : Ev (fun _ => some r) s := by subst h; exact Ev.now _
theorem Ev.val0 {α : Type} {o : Option α} {s : α} (h : o = some s) : Ev (fun _ => o) s := by subst h; exact Ev.now _
theorem Ev.bind0 {α β : Type} {o : Option α} {f : Nat → α → Option β} {a : α} {r : β} (h : o = some a) (k : Ev (fun n => f n a) r) : Ev (fun n => o.bind (f n)) r := by
  subst h; simpa only [Option.bind_some] using k
theorem Ev.and {α β : Type} {g : Nat → Option α} {f : Nat → Option β} {r : α} {s : β} (h : Ev g r) (k : Ev f s) : ∃ K, ∀ n, K ≤ n → g n = some r ∧ f n = some s := by
  obtain ⟨K, h⟩ := h
  obtain ⟨L, k⟩ := k
  exact ⟨max K L, fun n hn => ⟨h n (by omega), k n (by omega)⟩⟩

theorem w64 {x : Int} (h0 : -9223372036854775808 ≤ x) (h1 : x ≤ 9223372036854775807) : wrap64 x = x := by unfold wrap64; omega
theorem wf64 {x : Int} (h : (Lit.int .i64 x).wf = true) : -9223372036854775808 ≤ x ∧ x ≤ 9223372036854775807 := by
  simp [Lit.wf, IntKind.min, IntKind.max, IntKind.signed, IntKind.bits] at h
  omega
theorem tdiv_nn {x y : Int} (h : 0 ≤ x) : Int.tdiv x y = x / y := Int.tdiv_eq_ediv_of_nonneg h
theorem tmod_nn {x y : Int} (h : 0 ≤ x) : Int.tmod x y = x % y := Int.tmod_eq_emod_of_nonneg h

theorem wraps_i64 (n : Int) (h₀ : 0 ≤ n) (h₁ : n < 2 ^ 63) : IntKind.i64.wrap n = n := by rw [IntKind.wrap_i64]; omega
theorem and_mask (i : Nat) (hi : i ≤ 63) (x : Int) (h0 : 0 ≤ x) (h1 : x < 9223372036854775808) : Go.bits .and .i64 x (2 ^ i - 1) = x % 2 ^ i :=
  bits_mask .i64 63 (by decide) wraps_i64 i hi x h0 h1
theorem and127 {x : Int} (h0 : 0 ≤ x) (h1 : x < 9223372036854775808) : Go.bits .and .i64 x 127 = x % 128 := and_mask 7 (by decide) x h0 h1
theorem and255 {x : Int} (h0 : 0 ≤ x) (h1 : x < 9223372036854775808) : Go.bits .and .i64 x 255 = x % 256 := and_mask 8 (by decide) x h0 h1
theorem and1 {x : Int} (h0 : 0 ≤ x) (h1 : x < 9223372036854775808) : Go.bits .and .i64 x 1 = x % 2 := and_mask 1 (by decide) x h0 h1
theorem or_join (i : Nat) (x y : Int) (hx : 0 ≤ x) (hm : x % 2 ^ i = 0) (hx1 : x < 9223372036854775808) (hy : 0 ≤ y) (hy1 : y < 2 ^ i) (hy2 : y < 9223372036854775808) : Go.bits .or .i64 x y = x + y :=
  bits_join .i64 63 (by decide) wraps_i64 i x y hx hm hx1 hy hy1 hy2
theorem bits_or_comm (k : IntKind) (x y : Int) : Go.bits .or k x y = Go.bits .or k y x := by simp only [Go.bits, BitVec.or_comm]
theorem or_join' (i : Nat) (x y : Int) (hx : 0 ≤ x) (hm : x % 2 ^ i = 0) (hx1 : x < 9223372036854775808) (hy : 0 ≤ y) (hy1 : y < 2 ^ i) (hy2 : y < 9223372036854775808) : Go.bits .or .i64 y x = x + y := by
  rw [bits_or_comm]; exact or_join i x y hx hm hx1 hy hy1 hy2
theorem u8_and127 {x : Int} (h0 : 0 ≤ x) (h1 : x < 256) : Go.bits .and .u8 x 127 = x % 128 := bits_mask .u8 8 (by decide) wraps_u8 7 (by decide) x h0 h1
theorem bits_xor_nat (a b : Nat) (ha : a < 2 ^ 63) (hb : b < 2 ^ 63) : Go.bits .xor .i64 a b = ((a ^^^ b : Nat) : Int) := by
  have hp : 2 ^ 63 ≤ 2 ^ IntKind.i64.bits := Nat.pow_le_pow_right (by decide) (by decide)
  have ha' : a % 2 ^ IntKind.i64.bits = a := Nat.mod_eq_of_lt (Nat.lt_of_lt_of_le ha hp)
  have hb' : b % 2 ^ IntKind.i64.bits = b := Nat.mod_eq_of_lt (Nat.lt_of_lt_of_le hb hp)
  simp only [Go.bits, BitVec.ofInt_natCast, BitVec.toNat_xor, BitVec.toNat_ofNat, ha', hb']
  exact wraps_i64 _ (Int.natCast_nonneg _) (by exact_mod_cast Nat.xor_lt_two_pow ha hb)

theorem wbt (s : ByteArray) (i : Int) : wrap64 (bt s i) = bt s i := by have := bt_range s i; exact w64 (by omega) (by omega)
theorem toList_eq {s t : ByteArray} (h : s = t) : s.toList = t.toList := by rw [h]
theorem strOf_append (xs ys : List Int) : strOfNums xs ++ strOfNums ys = strOfNums (xs ++ ys) := by
  apply ByteArray.ext
  rw [ByteArray.data_append]
  simp [strOfNums]
theorem strOf_size (xs : List Int) : (strOfNums xs).size = xs.length := by simp [strOfNums, ByteArray.size]
theorem strOf_nil : (⟨#[]⟩ : ByteArray) = strOfNums [] := rfl
theorem cast_pow256 (d : Nat) : ((256 ^ d : Nat) : Int) = (256 : Int) ^ d := Int.natCast_pow 256 d
theorem lt_pow256 (m d : Nat) : ((m : Int) < 256 ^ d) = (m < 256 ^ d) := by
  rw [← cast_pow256]; exact propext Int.ofNat_lt
theorem pow256_six (i : Int) (h0 : 0 ≤ i) (h1 : i ≤ 6) : (256 : Int) ^ i.toNat ≤ 281474976710656 := by
  obtain rfl | rfl | rfl | rfl | rfl | rfl | rfl : i = 0 ∨ i = 1 ∨ i = 2 ∨ i = 3 ∨ i = 4 ∨ i = 5 ∨ i = 6 := by omega
  all_goals decide

/-! ### what Fixed makes, and what ReadFixed reads -/
def fixL : Nat → Nat → List Int
  | 0, _ => []
  | w + 1, n => fixL w (n / 256) ++ [((n % 256 : Nat) : Int)]
theorem fixL_length : ∀ (w n : Nat), (fixL w n).length = w
  | 0, _ => rfl
  | w + 1, n => by simp [fixL, fixL_length w]
theorem set_replicate (i : Nat) (v : Int) (xs : List Int) : (List.replicate (i + 1) 0 ++ xs).set i v = List.replicate i 0 ++ (v :: xs) := by
  rw [List.replicate_succ', List.append_assoc, List.set_append_right _ _ (by simp)]
  simp
/-- What Fixed(n, w) is. -/
def fixedV (n w : Int) : List Int := if 1 ≤ w ∧ w ≤ 7 ∧ 0 ≤ n ∧ n < 256 ^ w.toNat then fixL w.toNat n.toNat else []
def beAcc (s : ByteArray) : Nat → Int → Int → Int
  | 0, _, n => n
  | d + 1, i, n => beAcc s d (i + 1) (n * 256 + bt s i)
/-- What ReadFixed(s, w) is. -/
def readFixedV (s : ByteArray) (w : Int) : Int × Bool := if 1 ≤ w ∧ w ≤ 7 ∧ w ≤ (s.size : Int) then (beAcc s w.toNat 0 0, true) else (0, false)

theorem spec_l1In_eq (a b c : Int) : spec_l1In.f a b c = some (decide (b ≤ a ∧ a ≤ c)) := by
  unfold spec_l1In.f
  by_cases h : a ≥ b
  · rw [if_pos h]; simp [show b ≤ a from h]
  · rw [if_neg h]; simp [show ¬ b ≤ a from h]

theorem spec_ReadFixed_l0 (s : ByteArray) (d : Nat) : ∀ (w i n : Int), 0 ≤ i → w - i = d → w ≤ 7 → w ≤ (s.size : Int) → 0 ≤ n → n < 256 ^ i.toNat →
    Ev (fun k => spec_ReadFixed.l0 k s w n i) (beAcc s d i n, true) := by
  induction d with
  | zero =>
    intro w i n hi hd hw hs hn hn2
    refine Ev.step (fun k => by rw [spec_ReadFixed.l0]) ?_
    exact Ev.neg (by omega) (Ev.now _)
  | succ d ih =>
    intro w i n hi hd hw hs hn hn2
    refine Ev.step (fun k => by rw [spec_ReadFixed.l0]) ?_
    refine Ev.pos (by omega) (Ev.pos (by omega) (Ev.pos (by omega) ?_))
    have hb := bt_range s i
    have h6 := pow256_six i hi (by omega)
    have h7 : (256 : Int) ^ (i + 1).toNat = 256 ^ i.toNat * 256 := by
      rw [show (i + 1).toNat = i.toNat + 1 by omega, Int.pow_succ]
    rw [wbt, w64 (x := n * 256) (by omega) (by omega), w64 (x := n * 256 + bt s i) (by omega) (by omega), w64 (by omega) (by omega)]
    exact ih w (i + 1) (n * 256 + bt s i) (by omega) (by omega) hw hs (by omega) (by omega)
theorem spec_ReadFixed_ev (s : ByteArray) (w : Int) : Ev (fun k => spec_ReadFixed.f k s w) (readFixedV s w) := by
  unfold spec_ReadFixed.f readFixedV
  refine Ev.bind0 (spec_l1In_eq _ _ _) ?_
  by_cases c : 1 ≤ w ∧ w ≤ 7
  · refine Ev.pos (by simp; omega) ?_
    refine Ev.step (fun k => by rw [spec_ReadFixed.j0]) ?_
    by_cases c2 : w ≤ (s.size : Int)
    · rw [if_pos (by omega)]
      exact Ev.neg (by simp; omega) (spec_ReadFixed_l0 s w.toNat w 0 0 (by omega) (by omega) (by omega) c2 (by omega) (by simp))
    · rw [if_neg (by omega)]
      exact Ev.pos (by simp; omega) (Ev.now _)
  · rw [if_neg (by omega)]
    refine Ev.neg (by simp; omega) ?_
    refine Ev.step (fun k => by rw [spec_ReadFixed.j0]) ?_
    exact Ev.pos rfl (Ev.now _)

theorem impl_within_eq (a b c : Int) : impl_within.f a b c = some (decide (b ≤ a ∧ a ≤ c)) := by
  unfold impl_within.f
  by_cases h : a ≥ b
  · rw [if_pos h]; simp [show b ≤ a from h]
  · rw [if_neg h]; simp [show ¬ b ≤ a from h]

theorem impl_ReadFixed_l0 (s : ByteArray) (d : Nat) : ∀ (w i n : Int), 0 ≤ i → w - i = d → w ≤ 7 → w ≤ (s.size : Int) → 0 ≤ n → n < 256 ^ i.toNat →
    Ev (fun k => impl_ReadFixed.l0 k s w n i) (beAcc s d i n, true) := by
  induction d with
  | zero =>
    intro w i n hi hd hw hs hn hn2
    refine Ev.step (fun k => by rw [impl_ReadFixed.l0]) ?_
    exact Ev.neg (by omega) (Ev.now _)
  | succ d ih =>
    intro w i n hi hd hw hs hn hn2
    refine Ev.step (fun k => by rw [impl_ReadFixed.l0]) ?_
    refine Ev.pos (by omega) (Ev.pos (by omega) (Ev.pos (by omega) ?_))
    have hb := bt_range s i
    have h6 := pow256_six i hi (by omega)
    have h7 : (256 : Int) ^ (i + 1).toNat = 256 ^ i.toNat * 256 := by
      rw [show (i + 1).toNat = i.toNat + 1 by omega, Int.pow_succ]
    rw [wbt, w64 (x := n * 256) (by omega) (by omega), or_join 8 (n * 256) (bt s i) (by omega) (by omega) (by omega) (by omega) (by omega) (by omega), w64 (by omega) (by omega)]
    exact ih w (i + 1) (n * 256 + bt s i) (by omega) (by omega) hw hs (by omega) (by omega)
theorem impl_ReadFixed_ev (s : ByteArray) (w : Int) : Ev (fun k => impl_ReadFixed.f k s w) (readFixedV s w) := by
  unfold impl_ReadFixed.f readFixedV
  refine Ev.bind0 (impl_within_eq _ _ _) ?_
  by_cases c : 1 ≤ w ∧ w ≤ 7
  · refine Ev.pos (by simp; omega) ?_
    refine Ev.step (fun k => by rw [impl_ReadFixed.j0]) ?_
    by_cases c2 : w ≤ (s.size : Int)
    · rw [if_pos (by omega)]
      exact Ev.neg (by simp; omega) (impl_ReadFixed_l0 s w.toNat w 0 0 (by omega) (by omega) (by omega) c2 (by omega) (by simp))
    · rw [if_neg (by omega)]
      exact Ev.pos (by simp; omega) (Ev.now _)
  · rw [if_neg (by omega)]
    refine Ev.neg (by simp; omega) ?_
    refine Ev.step (fun k => by rw [impl_ReadFixed.j0]) ?_
    exact Ev.pos rfl (Ev.now _)

theorem FnExactReadFixed : laws_FnExactReadFixed.Pure := by
  intro a0 a1 h0 h1
  refine Ev.rounds (g := fun k => laws_FnExactReadFixed.f k a0 a1) ?_
  unfold laws_FnExactReadFixed.f
  by_cases c : (a0.size : Int) > 1048576
  · exact Ev.pos c (Ev.now _)
  · exact Ev.neg c (Ev.bind (spec_ReadFixed_ev a0 a1) (Ev.bind (impl_ReadFixed_ev a0 a1) (Ev.pos rfl (Ev.neg (by simp) (Ev.now _)))))

end Go.Proofs.Ytpimomkkdocgbaa.Pure
