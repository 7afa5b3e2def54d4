/- The pure statement of the law FnExactDec is proved: for all arguments within the stated bounds the printed function answers true. Conditions: none beyond those bounds. -/
import Derived.Test.YtpimomkkdocgbaaPFnExactDecx1
import Derived.Laws.BitsLemmas
import Derived.Lib.Strings
namespace Go.Proofs.Ytpimomkkdocgbaa.Pure
open Go Go.RowKit Go.Proofs.Ytpimomkkdocgbaa.PFnExactDec Go.Proofs.YtpimomkkdocgbaaW.PrintWords Go.Proofs.YtpimomkkdocgbaaW.PrintLast Go.Proofs.YtpimomkkdocgbaaW.PrintMore
set_option linter.unusedVariables false
set_option linter.unusedSimpArgs false

/-! ### Base: rounds, whole numbers, bits, byte strings (no program in sight) -/
theorem Ev.pos {α : Type} {c : Prop} [Decidable c] {g f : Nat → Option α} {r : α} (h : c) (e : Ev g r) : Ev (fun k => if c then g k else f k) r := by
  simpa only [if_pos h] using e
theorem Ev.neg {α : Type} {c : Prop} [Decidable c] {g f : Nat → Option α} {r : α} (h : ¬ c) (e : Ev f r) : Ev (fun k => if c then g k else f k) r := by
  simpa only [if_neg h] using e
theorem Ev.val {α : Type} (r s : α) (h : r = s) : Ev (fun _ => some r) s := by subst h; exact Ev.now _
theorem Ev.val0 {α : Type} {o : Option α} {s : α} (h : o = some s) : Ev (fun _ => o) s := by subst h; exact Ev.now _
theorem Ev.bind0 {α β : Type} {o : Option α} {f : Nat → α → Option β} {a : α} {r : β} (h : o = some a) (k : Ev (fun n => f n a) r) : Ev (fun n => o.bind (f n)) r := by
  subst h; simpa only [Option.bind_some] using k
theorem Ev.and {α β : Type} {g : Nat → Option α} {f : Nat → Option β} {r : α} {s : β} (h : Ev g r) (k : Ev f s) : ∃ K, ∀ n, K ≤ n → g n = some r ∧ f n = some s := by
  obtain ⟨K, h⟩ := h
  obtain ⟨L, k⟩ := k
  exact ⟨max K L, fun n hn => ⟨h n (by omega), k n (by omega)⟩⟩

theorem w64 {x : Int} (h0 : -9223372036854775808 ≤ x) (h1 : x ≤ 9223372036854775807) : wrap64 x = x := by unfold wrap64; omega
theorem wf64 {x : Int} (h : (Lit.int .i64 x).wf = true) : -9223372036854775808 ≤ x ∧ x ≤ 9223372036854775807 := by
  simp [Lit.wf, IntKind.min, IntKind.max, IntKind.signed, IntKind.bits] at h
  omega
theorem tdiv_nn {x y : Int} (h : 0 ≤ x) : Int.tdiv x y = x / y := Int.tdiv_eq_ediv_of_nonneg h
theorem tmod_nn {x y : Int} (h : 0 ≤ x) : Int.tmod x y = x % y := Int.tmod_eq_emod_of_nonneg h

theorem wraps_i64 (n : Int) (h₀ : 0 ≤ n) (h₁ : n < 2 ^ 63) : IntKind.i64.wrap n = n := by rw [IntKind.wrap_i64]; omega
theorem and_mask (i : Nat) (hi : i ≤ 63) (x : Int) (h0 : 0 ≤ x) (h1 : x < 9223372036854775808) : Go.bits .and .i64 x (2 ^ i - 1) = x % 2 ^ i :=
  bits_mask .i64 63 (by decide) wraps_i64 i hi x h0 h1
theorem and127 {x : Int} (h0 : 0 ≤ x) (h1 : x < 9223372036854775808) : Go.bits .and .i64 x 127 = x % 128 := and_mask 7 (by decide) x h0 h1
theorem and255 {x : Int} (h0 : 0 ≤ x) (h1 : x < 9223372036854775808) : Go.bits .and .i64 x 255 = x % 256 := and_mask 8 (by decide) x h0 h1
theorem and1 {x : Int} (h0 : 0 ≤ x) (h1 : x < 9223372036854775808) : Go.bits .and .i64 x 1 = x % 2 := and_mask 1 (by decide) x h0 h1
theorem or_join (i : Nat) (x y : Int) (hx : 0 ≤ x) (hm : x % 2 ^ i = 0) (hx1 : x < 9223372036854775808) (hy : 0 ≤ y) (hy1 : y < 2 ^ i) (hy2 : y < 9223372036854775808) : Go.bits .or .i64 x y = x + y :=
  bits_join .i64 63 (by decide) wraps_i64 i x y hx hm hx1 hy hy1 hy2
theorem bits_or_comm (k : IntKind) (x y : Int) : Go.bits .or k x y = Go.bits .or k y x := by simp only [Go.bits, BitVec.or_comm]
theorem or_join' (i : Nat) (x y : Int) (hx : 0 ≤ x) (hm : x % 2 ^ i = 0) (hx1 : x < 9223372036854775808) (hy : 0 ≤ y) (hy1 : y < 2 ^ i) (hy2 : y < 9223372036854775808) : Go.bits .or .i64 y x = x + y := by
  rw [bits_or_comm]; exact or_join i x y hx hm hx1 hy hy1 hy2
theorem u8_and127 {x : Int} (h0 : 0 ≤ x) (h1 : x < 256) : Go.bits .and .u8 x 127 = x % 128 := bits_mask .u8 8 (by decide) wraps_u8 7 (by decide) x h0 h1
theorem bits_xor_nat (a b : Nat) (ha : a < 2 ^ 63) (hb : b < 2 ^ 63) : Go.bits .xor .i64 a b = ((a ^^^ b : Nat) : Int) := by
  have hp : 2 ^ 63 ≤ 2 ^ IntKind.i64.bits := Nat.pow_le_pow_right (by decide) (by decide)
  have ha' : a % 2 ^ IntKind.i64.bits = a := Nat.mod_eq_of_lt (Nat.lt_of_lt_of_le ha hp)
  have hb' : b % 2 ^ IntKind.i64.bits = b := Nat.mod_eq_of_lt (Nat.lt_of_lt_of_le hb hp)
  simp only [Go.bits, BitVec.ofInt_natCast, BitVec.toNat_xor, BitVec.toNat_ofNat, ha', hb']
  exact wraps_i64 _ (Int.natCast_nonneg _) (by exact_mod_cast Nat.xor_lt_two_pow ha hb)

theorem wbt (s : ByteArray) (i : Int) : wrap64 (bt s i) = bt s i := by have := bt_range s i; exact w64 (by omega) (by omega)
theorem toList_eq {s t : ByteArray} (h : s = t) : s.toList = t.toList := by rw [h]
theorem strOf_append (xs ys : List Int) : strOfNums xs ++ strOfNums ys = strOfNums (xs ++ ys) := by
  apply ByteArray.ext
  rw [ByteArray.data_append]
  simp [strOfNums]
theorem strOf_size (xs : List Int) : (strOfNums xs).size = xs.length := by simp [strOfNums, ByteArray.size]
theorem strOf_nil : (⟨#[]⟩ : ByteArray) = strOfNums [] := rfl
theorem cast_pow256 (d : Nat) : ((256 ^ d : Nat) : Int) = (256 : Int) ^ d := Int.natCast_pow 256 d
theorem lt_pow256 (m d : Nat) : ((m : Int) < 256 ^ d) = (m < 256 ^ d) := by
  rw [← cast_pow256]; exact propext Int.ofNat_lt
theorem pow256_six (i : Int) (h0 : 0 ≤ i) (h1 : i ≤ 6) : (256 : Int) ^ i.toNat ≤ 281474976710656 := by
  obtain rfl | rfl | rfl | rfl | rfl | rfl | rfl : i = 0 ∨ i = 1 ∨ i = 2 ∨ i = 3 ∨ i = 4 ∨ i = 5 ∨ i = 6 := by omega
  all_goals decide

/-! ### what Dec makes -/
def decL (n : Nat) : List Int := if n = 0 then [] else decL (n / 10) ++ [((48 + n % 10 : Nat) : Int)]
termination_by n
decreasing_by omega
theorem decL_zero : decL 0 = [] := by rw [decL]; rfl
theorem decL_pos {n : Nat} (h : n ≠ 0) : decL n = decL (n / 10) ++ [((48 + n % 10 : Nat) : Int)] := by rw [decL, if_neg h]
/-- What Dec(n) is. -/
def decV (n : Int) : List Int := if n = 0 then [48] else if n < 0 then 45 :: decL n.natAbs else decL n.natAbs
theorem dec_step (x : Int) (h0 : -9223372036854775808 ≤ x) (h1 : x ≤ 9223372036854775807) (hx : x ≠ 0) :
    (Int.tmod x 10 < 0 → (wrap64 (48 + wrap64 (-(Int.tmod x 10)))) % 256 = ((48 + x.natAbs % 10 : Nat) : Int)) ∧
    (¬ Int.tmod x 10 < 0 → (wrap64 (48 + Int.tmod x 10)) % 256 = ((48 + x.natAbs % 10 : Nat) : Int)) ∧
    (wrap64 (Int.tdiv x 10)).natAbs = x.natAbs / 10 ∧ -9223372036854775808 ≤ wrap64 (Int.tdiv x 10) ∧ wrap64 (Int.tdiv x 10) ≤ 9223372036854775807 := by
  by_cases c : 0 ≤ x
  · obtain ⟨n, rfl⟩ := Int.eq_ofNat_of_zero_le c
    rw [tmod_nn (by omega), tdiv_nn (by omega), w64 (x := (n : Int) / 10) (by omega) (by omega)]
    refine ⟨fun h => by omega, fun _ => ?_, by omega, by omega, by omega⟩
    rw [w64 (by omega) (by omega)]; omega
  · obtain ⟨n, rfl⟩ : ∃ n : Nat, x = -(n : Int) := ⟨x.natAbs, by omega⟩
    rw [Int.neg_tmod, Int.neg_tdiv, tmod_nn (by omega), tdiv_nn (by omega), w64 (x := -((n : Int) / 10)) (by omega) (by omega)]
    refine ⟨fun h => ?_, fun h => ?_, by omega, by omega, by omega⟩
    · rw [w64 (x := -(-((n : Int) % 10))) (by omega) (by omega), w64 (by omega) (by omega)]; omega
    · rw [w64 (by omega) (by omega)]; omega
theorem decL_le : ∀ (k n : Nat), n < 10 ^ k → (decL n).length ≤ k
  | 0, n, h => by
    have : n = 0 := by simpa using h
    subst this; rw [decL_zero]; simp
  | k + 1, n, h => by
    by_cases c : n = 0
    · subst c; rw [decL_zero]; simp
    · rw [decL_pos c, List.length_append]
      have := decL_le k (n / 10) (by rw [Nat.pow_succ] at h; omega)
      simpa using this
theorem decL_20 {n : Nat} (h : n ≤ 9223372036854775808) : (decL n).length ≤ 20 := decL_le 20 n (by omega)

theorem spec_Dec_l0 (n : Nat) : ∀ (x : Int) (xs : List Int) (b : Bool), x.natAbs = n → -9223372036854775808 ≤ x → x ≤ 9223372036854775807 → xs.length + (decL n).length ≤ 20 →
    Ev (fun k => spec_Dec.l0 k x (strOfNums xs) b) (strOfNums ((if b = true then [45] else []) ++ decL n ++ xs)) := by
  induction n using Nat.strongRecOn with
  | ind n ih =>
  intro x xs b hx h0 h1 hl
  refine Ev.step (fun k => by rw [spec_Dec.l0]) ?_
  by_cases c : x = 0
  · have : n = 0 := by omega
    subst this
    refine Ev.pos c ?_
    rw [decL_zero]
    cases b with
    | true => exact Ev.pos rfl (Ev.pos (by rw [strOf_size]; omega) (Ev.val _ _ (by rw [show (⟨#[45]⟩ : ByteArray) = strOfNums [45] from rfl, strOf_append]; rfl)))
    | false => exact Ev.neg (by simp) (Ev.val _ _ (by simp))
  · have hn : n ≠ 0 := by omega
    obtain ⟨s1, s2, s3, s4, s5⟩ := dec_step x h0 h1 c
    rw [decL_pos hn, List.length_append] at hl
    have g := ih (n / 10) (by omega) (wrap64 (Int.tdiv x 10)) ([((48 + n % 10 : Nat) : Int)] ++ xs) b (by omega) s4 s5 (by simp at hl ⊢; omega)
    rw [decL_pos hn]
    have e : (if b = true then [45] else []) ++ (decL (n / 10) ++ [((48 + n % 10 : Nat) : Int)]) ++ xs = (if b = true then [45] else []) ++ decL (n / 10) ++ ([((48 + n % 10 : Nat) : Int)] ++ xs) := by simp [List.append_assoc]
    rw [e]
    refine Ev.neg c ?_
    by_cases m : Int.tmod x 10 < 0
    · refine Ev.pos m (Ev.bind0 rfl ?_)
      refine Ev.pos (by rw [strOf_size, strOf_size]; simp at hl ⊢; omega) ?_
      rw [s1 m, strOf_append, hx]
      exact g
    · refine Ev.neg m (Ev.bind0 rfl ?_)
      refine Ev.pos (by rw [strOf_size, strOf_size]; simp at hl ⊢; omega) ?_
      rw [s2 m, strOf_append, hx]
      exact g
theorem spec_Dec_ev (x : Int) (h0 : -9223372036854775808 ≤ x) (h1 : x ≤ 9223372036854775807) : Ev (fun k => spec_Dec.f k x) (strOfNums (decV x)) := by
  unfold spec_Dec.f decV
  by_cases c : x = 0
  · rw [if_pos c]; exact Ev.pos c (Ev.now _)
  · rw [if_neg c]
    refine Ev.neg c ?_
    have := spec_Dec_l0 x.natAbs x [] (decide (x < 0)) rfl h0 h1 (by simpa using decL_20 (by omega))
    rw [strOf_nil]
    by_cases m : x < 0
    · simpa [m] using this
    · simpa [m] using this

theorem rd_mid (L R : List Int) (b : Int) : rd (L ++ b :: R) (L.length : Int) = b := by
  unfold rd
  rw [Int.toNat_natCast, List.getD_eq_getElem?_getD, List.getElem?_append_right (Nat.le_refl _)]
  simp
theorem swap_ends (A M B : List Int) (a b : Int) :
    ((A ++ (a :: (M ++ [b])) ++ B).set A.length (rd (A ++ (a :: (M ++ [b])) ++ B) ((A.length + M.length + 1 : Nat) : Int))).set (A.length + M.length + 1) (rd (A ++ (a :: (M ++ [b])) ++ B) (A.length : Int)) = (A ++ [b]) ++ M ++ (a :: B) := by
  have e1 : rd (A ++ (a :: (M ++ [b])) ++ B) ((A.length + M.length + 1 : Nat) : Int) = b := by
    have h := rd_mid (A ++ a :: M) B b
    have e : (A ++ a :: M) ++ b :: B = A ++ (a :: (M ++ [b])) ++ B := by simp
    have e' : ((A ++ a :: M).length : Int) = ((A.length + M.length + 1 : Nat) : Int) := by simp; omega
    rwa [e, e'] at h
  have e2 : rd (A ++ (a :: (M ++ [b])) ++ B) (A.length : Int) = a := by
    have h := rd_mid A (M ++ [b] ++ B) a
    have e : A ++ a :: (M ++ [b] ++ B) = A ++ (a :: (M ++ [b])) ++ B := by simp
    rwa [e] at h
  rw [e1, e2]
  have e3 : (A ++ (a :: (M ++ [b])) ++ B).set A.length b = (A ++ b :: M) ++ (b :: B) := by simp
  rw [e3, List.set_append_right _ _ (by simp; omega)]
  have e5 : A.length + M.length + 1 - (A ++ b :: M).length = 0 := by rw [List.length_append, List.length_cons]; omega
  rw [e5]; simp
theorem impl_Dec_l1 (d : Nat) : ∀ (A M B : List Int), M.length = d → A.length + M.length + B.length ≤ 1000 →
    Ev (fun k => impl_Dec.l1 k (A ++ M ++ B) (A.length : Int) ((A.length : Int) + M.length - 1)) (strOfNums (A ++ M.reverse ++ B)) := by
  induction d using Nat.strongRecOn with
  | ind d ih =>
  intro A M B hd hl
  refine Ev.step (fun k => by rw [impl_Dec.l1]) ?_
  by_cases c : M.length ≤ 1
  · refine Ev.neg (by omega) (Ev.val _ _ ?_)
    have : M.reverse = M := by
      match M, c with
      | [], _ => rfl
      | [x], _ => rfl
    rw [this]
  · obtain ⟨a, M', rfl⟩ : ∃ a M', M = a :: M' := by
      cases M with
      | nil => simp at c
      | cons a M' => exact ⟨a, M', rfl⟩
    obtain ⟨M'', b, rfl⟩ : ∃ M'' b, M' = M'' ++ [b] := by
      refine ⟨M'.dropLast, M'.getLast (by intro e; subst e; simp at c), ?_⟩
      exact (List.dropLast_concat_getLast _).symm
    simp only [List.length_cons, List.length_append, List.length_nil] at c hd hl
    have hlen : (A ++ (a :: (M'' ++ [b])) ++ B).length = A.length + M''.length + 2 + B.length := by simp; omega
    have ej : (A.length : Int) + ((a :: (M'' ++ [b])).length : Int) - 1 = ((A.length + M''.length + 1 : Nat) : Int) := by simp; omega
    rw [ej]
    refine Ev.pos (by omega) (Ev.pos (by omega) (Ev.pos (by rw [hlen]; omega) (Ev.pos (by omega) (Ev.pos (by rw [hlen]; omega) ?_))))
    rw [Int.toNat_natCast, Int.toNat_natCast, swap_ends, w64 (by omega) (by omega), w64 (by omega) (by omega)]
    have := ih M''.length (by omega) (A ++ [b]) M'' (a :: B) rfl (by simp; omega)
    have e1 : ((A ++ [b]).length : Int) = (A.length : Int) + 1 := by simp
    have e2 : ((A ++ [b]).length : Int) + M''.length - 1 = ((A.length + M''.length + 1 : Nat) : Int) - 1 := by simp; omega
    rw [e2, e1] at this
    have e3 : A ++ (a :: (M'' ++ [b])).reverse ++ B = A ++ [b] ++ M''.reverse ++ a :: B := by simp
    rw [e3]
    exact this
theorem impl_Dec_l0 (n : Nat) : ∀ (x0 x : Int) (xs : List Int), x.natAbs = n → -9223372036854775808 ≤ x → x ≤ 9223372036854775807 → xs.length + (decL n).length ≤ 20 →
    Ev (fun k => impl_Dec.l0 k x0 xs x) (strOfNums ((if x0 < 0 then [45] else []) ++ decL n ++ xs.reverse)) := by
  induction n using Nat.strongRecOn with
  | ind n ih =>
  intro x0 x xs hx h0 h1 hl
  refine Ev.step (fun k => by rw [impl_Dec.l0]) ?_
  by_cases c : x = 0
  · have : n = 0 := by omega
    subst this
    refine Ev.pos c ?_
    rw [decL_zero] at hl ⊢
    have fin : ∀ ys : List Int, ys.length ≤ 30 → Ev (fun k => impl_Dec.j1 k ys) (strOfNums ys.reverse) := by
      intro ys hy
      refine Ev.step (fun k => by rw [impl_Dec.j1]) ?_
      have := impl_Dec_l1 ys.length [] ys [] rfl (by simp; omega)
      rw [w64 (by omega) (by omega)]
      simpa using this
    by_cases m : x0 < 0
    · refine Ev.pos m (Ev.pos (by simp at hl; omega) ?_)
      have := fin (xs ++ [45]) (by simp at hl ⊢; omega)
      simpa [m] using this
    · refine Ev.neg m ?_
      have := fin xs (by simp at hl; omega)
      simpa [m] using this
  · have hn : n ≠ 0 := by omega
    obtain ⟨s1, s2, s3, s4, s5⟩ := dec_step x h0 h1 c
    rw [decL_pos hn, List.length_append] at hl
    have g := ih (n / 10) (by omega) x0 (wrap64 (Int.tdiv x 10)) (xs ++ [((48 + n % 10 : Nat) : Int)]) (by omega) s4 s5 (by simp at hl ⊢; omega)
    rw [decL_pos hn]
    have e : (if x0 < 0 then [45] else []) ++ (decL (n / 10) ++ [((48 + n % 10 : Nat) : Int)]) ++ xs.reverse = (if x0 < 0 then [45] else []) ++ decL (n / 10) ++ (xs ++ [((48 + n % 10 : Nat) : Int)]).reverse := by simp [List.append_assoc]
    rw [e]
    refine Ev.neg c ?_
    by_cases m : Int.tmod x 10 < 0
    · refine Ev.pos m (Ev.pos (by simp at hl; omega) ?_)
      rw [s1 m, hx]
      exact g
    · refine Ev.neg m (Ev.pos (by simp at hl; omega) ?_)
      rw [s2 m, hx]
      exact g
theorem impl_Dec_ev (x : Int) (h0 : -9223372036854775808 ≤ x) (h1 : x ≤ 9223372036854775807) : Ev (fun k => impl_Dec.f k x) (strOfNums (decV x)) := by
  unfold impl_Dec.f decV
  by_cases c : x = 0
  · rw [if_pos c]; exact Ev.pos c (Ev.now _)
  · rw [if_neg c]
    refine Ev.neg c ?_
    have := impl_Dec_l0 x.natAbs x x [] rfl h0 h1 (by simpa using decL_20 (by omega))
    by_cases m : x < 0
    · simpa [m] using this
    · simpa [m] using this

theorem FnExactDec : laws_FnExactDec.Pure := by
  intro a0 h0
  have := wf64 h0
  refine Ev.rounds (g := fun k => laws_FnExactDec.f k a0) ?_
  unfold laws_FnExactDec.f
  exact Ev.bind (spec_Dec_ev a0 this.1 this.2) (Ev.bind (impl_Dec_ev a0 this.1 this.2) (Ev.pos rfl (Ev.now _)))

end Go.Proofs.Ytpimomkkdocgbaa.Pure
