/- The pure statement of the law FnExactReadDec is proved: for all arguments within the stated bounds the printed function answers true. Conditions: none beyond those bounds. -/
import Derived.Test.YtbebnkamepcabaaPFnExactReadDecx3
import Derived.Laws.BitsLemmas
import Derived.Lib.Strings
namespace Go.Proofs.Ytbebnkamepcabaa.Pure
open Go Go.RowKit Go.Proofs.Ytbebnkamepcabaa.PFnExactReadDec Go.Proofs.YtbebnkamepcabaaW.PrintWords Go.Proofs.YtbebnkamepcabaaW.PrintLast Go.Proofs.YtbebnkamepcabaaW.PrintMore
set_option linter.unusedVariables false
set_option linter.unusedSimpArgs false

/-! ### Base: rounds, whole numbers, bits, byte strings (no program in sight) -/
theorem Ev.pos {α : Type} {c : Prop} [Decidable c] {g f : Nat → Option α} {r : α} (h : c) (e : Ev g r) : Ev (fun k => if c then g k else f k) r := by
  simpa only [if_pos h] using e
theorem Ev.neg {α : Type} {c : Prop} [Decidable c] {g f : Nat → Option α} {r : α} (h : ¬ c) (e : Ev f r) : Ev (fun k => if c then g k else f k) r := by
  simpa only [if_neg h] using e
theorem Ev.val {α : Type} (r s : α) (h : r = s) : Ev (fun _ => some r) s := by subst h; exact Ev.now _
theorem Ev.val0 {α : Type} {o : Option α} {s : α} (h : o = some s) : Ev (fun _ => o) s := by subst h; exact Ev.now _
theorem Ev.bind0 {α β : Type} {o : Option α} {f : Nat → α → Option β} {a : α} {r : β} (h : o = some a) (k : Ev (fun n => f n a) r) : Ev (fun n => o.bind (f n)) r := by
  subst h; simpa only [Option.bind_some] using k
theorem Ev.and {α β : Type} {g : Nat → Option α} {f : Nat → Option β} {r : α} {s : β} (h : Ev g r) (k : Ev f s) : ∃ K, ∀ n, K ≤ n → g n = some r ∧ f n = some s := by
  obtain ⟨K, h⟩ := h
  obtain ⟨L, k⟩ := k
  exact ⟨max K L, fun n hn => ⟨h n (by omega), k n (by omega)⟩⟩

theorem w64 {x : Int} (h0 : -9223372036854775808 ≤ x) (h1 : x ≤ 9223372036854775807) : wrap64 x = x := by unfold wrap64; omega
theorem wf64 {x : Int} (h : (Lit.int .i64 x).wf = true) : -9223372036854775808 ≤ x ∧ x ≤ 9223372036854775807 := by
  simp [Lit.wf, IntKind.min, IntKind.max, IntKind.signed, IntKind.bits] at h
  omega
theorem tdiv_nn {x y : Int} (h : 0 ≤ x) : Int.tdiv x y = x / y := Int.tdiv_eq_ediv_of_nonneg h
theorem tmod_nn {x y : Int} (h : 0 ≤ x) : Int.tmod x y = x % y := Int.tmod_eq_emod_of_nonneg h

theorem wraps_i64 (n : Int) (h₀ : 0 ≤ n) (h₁ : n < 2 ^ 63) : IntKind.i64.wrap n = n := by rw [IntKind.wrap_i64]; omega
theorem and_mask (i : Nat) (hi : i ≤ 63) (x : Int) (h0 : 0 ≤ x) (h1 : x < 9223372036854775808) : Go.bits .and .i64 x (2 ^ i - 1) = x % 2 ^ i :=
  bits_mask .i64 63 (by decide) wraps_i64 i hi x h0 h1
theorem and127 {x : Int} (h0 : 0 ≤ x) (h1 : x < 9223372036854775808) : Go.bits .and .i64 x 127 = x % 128 := and_mask 7 (by decide) x h0 h1
theorem and255 {x : Int} (h0 : 0 ≤ x) (h1 : x < 9223372036854775808) : Go.bits .and .i64 x 255 = x % 256 := and_mask 8 (by decide) x h0 h1
theorem and1 {x : Int} (h0 : 0 ≤ x) (h1 : x < 9223372036854775808) : Go.bits .and .i64 x 1 = x % 2 := and_mask 1 (by decide) x h0 h1
theorem or_join (i : Nat) (x y : Int) (hx : 0 ≤ x) (hm : x % 2 ^ i = 0) (hx1 : x < 9223372036854775808) (hy : 0 ≤ y) (hy1 : y < 2 ^ i) (hy2 : y < 9223372036854775808) : Go.bits .or .i64 x y = x + y :=
  bits_join .i64 63 (by decide) wraps_i64 i x y hx hm hx1 hy hy1 hy2
theorem bits_or_comm (k : IntKind) (x y : Int) : Go.bits .or k x y = Go.bits .or k y x := by simp only [Go.bits, BitVec.or_comm]
theorem or_join' (i : Nat) (x y : Int) (hx : 0 ≤ x) (hm : x % 2 ^ i = 0) (hx1 : x < 9223372036854775808) (hy : 0 ≤ y) (hy1 : y < 2 ^ i) (hy2 : y < 9223372036854775808) : Go.bits .or .i64 y x = x + y := by
  rw [bits_or_comm]; exact or_join i x y hx hm hx1 hy hy1 hy2
theorem u8_and127 {x : Int} (h0 : 0 ≤ x) (h1 : x < 256) : Go.bits .and .u8 x 127 = x % 128 := bits_mask .u8 8 (by decide) wraps_u8 7 (by decide) x h0 h1
theorem bits_xor_nat (a b : Nat) (ha : a < 2 ^ 63) (hb : b < 2 ^ 63) : Go.bits .xor .i64 a b = ((a ^^^ b : Nat) : Int) := by
  have hp : 2 ^ 63 ≤ 2 ^ IntKind.i64.bits := Nat.pow_le_pow_right (by decide) (by decide)
  have ha' : a % 2 ^ IntKind.i64.bits = a := Nat.mod_eq_of_lt (Nat.lt_of_lt_of_le ha hp)
  have hb' : b % 2 ^ IntKind.i64.bits = b := Nat.mod_eq_of_lt (Nat.lt_of_lt_of_le hb hp)
  simp only [Go.bits, BitVec.ofInt_natCast, BitVec.toNat_xor, BitVec.toNat_ofNat, ha', hb']
  exact wraps_i64 _ (Int.natCast_nonneg _) (by exact_mod_cast Nat.xor_lt_two_pow ha hb)

theorem wbt (s : ByteArray) (i : Int) : wrap64 (bt s i) = bt s i := by have := bt_range s i; exact w64 (by omega) (by omega)
theorem toList_eq {s t : ByteArray} (h : s = t) : s.toList = t.toList := by rw [h]
theorem strOf_append (xs ys : List Int) : strOfNums xs ++ strOfNums ys = strOfNums (xs ++ ys) := by
  apply ByteArray.ext
  rw [ByteArray.data_append]
  simp [strOfNums]
theorem strOf_size (xs : List Int) : (strOfNums xs).size = xs.length := by simp [strOfNums, ByteArray.size]
theorem strOf_nil : (⟨#[]⟩ : ByteArray) = strOfNums [] := rfl
theorem cast_pow256 (d : Nat) : ((256 ^ d : Nat) : Int) = (256 : Int) ^ d := Int.natCast_pow 256 d
theorem lt_pow256 (m d : Nat) : ((m : Int) < 256 ^ d) = (m < 256 ^ d) := by
  rw [← cast_pow256]; exact propext Int.ofNat_lt
theorem pow256_six (i : Int) (h0 : 0 ≤ i) (h1 : i ≤ 6) : (256 : Int) ^ i.toNat ≤ 281474976710656 := by
  obtain rfl | rfl | rfl | rfl | rfl | rfl | rfl : i = 0 ∨ i = 1 ∨ i = 2 ∨ i = 3 ∨ i = 4 ∨ i = 5 ∨ i = 6 := by omega
  all_goals decide

/-! ### what Dec makes -/
def decL (n : Nat) : List Int := if n = 0 then [] else decL (n / 10) ++ [((48 + n % 10 : Nat) : Int)]
termination_by n
decreasing_by omega
theorem decL_zero : decL 0 = [] := by rw [decL]; rfl
theorem decL_pos {n : Nat} (h : n ≠ 0) : decL n = decL (n / 10) ++ [((48 + n % 10 : Nat) : Int)] := by rw [decL, if_neg h]
/-- What Dec(n) is. -/
def decV (n : Int) : List Int := if n = 0 then [48] else if n < 0 then 45 :: decL n.natAbs else decL n.natAbs
theorem dec_step (x : Int) (h0 : -9223372036854775808 ≤ x) (h1 : x ≤ 9223372036854775807) (hx : x ≠ 0) :
    (Int.tmod x 10 < 0 → (wrap64 (48 + wrap64 (-(Int.tmod x 10)))) % 256 = ((48 + x.natAbs % 10 : Nat) : Int)) ∧
    (¬ Int.tmod x 10 < 0 → (wrap64 (48 + Int.tmod x 10)) % 256 = ((48 + x.natAbs % 10 : Nat) : Int)) ∧
    (wrap64 (Int.tdiv x 10)).natAbs = x.natAbs / 10 ∧ -9223372036854775808 ≤ wrap64 (Int.tdiv x 10) ∧ wrap64 (Int.tdiv x 10) ≤ 9223372036854775807 := by
  by_cases c : 0 ≤ x
  · obtain ⟨n, rfl⟩ := Int.eq_ofNat_of_zero_le c
    rw [tmod_nn (by omega), tdiv_nn (by omega), w64 (x := (n : Int) / 10) (by omega) (by omega)]
    refine ⟨fun h => by omega, fun _ => ?_, by omega, by omega, by omega⟩
    rw [w64 (by omega) (by omega)]; omega
  · obtain ⟨n, rfl⟩ : ∃ n : Nat, x = -(n : Int) := ⟨x.natAbs, by omega⟩
    rw [Int.neg_tmod, Int.neg_tdiv, tmod_nn (by omega), tdiv_nn (by omega), w64 (x := -((n : Int) / 10)) (by omega) (by omega)]
    refine ⟨fun h => ?_, fun h => ?_, by omega, by omega, by omega⟩
    · rw [w64 (x := -(-((n : Int) % 10))) (by omega) (by omega), w64 (by omega) (by omega)]; omega
    · rw [w64 (by omega) (by omega)]; omega
theorem decL_le : ∀ (k n : Nat), n < 10 ^ k → (decL n).length ≤ k
  | 0, n, h => by
    have : n = 0 := by simpa using h
    subst this; rw [decL_zero]; simp
  | k + 1, n, h => by
    by_cases c : n = 0
    · subst c; rw [decL_zero]; simp
    · rw [decL_pos c, List.length_append]
      have := decL_le k (n / 10) (by rw [Nat.pow_succ] at h; omega)
      simpa using this
theorem decL_20 {n : Nat} (h : n ≤ 9223372036854775808) : (decL n).length ≤ 20 := decL_le 20 n (by omega)

/-! ### Str: a byte string as the list of its numbers -/
def IsB (xs : List Int) : Prop := ∀ x ∈ xs, 0 ≤ x ∧ x ≤ 255
def bl (s : ByteArray) : List Int := s.data.toList.map fun b => (b.toNat : Int)
theorem bl_isB (s : ByteArray) : IsB (bl s) := by
  intro x hx
  simp only [bl, List.mem_map] at hx
  obtain ⟨b, _, rfl⟩ := hx
  have := b.toNat_lt
  omega
theorem bl_length (s : ByteArray) : (bl s).length = s.size := by unfold bl; rw [List.length_map]; rfl
theorem strOf_bl (s : ByteArray) : strOfNums (bl s) = s := by
  apply ByteArray.ext
  apply Array.ext'
  unfold strOfNums bl
  rw [List.map_map]
  have : ((fun n : Int => UInt8.ofNat n.toNat) ∘ fun b : UInt8 => (b.toNat : Int)) = id := by
    funext b
    simp only [Function.comp_apply, Int.toNat_natCast, UInt8.ofNat_toNat, id]
  rw [this, List.map_id]
theorem bl_strOf {xs : List Int} (h : IsB xs) : bl (strOfNums xs) = xs := by
  induction xs with
  | nil => rfl
  | cons a l ih =>
    have ha := h a (by simp)
    have hl := ih (fun x hx => h x (by simp [hx]))
    simp only [bl, strOfNums, List.map_cons, List.toList_toArray] at hl ⊢
    rw [hl]
    congr 1
    simp only [UInt8.toNat_ofNat']
    omega
theorem bl_append (s t : ByteArray) : bl (s ++ t) = bl s ++ bl t := by simp [bl, ByteArray.data_append]
theorem bl_extract (s : ByteArray) (a b : Nat) : bl (s.extract a b) = ((bl s).drop a).take (b - a) := by
  simp [bl, ByteArray.data_extract, List.extract_eq_take_drop, List.map_take, List.map_drop]
theorem bl_inj {s t : ByteArray} (h : bl s = bl t) : s = t := by rw [← strOf_bl s, ← strOf_bl t, h]
theorem tl_iff (s t : ByteArray) : s.toList = t.toList ↔ s = t := by
  constructor
  · intro h
    rw [Go.Lib.toList_data, Go.Lib.toList_data] at h
    exact ByteArray.ext (Array.ext' h)
  · intro h; rw [h]
theorem bt_bl (s : ByteArray) (i : Int) : bt s i = rd (bl s) i := by
  unfold bt rd bl
  split
  · rename_i h
    have h' : i.toNat < s.data.toList.length := h
    rw [List.getD_eq_getElem?_getD, List.getElem?_map, List.getElem?_eq_getElem h']
    simp only [Option.map_some, Option.getD_some]
    rfl
  · rename_i h
    have h' : ¬ i.toNat < s.data.toList.length := h
    rw [List.getD_eq_getElem?_getD, List.getElem?_map, List.getElem?_eq_none (by omega)]
    rfl
theorem bt_nat (s : ByteArray) (i : Nat) (h : i < s.size) : bt s (i : Int) = (bl s)[i]'(by rw [bl_length]; exact h) := by
  rw [bt_bl]
  unfold rd
  rw [Int.toNat_natCast, List.getD_eq_getElem?_getD, List.getElem?_eq_getElem (by rw [bl_length]; exact h)]
  rfl
theorem isB_nil : IsB [] := fun _ h => by cases h
theorem isB_append {xs ys : List Int} (h : IsB xs) (k : IsB ys) : IsB (xs ++ ys) := fun x hx => (List.mem_append.1 hx).elim (h x) (k x)
theorem isB_cons {x : Int} {ys : List Int} (h : 0 ≤ x ∧ x ≤ 255) (k : IsB ys) : IsB (x :: ys) := by
  intro y hy
  rcases List.mem_cons.1 hy with e | e
  · subst e; exact h
  · exact k y e
theorem strOf_inj {xs ys : List Int} (h : IsB xs) (k : IsB ys) (e : strOfNums xs = strOfNums ys) : xs = ys := by
  rw [← bl_strOf h, ← bl_strOf k, e]

/-! ### what ReadDec tells -/
def dg (n : Nat) : List Int := if n = 0 then [48] else decL n
def dval (l : List Int) : Int := l.foldl (fun a x => a * 10 + (x - 48)) 0
theorem dval_snoc (l : List Int) (x : Int) : dval (l ++ [x]) = dval l * 10 + (x - 48) := by simp [dval]
theorem decL_digit (n : Nat) : ∀ x ∈ decL n, 48 ≤ x ∧ x ≤ 57 := by
  induction n using Nat.strongRecOn with
  | ind n ih =>
  by_cases c : n = 0
  · subst c; rw [decL_zero]; intro x h; cases h
  · rw [decL_pos c]
    intro x h
    rcases List.mem_append.1 h with h | h
    · exact ih _ (by omega) x h
    · rw [List.mem_singleton.1 h]; omega
theorem dval_decL (n : Nat) : dval (decL n) = (n : Int) := by
  induction n using Nat.strongRecOn with
  | ind n ih =>
  by_cases c : n = 0
  · subst c; rw [decL_zero]; rfl
  · rw [decL_pos c, dval_snoc, ih _ (by omega)]; omega
theorem dg_digit (n : Nat) : ∀ x ∈ dg n, 48 ≤ x ∧ x ≤ 57 := by
  unfold dg
  split
  · intro x h; rw [List.mem_singleton.1 h]; omega
  · exact decL_digit n
theorem dval_dg (n : Nat) : dval (dg n) = (n : Int) := by
  unfold dg
  split
  · rename_i h; subst h; rfl
  · exact dval_decL n
theorem dg_pos (n : Nat) : 0 < (dg n).length := by
  unfold dg
  split
  · simp
  · rename_i h; rw [decL_pos h]; simp
theorem dg_9 {n : Nat} (h : n < 1000000000) : (dg n).length ≤ 9 := by
  unfold dg
  split
  · simp
  · exact decL_le 9 n (by omega)
theorem decV_dg (m : Int) : decV m = (if m < 0 then [45] else []) ++ dg m.natAbs := by
  unfold decV dg
  by_cases c : m = 0
  · subst c; rfl
  · have hn : ¬ m.natAbs = 0 := by omega
    simp only [if_neg c, if_neg hn]
    by_cases d : m < 0 <;> simp [d]
theorem decV_isB (m : Int) : IsB (decV m) := by
  rw [decV_dg]
  refine isB_append ?_ (fun x h => by have := dg_digit _ x h; omega)
  split
  · exact isB_cons (by omega) isB_nil
  · exact isB_nil
/-- A text that is the Dec of a number of at most nine digits. -/
def IsDec (s : ByteArray) (m : Int) : Prop := -1000000000 < m ∧ m < 1000000000 ∧ s = strOfNums (decV m)
theorem isDec_bl {s : ByteArray} {m : Int} (h : IsDec s m) : bl s = decV m := by rw [h.2.2, bl_strOf (decV_isB m)]
/-- What ReadDec(s) is: told by what it satisfies. -/
def RdDec (s : ByteArray) (r : Int × Bool) : Prop := (∀ m, IsDec s m → r = (m, true)) ∧ ((∀ m, ¬ IsDec s m) → r = (0, false))
theorem rdDec_unique {s : ByteArray} {r q : Int × Bool} (h : RdDec s r) (k : RdDec s q) : r = q := by
  by_cases c : ∃ m, IsDec s m
  · obtain ⟨m, hm⟩ := c
    rw [h.1 m hm, k.1 m hm]
  · have c' : ∀ m, ¬ IsDec s m := fun m hm => c ⟨m, hm⟩
    rw [h.2 c', k.2 c']
/-- the digits from place i on, d of them -/
def dAcc (s : ByteArray) : Nat → Int → Int → Int
  | 0, _, n => n
  | d + 1, i, n => dAcc s d (i + 1) (n * 10 + (bt s i - 48))
def allDig (s : ByteArray) : Nat → Int → Bool
  | 0, _ => true
  | d + 1, i => decide (48 ≤ bt s i ∧ bt s i ≤ 57) && allDig s d (i + 1)
theorem dAcc_list (s : ByteArray) : ∀ (d : Nat) (i : Nat) (n : Int), i + d ≤ s.size → dAcc s d (i : Int) n = (((bl s).drop i).take d).foldl (fun a x => a * 10 + (x - 48)) n
  | 0, i, n, _ => by simp [dAcc]
  | d + 1, i, n, h => by
    have hl : i < (bl s).length := by rw [bl_length]; omega
    rw [dAcc, bt_nat s i (by omega), List.drop_eq_getElem_cons hl, List.take_succ_cons, List.foldl_cons]
    have := dAcc_list s d (i + 1) (n * 10 + ((bl s)[i] - 48)) (by omega)
    have e : ((i + 1 : Nat) : Int) = (i : Int) + 1 := by omega
    rw [e] at this
    exact this
theorem allDig_iff (s : ByteArray) : ∀ (d : Nat) (i : Nat), i + d ≤ s.size → (allDig s d (i : Int) = true ↔ ∀ x ∈ ((bl s).drop i).take d, 48 ≤ x ∧ x ≤ 57)
  | 0, i, _ => by simp [allDig]
  | d + 1, i, h => by
    have hl : i < (bl s).length := by rw [bl_length]; omega
    have ih := allDig_iff s d (i + 1) (by omega)
    have e : ((i + 1 : Nat) : Int) = (i : Int) + 1 := by omega
    rw [e] at ih
    rw [allDig, bt_nat s i (by omega), List.drop_eq_getElem_cons hl, List.take_succ_cons, Bool.and_eq_true, decide_eq_true_iff, ih]
    simp
theorem dAcc_range (s : ByteArray) : ∀ (d : Nat) (i n : Int) (e : Nat), allDig s d i = true → 0 ≤ n → n < 10 ^ e → 0 ≤ dAcc s d i n ∧ dAcc s d i n < 10 ^ (e + d)
  | 0, i, n, e, _, h0, h1 => ⟨h0, h1⟩
  | d + 1, i, n, e, hd, h0, h1 => by
    rw [allDig, Bool.and_eq_true, decide_eq_true_iff] at hd
    have h2 : n * 10 + (bt s i - 48) < 10 ^ (e + 1) := by rw [Int.pow_succ]; omega
    have := dAcc_range s d (i + 1) (n * 10 + (bt s i - 48)) (e + 1) hd.2 (by omega) h2
    rw [show e + (d + 1) = e + 1 + d by omega]
    exact this
theorem pow10_9 {k : Nat} (h : k ≤ 9) : (10 : Int) ^ k ≤ 1000000000 := by
  have h1 : 10 ^ k ≤ 10 ^ 9 := Nat.pow_le_pow_right (by decide) h
  have h2 : ((10 ^ k : Nat) : Int) = (10 : Int) ^ k := Int.natCast_pow 10 k
  have h3 : (10 : Nat) ^ 9 = 1000000000 := by decide
  omega

theorem spec_Dec_l0 (n : Nat) : ∀ (x : Int) (xs : List Int) (b : Bool), x.natAbs = n → -9223372036854775808 ≤ x → x ≤ 9223372036854775807 → xs.length + (decL n).length ≤ 20 →
    Ev (fun k => spec_Dec.l0 k x (strOfNums xs) b) (strOfNums ((if b = true then [45] else []) ++ decL n ++ xs)) := by
  induction n using Nat.strongRecOn with
  | ind n ih =>
  intro x xs b hx h0 h1 hl
  refine Ev.step (fun k => by rw [spec_Dec.l0]) ?_
  by_cases c : x = 0
  · have : n = 0 := by omega
    subst this
    refine Ev.pos c ?_
    rw [decL_zero]
    cases b with
    | true => exact Ev.pos rfl (Ev.pos (by rw [strOf_size]; omega) (Ev.val _ _ (by rw [show (⟨#[45]⟩ : ByteArray) = strOfNums [45] from rfl, strOf_append]; rfl)))
    | false => exact Ev.neg (by simp) (Ev.val _ _ (by simp))
  · have hn : n ≠ 0 := by omega
    obtain ⟨s1, s2, s3, s4, s5⟩ := dec_step x h0 h1 c
    rw [decL_pos hn, List.length_append] at hl
    have g := ih (n / 10) (by omega) (wrap64 (Int.tdiv x 10)) ([((48 + n % 10 : Nat) : Int)] ++ xs) b (by omega) s4 s5 (by simp at hl ⊢; omega)
    rw [decL_pos hn]
    have e : (if b = true then [45] else []) ++ (decL (n / 10) ++ [((48 + n % 10 : Nat) : Int)]) ++ xs = (if b = true then [45] else []) ++ decL (n / 10) ++ ([((48 + n % 10 : Nat) : Int)] ++ xs) := by simp [List.append_assoc]
    rw [e]
    refine Ev.neg c ?_
    by_cases m : Int.tmod x 10 < 0
    · refine Ev.pos m (Ev.bind0 rfl ?_)
      refine Ev.pos (by rw [strOf_size, strOf_size]; simp at hl ⊢; omega) ?_
      rw [s1 m, strOf_append, hx]
      exact g
    · refine Ev.neg m (Ev.bind0 rfl ?_)
      refine Ev.pos (by rw [strOf_size, strOf_size]; simp at hl ⊢; omega) ?_
      rw [s2 m, strOf_append, hx]
      exact g
theorem spec_Dec_ev (x : Int) (h0 : -9223372036854775808 ≤ x) (h1 : x ≤ 9223372036854775807) : Ev (fun k => spec_Dec.f k x) (strOfNums (decV x)) := by
  unfold spec_Dec.f decV
  by_cases c : x = 0
  · rw [if_pos c]; exact Ev.pos c (Ev.now _)
  · rw [if_neg c]
    refine Ev.neg c ?_
    have := spec_Dec_l0 x.natAbs x [] (decide (x < 0)) rfl h0 h1 (by simpa using decL_20 (by omega))
    rw [strOf_nil]
    by_cases m : x < 0
    · simpa [m] using this
    · simpa [m] using this

/-- where the sign ends -/
theorem isDec_sign {s : ByteArray} {m : Int} (h : IsDec s m) : 0 < s.size ∧ (bt s 0 = 45 ↔ m < 0) ∧ (bl s).drop (if m < 0 then 1 else 0) = dg m.natAbs ∧ s.size = (if m < 0 then 1 else 0) + (dg m.natAbs).length := by
  have hb := isDec_bl h
  rw [decV_dg] at hb
  have hp := dg_pos m.natAbs
  have hl : s.size = (if m < 0 then 1 else 0) + (dg m.natAbs).length := by
    rw [← bl_length, hb, List.length_append]; split <;> rfl
  have h0 : 0 < s.size := by rw [hl]; omega
  refine ⟨h0, ?_, ?_, hl⟩
  · have e : bt s 0 = (bl s)[0]'(by rw [bl_length]; exact h0) := bt_nat s 0 h0
    rw [e]
    by_cases c : m < 0
    · simp [hb, c]
    · have hd : (bl s)[0]'(by rw [bl_length]; exact h0) ∈ dg m.natAbs := by
        simp only [hb, if_neg c, List.nil_append]
        exact List.getElem_mem _
      have := dg_digit _ _ hd
      omega
  · rw [hb]; split <;> simp

def spAcc (s : ByteArray) : Nat → Int → Int → Int → Int × Int
  | 0, _, n, c => (n, c)
  | d + 1, i, n, c => if 48 ≤ bt s i ∧ bt s i ≤ 57 then spAcc s d (i + 1) (n * 10 + (bt s i - 48)) (c + 1) else spAcc s d (i + 1) n c
theorem spAcc_all (s : ByteArray) : ∀ (d : Nat) (i n c : Int), allDig s d i = true → spAcc s d i n c = (dAcc s d i n, c + d)
  | 0, i, n, c, _ => by simp [spAcc, dAcc]
  | d + 1, i, n, c, h => by
    rw [allDig, Bool.and_eq_true, decide_eq_true_iff] at h
    rw [spAcc, if_pos h.1, spAcc_all s d _ _ _ h.2, dAcc]
    congr 1
    omega
theorem spAcc_range (s : ByteArray) : ∀ (d : Nat) (i n : Int) (c : Nat), 0 ≤ n → n < 10 ^ c → ∃ q : Nat, (spAcc s d i n c).2 = q ∧ c ≤ q ∧ q ≤ c + d ∧ 0 ≤ (spAcc s d i n c).1 ∧ (spAcc s d i n c).1 < 10 ^ q
  | 0, i, n, c, h0, h1 => ⟨c, rfl, by omega, by omega, h0, h1⟩
  | d + 1, i, n, c, h0, h1 => by
    rw [spAcc]
    split
    · rename_i h
      have h2 : n * 10 + (bt s i - 48) < 10 ^ (c + 1) := by rw [Int.pow_succ]; omega
      obtain ⟨q, h3, h4, h5, h6, h7⟩ := spAcc_range s d (i + 1) (n * 10 + (bt s i - 48)) (c + 1) (by omega) h2
      have e : ((c + 1 : Nat) : Int) = (c : Int) + 1 := by omega
      rw [e] at h3 h6 h7
      exact ⟨q, h3, by omega, by omega, h6, h7⟩
    · obtain ⟨q, h3, h4, h5, h6, h7⟩ := spAcc_range s d (i + 1) n c h0 h1
      exact ⟨q, h3, h4, by omega, h6, h7⟩
def spFin (s : ByteArray) (n c : Int) (b : Bool) : Int × Bool := if c > 9 then (0, false) else if (s.size : Int) > 10 then (0, false) else if (strOfNums (decV (if b = true then -n else n))).toList = s.toList then (if b = true then -n else n, true) else (0, false)
theorem spec_ReadDec_j2 (s : ByteArray) (n c : Int) (b : Bool) (h0 : 0 ≤ n) (h1 : n ≤ 100000000000) : Ev (fun k => spec_ReadDec.j2 k s n c b) (spFin s n c b) := by
  refine Ev.step (fun k => by rw [spec_ReadDec.j2]) ?_
  unfold spFin
  cases b with
  | true =>
    refine Ev.pos rfl ?_
    rw [w64 (by omega) (by omega)]
    simp only [if_true]
    by_cases c1 : c > 9
    · refine Ev.pos c1 ?_; rw [if_pos c1]; exact Ev.now _
    · refine Ev.neg c1 ?_; rw [if_neg c1]
      by_cases c2 : (s.size : Int) > 10
      · refine Ev.pos c2 ?_; rw [if_pos c2]; exact Ev.now _
      · refine Ev.neg c2 ?_; rw [if_neg c2]
        refine Ev.bind (spec_Dec_ev _ (by omega) (by omega)) ?_
        by_cases c3 : (strOfNums (decV (-n))).toList = s.toList
        · refine Ev.pos c3 ?_; rw [if_pos c3]; exact Ev.now _
        · refine Ev.neg c3 ?_; rw [if_neg c3]; exact Ev.now _
  | false =>
    refine Ev.neg (by simp) ?_
    simp only [Bool.false_eq_true, if_false]
    by_cases c1 : c > 9
    · refine Ev.pos c1 ?_; rw [if_pos c1]; exact Ev.now _
    · refine Ev.neg c1 ?_; rw [if_neg c1]
      by_cases c2 : (s.size : Int) > 10
      · refine Ev.pos c2 ?_; rw [if_pos c2]; exact Ev.now _
      · refine Ev.neg c2 ?_; rw [if_neg c2]
        refine Ev.bind (spec_Dec_ev _ (by omega) (by omega)) ?_
        by_cases c3 : (strOfNums (decV n)).toList = s.toList
        · refine Ev.pos c3 ?_; rw [if_pos c3]; exact Ev.now _
        · refine Ev.neg c3 ?_; rw [if_neg c3]; exact Ev.now _
theorem pow10_11 {k : Nat} (h : k ≤ 11) : (10 : Int) ^ k ≤ 100000000000 := by
  have h1 : 10 ^ k ≤ 10 ^ 11 := Nat.pow_le_pow_right (by decide) h
  have h2 : ((10 ^ k : Nat) : Int) = (10 : Int) ^ k := Int.natCast_pow 10 k
  have h3 : (10 : Nat) ^ 11 = 100000000000 := by decide
  omega
theorem spec_ReadDec_l0 (s : ByteArray) (hs : s.size ≤ 140737488351232) (D : Nat) (hD : D = min 11 s.size) (d : Nat) : ∀ (i n : Int) (c : Nat), 0 ≤ i → i + d = D → 0 ≤ n → n < 10 ^ c → c ≤ i →
    Ev (fun k => spec_ReadDec.l0 k s n c i) (spFin s (spAcc s d i n c).1 (spAcc s d i n c).2 (decide (0 < s.size) && decide (bt s 0 = 45))) := by
  induction d with
  | zero =>
    intro i n c hi hd hn hn2 hc
    have hp := pow10_11 (k := c) (by omega)
    have fin : Ev (fun k => spec_ReadDec.j1 k s n c i false) (spFin s n c (decide (0 < s.size) && decide (bt s 0 = 45))) := by
      refine Ev.step (fun k => by rw [spec_ReadDec.j1]) ?_
      refine Ev.neg (by simp) ?_
      by_cases z : 0 < s.size
      · refine Ev.pos (by omega) (Ev.pos (by omega) ?_)
        have e : (bt s 0 == 45) = (decide (0 < s.size) && decide (bt s 0 = 45)) := by
          rw [decide_eq_true z, Bool.true_and, Bool.eq_iff_iff, beq_iff_eq, decide_eq_true_iff]
        rw [e]
        exact spec_ReadDec_j2 s n c _ hn (by omega)
      · refine Ev.neg (by omega) ?_
        rw [decide_eq_false z, Bool.false_and]
        exact spec_ReadDec_j2 s n c _ hn (by omega)
    refine Ev.step (fun k => by rw [spec_ReadDec.l0]) ?_
    simp only [spAcc]
    by_cases q : i < (s.size : Int)
    · refine Ev.pos q ?_
      rw [decide_eq_false (show ¬ i < 11 by omega)]
      exact fin
    · exact Ev.neg q fin
  | succ d ih =>
    intro i n c hi hd hn hn2 hc
    have hp := pow10_11 (k := c) (by omega)
    have hb := bt_range s i
    refine Ev.step (fun k => by rw [spec_ReadDec.l0]) ?_
    refine Ev.pos (by omega) ?_
    rw [decide_eq_true (show i < 11 by omega)]
    refine Ev.step (fun k => by rw [spec_ReadDec.j1]) ?_
    refine Ev.pos rfl (Ev.pos (by omega) (Ev.pos (by omega) ?_))
    have e3 : wrap64 (i + 1) = i + 1 := w64 (by omega) (by omega)
    rw [e3, spAcc]
    by_cases c1 : 48 ≤ bt s i
    · refine Ev.pos c1 ?_
      by_cases c2 : bt s i ≤ 57
      · refine Ev.pos c2 ?_
        rw [if_pos ⟨c1, c2⟩]
        have e1 : wrap64 (wrap64 (n * 10) + (bt s i - 48) % 256) = n * 10 + (bt s i - 48) := by
          rw [w64 (x := n * 10) (by omega) (by omega), w64 (by omega) (by omega)]; omega
        have h2 : n * 10 + (bt s i - 48) < 10 ^ (c + 1) := by rw [Int.pow_succ]; omega
        have := ih (i + 1) (n * 10 + (bt s i - 48)) (c + 1) (by omega) (by omega) (by omega) h2 (by omega)
        have e2 : ((c + 1 : Nat) : Int) = (c : Int) + 1 := by omega
        rw [e2] at this
        rw [e1, w64 (x := (c : Int) + 1) (by omega) (by omega)]
        exact this
      · refine Ev.neg c2 ?_
        rw [if_neg (fun h => c2 h.2)]
        exact ih (i + 1) n c (by omega) (by omega) hn hn2 (by omega)
    · refine Ev.neg c1 ?_
      rw [if_neg (fun h => c1 h.1)]
      exact ih (i + 1) n c (by omega) (by omega) hn hn2 (by omega)
theorem spec_ReadDec_ev (s : ByteArray) (hs : s.size ≤ 140737488351232) : ∃ r, RdDec s r ∧ Ev (fun k => spec_ReadDec.f k s) r := by
  refine ⟨spFin s (spAcc s (min 11 s.size) 0 0 0).1 (spAcc s (min 11 s.size) 0 0 0).2 (decide (0 < s.size) && decide (bt s 0 = 45)), ⟨fun m hm => ?_, fun hno => ?_⟩, ?_⟩
  · obtain ⟨h0, h1, h2, h3⟩ := isDec_sign hm
    have h4 := dg_pos m.natAbs
    have h5 := dg_9 (n := m.natAbs) (by have := hm.1; have := hm.2.1; omega)
    have key : spAcc s (min 11 s.size) 0 0 0 = ((m.natAbs : Int), ((dg m.natAbs).length : Int)) := by
      by_cases c : m < 0
      · rw [if_pos c] at h2 h3
        have hall : allDig s (dg m.natAbs).length ((1 : Nat) : Int) = true := by
          rw [allDig_iff s _ 1 (by omega), h2, List.take_of_length_le (by omega)]
          exact dg_digit _
        have hval : dAcc s (dg m.natAbs).length ((1 : Nat) : Int) 0 = (m.natAbs : Int) := by
          rw [dAcc_list s _ 1 0 (by omega), h2, List.take_of_length_le (by omega)]
          exact dval_dg _
        have e : min 11 s.size = (dg m.natAbs).length + 1 := by omega
        have h45 := h1.2 c
        rw [e, spAcc, if_neg (by omega)]
        have e1 : (0 : Int) + 1 = ((1 : Nat) : Int) := by omega
        rw [e1, spAcc_all s _ _ _ _ hall, hval]
        congr 1
        omega
      · rw [if_neg c] at h2 h3
        have hall : allDig s (dg m.natAbs).length ((0 : Nat) : Int) = true := by
          rw [allDig_iff s _ 0 (by omega), h2, List.take_of_length_le (by omega)]
          exact dg_digit _
        have hval : dAcc s (dg m.natAbs).length ((0 : Nat) : Int) 0 = (m.natAbs : Int) := by
          rw [dAcc_list s _ 0 0 (by omega), h2, List.take_of_length_le (by omega)]
          exact dval_dg _
        have e : min 11 s.size = (dg m.natAbs).length := by omega
        have e1 : (0 : Int) = ((0 : Nat) : Int) := rfl
        rw [e]
        have := spAcc_all s (dg m.natAbs).length ((0 : Nat) : Int) 0 0 hall
        rw [hval] at this
        simpa using this
    rw [key]
    have hsz : s.size ≤ 10 := by split at h3 <;> omega
    unfold spFin
    rw [if_neg (by omega), if_neg (by omega), decide_eq_true h0, Bool.true_and]
    by_cases c : m < 0
    · rw [decide_eq_true (h1.2 c)]
      have e : -(m.natAbs : Int) = m := by omega
      simp only [if_true]
      rw [e, if_pos ((tl_iff _ _).2 hm.2.2.symm)]
    · rw [decide_eq_false (fun h => c (h1.1 h))]
      have e : (m.natAbs : Int) = m := by omega
      simp only [Bool.false_eq_true, if_false]
      rw [e, if_pos ((tl_iff _ _).2 hm.2.2.symm)]
  · obtain ⟨q, h3, h4, h5, h6, h7⟩ := spAcc_range s (min 11 s.size) 0 0 0 (by omega) (by simp)
    have e0 : ((0 : Nat) : Int) = 0 := rfl
    rw [e0] at h3 h6 h7
    unfold spFin
    split
    · rfl
    · rename_i hc
      split
      · rfl
      · rw [if_neg ?_]
        intro e
        have hp := pow10_9 (k := q) (by omega)
        refine hno _ ⟨?_, ?_, ((tl_iff _ _).1 e).symm⟩
        · split <;> omega
        · split <;> omega
  · exact spec_ReadDec_l0 s hs _ rfl (min 11 s.size) 0 0 0 (by omega) (by omega) (by omega) (by simp) (by omega)

theorem rd_mid (L R : List Int) (b : Int) : rd (L ++ b :: R) (L.length : Int) = b := by
  unfold rd
  rw [Int.toNat_natCast, List.getD_eq_getElem?_getD, List.getElem?_append_right (Nat.le_refl _)]
  simp
theorem swap_ends (A M B : List Int) (a b : Int) :
    ((A ++ (a :: (M ++ [b])) ++ B).set A.length (rd (A ++ (a :: (M ++ [b])) ++ B) ((A.length + M.length + 1 : Nat) : Int))).set (A.length + M.length + 1) (rd (A ++ (a :: (M ++ [b])) ++ B) (A.length : Int)) = (A ++ [b]) ++ M ++ (a :: B) := by
  have e1 : rd (A ++ (a :: (M ++ [b])) ++ B) ((A.length + M.length + 1 : Nat) : Int) = b := by
    have h := rd_mid (A ++ a :: M) B b
    have e : (A ++ a :: M) ++ b :: B = A ++ (a :: (M ++ [b])) ++ B := by simp
    have e' : ((A ++ a :: M).length : Int) = ((A.length + M.length + 1 : Nat) : Int) := by simp; omega
    rwa [e, e'] at h
  have e2 : rd (A ++ (a :: (M ++ [b])) ++ B) (A.length : Int) = a := by
    have h := rd_mid A (M ++ [b] ++ B) a
    have e : A ++ a :: (M ++ [b] ++ B) = A ++ (a :: (M ++ [b])) ++ B := by simp
    rwa [e] at h
  rw [e1, e2]
  have e3 : (A ++ (a :: (M ++ [b])) ++ B).set A.length b = (A ++ b :: M) ++ (b :: B) := by simp
  rw [e3, List.set_append_right _ _ (by simp; omega)]
  have e5 : A.length + M.length + 1 - (A ++ b :: M).length = 0 := by rw [List.length_append, List.length_cons]; omega
  rw [e5]; simp
theorem impl_Dec_l1 (d : Nat) : ∀ (A M B : List Int), M.length = d → A.length + M.length + B.length ≤ 1000 →
    Ev (fun k => impl_Dec.l1 k (A ++ M ++ B) (A.length : Int) ((A.length : Int) + M.length - 1)) (strOfNums (A ++ M.reverse ++ B)) := by
  induction d using Nat.strongRecOn with
  | ind d ih =>
  intro A M B hd hl
  refine Ev.step (fun k => by rw [impl_Dec.l1]) ?_
  by_cases c : M.length ≤ 1
  · refine Ev.neg (by omega) (Ev.val _ _ ?_)
    have : M.reverse = M := by
      match M, c with
      | [], _ => rfl
      | [x], _ => rfl
    rw [this]
  · obtain ⟨a, M', rfl⟩ : ∃ a M', M = a :: M' := by
      cases M with
      | nil => simp at c
      | cons a M' => exact ⟨a, M', rfl⟩
    obtain ⟨M'', b, rfl⟩ : ∃ M'' b, M' = M'' ++ [b] := by
      refine ⟨M'.dropLast, M'.getLast (by intro e; subst e; simp at c), ?_⟩
      exact (List.dropLast_concat_getLast _).symm
    simp only [List.length_cons, List.length_append, List.length_nil] at c hd hl
    have hlen : (A ++ (a :: (M'' ++ [b])) ++ B).length = A.length + M''.length + 2 + B.length := by simp; omega
    have ej : (A.length : Int) + ((a :: (M'' ++ [b])).length : Int) - 1 = ((A.length + M''.length + 1 : Nat) : Int) := by simp; omega
    rw [ej]
    refine Ev.pos (by omega) (Ev.pos (by omega) (Ev.pos (by rw [hlen]; omega) (Ev.pos (by omega) (Ev.pos (by rw [hlen]; omega) ?_))))
    rw [Int.toNat_natCast, Int.toNat_natCast, swap_ends, w64 (by omega) (by omega), w64 (by omega) (by omega)]
    have := ih M''.length (by omega) (A ++ [b]) M'' (a :: B) rfl (by simp; omega)
    have e1 : ((A ++ [b]).length : Int) = (A.length : Int) + 1 := by simp
    have e2 : ((A ++ [b]).length : Int) + M''.length - 1 = ((A.length + M''.length + 1 : Nat) : Int) - 1 := by simp; omega
    rw [e2, e1] at this
    have e3 : A ++ (a :: (M'' ++ [b])).reverse ++ B = A ++ [b] ++ M''.reverse ++ a :: B := by simp
    rw [e3]
    exact this
theorem impl_Dec_l0 (n : Nat) : ∀ (x0 x : Int) (xs : List Int), x.natAbs = n → -9223372036854775808 ≤ x → x ≤ 9223372036854775807 → xs.length + (decL n).length ≤ 20 →
    Ev (fun k => impl_Dec.l0 k x0 xs x) (strOfNums ((if x0 < 0 then [45] else []) ++ decL n ++ xs.reverse)) := by
  induction n using Nat.strongRecOn with
  | ind n ih =>
  intro x0 x xs hx h0 h1 hl
  refine Ev.step (fun k => by rw [impl_Dec.l0]) ?_
  by_cases c : x = 0
  · have : n = 0 := by omega
    subst this
    refine Ev.pos c ?_
    rw [decL_zero] at hl ⊢
    have fin : ∀ ys : List Int, ys.length ≤ 30 → Ev (fun k => impl_Dec.j1 k ys) (strOfNums ys.reverse) := by
      intro ys hy
      refine Ev.step (fun k => by rw [impl_Dec.j1]) ?_
      have := impl_Dec_l1 ys.length [] ys [] rfl (by simp; omega)
      rw [w64 (by omega) (by omega)]
      simpa using this
    by_cases m : x0 < 0
    · refine Ev.pos m (Ev.pos (by simp at hl; omega) ?_)
      have := fin (xs ++ [45]) (by simp at hl ⊢; omega)
      simpa [m] using this
    · refine Ev.neg m ?_
      have := fin xs (by simp at hl; omega)
      simpa [m] using this
  · have hn : n ≠ 0 := by omega
    obtain ⟨s1, s2, s3, s4, s5⟩ := dec_step x h0 h1 c
    rw [decL_pos hn, List.length_append] at hl
    have g := ih (n / 10) (by omega) x0 (wrap64 (Int.tdiv x 10)) (xs ++ [((48 + n % 10 : Nat) : Int)]) (by omega) s4 s5 (by simp at hl ⊢; omega)
    rw [decL_pos hn]
    have e : (if x0 < 0 then [45] else []) ++ (decL (n / 10) ++ [((48 + n % 10 : Nat) : Int)]) ++ xs.reverse = (if x0 < 0 then [45] else []) ++ decL (n / 10) ++ (xs ++ [((48 + n % 10 : Nat) : Int)]).reverse := by simp [List.append_assoc]
    rw [e]
    refine Ev.neg c ?_
    by_cases m : Int.tmod x 10 < 0
    · refine Ev.pos m (Ev.pos (by simp at hl; omega) ?_)
      rw [s1 m, hx]
      exact g
    · refine Ev.neg m (Ev.pos (by simp at hl; omega) ?_)
      rw [s2 m, hx]
      exact g
theorem impl_Dec_ev (x : Int) (h0 : -9223372036854775808 ≤ x) (h1 : x ≤ 9223372036854775807) : Ev (fun k => impl_Dec.f k x) (strOfNums (decV x)) := by
  unfold impl_Dec.f decV
  by_cases c : x = 0
  · rw [if_pos c]; exact Ev.pos c (Ev.now _)
  · rw [if_neg c]
    refine Ev.neg c ?_
    have := impl_Dec_l0 x.natAbs x x [] rfl h0 h1 (by simpa using decL_20 (by omega))
    by_cases m : x < 0
    · simpa [m] using this
    · simpa [m] using this

theorem impl_within_eq (a b c : Int) : impl_within.f a b c = some (decide (b ≤ a ∧ a ≤ c)) := by
  unfold impl_within.f
  by_cases h : a ≥ b
  · rw [if_pos h]; simp [show b ≤ a from h]
  · rw [if_neg h]; simp [show ¬ b ≤ a from h]

/-- what the loop comes to -/
def rdFin (s : ByteArray) (a n : Int) : Int × Bool := if a = 1 then (if (strOfNums (decV (-n))).toList = s.toList then (-n, true) else (0, false)) else (if (strOfNums (decV n)).toList = s.toList then (n, true) else (0, false))
theorem impl_ReadDec_l0 (s : ByteArray) (a : Int) (d : Nat) : ∀ (i n : Int) (e : Nat), 0 ≤ i → i + d = s.size → e + d ≤ 9 → 0 ≤ n → n < 10 ^ e → s.size ≤ 100 →
    Ev (fun k => impl_ReadDec.l0 k s a n i) (if allDig s d i = true then rdFin s a (dAcc s d i n) else (0, false)) := by
  induction d with
  | zero =>
    intro i n e hi hd he hn hn2 hs
    have hp := pow10_9 (k := e) (by omega)
    refine Ev.step (fun k => by rw [impl_ReadDec.l0]) ?_
    rw [if_pos (show allDig s 0 i = true from rfl)]
    refine Ev.neg (by omega) ?_
    rw [show dAcc s 0 i n = n from rfl]
    unfold rdFin
    by_cases c : a = 1
    · rw [if_pos c, w64 (by omega) (by omega)]
      refine Ev.pos c (Ev.bind (impl_Dec_ev _ (by omega) (by omega)) ?_)
      by_cases c2 : (strOfNums (decV (-n))).toList = s.toList
      · refine Ev.pos c2 ?_; rw [if_pos c2]; exact Ev.now _
      · refine Ev.neg c2 ?_; rw [if_neg c2]; exact Ev.now _
    · rw [if_neg c]
      refine Ev.neg c (Ev.bind (impl_Dec_ev _ (by omega) (by omega)) ?_)
      by_cases c2 : (strOfNums (decV n)).toList = s.toList
      · refine Ev.pos c2 ?_; rw [if_pos c2]; exact Ev.now _
      · refine Ev.neg c2 ?_; rw [if_neg c2]; exact Ev.now _
  | succ d ih =>
    intro i n e hi hd he hn hn2 hs
    have hp := pow10_9 (k := e) (by omega)
    refine Ev.step (fun k => by rw [impl_ReadDec.l0]) ?_
    refine Ev.pos (by omega) (Ev.pos (by omega) ?_)
    rw [allDig, dAcc]
    by_cases c : bt s i < 48
    · rw [if_neg (by simp; omega)]; exact Ev.pos c (Ev.now _)
    · refine Ev.neg c ?_
      by_cases c2 : bt s i > 57
      · rw [if_neg (by simp; omega)]; exact Ev.pos c2 (Ev.now _)
      · refine Ev.neg c2 ?_
        have e1 : wrap64 (wrap64 (10 * n) + (bt s i - 48) % 256) = n * 10 + (bt s i - 48) := by
          rw [w64 (x := 10 * n) (by omega) (by omega), w64 (by omega) (by omega)]; omega
        rw [e1, w64 (by omega) (by omega)]
        have h2 : n * 10 + (bt s i - 48) < 10 ^ (e + 1) := by rw [Int.pow_succ]; omega
        have := ih (i + 1) (n * 10 + (bt s i - 48)) (e + 1) (by omega) (by omega) (by omega) (by omega) h2 hs
        have e2 : (decide (48 ≤ bt s i ∧ bt s i ≤ 57) && allDig s d (i + 1)) = allDig s d (i + 1) := by
          rw [decide_eq_true (show 48 ≤ bt s i ∧ bt s i ≤ 57 by omega)]; rfl
        rw [e2]
        exact this
theorem rdFin_no (s : ByteArray) (a : Int) (n : Int) (h0 : 0 ≤ n) (h1 : n < 1000000000) (h : ∀ m, ¬ IsDec s m) : rdFin s a n = (0, false) := by
  unfold rdFin
  split
  · rw [if_neg ?_]
    intro e
    exact h (-n) ⟨by omega, by omega, ((tl_iff _ _).1 e).symm⟩
  · rw [if_neg ?_]
    intro e
    exact h n ⟨by omega, by omega, ((tl_iff _ _).1 e).symm⟩
theorem impl_ReadDec_ev (s : ByteArray) (hs : s.size ≤ 140737488351232) : ∃ r, RdDec s r ∧ Ev (fun k => impl_ReadDec.f k s) r := by
  have core : ∀ a : Nat, a ≤ 1 → a ≤ s.size → (∀ m, IsDec s m → (a = 1 ↔ m < 0)) → ∃ r, RdDec s r ∧ Ev (fun k => impl_ReadDec.j1 k s (a : Int)) r := by
    intro a ha has hsign
    by_cases c : 1 ≤ s.size - a ∧ s.size - a ≤ 9
    · refine ⟨if allDig s (s.size - a) (a : Int) = true then rdFin s a (dAcc s (s.size - a) a 0) else (0, false), ⟨fun m hm => ?_, fun hno => ?_⟩, ?_⟩
      · obtain ⟨_, _, h2, h3⟩ := isDec_sign hm
        have ea : (if m < 0 then 1 else 0) = a := by
          have := hsign m hm
          by_cases c : m < 0
          · rw [if_pos c]; omega
          · rw [if_neg c]; omega
        rw [ea] at h2 h3
        have hall : allDig s (s.size - a) (a : Int) = true := by
          rw [allDig_iff s _ a (by omega), h2, List.take_of_length_le (by omega)]
          exact dg_digit _
        have hval : dAcc s (s.size - a) a 0 = (m.natAbs : Int) := by
          rw [dAcc_list s _ a 0 (by omega), h2, List.take_of_length_le (by omega)]
          exact dval_dg _
        rw [if_pos hall, hval]
        unfold rdFin
        by_cases c : m < 0
        · have : a = 1 := (hsign m hm).2 c
          have e : -(m.natAbs : Int) = m := by omega
          rw [if_pos (by omega), e, if_pos ((tl_iff _ _).2 hm.2.2.symm)]
        · have : ¬ a = 1 := fun h => c ((hsign m hm).1 h)
          have e : (m.natAbs : Int) = m := by omega
          rw [if_neg (by omega), e, if_pos ((tl_iff _ _).2 hm.2.2.symm)]
      · split
        · rename_i hall
          have hr := dAcc_range s (s.size - a) a 0 0 hall (by omega) (by simp)
          have hp := pow10_9 (k := 0 + (s.size - a)) (by omega)
          exact rdFin_no s a _ hr.1 (by omega) hno
        · rfl
      · refine Ev.step (fun k => by rw [impl_ReadDec.j1]) ?_
        rw [w64 (by omega) (by omega)]
        refine Ev.bind0 (impl_within_eq _ _ _) (Ev.pos (by simp; omega) ?_)
        exact impl_ReadDec_l0 s a (s.size - a) a 0 0 (by omega) (by omega) (by omega) (by omega) (by simp) (by omega)
    · refine ⟨(0, false), ⟨fun m hm => ?_, fun _ => rfl⟩, ?_⟩
      · obtain ⟨_, _, h2, h3⟩ := isDec_sign hm
        have ea : (if m < 0 then 1 else 0) = a := by
          have := hsign m hm
          by_cases c : m < 0
          · rw [if_pos c]; omega
          · rw [if_neg c]; omega
        rw [ea] at h3
        have h4 := dg_pos m.natAbs
        have h5 := dg_9 (n := m.natAbs) (by have := hm.1; have := hm.2.1; omega)
        omega
      · refine Ev.step (fun k => by rw [impl_ReadDec.j1]) ?_
        rw [w64 (by omega) (by omega)]
        exact Ev.bind0 (impl_within_eq _ _ _) (Ev.neg (by simp; omega) (Ev.now _))
  unfold impl_ReadDec.f
  by_cases c : s.size = 0
  · obtain ⟨r, hr, he⟩ := core 0 (by omega) (by omega) (fun m hm => by have := (isDec_sign hm).1; omega)
    refine ⟨r, hr, Ev.neg (by omega) ?_⟩
    refine Ev.step (fun k => by rw [impl_ReadDec.j0]) ?_
    exact Ev.neg (by simp) he
  · by_cases c2 : bt s 0 = 45
    · obtain ⟨r, hr, he⟩ := core 1 (by omega) (by omega) (fun m hm => by have := (isDec_sign hm).2.1; simp [this.1 c2])
      refine ⟨r, hr, Ev.pos (by omega) (Ev.pos (by omega) ?_)⟩
      refine Ev.step (fun k => by rw [impl_ReadDec.j0]) ?_
      exact Ev.pos (by simpa using c2) he
    · obtain ⟨r, hr, he⟩ := core 0 (by omega) (by omega) (fun m hm => by have := (isDec_sign hm).2.1; exact ⟨fun h => by omega, fun h => absurd (this.2 h) c2⟩)
      refine ⟨r, hr, Ev.pos (by omega) (Ev.pos (by omega) ?_)⟩
      refine Ev.step (fun k => by rw [impl_ReadDec.j0]) ?_
      exact Ev.neg (by simpa using c2) he

theorem FnExactReadDec : laws_FnExactReadDec.Pure := by
  intro a0 h0
  refine Ev.rounds (g := fun k => laws_FnExactReadDec.f k a0) ?_
  unfold laws_FnExactReadDec.f
  by_cases c : (a0.size : Int) > 1048576
  · exact Ev.pos c (Ev.now _)
  · obtain ⟨r, hr, e1⟩ := spec_ReadDec_ev a0 h0
    obtain ⟨q, hq, e2⟩ := impl_ReadDec_ev a0 h0
    obtain rfl := rdDec_unique hr hq
    exact Ev.neg c (Ev.bind e1 (Ev.bind e2 (Ev.pos rfl (Ev.neg (by simp) (Ev.now _)))))

end Go.Proofs.Ytbebnkamepcabaa.Pure
