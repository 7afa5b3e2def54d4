/- The pure statement of the law FnExactReadRec is proved: for all arguments within the stated bounds the printed function answers true. Conditions: none beyond those bounds. -/
import Derived.Test.YtopnfbnfmaghaaaPFnExactReadRecx7
import Derived.Laws.BitsLemmas
import Derived.Lib.Strings
namespace Go.Proofs.Ytopnfbnfmaghaaa.Pure
open Go Go.RowKit Go.Proofs.Ytopnfbnfmaghaaa.PFnExactReadRec Go.Proofs.YtopnfbnfmaghaaaW.PrintWords Go.Proofs.YtopnfbnfmaghaaaW.PrintLast Go.Proofs.YtopnfbnfmaghaaaW.PrintMore
set_option linter.unusedVariables false
set_option linter.unusedSimpArgs false

/-! ### what Var makes -/
def varL (n : Nat) : List Int := if n < 128 then [(n : Int)] else ((n % 128 + 128 : Nat) : Int) :: varL (n / 128)
termination_by n
decreasing_by omega

/-! ### Base: rounds, whole numbers, bits, byte strings (no program in sight) -/
theorem Ev.pos {α : Type} {c : Prop} [Decidable c] {g f : Nat → Option α} {r : α} (h : c) (e : Ev g r) : Ev (fun k => if c then g k else f k) r := by
  simpa only [if_pos h] using e
theorem Ev.neg {α : Type} {c : Prop} [Decidable c] {g f : Nat → Option α} {r : α} (h : ¬ c) (e : Ev f r) : Ev (fun k => if c then g k else f k) r := by
  simpa only [if_neg h] using e
theorem Ev.val {α : Type} (r s : α) (h : r = s) : Ev (fun _ => some r) s := by subst h; exact Ev.now _
theorem Ev.val0 {α : Type} {o : Option α} {s : α} (h : o = some s) : Ev (fun _ => o) s := by subst h; exact Ev.now _
theorem Ev.bind0 {α β : Type} {o : Option α} {f : Nat → α → Option β} {a : α} {r : β} (h : o = some a) (k : Ev (fun n => f n a) r) : Ev (fun n => o.bind (f n)) r := by
  subst h; simpa only [Option.bind_some] using k
theorem Ev.and {α β : Type} {g : Nat → Option α} {f : Nat → Option β} {r : α} {s : β} (h : Ev g r) (k : Ev f s) : ∃ K, ∀ n, K ≤ n → g n = some r ∧ f n = some s := by
  obtain ⟨K, h⟩ := h
  obtain ⟨L, k⟩ := k
  exact ⟨max K L, fun n hn => ⟨h n (by omega), k n (by omega)⟩⟩

theorem Ev.ite {α : Type} {c d : Prop} [Decidable c] [Decidable d] {g f : Nat → Option α} {a b : α} (h : c ↔ d) (e : d → Ev g a) (e' : ¬ d → Ev f b) : Ev (fun k => if c then g k else f k) (if d then a else b) := by
  by_cases x : d
  · rw [if_pos x]; exact Ev.pos (h.2 x) (e x)
  · rw [if_neg x]; exact Ev.neg (fun y => x (h.1 y)) (e' x)
theorem w64 {x : Int} (h0 : -9223372036854775808 ≤ x) (h1 : x ≤ 9223372036854775807) : wrap64 x = x := by unfold wrap64; omega
theorem wf64 {x : Int} (h : (Lit.int .i64 x).wf = true) : -9223372036854775808 ≤ x ∧ x ≤ 9223372036854775807 := by
  simp [Lit.wf, IntKind.min, IntKind.max, IntKind.signed, IntKind.bits] at h
  omega
theorem tdiv_nn {x y : Int} (h : 0 ≤ x) : Int.tdiv x y = x / y := Int.tdiv_eq_ediv_of_nonneg h
theorem tmod_nn {x y : Int} (h : 0 ≤ x) : Int.tmod x y = x % y := Int.tmod_eq_emod_of_nonneg h

theorem wraps_i64 (n : Int) (h₀ : 0 ≤ n) (h₁ : n < 2 ^ 63) : IntKind.i64.wrap n = n := by rw [IntKind.wrap_i64]; omega
theorem and_mask (i : Nat) (hi : i ≤ 63) (x : Int) (h0 : 0 ≤ x) (h1 : x < 9223372036854775808) : Go.bits .and .i64 x (2 ^ i - 1) = x % 2 ^ i :=
  bits_mask .i64 63 (by decide) wraps_i64 i hi x h0 h1
theorem and127 {x : Int} (h0 : 0 ≤ x) (h1 : x < 9223372036854775808) : Go.bits .and .i64 x 127 = x % 128 := and_mask 7 (by decide) x h0 h1
theorem and255 {x : Int} (h0 : 0 ≤ x) (h1 : x < 9223372036854775808) : Go.bits .and .i64 x 255 = x % 256 := and_mask 8 (by decide) x h0 h1
theorem and1 {x : Int} (h0 : 0 ≤ x) (h1 : x < 9223372036854775808) : Go.bits .and .i64 x 1 = x % 2 := and_mask 1 (by decide) x h0 h1
theorem or_join (i : Nat) (x y : Int) (hx : 0 ≤ x) (hm : x % 2 ^ i = 0) (hx1 : x < 9223372036854775808) (hy : 0 ≤ y) (hy1 : y < 2 ^ i) (hy2 : y < 9223372036854775808) : Go.bits .or .i64 x y = x + y :=
  bits_join .i64 63 (by decide) wraps_i64 i x y hx hm hx1 hy hy1 hy2
theorem bits_or_comm (k : IntKind) (x y : Int) : Go.bits .or k x y = Go.bits .or k y x := by simp only [Go.bits, BitVec.or_comm]
theorem or_join' (i : Nat) (x y : Int) (hx : 0 ≤ x) (hm : x % 2 ^ i = 0) (hx1 : x < 9223372036854775808) (hy : 0 ≤ y) (hy1 : y < 2 ^ i) (hy2 : y < 9223372036854775808) : Go.bits .or .i64 y x = x + y := by
  rw [bits_or_comm]; exact or_join i x y hx hm hx1 hy hy1 hy2
theorem u8_and127 {x : Int} (h0 : 0 ≤ x) (h1 : x < 256) : Go.bits .and .u8 x 127 = x % 128 := bits_mask .u8 8 (by decide) wraps_u8 7 (by decide) x h0 h1
theorem bits_xor_nat (a b : Nat) (ha : a < 2 ^ 63) (hb : b < 2 ^ 63) : Go.bits .xor .i64 a b = ((a ^^^ b : Nat) : Int) := by
  have hp : 2 ^ 63 ≤ 2 ^ IntKind.i64.bits := Nat.pow_le_pow_right (by decide) (by decide)
  have ha' : a % 2 ^ IntKind.i64.bits = a := Nat.mod_eq_of_lt (Nat.lt_of_lt_of_le ha hp)
  have hb' : b % 2 ^ IntKind.i64.bits = b := Nat.mod_eq_of_lt (Nat.lt_of_lt_of_le hb hp)
  simp only [Go.bits, BitVec.ofInt_natCast, BitVec.toNat_xor, BitVec.toNat_ofNat, ha', hb']
  exact wraps_i64 _ (Int.natCast_nonneg _) (by exact_mod_cast Nat.xor_lt_two_pow ha hb)

theorem wbt (s : ByteArray) (i : Int) : wrap64 (bt s i) = bt s i := by have := bt_range s i; exact w64 (by omega) (by omega)
theorem toList_eq {s t : ByteArray} (h : s = t) : s.toList = t.toList := by rw [h]
theorem strOf_append (xs ys : List Int) : strOfNums xs ++ strOfNums ys = strOfNums (xs ++ ys) := by
  apply ByteArray.ext
  rw [ByteArray.data_append]
  simp [strOfNums]
theorem strOf_size (xs : List Int) : (strOfNums xs).size = xs.length := by simp [strOfNums, ByteArray.size]
theorem strOf_nil : (⟨#[]⟩ : ByteArray) = strOfNums [] := rfl
theorem cast_pow256 (d : Nat) : ((256 ^ d : Nat) : Int) = (256 : Int) ^ d := Int.natCast_pow 256 d
theorem lt_pow256 (m d : Nat) : ((m : Int) < 256 ^ d) = (m < 256 ^ d) := by
  rw [← cast_pow256]; exact propext Int.ofNat_lt
theorem pow256_six (i : Int) (h0 : 0 ≤ i) (h1 : i ≤ 6) : (256 : Int) ^ i.toNat ≤ 281474976710656 := by
  obtain rfl | rfl | rfl | rfl | rfl | rfl | rfl : i = 0 ∨ i = 1 ∨ i = 2 ∨ i = 3 ∨ i = 4 ∨ i = 5 ∨ i = 6 := by omega
  all_goals decide

/-! ### Str: a byte string as the list of its numbers -/
def IsB (xs : List Int) : Prop := ∀ x ∈ xs, 0 ≤ x ∧ x ≤ 255
def bl (s : ByteArray) : List Int := s.data.toList.map fun b => (b.toNat : Int)
theorem bl_isB (s : ByteArray) : IsB (bl s) := by
  intro x hx
  simp only [bl, List.mem_map] at hx
  obtain ⟨b, _, rfl⟩ := hx
  have := b.toNat_lt
  omega
theorem bl_length (s : ByteArray) : (bl s).length = s.size := by unfold bl; rw [List.length_map]; rfl
theorem strOf_bl (s : ByteArray) : strOfNums (bl s) = s := by
  apply ByteArray.ext
  apply Array.ext'
  unfold strOfNums bl
  rw [List.map_map]
  have : ((fun n : Int => UInt8.ofNat n.toNat) ∘ fun b : UInt8 => (b.toNat : Int)) = id := by
    funext b
    simp only [Function.comp_apply, Int.toNat_natCast, UInt8.ofNat_toNat, id]
  rw [this, List.map_id]
theorem bl_strOf {xs : List Int} (h : IsB xs) : bl (strOfNums xs) = xs := by
  induction xs with
  | nil => rfl
  | cons a l ih =>
    have ha := h a (by simp)
    have hl := ih (fun x hx => h x (by simp [hx]))
    simp only [bl, strOfNums, List.map_cons, List.toList_toArray] at hl ⊢
    rw [hl]
    congr 1
    simp only [UInt8.toNat_ofNat']
    omega
theorem bl_append (s t : ByteArray) : bl (s ++ t) = bl s ++ bl t := by simp [bl, ByteArray.data_append]
theorem bl_extract (s : ByteArray) (a b : Nat) : bl (s.extract a b) = ((bl s).drop a).take (b - a) := by
  simp [bl, ByteArray.data_extract, List.extract_eq_take_drop, List.map_take, List.map_drop]
theorem bl_inj {s t : ByteArray} (h : bl s = bl t) : s = t := by rw [← strOf_bl s, ← strOf_bl t, h]
theorem tl_iff (s t : ByteArray) : s.toList = t.toList ↔ s = t := by
  constructor
  · intro h
    rw [Go.Lib.toList_data, Go.Lib.toList_data] at h
    exact ByteArray.ext (Array.ext' h)
  · intro h; rw [h]
theorem bt_bl (s : ByteArray) (i : Int) : bt s i = rd (bl s) i := by
  unfold bt rd bl
  split
  · rename_i h
    have h' : i.toNat < s.data.toList.length := h
    rw [List.getD_eq_getElem?_getD, List.getElem?_map, List.getElem?_eq_getElem h']
    simp only [Option.map_some, Option.getD_some]
    rfl
  · rename_i h
    have h' : ¬ i.toNat < s.data.toList.length := h
    rw [List.getD_eq_getElem?_getD, List.getElem?_map, List.getElem?_eq_none (by omega)]
    rfl
theorem bt_nat (s : ByteArray) (i : Nat) (h : i < s.size) : bt s (i : Int) = (bl s)[i]'(by rw [bl_length]; exact h) := by
  rw [bt_bl]
  unfold rd
  rw [Int.toNat_natCast, List.getD_eq_getElem?_getD, List.getElem?_eq_getElem (by rw [bl_length]; exact h)]
  rfl
theorem isB_nil : IsB [] := fun _ h => by cases h
theorem isB_append {xs ys : List Int} (h : IsB xs) (k : IsB ys) : IsB (xs ++ ys) := fun x hx => (List.mem_append.1 hx).elim (h x) (k x)
theorem isB_cons {x : Int} {ys : List Int} (h : 0 ≤ x ∧ x ≤ 255) (k : IsB ys) : IsB (x :: ys) := by
  intro y hy
  rcases List.mem_cons.1 hy with e | e
  · subst e; exact h
  · exact k y e
theorem strOf_inj {xs ys : List Int} (h : IsB xs) (k : IsB ys) (e : strOfNums xs = strOfNums ys) : xs = ys := by
  rw [← bl_strOf h, ← bl_strOf k, e]
instance instDecEqBytes : DecidableEq ByteArray := fun a b => decidable_of_iff (a.toList = b.toList) (tl_iff a b)
instance instDecMemBytes (x : ByteArray) : (l : List ByteArray) → Decidable (x ∈ l)
  | [] => .isFalse (by simp)
  | y :: l => if h : x = y then .isTrue (by simp [h]) else (match instDecMemBytes x l with
    | .isTrue k => .isTrue (by simp [k])
    | .isFalse k => .isFalse (by simp [h, k]))

theorem varL_small {n : Nat} (h : n < 128) : varL n = [(n : Int)] := by rw [varL, if_pos h]
theorem varL_big {n : Nat} (h : ¬ n < 128) : varL n = ((n % 128 + 128 : Nat) : Int) :: varL (n / 128) := by rw [varL, if_neg h]
theorem varL_isB (n : Nat) : IsB (varL n) := by
  induction n using Nat.strongRecOn with
  | ind n ih =>
  by_cases c : n < 128
  · rw [varL_small c]; exact isB_cons (by omega) isB_nil
  · rw [varL_big c]; exact isB_cons (by omega) (ih _ (by omega))
theorem varL_pos (n : Nat) : 0 < (varL n).length := by
  rw [varL]; split <;> simp
/-- All bytes but the last are 128 or more; the last is less. -/
theorem varL_shape (n : Nat) : ∀ (j : Nat) (h : j < (varL n).length), (j + 1 = (varL n).length → (varL n)[j] < 128) ∧ (j + 1 < (varL n).length → 128 ≤ (varL n)[j]) := by
  induction n using Nat.strongRecOn with
  | ind n ih =>
  intro j h
  by_cases c : n < 128
  · have e := varL_small c
    simp only [e, List.length_singleton] at h ⊢
    obtain rfl : j = 0 := by omega
    simp
    omega
  · have e := varL_big c
    simp only [e, List.length_cons] at h ⊢
    cases j with
    | zero =>
      have := varL_pos (n / 128)
      simp only [List.getElem_cons_zero]
      exact ⟨fun k => by omega, fun _ => by omega⟩
    | succ j =>
      simp only [List.getElem_cons_succ]
      have := ih (n / 128) (by omega) j (by omega)
      exact ⟨fun k => this.1 (by omega), fun k => this.2 (by omega)⟩
/-- A beginning of a text that is a Var: where the bytes are less than 128. -/
theorem var_at {s : ByteArray} {n k : Nat} (hk : k ≤ s.size) (h : (strOfNums (varL n)).toList = (s.extract 0 k).toList) :
    0 < k ∧ ∀ j, j < k → (j + 1 = k → bt s (j : Int) < 128) ∧ (j + 1 < k → 128 ≤ bt s (j : Int)) := by
  have e := (tl_iff _ _).1 h
  have e2 : varL n = (bl s).take k := by
    have := congrArg bl e
    rw [bl_strOf (varL_isB n), bl_extract] at this
    simpa using this
  have hl : (varL n).length = k := by rw [e2, List.length_take, bl_length]; omega
  refine ⟨by have := varL_pos n; omega, fun j hj => ?_⟩
  have hs := varL_shape n j (by omega)
  have hb : bt s (j : Int) = (varL n)[j]'(by omega) := by
    rw [bt_nat s j (by omega)]
    simp only [e2, List.getElem_take]
  rw [hb]
  exact ⟨fun h => hs.1 (by omega), fun h => hs.2 (by omega)⟩

/-! ### what ReadVar tells -/
def lev (s : ByteArray) : Nat → Nat
  | 0 => 0
  | k + 1 => lev s k + ((bt s (k : Int)).toNat % 128) * 128 ^ k
theorem lev_lt (s : ByteArray) : ∀ k, lev s k < 128 ^ k
  | 0 => by simp [lev]
  | k + 1 => by
    have h := lev_lt s k
    have h2 : (bt s (k : Int)).toNat % 128 ≤ 127 := by omega
    have h3 : ((bt s (k : Int)).toNat % 128) * 128 ^ k ≤ 127 * 128 ^ k := Nat.mul_le_mul_right _ h2
    rw [lev, Nat.pow_succ]
    omega
theorem lev_le {s : ByteArray} {k : Nat} (h : k ≤ 7) : lev s k ≤ 562949953421311 := by
  have h1 := lev_lt s k
  have h2 : 128 ^ k ≤ 128 ^ 7 := Nat.pow_le_pow_right (by decide) h
  have h3 : (128 : Nat) ^ 7 = 562949953421312 := by decide
  omega
def isVarAt (s : ByteArray) (k : Nat) : Prop := (strOfNums (varL (lev s k))).toList = (s.extract 0 k).toList
instance (s : ByteArray) (k : Nat) : Decidable (isVarAt s k) := inferInstanceAs (Decidable (_ = _))
/-- The first byte below 128 ends it. -/
def rvFrom (s : ByteArray) : Nat → Nat → Int × Int
  | 0, _ => (0, 0)
  | d + 1, i => if i < s.size then (if bt s (i : Int) < 128 then (if isVarAt s (i + 1) then ((lev s (i + 1) : Nat), ((i + 1 : Nat) : Int)) else (0, 0)) else rvFrom s d (i + 1)) else (0, 0)
/-- What ReadVar(s) is. -/
def readVarV (s : ByteArray) : Int × Int := rvFrom s 7 0
/-- Each beginning is tried. -/
def rvTry (s : ByteArray) : Nat → Nat → Int × Int
  | 0, _ => (0, 0)
  | d + 1, i => if i < s.size then (if isVarAt s (i + 1) then ((lev s (i + 1) : Nat), ((i + 1 : Nat) : Int)) else rvTry s d (i + 1)) else (0, 0)
theorem rvTry_none (s : ByteArray) (j : Nat) (hj : bt s (j : Int) < 128) : ∀ (d i : Nat), j < i → rvTry s d i = (0, 0)
  | 0, _, _ => rfl
  | d + 1, i, h => by
    rw [rvTry]
    split
    · rename_i hi
      rw [if_neg ?_]
      · exact rvTry_none s j hj d (i + 1) (by omega)
      · intro hv
        have := ((var_at (by omega) hv).2 j (by omega)).2 (by omega)
        omega
    · rfl
theorem rv_same (s : ByteArray) : ∀ (d i : Nat), rvTry s d i = rvFrom s d i
  | 0, _ => rfl
  | d + 1, i => by
    rw [rvTry, rvFrom]
    split
    · rename_i hi
      by_cases c : bt s (i : Int) < 128
      · rw [if_pos c]
        split
        · rfl
        · exact rvTry_none s i c d (i + 1) (by omega)
      · rw [if_neg c, if_neg ?_]
        · exact rv_same s d (i + 1)
        · intro hv
          have := ((var_at (by omega) hv).2 i (by omega)).1 rfl
          omega
    · rfl

theorem varL_le7 {n : Nat} (h : n ≤ 562949953421311) : (varL n).length ≤ 7 := by
  have : ∀ (k n : Nat), n < 128 ^ (k + 1) → (varL n).length ≤ k + 1 := by
    intro k
    induction k with
    | zero => intro n h; rw [varL_small (by simpa using h)]; simp
    | succ k ih =>
      intro n h
      by_cases c : n < 128
      · rw [varL_small c]; simp
      · rw [varL_big c]
        have := ih (n / 128) (by rw [Nat.pow_succ] at h; omega)
        simpa using this
  exact this 6 n (by omega)

/-! a number's bytes are read as it -/
def levL : List Int → Nat
  | [] => 0
  | b :: l => b.toNat % 128 + 128 * levL l
theorem levL_snoc (l : List Int) (b : Int) : levL (l ++ [b]) = levL l + (b.toNat % 128) * 128 ^ l.length := by
  induction l with
  | nil => simp [levL]
  | cons a l ih =>
    simp only [List.cons_append, levL, ih, List.length_cons, Nat.pow_succ]
    rw [Nat.mul_add, Nat.mul_comm 128 (b.toNat % 128 * 128 ^ l.length), Nat.mul_assoc, Nat.add_assoc]
theorem lev_list (s : ByteArray) : ∀ (k : Nat), k ≤ s.size → lev s k = levL ((bl s).take k)
  | 0, _ => by simp [lev, levL]
  | k + 1, h => by
    have hk : k < (bl s).length := by rw [bl_length]; omega
    rw [lev, lev_list s k (by omega), List.take_succ_eq_append_getElem hk, levL_snoc, List.length_take, Nat.min_eq_left (by omega), bt_nat s k (by omega)]
theorem levL_varL (n : Nat) : levL (varL n) = n := by
  induction n using Nat.strongRecOn with
  | ind n ih =>
    by_cases c : n < 128
    · rw [varL_small c]; simp only [levL]; omega
    · rw [varL_big c]; simp only [levL]; rw [ih (n / 128) (by omega)]; omega
theorem rv_varL {s : ByteArray} {n : Nat} (hn : n ≤ 562949953421311) {xs : List Int} (e : bl s = varL n ++ xs) : readVarV s = ((n : Int), (((varL n).length : Nat) : Int)) := by
  have h7 := varL_le7 hn
  have hp := varL_pos n
  have hs : s.size = (varL n).length + xs.length := by rw [← bl_length, e, List.length_append]
  have et : (bl s).take (varL n).length = varL n := by rw [e, List.take_left' rfl]
  have hl : lev s (varL n).length = n := by rw [lev_list s _ (by omega), et, levL_varL]
  have hv : isVarAt s (varL n).length := by
    unfold isVarAt
    rw [hl]
    have : strOfNums (varL n) = s.extract 0 (varL n).length := by
      apply bl_inj
      rw [bl_strOf (varL_isB n), bl_extract, List.drop_zero, Nat.sub_zero, et]
    rw [this]
  have hb : ∀ j (h : j < (varL n).length), bt s (j : Int) = (varL n)[j] := by
    intro j h
    have hj : j < s.size := by omega
    rw [bt_nat s j hj]
    simp only [e]
    rw [List.getElem_append_left h]
  have key : ∀ d i, i + d = (varL n).length → 0 < d → ∀ f, d ≤ f → rvFrom s f i = ((n : Int), (((varL n).length : Nat) : Int)) := by
    intro d
    induction d with
    | zero => intro i _ h; omega
    | succ d ih =>
      intro i hi _ f hf
      obtain ⟨f, rfl⟩ : ∃ g, f = g + 1 := ⟨f - 1, by omega⟩
      have sh := varL_shape n i (by omega)
      rw [rvFrom, if_pos (by omega), hb i (by omega)]
      by_cases c : i + 1 = (varL n).length
      · rw [if_pos (sh.1 c), c, if_pos hv, hl]
      · have := sh.2 (by omega)
        rw [if_neg (by omega)]
        exact ih (i + 1) (by omega) (by omega) f (by omega)
  exact key (varL n).length 0 (by omega) hp 7 h7
theorem rv_cases (s : ByteArray) : ∀ (d i : Nat), i + d ≤ 7 → (rvFrom s d i).2 = 0 ∨ ∃ k, k ≤ 7 ∧ k ≤ s.size ∧ rvFrom s d i = (((lev s k : Nat) : Int), (k : Int)) ∧ isVarAt s k
  | 0, _, _ => .inl rfl
  | d + 1, i, h => by
    rw [rvFrom]
    split
    · split
      · split
        · rename_i c
          exact .inr ⟨i + 1, by omega, by omega, rfl, c⟩
        · exact .inl rfl
      · exact rv_cases s d (i + 1) (by omega)
    · exact .inl rfl

/-! ### what is left of a text -/
abbrev tl (s : ByteArray) (a : Nat) : ByteArray := s.extract a s.size
theorem tl_bl (s : ByteArray) (a : Nat) : bl (tl s a) = (bl s).drop a := by
  rw [bl_extract, List.take_of_length_le (by rw [List.length_drop, bl_length]; omega)]
theorem tl_size (s : ByteArray) (a : Nat) : (tl s a).size = s.size - a := by
  rw [← bl_length, tl_bl, List.length_drop, bl_length]
theorem tl_tl (s : ByteArray) (a b : Nat) : tl (tl s a) b = tl s (a + b) := by
  apply bl_inj
  rw [tl_bl, tl_bl, tl_bl, List.drop_drop]
theorem rv_range (s : ByteArray) : 0 ≤ (readVarV s).2 ∧ (readVarV s).2 ≤ s.size ∧ (readVarV s).2 ≤ 7 ∧ ((readVarV s).2 ≠ 0 → 0 ≤ (readVarV s).1 ∧ (readVarV s).1 ≤ 562949953421311) := by
  rcases rv_cases s 7 0 (by omega) with h | ⟨k, h7, hs, e, _⟩
  · have h' : (readVarV s).2 = 0 := h
    rw [h']; exact ⟨by omega, by omega, by omega, fun h => absurd rfl h⟩
  · have e' : readVarV s = (((lev s k : Nat) : Int), (k : Int)) := e
    rw [e']
    have := lev_le (s := s) h7
    exact ⟨by simp only; omega, by simp only; omega, by simp only; omega, fun _ => ⟨by simp only; omega, by simp only; omega⟩⟩

theorem size_zero (s : ByteArray) : s.size = 0 ↔ s = ⟨#[]⟩ := by
  constructor
  · intro h
    apply bl_inj
    have : (bl s).length = 0 := by rw [bl_length]; exact h
    rw [List.eq_nil_of_length_eq_zero this]; rfl
  · intro h; subst h; rfl
theorem tl_nil (s : ByteArray) : (s.toList == ([] : List UInt8)) = decide (s.size = 0) := by
  have e : ([] : List UInt8) = (⟨#[]⟩ : ByteArray).toList := by rw [Go.Lib.toList_data]
  rw [e, Bool.eq_iff_iff, beq_iff_eq, tl_iff, decide_eq_true_iff, size_zero]
theorem tl_nil' (s : ByteArray) : (s.toList = ([] : List UInt8)) = (s.size = 0) := by
  have e : ([] : List UInt8) = (⟨#[]⟩ : ByteArray).toList := by rw [Go.Lib.toList_data]
  rw [e, tl_iff, size_zero]

abbrev baseP (i t : Int) : Prop := (i = 0 ∧ t = 0) ∨ (1 ≤ i ∧ i ≤ 100000 ∧ 1 ≤ t ∧ t ≤ 100000)
abbrev recOkP (kd tm ix vt : Int) (n : Nat) : Prop :=
  (kd = 1 ∧ 0 ≤ tm ∧ tm ≤ 100000 ∧ -1 ≤ vt ∧ vt ≤ 4 ∧ ix = 0 ∧ n = 0) ∨ (kd = 2 ∧ 1 ≤ tm ∧ tm ≤ 100000 ∧ 1 ≤ ix ∧ ix ≤ 100000 ∧ vt = 0 ∧ n ≤ 900) ∨
  (kd = 3 ∧ tm = 0 ∧ 1 ≤ ix ∧ ix ≤ 100000 ∧ vt = 0 ∧ n = 0) ∨ (kd = 4 ∧ baseP ix tm ∧ vt = 0 ∧ n = 0)

/-- What ShowRec(r) is. -/
def showRecV (kd tm ix vt : Int) (d : ByteArray) : ByteArray := if recOkP kd tm ix vt d.size then strOfNums ([kd] ++ varL tm.toNat ++ varL ix.toNat ++ varL (vt + 1).toNat) ++ d else strOfNums []

abbrev RecT := Int × Int × Int × Int × ByteArray × Bool
def zeroR : RecT := (0, 0, 0, 0, ⟨#[]⟩, false)
def rrEnd (s : ByteArray) (p q v : Int × Int) (d : ByteArray) : RecT :=
  if (showRecV (bt s 0) p.1 q.1 (v.1 - 1) d).toList = s.toList then (bt s 0, p.1, q.1, v.1 - 1, d, true) else zeroR
def readRecV (s : ByteArray) : RecT :=
  if s.size = 0 then zeroR
  else
    let p := readVarV (tl s 1)
    let q := readVarV (tl s (1 + p.2.toNat))
    let v := readVarV (tl s (1 + p.2.toNat + q.2.toNat))
    if p.2 = 0 then zeroR else if q.2 = 0 then zeroR else if v.2 = 0 then zeroR else rrEnd s p q v (tl s (1 + p.2.toNat + q.2.toNat + v.2.toNat))
theorem showRecV_size (kd tm ix vt : Int) (d : ByteArray) : (showRecV kd tm ix vt d).size ≤ 922 := by
  unfold showRecV
  split
  · rename_i c
    have h1 := varL_le7 (n := tm.toNat) (by unfold recOkP baseP at c; omega)
    have h2 := varL_le7 (n := ix.toNat) (by unfold recOkP baseP at c; omega)
    have h3 := varL_le7 (n := (vt + 1).toNat) (by unfold recOkP baseP at c; omega)
    have hd : d.size ≤ 900 := by unfold recOkP at c; omega
    rw [ByteArray.size_append, strOf_size]
    simp only [List.length_append, List.length_singleton]
    omega
  · rw [strOf_size]; simp
theorem rrEnd_large {s : ByteArray} (hs : 2000 < s.size) (p q v : Int × Int) (d : ByteArray) : rrEnd s p q v d = zeroR := by
  unfold rrEnd
  rw [if_neg]
  intro h
  have h2 := showRecV_size (bt s 0) p.1 q.1 (v.1 - 1) d
  rw [(tl_iff _ _).1 h] at h2
  omega

theorem spec_l1In_eq (a b c : Int) : spec_l1In.f a b c = some (decide (b ≤ a ∧ a ≤ c)) := by
  unfold spec_l1In.f
  by_cases h : a ≥ b
  · rw [if_pos h]; simp [show b ≤ a from h]
  · rw [if_neg h]; simp [show ¬ b ≤ a from h]

theorem spec_Var_l0 (n : Nat) : ∀ (xs : List Int), xs.length + n / 128 < 140737488355328 → n < 9223372036854775808 →
    Ev (fun k => spec_Var.l0 k (n : Int) xs) (strOfNums (xs ++ varL n)) := by
  induction n using Nat.strongRecOn with
  | ind n ih =>
  intro xs h1 h2
  refine Ev.step (fun k => by rw [spec_Var.l0]) ?_
  rw [varL]
  by_cases c : n < 128
  · rw [if_pos c]
    refine Ev.neg (by omega) (Ev.pos (by omega) (Ev.val _ _ ?_))
    rw [Int.emod_eq_of_lt (by omega) (by omega)]
  · rw [if_neg c]
    refine Ev.pos (by omega) (Ev.pos (by omega) ?_)
    have e1 : wrap64 (Int.tdiv (n : Int) 128) = ((n / 128 : Nat) : Int) := by rw [tdiv_nn (by omega), w64 (by omega) (by omega)]; omega
    have e2 : (wrap64 (128 + Int.tmod (n : Int) 128)) % 256 = ((n % 128 + 128 : Nat) : Int) := by rw [tmod_nn (by omega), w64 (by omega) (by omega)]; omega
    rw [e1, e2]
    have := ih (n / 128) (by omega) (xs ++ [((n % 128 + 128 : Nat) : Int)]) (by simp; omega) (by omega)
    simpa [List.append_assoc] using this
theorem spec_Var_in (n : Nat) (h : n ≤ 562949953421311) : Ev (fun k => spec_Var.f k (n : Int)) (strOfNums (varL n)) := by
  unfold spec_Var.f
  refine Ev.bind0 (spec_l1In_eq _ _ _) (Ev.pos (by simp; omega) ?_)
  simpa using spec_Var_l0 n [] (by simp; omega) (by omega)
theorem spec_Var_out (x : Int) (h : ¬ (0 ≤ x ∧ x ≤ 562949953421311)) : Ev (fun k => spec_Var.f k x) (strOfNums []) := by
  unfold spec_Var.f
  exact Ev.bind0 (spec_l1In_eq _ _ _) (Ev.neg (by simp; omega) (Ev.val _ _ rfl))

theorem spec_ReadVar_l1 (s : ByteArray) (x4 : Int) (r : Int × Int) (m : Nat) : ∀ (n e : Nat), n < 128 ^ e → e + m ≤ 7 → m ≤ s.size →
    Ev (fun k => spec_ReadVar.l1 k s x4 ((n * 128 ^ m + lev s m : Nat) : Int) (-1)) r → Ev (fun k => spec_ReadVar.l1 k s x4 (n : Int) ((m : Int) - 1)) r := by
  induction m with
  | zero =>
    intro n e hn he hm h
    simpa [lev] using h
  | succ m ih =>
    intro n e hn he hm h
    have hb := bt_range s (m : Int)
    have h7 : 128 ^ e ≤ 128 ^ 6 := Nat.pow_le_pow_right (by decide) (by omega)
    have h6 : (128 : Nat) ^ 6 = 4398046511104 := by decide
    refine Ev.step (fun k => by rw [spec_ReadVar.l1]) ?_
    have e0 : ((m + 1 : Nat) : Int) - 1 = (m : Int) := by omega
    rw [e0]
    refine Ev.pos (by omega) (Ev.pos (by omega) (Ev.pos (by omega) ?_))
    have e1 : wrap64 (wrap64 ((n : Int) * 128) + Int.tmod (wrap64 (bt s (m : Int))) 128) = ((n * 128 + (bt s (m : Int)).toNat % 128 : Nat) : Int) := by
      rw [wbt, tmod_nn (by omega), w64 (x := (n : Int) * 128) (by omega) (by omega), w64 (by omega) (by omega)]
      omega
    rw [e1, w64 (by omega) (by omega)]
    refine ih _ (e + 1) (by rw [Nat.pow_succ]; omega) (by omega) (by omega) ?_
    have e2 : (n * 128 + (bt s (m : Int)).toNat % 128) * 128 ^ m + lev s m = n * 128 ^ (m + 1) + lev s (m + 1) := by
      rw [lev, Nat.pow_succ, Nat.add_mul, Nat.mul_assoc, Nat.mul_comm 128 (128 ^ m)]
      omega
    rw [e2]
    exact h
theorem spec_ReadVar_l0 (s : ByteArray) (hs : s.size ≤ 140737488351232) (d : Nat) : ∀ (i : Nat), i + d = 7 → Ev (fun k => spec_ReadVar.l0 k s ((i + 1 : Nat) : Int)) (rvTry s d i) := by
  induction d with
  | zero =>
    intro i hi
    refine Ev.step (fun k => by rw [spec_ReadVar.l0]) ?_
    refine Ev.neg (by omega) ?_
    refine Ev.step (fun k => by rw [spec_ReadVar.j1]) ?_
    exact Ev.neg (by simp) (Ev.now _)
  | succ d ih =>
    intro i hi
    refine Ev.step (fun k => by rw [spec_ReadVar.l0]) ?_
    refine Ev.pos (by omega) ?_
    refine Ev.step (fun k => by rw [spec_ReadVar.j1]) ?_
    rw [rvTry]
    by_cases c : i < s.size
    · rw [if_pos c]
      refine Ev.pos (by simp; omega) ?_
      rw [w64 (x := ((i + 1 : Nat) : Int) - 1) (by omega) (by omega)]
      refine spec_ReadVar_l1 s _ _ (i + 1) 0 0 (by simp) (by omega) (by omega) ?_
      rw [Nat.zero_mul, Nat.zero_add]
      refine Ev.step (fun k => by rw [spec_ReadVar.l1]) ?_
      refine Ev.neg (by omega) (Ev.bind (spec_Var_in _ (lev_le (by omega))) (Ev.pos (by omega) (Ev.pos (by omega) ?_)))
      rw [Int.toNat_natCast]
      by_cases v : isVarAt s (i + 1)
      · rw [if_pos v]
        exact Ev.pos v (Ev.now _)
      · rw [if_neg v]
        refine Ev.neg v ?_
        rw [w64 (by omega) (by omega)]
        exact ih (i + 1) (by omega)
    · rw [if_neg c]
      exact Ev.neg (by simp; omega) (Ev.now _)
theorem spec_ReadVar_ev (s : ByteArray) (hs : s.size ≤ 140737488351232) : Ev (fun k => spec_ReadVar.f k s) (readVarV s) := by
  unfold spec_ReadVar.f readVarV
  rw [← rv_same]
  exact spec_ReadVar_l0 s hs 7 0 rfl

theorem spec_l5Based_eq (i t : Int) : spec_l5Based.f i t = some (decide (baseP i t)) := by
  unfold spec_l5Based.f baseP
  simp only [spec_l1In_eq, Option.bind_some, decide_eq_true_eq]
  repeat' split
  all_goals (simp only [Option.some.injEq]; rw [Bool.eq_iff_iff]; simp only [decide_eq_true_eq, beq_iff_eq, Bool.false_eq_true, false_iff, true_iff]; omega)

theorem spec_RecOk_eq (kd tm ix vt : Int) (d : ByteArray) : spec_RecOk.f kd tm ix vt d = some (decide (recOkP kd tm ix vt d.size)) := by
  unfold spec_RecOk.f recOkP
  simp only [spec_l1In_eq, spec_l5Based_eq, Option.bind_some, tl_nil, decide_eq_true_eq]
  repeat' split
  all_goals (simp only [Option.some.injEq]; rw [Bool.eq_iff_iff]; simp only [decide_eq_true_eq, Bool.false_eq_true, false_iff, true_iff, baseP] at *; omega)

theorem spec_ShowRec_ev (kd tm ix vt : Int) (d : ByteArray) (hd : d.size ≤ 9223372036854775000) : Ev (fun k => spec_ShowRec.f k kd tm ix vt d) (showRecV kd tm ix vt d) := by
  unfold spec_ShowRec.f showRecV
  refine Ev.bind0 (spec_RecOk_eq _ _ _ _ _) ?_
  by_cases c : recOkP kd tm ix vt d.size
  · rw [if_pos c]
    have c2 : 1 ≤ kd ∧ kd ≤ 4 ∧ 0 ≤ tm ∧ tm ≤ 100000 ∧ 0 ≤ ix ∧ ix ≤ 100000 ∧ -1 ≤ vt ∧ vt ≤ 4 := by unfold recOkP baseP at c; omega
    obtain ⟨n, rfl⟩ := Int.eq_ofNat_of_zero_le c2.2.2.1
    obtain ⟨m, rfl⟩ := Int.eq_ofNat_of_zero_le c2.2.2.2.2.1
    obtain ⟨q, hq⟩ := Int.eq_ofNat_of_zero_le (show 0 ≤ vt + 1 by omega)
    have h1 := varL_le7 (n := n) (by omega)
    have h2 := varL_le7 (n := m) (by omega)
    have h3 := varL_le7 (n := q) (by omega)
    refine Ev.pos (decide_eq_true c) (Ev.bind0 rfl ?_)
    rw [w64 (by omega) (by omega), hq, Int.emod_eq_of_lt (by omega) (by omega)]
    refine Ev.bind (spec_Var_in n (by omega)) ?_
    refine Ev.pos (by rw [strOf_size, strOf_size]; simp; omega) ?_
    refine Ev.bind (spec_Var_in m (by omega)) ?_
    rw [strOf_append]
    refine Ev.pos (by rw [strOf_size, strOf_size]; simp; omega) ?_
    refine Ev.bind (spec_Var_in q (by omega)) ?_
    rw [strOf_append]
    refine Ev.pos (by rw [strOf_size, strOf_size]; simp; omega) ?_
    rw [strOf_append]
    refine Ev.pos (by rw [strOf_size]; simp; omega) ?_
    refine Ev.val _ _ ?_
    simp only [Int.toNat_natCast]
  · rw [if_neg c]
    exact Ev.neg (by rw [decide_eq_false c]; simp) (Ev.now _)

theorem spec_ReadRec_j0 (s : ByteArray) (h0 : 0 < s.size) (hs : s.size ≤ 2000) : Ev (fun k => spec_ReadRec.j0 k s false) (readRecV s) := by
  have r1 := rv_range (tl s 1)
  have e1 := spec_ReadVar_ev (tl s 1) (by rw [tl_size]; omega)
  have r2 := rv_range (tl s (1 + (readVarV (tl s 1)).2.toNat))
  have e2 := spec_ReadVar_ev (tl s (1 + (readVarV (tl s 1)).2.toNat)) (by rw [tl_size]; omega)
  rw [tl_size] at r1 r2
  unfold readRecV
  rw [if_neg (by omega)]
  simp only
  generalize readVarV (tl s 1) = p at *
  have r3 := rv_range (tl s (1 + p.2.toNat + (readVarV (tl s (1 + p.2.toNat))).2.toNat))
  have e3 := spec_ReadVar_ev (tl s (1 + p.2.toNat + (readVarV (tl s (1 + p.2.toNat))).2.toNat)) (by rw [tl_size]; omega)
  rw [tl_size] at r3
  generalize readVarV (tl s (1 + p.2.toNat)) = q at *
  generalize readVarV (tl s (1 + p.2.toNat + q.2.toNat)) = v at *
  have a1 : wrap64 (1 + p.2) = ((1 + p.2.toNat : Nat) : Int) := by rw [w64 (by omega) (by omega)]; omega
  have a2 : wrap64 (((1 + p.2.toNat : Nat) : Int) + q.2) = ((1 + p.2.toNat + q.2.toNat : Nat) : Int) := by rw [w64 (by omega) (by omega)]; omega
  have a3 : wrap64 (((1 + p.2.toNat + q.2.toNat : Nat) : Int) + v.2) = ((1 + p.2.toNat + q.2.toNat + v.2.toNat : Nat) : Int) := by rw [w64 (by omega) (by omega)]; omega
  refine Ev.step (fun k => by rw [spec_ReadRec.j0]) ?_
  refine Ev.neg (by simp) (Ev.pos (by omega) (Ev.pos (by omega) (Ev.bind e1 ?_)))
  rw [a1, Int.toNat_natCast]
  refine Ev.pos (Int.natCast_nonneg _) (Ev.pos (by omega) (Ev.bind e2 ?_))
  rw [a2, Int.toNat_natCast]
  refine Ev.pos (Int.natCast_nonneg _) (Ev.pos (by omega) (Ev.bind e3 ?_))
  rw [a3, Int.toNat_natCast]
  clear a1 a2 a3
  refine Ev.pos (Int.natCast_nonneg _) (Ev.pos (by omega) ?_)
  refine Ev.ite Iff.rfl (fun _ => Ev.now _) (fun c1 => Ev.ite Iff.rfl (fun _ => Ev.now _) (fun c2 => Ev.ite Iff.rfl (fun _ => Ev.now _) (fun c3 => ?_)))
  have hv := r3.2.2.2 c3
  rw [wbt, w64 (x := v.1 - 1) (by omega) (by omega)]
  unfold rrEnd
  refine Ev.bind (spec_ShowRec_ev _ _ _ _ _ (by rw [tl_size]; omega)) (Ev.ite Iff.rfl (fun _ => Ev.now _) (fun _ => Ev.now _))
theorem spec_ReadRec_ev (s : ByteArray) (hs : s.size ≤ 1048576) : Ev (fun k => spec_ReadRec.f k s) (readRecV s) := by
  unfold spec_ReadRec.f
  have jt : Ev (fun k => spec_ReadRec.j0 k s true) zeroR := by
    refine Ev.step (fun k => by rw [spec_ReadRec.j0]) ?_
    exact Ev.pos rfl (Ev.now _)
  by_cases c0 : s.size = 0
  · have e : readRecV s = zeroR := by unfold readRecV; rw [if_pos c0]
    rw [e]
    exact Ev.pos (by omega) jt
  · refine Ev.neg (by omega) ?_
    by_cases c1 : (s.size : Int) > 2000
    · have e : readRecV s = zeroR := by
        unfold readRecV
        rw [if_neg c0]
        simp only [rrEnd_large (show 2000 < s.size by omega)]
        repeat' split
        all_goals rfl
      rw [e, decide_eq_true c1]
      exact jt
    · rw [decide_eq_false c1]
      exact spec_ReadRec_j0 s (by omega) (by omega)

theorem impl_within_eq (a b c : Int) : impl_within.f a b c = some (decide (b ≤ a ∧ a ≤ c)) := by
  unfold impl_within.f
  by_cases h : a ≥ b
  · rw [if_pos h]; simp [show b ≤ a from h]
  · rw [if_neg h]; simp [show ¬ b ≤ a from h]

theorem impl_Var_l0 (n : Nat) : ∀ (xs : List Int), xs.length + n / 128 < 140737488355328 → n < 9223372036854775808 →
    Ev (fun k => impl_Var.l0 k (n : Int) xs) (strOfNums (xs ++ varL n)) := by
  induction n using Nat.strongRecOn with
  | ind n ih =>
  intro xs h1 h2
  refine Ev.step (fun k => by rw [impl_Var.l0]) ?_
  rw [varL]
  by_cases c : n < 128
  · rw [if_pos c]
    refine Ev.neg (by omega) (Ev.pos (by omega) (Ev.val _ _ ?_))
    rw [Int.emod_eq_of_lt (by omega) (by omega)]
  · rw [if_neg c]
    refine Ev.pos (by omega) (Ev.pos (by omega) ?_)
    have e1 : ((n : Int) / 128) = ((n / 128 : Nat) : Int) := by omega
    have e2 : (Go.bits .or .i64 (Go.bits .and .i64 (n : Int) 127) 128) % 256 = ((n % 128 + 128 : Nat) : Int) := by
      rw [and127 (by omega) (by omega), or_join' 7 128 _ (by omega) (by omega) (by omega) (by omega) (by omega) (by omega)]; omega
    rw [e1, e2]
    have := ih (n / 128) (by omega) (xs ++ [((n % 128 + 128 : Nat) : Int)]) (by simp; omega) (by omega)
    simpa [List.append_assoc] using this
theorem impl_Var_in (n : Nat) (h : n ≤ 562949953421311) : Ev (fun k => impl_Var.f k (n : Int)) (strOfNums (varL n)) := by
  unfold impl_Var.f
  refine Ev.bind0 (impl_within_eq _ _ _) (Ev.pos (by simp; omega) ?_)
  simpa using impl_Var_l0 n [] (by simp; omega) (by omega)
theorem impl_Var_out (x : Int) (h : ¬ (0 ≤ x ∧ x ≤ 562949953421311)) : Ev (fun k => impl_Var.f k x) (strOfNums []) := by
  unfold impl_Var.f
  exact Ev.bind0 (impl_within_eq _ _ _) (Ev.neg (by simp; omega) (Ev.val _ _ rfl))

theorem readVar_or (n b i : Nat) (hi : i ≤ 6) (hn : n < 128 ^ i) (hb : b < 128) :
    Go.bits .or .i64 (n : Int) (shl .i64 (b : Int) (wrap64 (7 * (i : Int)))) = ((n + b * 128 ^ i : Nat) : Int) := by
  have hp : (2 : Nat) ^ (7 * i) = 128 ^ i := by rw [Nat.pow_mul]
  have h7 : 128 ^ i ≤ 128 ^ 6 := Nat.pow_le_pow_right (by decide) hi
  have h6 : (128 : Nat) ^ 6 = 4398046511104 := by decide
  have hm : b * 128 ^ i ≤ 127 * 128 ^ i := Nat.mul_le_mul_right _ (by omega)
  have e1 : shl .i64 (b : Int) (wrap64 (7 * (i : Int))) = ((b * 128 ^ i : Nat) : Int) := by
    rw [w64 (by omega) (by omega)]
    unfold shl
    have : min (7 * (i : Int)).toNat IntKind.i64.bits = 7 * i := by
      have : IntKind.i64.bits = 64 := rfl
      omega
    rw [this]
    have e : (b : Int) * 2 ^ (7 * i) = ((b * 128 ^ i : Nat) : Int) := by
      rw [← hp]; simp
    rw [e]
    exact wraps_i64 _ (by omega) (by omega)
  rw [e1, or_join' (7 * i) ((b * 128 ^ i : Nat) : Int) (n : Int) (by omega) ?_ (by omega) (by omega) ?_ (by omega)]
  · omega
  · have e : (2 : Int) ^ (7 * i) = ((128 ^ i : Nat) : Int) := by rw [← hp]; simp
    rw [e, ← Int.natCast_emod, Nat.mul_mod_left]; rfl
  · have e : (2 : Int) ^ (7 * i) = ((128 ^ i : Nat) : Int) := by rw [← hp]; simp
    rw [e]; omega
theorem impl_ReadVar_l0 (s : ByteArray) (hs : s.size ≤ 140737488351232) (d : Nat) : ∀ (i : Nat), i + d = 7 → Ev (fun k => impl_ReadVar.l0 k s ((lev s i : Nat) : Int) (i : Int)) (rvFrom s d i) := by
  induction d with
  | zero =>
    intro i hi
    refine Ev.step (fun k => by rw [impl_ReadVar.l0]) ?_
    have fin : Ev (fun k => impl_ReadVar.j1 k s ((lev s i : Nat) : Int) (i : Int) false) (rvFrom s 0 i) := by
      refine Ev.step (fun k => by rw [impl_ReadVar.j1]) ?_
      exact Ev.neg (by simp) (Ev.now _)
    by_cases c : (i : Int) < (s.size : Int)
    · refine Ev.pos c ?_
      rw [show decide ((i : Int) < 7) = false by simp; omega]
      exact fin
    · exact Ev.neg c fin
  | succ d ih =>
    intro i hi
    have hb := bt_range s (i : Int)
    refine Ev.step (fun k => by rw [impl_ReadVar.l0]) ?_
    rw [rvFrom]
    by_cases c : i < s.size
    · rw [if_pos c]
      refine Ev.pos (by omega) ?_
      refine Ev.step (fun k => by rw [impl_ReadVar.j1]) ?_
      have eb : wrap64 (Go.bits .and .u8 (bt s (i : Int)) 127) = (((bt s (i : Int)).toNat % 128 : Nat) : Int) := by
        rw [u8_and127 hb.1 (by omega), w64 (by omega) (by omega)]; omega
      have ev : Go.bits .or .i64 ((lev s i : Nat) : Int) (shl .i64 (wrap64 (Go.bits .and .u8 (bt s (i : Int)) 127)) (wrap64 (7 * (i : Int)))) = ((lev s (i + 1) : Nat) : Int) := by
        rw [eb, readVar_or _ _ i (by omega) (lev_lt s i) (by omega)]
        rfl
      rw [ev, w64 (x := (i : Int) + 1) (by omega) (by omega), w64 (x := 7 * (i : Int)) (by omega) (by omega)]
      have e1 : (i : Int) + 1 = ((i + 1 : Nat) : Int) := by omega
      rw [e1, Int.toNat_natCast]
      refine Ev.pos (by simp; omega) (Ev.pos (by omega) (Ev.pos (by omega) (Ev.pos (by omega) ?_)))
      by_cases l : bt s (i : Int) < 128
      · rw [if_pos l]
        refine Ev.pos l (Ev.bind (impl_Var_in _ (lev_le (by omega))) (Ev.pos (by omega) (Ev.pos (by omega) ?_)))
        by_cases v : isVarAt s (i + 1)
        · rw [if_pos v]
          exact Ev.pos v (Ev.now _)
        · rw [if_neg v]
          exact Ev.neg v (Ev.now _)
      · rw [if_neg l]
        refine Ev.neg l ?_
        exact ih (i + 1) (by omega)
    · rw [if_neg c]
      refine Ev.neg (by omega) ?_
      refine Ev.step (fun k => by rw [impl_ReadVar.j1]) ?_
      exact Ev.neg (by simp) (Ev.now _)
theorem impl_ReadVar_ev (s : ByteArray) (hs : s.size ≤ 140737488351232) : Ev (fun k => impl_ReadVar.f k s) (readVarV s) := by
  unfold impl_ReadVar.f readVarV
  exact impl_ReadVar_l0 s hs 7 0 rfl

def numV (s : ByteArray) (bad : Bool) : Int × ByteArray × Bool := if bad = true then (0, s, true) else if (readVarV s).2 = 0 then (0, s, true) else ((readVarV s).1, tl s (readVarV s).2.toNat, bad)
theorem impl_scan_num_ev (s : ByteArray) (bad : Bool) (hs : s.size ≤ 140737488351232) : Ev (fun k => impl_scan_num.f k s bad) (numV s bad) := by
  have hr := rv_range s
  unfold impl_scan_num.f numV
  refine Ev.bind (impl_ReadVar_ev s hs) (Ev.ite Iff.rfl (fun _ => Ev.now _) (fun _ => Ev.ite Iff.rfl (fun _ => Ev.now _) (fun _ => ?_)))
  exact Ev.pos hr.1 (Ev.pos hr.2.1 (Ev.now _))
theorem numV_size (s : ByteArray) (bad : Bool) : (numV s bad).2.1.size ≤ s.size := by
  unfold numV
  split
  · exact Nat.le_refl _
  · split
    · exact Nat.le_refl _
    · show (tl s _).size ≤ s.size
      rw [tl_size]; omega
theorem impl_scan_cut_eq (s : ByteArray) (n : Int) (h0 : 0 ≤ n) (h1 : n ≤ s.size) : impl_scan_cut.f s false n = some (s.extract 0 n.toNat, tl s n.toNat, false) := by
  unfold impl_scan_cut.f
  rw [if_neg (by simp), impl_within_eq]
  simp only [Option.bind_some]
  rw [decide_eq_true (show 0 ≤ n ∧ n ≤ (s.size : Int) from ⟨h0, h1⟩), if_pos rfl, if_pos h0, if_pos h1]
theorem impl_scan_cut_no (s : ByteArray) (n : Int) (h1 : ¬ n ≤ s.size) : impl_scan_cut.f s false n = some (⟨#[]⟩, s, true) := by
  unfold impl_scan_cut.f
  rw [if_neg (by simp), impl_within_eq]
  simp only [Option.bind_some]
  rw [decide_eq_false (show ¬ (0 ≤ n ∧ n ≤ (s.size : Int)) from fun h => h1 h.2), if_neg (by simp)]

theorem impl_isTerm_eq (n : Int) : impl_isTerm.f n = some (decide (0 ≤ n ∧ n ≤ 100000)) := by
  unfold impl_isTerm.f; simp only [impl_within_eq, Option.bind_some]
theorem impl_isVote_eq (n : Int) : impl_isVote.f n = some (decide (-1 ≤ n ∧ n ≤ 4)) := by
  unfold impl_isVote.f; simp only [impl_within_eq, Option.bind_some]
theorem impl_isBase_eq (i t : Int) : impl_isBase.f i t = some (decide (baseP i t)) := by
  unfold impl_isBase.f baseP
  simp only [impl_within_eq, Option.bind_some, decide_eq_true_eq]
  repeat' split
  all_goals (simp only [Option.some.injEq]; rw [Bool.eq_iff_iff]; simp only [decide_eq_true_eq, Bool.false_eq_true, false_iff, true_iff]; omega)

theorem impl_RecOk_eq (kd tm ix vt : Int) (d : ByteArray) : impl_RecOk.f kd tm ix vt d = some (decide (recOkP kd tm ix vt d.size)) := by
  unfold impl_RecOk.f recOkP
  simp only [impl_within_eq, impl_isTerm_eq, impl_isVote_eq, impl_isBase_eq, Option.bind_some, tl_nil, decide_eq_true_eq, Bool.and_eq_true, beq_iff_eq]
  repeat' split
  all_goals (simp only [Option.some.injEq]; rw [Bool.eq_iff_iff]; simp only [decide_eq_true_eq, beq_iff_eq, Bool.false_eq_true, false_iff, true_iff, baseP] at *; omega)

theorem impl_ShowRec_ev (kd tm ix vt : Int) (d : ByteArray) (hd : d.size ≤ 9223372036854775000) : Ev (fun k => impl_ShowRec.f k kd tm ix vt d) (showRecV kd tm ix vt d) := by
  unfold impl_ShowRec.f showRecV
  refine Ev.bind0 (impl_RecOk_eq _ _ _ _ _) ?_
  by_cases c : recOkP kd tm ix vt d.size
  · rw [if_pos c]
    have c2 : 1 ≤ kd ∧ kd ≤ 4 ∧ 0 ≤ tm ∧ tm ≤ 100000 ∧ 0 ≤ ix ∧ ix ≤ 100000 ∧ -1 ≤ vt ∧ vt ≤ 4 := by unfold recOkP baseP at c; omega
    obtain ⟨n, rfl⟩ := Int.eq_ofNat_of_zero_le c2.2.2.1
    obtain ⟨m, rfl⟩ := Int.eq_ofNat_of_zero_le c2.2.2.2.2.1
    obtain ⟨q, hq⟩ := Int.eq_ofNat_of_zero_le (show 0 ≤ vt + 1 by omega)
    have h1 := varL_le7 (n := n) (by omega)
    have h2 := varL_le7 (n := m) (by omega)
    have h3 := varL_le7 (n := q) (by omega)
    refine Ev.pos (decide_eq_true c) (Ev.bind0 rfl ?_)
    rw [w64 (by omega) (by omega), hq, Int.emod_eq_of_lt (by omega) (by omega)]
    refine Ev.bind (impl_Var_in n (by omega)) ?_
    refine Ev.pos (by rw [strOf_size, strOf_size]; simp; omega) ?_
    refine Ev.bind (impl_Var_in m (by omega)) ?_
    rw [strOf_append]
    refine Ev.pos (by rw [strOf_size, strOf_size]; simp; omega) ?_
    refine Ev.bind (impl_Var_in q (by omega)) ?_
    rw [strOf_append]
    refine Ev.pos (by rw [strOf_size, strOf_size]; simp; omega) ?_
    rw [strOf_append]
    refine Ev.pos (by rw [strOf_size]; simp; omega) ?_
    refine Ev.val _ _ ?_
    simp only [Int.toNat_natCast]
  · rw [if_neg c]
    exact Ev.neg (by rw [decide_eq_false c]; simp) (Ev.now _)

theorem impl_scan_byte_eq (s : ByteArray) (h : 0 < s.size) : impl_scan_byte.f s false = some (bt s 0, tl s 1, false) := by
  unfold impl_scan_byte.f
  rw [impl_scan_cut_eq s 1 (by omega) (by omega)]
  simp only [Option.bind_some]
  have hz : (s.extract 0 (1 : Int).toNat).size = 1 := by
    rw [ByteArray.size_extract]; show min 1 s.size - 0 = 1; omega
  rw [if_neg (by rw [tl_nil']; omega), if_pos (by omega), wbt]
  have e : bt (s.extract 0 (1 : Int).toNat) 0 = bt s 0 := by
    rw [bt_bl, bt_bl, bl_extract]
    have hb : 0 < (bl s).length := by rw [bl_length]; exact h
    show rd (List.take 1 (List.drop 0 (bl s))) 0 = rd (bl s) 0
    rw [List.drop_zero]
    cases hl : bl s with
    | nil => rw [hl] at hb; simp at hb
    | cons b l => rfl
  rw [e]; rfl
theorem impl_scan_byte_no (s : ByteArray) (h : s.size = 0) : impl_scan_byte.f s false = some (0, s, true) := by
  unfold impl_scan_byte.f
  rw [impl_scan_cut_no s 1 (by omega)]
  simp only [Option.bind_some]
  rw [if_pos (by rw [tl_nil']; rfl)]
theorem impl_ReadRec_ev (s : ByteArray) (hs : s.size ≤ 1048576) : Ev (fun k => impl_ReadRec.f k s) (readRecV s) := by
  have bad (t : ByteArray) (ht : t.size ≤ 1048576) : Ev (fun k => impl_scan_num.f k t true) (0, t, true) := by
    have := impl_scan_num_ev t true (by omega)
    unfold numV at this
    rw [if_pos rfl] at this
    exact this
  have good (t : ByteArray) (ht : t.size ≤ 1048576) (h : ¬ (readVarV t).2 = 0) : Ev (fun k => impl_scan_num.f k t false) ((readVarV t).1, tl t (readVarV t).2.toNat, false) := by
    have := impl_scan_num_ev t false (by omega)
    unfold numV at this
    rw [if_neg (by simp), if_neg h] at this
    exact this
  have none (t : ByteArray) (ht : t.size ≤ 1048576) (h : (readVarV t).2 = 0) : Ev (fun k => impl_scan_num.f k t false) (0, t, true) := by
    have := impl_scan_num_ev t false (by omega)
    unfold numV at this
    rw [if_neg (by simp), if_pos h] at this
    exact this
  unfold impl_ReadRec.f
  by_cases c0 : s.size = 0
  · have e : readRecV s = zeroR := by unfold readRecV; rw [if_pos c0]
    rw [e]
    exact Ev.bind0 (impl_scan_byte_no s c0) (Ev.bind (bad s hs) (Ev.bind (bad s hs) (Ev.bind (bad s hs) (Ev.pos rfl (Ev.now _)))))
  · refine Ev.bind0 (impl_scan_byte_eq s (by omega)) ?_
    unfold readRecV
    rw [if_neg c0]
    simp only
    have z1 : (tl s 1).size ≤ 1048576 := by rw [tl_size]; omega
    by_cases c1 : (readVarV (tl s 1)).2 = 0
    · rw [if_pos c1]
      exact Ev.bind (none _ z1 c1) (Ev.bind (bad _ z1) (Ev.bind (bad _ z1) (Ev.pos rfl (Ev.now _))))
    · rw [if_neg c1]
      refine Ev.bind (good _ z1 c1) ?_
      simp only
      rw [tl_tl]
      generalize readVarV (tl s 1) = p at *
      have z2 : (tl s (1 + p.2.toNat)).size ≤ 1048576 := by rw [tl_size]; omega
      by_cases c2 : (readVarV (tl s (1 + p.2.toNat))).2 = 0
      · rw [if_pos c2]
        exact Ev.bind (none _ z2 c2) (Ev.bind (bad _ z2) (Ev.pos rfl (Ev.now _)))
      · rw [if_neg c2]
        refine Ev.bind (good _ z2 c2) ?_
        simp only
        rw [tl_tl]
        generalize readVarV (tl s (1 + p.2.toNat)) = q at *
        have z3 : (tl s (1 + p.2.toNat + q.2.toNat)).size ≤ 1048576 := by rw [tl_size]; omega
        have r3 := rv_range (tl s (1 + p.2.toNat + q.2.toNat))
        by_cases c3 : (readVarV (tl s (1 + p.2.toNat + q.2.toNat))).2 = 0
        · rw [if_pos c3]
          exact Ev.bind (none _ z3 c3) (Ev.pos rfl (Ev.now _))
        · rw [if_neg c3]
          refine Ev.bind (good _ z3 c3) ?_
          simp only
          rw [tl_tl]
          have hv := r3.2.2.2 c3
          generalize readVarV (tl s (1 + p.2.toNat + q.2.toNat)) = v at *
          rw [w64 (x := v.1 - 1) (by omega) (by omega)]
          unfold rrEnd
          refine Ev.neg (by simp) (Ev.neg (by rw [tl_nil']; exact c0) (Ev.bind (impl_ShowRec_ev _ _ _ _ _ (by rw [tl_size]; omega)) (Ev.ite Iff.rfl (fun _ => Ev.now _) (fun _ => Ev.now _))))

theorem laws_eqRec_eq (a b c d : Int) (s : ByteArray) : laws_eqRec.f a b c d s a b c d s = some true := by
  unfold laws_eqRec.f
  rw [if_pos rfl, if_pos rfl, if_pos rfl, if_pos rfl, if_pos rfl]
theorem FnExactReadRec : laws_FnExactReadRec.Pure := by
  intro s _
  refine Ev.rounds (g := fun k => laws_FnExactReadRec.f k s) ?_
  unfold laws_FnExactReadRec.f
  by_cases c0 : (s.size : Int) > 1048576
  · exact Ev.pos c0 (Ev.now _)
  · exact Ev.neg c0 (Ev.bind (spec_ReadRec_ev s (by omega)) (Ev.bind (impl_ReadRec_ev s (by omega)) (Ev.bind0 (laws_eqRec_eq _ _ _ _ _) (Ev.pos rfl (Ev.neg (by simp) (Ev.now _))))))

end Go.Proofs.Ytopnfbnfmaghaaa.Pure
