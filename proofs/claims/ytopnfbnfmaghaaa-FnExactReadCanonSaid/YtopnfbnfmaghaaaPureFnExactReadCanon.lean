/- The pure statement of the law FnExactReadCanon is proved: for all arguments within the stated bounds the printed function answers true. Conditions: none beyond those bounds. -/
import Derived.Test.YtopnfbnfmaghaaaPFnExactReadCanonx7
import Derived.Laws.BitsLemmas
import Derived.Lib.Strings
namespace Go.Proofs.Ytopnfbnfmaghaaa.Pure
open Go Go.RowKit Go.Proofs.Ytopnfbnfmaghaaa.PFnExactReadCanon Go.Proofs.YtopnfbnfmaghaaaW.PrintWords Go.Proofs.YtopnfbnfmaghaaaW.PrintLast Go.Proofs.YtopnfbnfmaghaaaW.PrintMore
set_option linter.unusedVariables false
set_option linter.unusedSimpArgs false

/-! ### what Var makes -/
def varL (n : Nat) : List Int := if n < 128 then [(n : Int)] else ((n % 128 + 128 : Nat) : Int) :: varL (n / 128)
termination_by n
decreasing_by omega

/-! ### Base: rounds, whole numbers, bits, byte strings (no program in sight) -/
theorem Ev.pos {α : Type} {c : Prop} [Decidable c] {g f : Nat → Option α} {r : α} (h : c) (e : Ev g r) : Ev (fun k => if c then g k else f k) r := by
  simpa only [if_pos h] using e
theorem Ev.neg {α : Type} {c : Prop} [Decidable c] {g f : Nat → Option α} {r : α} (h : ¬ c) (e : Ev f r) : Ev (fun k => if c then g k else f k) r := by
  simpa only [if_neg h] using e
theorem Ev.val {α : Type} (r s : α) (h : r = s) : Ev (fun _ => some r) s := by subst h; exact Ev.now _
theorem Ev.val0 {α : Type} {o : Option α} {s : α} (h : o = some s) : Ev (fun _ => o) s := by subst h; exact Ev.now _
theorem Ev.bind0 {α β : Type} {o : Option α} {f : Nat → α → Option β} {a : α} {r : β} (h : o = some a) (k : Ev (fun n => f n a) r) : Ev (fun n => o.bind (f n)) r := by
  subst h; simpa only [Option.bind_some] using k
theorem Ev.and {α β : Type} {g : Nat → Option α} {f : Nat → Option β} {r : α} {s : β} (h : Ev g r) (k : Ev f s) : ∃ K, ∀ n, K ≤ n → g n = some r ∧ f n = some s := by
  obtain ⟨K, h⟩ := h
  obtain ⟨L, k⟩ := k
  exact ⟨max K L, fun n hn => ⟨h n (by omega), k n (by omega)⟩⟩

theorem Ev.ite {α : Type} {c d : Prop} [Decidable c] [Decidable d] {g f : Nat → Option α} {a b : α} (h : c ↔ d) (e : d → Ev g a) (e' : ¬ d → Ev f b) : Ev (fun k => if c then g k else f k) (if d then a else b) := by
  by_cases x : d
  · rw [if_pos x]; exact Ev.pos (h.2 x) (e x)
  · rw [if_neg x]; exact Ev.neg (fun y => x (h.1 y)) (e' x)
theorem w64 {x : Int} (h0 : -9223372036854775808 ≤ x) (h1 : x ≤ 9223372036854775807) : wrap64 x = x := by unfold wrap64; omega
theorem wf64 {x : Int} (h : (Lit.int .i64 x).wf = true) : -9223372036854775808 ≤ x ∧ x ≤ 9223372036854775807 := by
  simp [Lit.wf, IntKind.min, IntKind.max, IntKind.signed, IntKind.bits] at h
  omega
theorem tdiv_nn {x y : Int} (h : 0 ≤ x) : Int.tdiv x y = x / y := Int.tdiv_eq_ediv_of_nonneg h
theorem tmod_nn {x y : Int} (h : 0 ≤ x) : Int.tmod x y = x % y := Int.tmod_eq_emod_of_nonneg h

theorem wraps_i64 (n : Int) (h₀ : 0 ≤ n) (h₁ : n < 2 ^ 63) : IntKind.i64.wrap n = n := by rw [IntKind.wrap_i64]; omega
theorem and_mask (i : Nat) (hi : i ≤ 63) (x : Int) (h0 : 0 ≤ x) (h1 : x < 9223372036854775808) : Go.bits .and .i64 x (2 ^ i - 1) = x % 2 ^ i :=
  bits_mask .i64 63 (by decide) wraps_i64 i hi x h0 h1
theorem and127 {x : Int} (h0 : 0 ≤ x) (h1 : x < 9223372036854775808) : Go.bits .and .i64 x 127 = x % 128 := and_mask 7 (by decide) x h0 h1
theorem and255 {x : Int} (h0 : 0 ≤ x) (h1 : x < 9223372036854775808) : Go.bits .and .i64 x 255 = x % 256 := and_mask 8 (by decide) x h0 h1
theorem and1 {x : Int} (h0 : 0 ≤ x) (h1 : x < 9223372036854775808) : Go.bits .and .i64 x 1 = x % 2 := and_mask 1 (by decide) x h0 h1
theorem or_join (i : Nat) (x y : Int) (hx : 0 ≤ x) (hm : x % 2 ^ i = 0) (hx1 : x < 9223372036854775808) (hy : 0 ≤ y) (hy1 : y < 2 ^ i) (hy2 : y < 9223372036854775808) : Go.bits .or .i64 x y = x + y :=
  bits_join .i64 63 (by decide) wraps_i64 i x y hx hm hx1 hy hy1 hy2
theorem bits_or_comm (k : IntKind) (x y : Int) : Go.bits .or k x y = Go.bits .or k y x := by simp only [Go.bits, BitVec.or_comm]
theorem or_join' (i : Nat) (x y : Int) (hx : 0 ≤ x) (hm : x % 2 ^ i = 0) (hx1 : x < 9223372036854775808) (hy : 0 ≤ y) (hy1 : y < 2 ^ i) (hy2 : y < 9223372036854775808) : Go.bits .or .i64 y x = x + y := by
  rw [bits_or_comm]; exact or_join i x y hx hm hx1 hy hy1 hy2
theorem u8_and127 {x : Int} (h0 : 0 ≤ x) (h1 : x < 256) : Go.bits .and .u8 x 127 = x % 128 := bits_mask .u8 8 (by decide) wraps_u8 7 (by decide) x h0 h1
theorem bits_xor_nat (a b : Nat) (ha : a < 2 ^ 63) (hb : b < 2 ^ 63) : Go.bits .xor .i64 a b = ((a ^^^ b : Nat) : Int) := by
  have hp : 2 ^ 63 ≤ 2 ^ IntKind.i64.bits := Nat.pow_le_pow_right (by decide) (by decide)
  have ha' : a % 2 ^ IntKind.i64.bits = a := Nat.mod_eq_of_lt (Nat.lt_of_lt_of_le ha hp)
  have hb' : b % 2 ^ IntKind.i64.bits = b := Nat.mod_eq_of_lt (Nat.lt_of_lt_of_le hb hp)
  simp only [Go.bits, BitVec.ofInt_natCast, BitVec.toNat_xor, BitVec.toNat_ofNat, ha', hb']
  exact wraps_i64 _ (Int.natCast_nonneg _) (by exact_mod_cast Nat.xor_lt_two_pow ha hb)

theorem wbt (s : ByteArray) (i : Int) : wrap64 (bt s i) = bt s i := by have := bt_range s i; exact w64 (by omega) (by omega)
theorem toList_eq {s t : ByteArray} (h : s = t) : s.toList = t.toList := by rw [h]
theorem strOf_append (xs ys : List Int) : strOfNums xs ++ strOfNums ys = strOfNums (xs ++ ys) := by
  apply ByteArray.ext
  rw [ByteArray.data_append]
  simp [strOfNums]
theorem strOf_size (xs : List Int) : (strOfNums xs).size = xs.length := by simp [strOfNums, ByteArray.size]
theorem strOf_nil : (⟨#[]⟩ : ByteArray) = strOfNums [] := rfl
theorem cast_pow256 (d : Nat) : ((256 ^ d : Nat) : Int) = (256 : Int) ^ d := Int.natCast_pow 256 d
theorem lt_pow256 (m d : Nat) : ((m : Int) < 256 ^ d) = (m < 256 ^ d) := by
  rw [← cast_pow256]; exact propext Int.ofNat_lt
theorem pow256_six (i : Int) (h0 : 0 ≤ i) (h1 : i ≤ 6) : (256 : Int) ^ i.toNat ≤ 281474976710656 := by
  obtain rfl | rfl | rfl | rfl | rfl | rfl | rfl : i = 0 ∨ i = 1 ∨ i = 2 ∨ i = 3 ∨ i = 4 ∨ i = 5 ∨ i = 6 := by omega
  all_goals decide

/-! ### Str: a byte string as the list of its numbers -/
def IsB (xs : List Int) : Prop := ∀ x ∈ xs, 0 ≤ x ∧ x ≤ 255
def bl (s : ByteArray) : List Int := s.data.toList.map fun b => (b.toNat : Int)
theorem bl_isB (s : ByteArray) : IsB (bl s) := by
  intro x hx
  simp only [bl, List.mem_map] at hx
  obtain ⟨b, _, rfl⟩ := hx
  have := b.toNat_lt
  omega
theorem bl_length (s : ByteArray) : (bl s).length = s.size := by unfold bl; rw [List.length_map]; rfl
theorem strOf_bl (s : ByteArray) : strOfNums (bl s) = s := by
  apply ByteArray.ext
  apply Array.ext'
  unfold strOfNums bl
  rw [List.map_map]
  have : ((fun n : Int => UInt8.ofNat n.toNat) ∘ fun b : UInt8 => (b.toNat : Int)) = id := by
    funext b
    simp only [Function.comp_apply, Int.toNat_natCast, UInt8.ofNat_toNat, id]
  rw [this, List.map_id]
theorem bl_strOf {xs : List Int} (h : IsB xs) : bl (strOfNums xs) = xs := by
  induction xs with
  | nil => rfl
  | cons a l ih =>
    have ha := h a (by simp)
    have hl := ih (fun x hx => h x (by simp [hx]))
    simp only [bl, strOfNums, List.map_cons, List.toList_toArray] at hl ⊢
    rw [hl]
    congr 1
    simp only [UInt8.toNat_ofNat']
    omega
theorem bl_append (s t : ByteArray) : bl (s ++ t) = bl s ++ bl t := by simp [bl, ByteArray.data_append]
theorem bl_extract (s : ByteArray) (a b : Nat) : bl (s.extract a b) = ((bl s).drop a).take (b - a) := by
  simp [bl, ByteArray.data_extract, List.extract_eq_take_drop, List.map_take, List.map_drop]
theorem bl_inj {s t : ByteArray} (h : bl s = bl t) : s = t := by rw [← strOf_bl s, ← strOf_bl t, h]
theorem tl_iff (s t : ByteArray) : s.toList = t.toList ↔ s = t := by
  constructor
  · intro h
    rw [Go.Lib.toList_data, Go.Lib.toList_data] at h
    exact ByteArray.ext (Array.ext' h)
  · intro h; rw [h]
theorem bt_bl (s : ByteArray) (i : Int) : bt s i = rd (bl s) i := by
  unfold bt rd bl
  split
  · rename_i h
    have h' : i.toNat < s.data.toList.length := h
    rw [List.getD_eq_getElem?_getD, List.getElem?_map, List.getElem?_eq_getElem h']
    simp only [Option.map_some, Option.getD_some]
    rfl
  · rename_i h
    have h' : ¬ i.toNat < s.data.toList.length := h
    rw [List.getD_eq_getElem?_getD, List.getElem?_map, List.getElem?_eq_none (by omega)]
    rfl
theorem bt_nat (s : ByteArray) (i : Nat) (h : i < s.size) : bt s (i : Int) = (bl s)[i]'(by rw [bl_length]; exact h) := by
  rw [bt_bl]
  unfold rd
  rw [Int.toNat_natCast, List.getD_eq_getElem?_getD, List.getElem?_eq_getElem (by rw [bl_length]; exact h)]
  rfl
theorem isB_nil : IsB [] := fun _ h => by cases h
theorem isB_append {xs ys : List Int} (h : IsB xs) (k : IsB ys) : IsB (xs ++ ys) := fun x hx => (List.mem_append.1 hx).elim (h x) (k x)
theorem isB_cons {x : Int} {ys : List Int} (h : 0 ≤ x ∧ x ≤ 255) (k : IsB ys) : IsB (x :: ys) := by
  intro y hy
  rcases List.mem_cons.1 hy with e | e
  · subst e; exact h
  · exact k y e
theorem strOf_inj {xs ys : List Int} (h : IsB xs) (k : IsB ys) (e : strOfNums xs = strOfNums ys) : xs = ys := by
  rw [← bl_strOf h, ← bl_strOf k, e]
instance instDecEqBytes : DecidableEq ByteArray := fun a b => decidable_of_iff (a.toList = b.toList) (tl_iff a b)
instance instDecMemBytes (x : ByteArray) : (l : List ByteArray) → Decidable (x ∈ l)
  | [] => .isFalse (by simp)
  | y :: l => if h : x = y then .isTrue (by simp [h]) else (match instDecMemBytes x l with
    | .isTrue k => .isTrue (by simp [k])
    | .isFalse k => .isFalse (by simp [h, k]))

theorem varL_small {n : Nat} (h : n < 128) : varL n = [(n : Int)] := by rw [varL, if_pos h]
theorem varL_big {n : Nat} (h : ¬ n < 128) : varL n = ((n % 128 + 128 : Nat) : Int) :: varL (n / 128) := by rw [varL, if_neg h]
theorem varL_isB (n : Nat) : IsB (varL n) := by
  induction n using Nat.strongRecOn with
  | ind n ih =>
  by_cases c : n < 128
  · rw [varL_small c]; exact isB_cons (by omega) isB_nil
  · rw [varL_big c]; exact isB_cons (by omega) (ih _ (by omega))
theorem varL_pos (n : Nat) : 0 < (varL n).length := by
  rw [varL]; split <;> simp
/-- All bytes but the last are 128 or more; the last is less. -/
theorem varL_shape (n : Nat) : ∀ (j : Nat) (h : j < (varL n).length), (j + 1 = (varL n).length → (varL n)[j] < 128) ∧ (j + 1 < (varL n).length → 128 ≤ (varL n)[j]) := by
  induction n using Nat.strongRecOn with
  | ind n ih =>
  intro j h
  by_cases c : n < 128
  · have e := varL_small c
    simp only [e, List.length_singleton] at h ⊢
    obtain rfl : j = 0 := by omega
    simp
    omega
  · have e := varL_big c
    simp only [e, List.length_cons] at h ⊢
    cases j with
    | zero =>
      have := varL_pos (n / 128)
      simp only [List.getElem_cons_zero]
      exact ⟨fun k => by omega, fun _ => by omega⟩
    | succ j =>
      simp only [List.getElem_cons_succ]
      have := ih (n / 128) (by omega) j (by omega)
      exact ⟨fun k => this.1 (by omega), fun k => this.2 (by omega)⟩
/-- A beginning of a text that is a Var: where the bytes are less than 128. -/
theorem var_at {s : ByteArray} {n k : Nat} (hk : k ≤ s.size) (h : (strOfNums (varL n)).toList = (s.extract 0 k).toList) :
    0 < k ∧ ∀ j, j < k → (j + 1 = k → bt s (j : Int) < 128) ∧ (j + 1 < k → 128 ≤ bt s (j : Int)) := by
  have e := (tl_iff _ _).1 h
  have e2 : varL n = (bl s).take k := by
    have := congrArg bl e
    rw [bl_strOf (varL_isB n), bl_extract] at this
    simpa using this
  have hl : (varL n).length = k := by rw [e2, List.length_take, bl_length]; omega
  refine ⟨by have := varL_pos n; omega, fun j hj => ?_⟩
  have hs := varL_shape n j (by omega)
  have hb : bt s (j : Int) = (varL n)[j]'(by omega) := by
    rw [bt_nat s j (by omega)]
    simp only [e2, List.getElem_take]
  rw [hb]
  exact ⟨fun h => hs.1 (by omega), fun h => hs.2 (by omega)⟩

/-! ### what ReadVar tells -/
def lev (s : ByteArray) : Nat → Nat
  | 0 => 0
  | k + 1 => lev s k + ((bt s (k : Int)).toNat % 128) * 128 ^ k
theorem lev_lt (s : ByteArray) : ∀ k, lev s k < 128 ^ k
  | 0 => by simp [lev]
  | k + 1 => by
    have h := lev_lt s k
    have h2 : (bt s (k : Int)).toNat % 128 ≤ 127 := by omega
    have h3 : ((bt s (k : Int)).toNat % 128) * 128 ^ k ≤ 127 * 128 ^ k := Nat.mul_le_mul_right _ h2
    rw [lev, Nat.pow_succ]
    omega
theorem lev_le {s : ByteArray} {k : Nat} (h : k ≤ 7) : lev s k ≤ 562949953421311 := by
  have h1 := lev_lt s k
  have h2 : 128 ^ k ≤ 128 ^ 7 := Nat.pow_le_pow_right (by decide) h
  have h3 : (128 : Nat) ^ 7 = 562949953421312 := by decide
  omega
def isVarAt (s : ByteArray) (k : Nat) : Prop := (strOfNums (varL (lev s k))).toList = (s.extract 0 k).toList
instance (s : ByteArray) (k : Nat) : Decidable (isVarAt s k) := inferInstanceAs (Decidable (_ = _))
/-- The first byte below 128 ends it. -/
def rvFrom (s : ByteArray) : Nat → Nat → Int × Int
  | 0, _ => (0, 0)
  | d + 1, i => if i < s.size then (if bt s (i : Int) < 128 then (if isVarAt s (i + 1) then ((lev s (i + 1) : Nat), ((i + 1 : Nat) : Int)) else (0, 0)) else rvFrom s d (i + 1)) else (0, 0)
/-- What ReadVar(s) is. -/
def readVarV (s : ByteArray) : Int × Int := rvFrom s 7 0
/-- Each beginning is tried. -/
def rvTry (s : ByteArray) : Nat → Nat → Int × Int
  | 0, _ => (0, 0)
  | d + 1, i => if i < s.size then (if isVarAt s (i + 1) then ((lev s (i + 1) : Nat), ((i + 1 : Nat) : Int)) else rvTry s d (i + 1)) else (0, 0)
theorem rvTry_none (s : ByteArray) (j : Nat) (hj : bt s (j : Int) < 128) : ∀ (d i : Nat), j < i → rvTry s d i = (0, 0)
  | 0, _, _ => rfl
  | d + 1, i, h => by
    rw [rvTry]
    split
    · rename_i hi
      rw [if_neg ?_]
      · exact rvTry_none s j hj d (i + 1) (by omega)
      · intro hv
        have := ((var_at (by omega) hv).2 j (by omega)).2 (by omega)
        omega
    · rfl
theorem rv_same (s : ByteArray) : ∀ (d i : Nat), rvTry s d i = rvFrom s d i
  | 0, _ => rfl
  | d + 1, i => by
    rw [rvTry, rvFrom]
    split
    · rename_i hi
      by_cases c : bt s (i : Int) < 128
      · rw [if_pos c]
        split
        · rfl
        · exact rvTry_none s i c d (i + 1) (by omega)
      · rw [if_neg c, if_neg ?_]
        · exact rv_same s d (i + 1)
        · intro hv
          have := ((var_at (by omega) hv).2 i (by omega)).1 rfl
          omega
    · rfl

theorem varL_le7 {n : Nat} (h : n ≤ 562949953421311) : (varL n).length ≤ 7 := by
  have : ∀ (k n : Nat), n < 128 ^ (k + 1) → (varL n).length ≤ k + 1 := by
    intro k
    induction k with
    | zero => intro n h; rw [varL_small (by simpa using h)]; simp
    | succ k ih =>
      intro n h
      by_cases c : n < 128
      · rw [varL_small c]; simp
      · rw [varL_big c]
        have := ih (n / 128) (by rw [Nat.pow_succ] at h; omega)
        simpa using this
  exact this 6 n (by omega)

/-! a number's bytes are read as it -/
def levL : List Int → Nat
  | [] => 0
  | b :: l => b.toNat % 128 + 128 * levL l
theorem levL_snoc (l : List Int) (b : Int) : levL (l ++ [b]) = levL l + (b.toNat % 128) * 128 ^ l.length := by
  induction l with
  | nil => simp [levL]
  | cons a l ih =>
    simp only [List.cons_append, levL, ih, List.length_cons, Nat.pow_succ]
    rw [Nat.mul_add, Nat.mul_comm 128 (b.toNat % 128 * 128 ^ l.length), Nat.mul_assoc, Nat.add_assoc]
theorem lev_list (s : ByteArray) : ∀ (k : Nat), k ≤ s.size → lev s k = levL ((bl s).take k)
  | 0, _ => by simp [lev, levL]
  | k + 1, h => by
    have hk : k < (bl s).length := by rw [bl_length]; omega
    rw [lev, lev_list s k (by omega), List.take_succ_eq_append_getElem hk, levL_snoc, List.length_take, Nat.min_eq_left (by omega), bt_nat s k (by omega)]
theorem levL_varL (n : Nat) : levL (varL n) = n := by
  induction n using Nat.strongRecOn with
  | ind n ih =>
    by_cases c : n < 128
    · rw [varL_small c]; simp only [levL]; omega
    · rw [varL_big c]; simp only [levL]; rw [ih (n / 128) (by omega)]; omega
theorem rv_varL {s : ByteArray} {n : Nat} (hn : n ≤ 562949953421311) {xs : List Int} (e : bl s = varL n ++ xs) : readVarV s = ((n : Int), (((varL n).length : Nat) : Int)) := by
  have h7 := varL_le7 hn
  have hp := varL_pos n
  have hs : s.size = (varL n).length + xs.length := by rw [← bl_length, e, List.length_append]
  have et : (bl s).take (varL n).length = varL n := by rw [e, List.take_left' rfl]
  have hl : lev s (varL n).length = n := by rw [lev_list s _ (by omega), et, levL_varL]
  have hv : isVarAt s (varL n).length := by
    unfold isVarAt
    rw [hl]
    have : strOfNums (varL n) = s.extract 0 (varL n).length := by
      apply bl_inj
      rw [bl_strOf (varL_isB n), bl_extract, List.drop_zero, Nat.sub_zero, et]
    rw [this]
  have hb : ∀ j (h : j < (varL n).length), bt s (j : Int) = (varL n)[j] := by
    intro j h
    have hj : j < s.size := by omega
    rw [bt_nat s j hj]
    simp only [e]
    rw [List.getElem_append_left h]
  have key : ∀ d i, i + d = (varL n).length → 0 < d → ∀ f, d ≤ f → rvFrom s f i = ((n : Int), (((varL n).length : Nat) : Int)) := by
    intro d
    induction d with
    | zero => intro i _ h; omega
    | succ d ih =>
      intro i hi _ f hf
      obtain ⟨f, rfl⟩ : ∃ g, f = g + 1 := ⟨f - 1, by omega⟩
      have sh := varL_shape n i (by omega)
      rw [rvFrom, if_pos (by omega), hb i (by omega)]
      by_cases c : i + 1 = (varL n).length
      · rw [if_pos (sh.1 c), c, if_pos hv, hl]
      · have := sh.2 (by omega)
        rw [if_neg (by omega)]
        exact ih (i + 1) (by omega) (by omega) f (by omega)
  exact key (varL n).length 0 (by omega) hp 7 h7
theorem rv_cases (s : ByteArray) : ∀ (d i : Nat), i + d ≤ 7 → (rvFrom s d i).2 = 0 ∨ ∃ k, k ≤ 7 ∧ k ≤ s.size ∧ rvFrom s d i = (((lev s k : Nat) : Int), (k : Int)) ∧ isVarAt s k
  | 0, _, _ => .inl rfl
  | d + 1, i, h => by
    rw [rvFrom]
    split
    · split
      · split
        · rename_i c
          exact .inr ⟨i + 1, by omega, by omega, rfl, c⟩
        · exact .inl rfl
      · exact rv_cases s d (i + 1) (by omega)
    · exact .inl rfl

/-! ### what is left of a text -/
abbrev tl (s : ByteArray) (a : Nat) : ByteArray := s.extract a s.size
theorem tl_bl (s : ByteArray) (a : Nat) : bl (tl s a) = (bl s).drop a := by
  rw [bl_extract, List.take_of_length_le (by rw [List.length_drop, bl_length]; omega)]
theorem tl_size (s : ByteArray) (a : Nat) : (tl s a).size = s.size - a := by
  rw [← bl_length, tl_bl, List.length_drop, bl_length]
theorem tl_tl (s : ByteArray) (a b : Nat) : tl (tl s a) b = tl s (a + b) := by
  apply bl_inj
  rw [tl_bl, tl_bl, tl_bl, List.drop_drop]
theorem rv_range (s : ByteArray) : 0 ≤ (readVarV s).2 ∧ (readVarV s).2 ≤ s.size ∧ (readVarV s).2 ≤ 7 ∧ ((readVarV s).2 ≠ 0 → 0 ≤ (readVarV s).1 ∧ (readVarV s).1 ≤ 562949953421311) := by
  rcases rv_cases s 7 0 (by omega) with h | ⟨k, h7, hs, e, _⟩
  · have h' : (readVarV s).2 = 0 := h
    rw [h']; exact ⟨by omega, by omega, by omega, fun h => absurd rfl h⟩
  · have e' : readVarV s = (((lev s k : Nat) : Int), (k : Int)) := e
    rw [e']
    have := lev_le (s := s) h7
    exact ⟨by simp only; omega, by simp only; omega, by simp only; omega, fun _ => ⟨by simp only; omega, by simp only; omega⟩⟩

/-! ### vocabularies: the tokens that merges make -/
def tokB (out : List ByteArray) (id : Int) : ByteArray := if id < 256 then strOfNums [id % 256] else rdOf ByteArray.empty out (id - 256)
abbrev pairOk (i : Nat) (p : Int × Int) : Prop := (0 ≤ p.1 ∧ p.1 ≤ 255 + (i : Int)) ∧ (0 ≤ p.2 ∧ p.2 ≤ 255 + (i : Int))
def tokLoop : List (Int × Int) → List ByteArray → List ByteArray × Bool
  | [], out => (out, true)
  | p :: l, out => if pairOk out.length p then (if 24 < (tokB out p.1 ++ tokB out p.2).size ∨ (tokB out p.1 ++ tokB out p.2) ∈ out then (out, false) else tokLoop l (out ++ [tokB out p.1 ++ tokB out p.2])) else (out, false)
def tokV (l : List (Int × Int)) : List ByteArray × Bool := if 60 < l.length then ([], false) else tokLoop l []
def vocabOk (l : List (Int × Int)) : Bool := (tokV l).2
def Short (out : List ByteArray) : Prop := ∀ s ∈ out, s.size ≤ 24
theorem rdOf_mem {out : List ByteArray} {i : Int} (h0 : 0 ≤ i) (h1 : i < out.length) : rdOf ByteArray.empty out i ∈ out := by
  have h : i.toNat < out.length := by omega
  unfold rdOf
  rw [List.getD_eq_getElem?_getD, List.getElem?_eq_getElem h]
  exact List.getElem_mem h
theorem tokB_size {out : List ByteArray} (hs : Short out) {id : Int} (h0 : 0 ≤ id) (h1 : id ≤ 255 + (out.length : Int)) : (tokB out id).size ≤ 24 := by
  unfold tokB
  split
  · rw [strOf_size]; simp
  · exact hs _ (rdOf_mem (by omega) (by omega))
theorem short_snoc {out : List ByteArray} (hs : Short out) {t : ByteArray} (ht : t.size ≤ 24) : Short (out ++ [t]) := by
  intro s h
  rcases List.mem_append.1 h with h | h
  · exact hs s h
  · rw [List.mem_singleton.1 h]; exact ht
theorem short_nil : Short [] := fun _ h => by cases h
theorem rdOf_drop (out : List ByteArray) (j : Nat) (h : j < out.length) : out.drop j = rdOf ByteArray.empty out (j : Int) :: out.drop (j + 1) := by
  unfold rdOf
  rw [Int.toNat_natCast, List.getD_eq_getElem?_getD, List.getElem?_eq_getElem h]
  exact List.drop_eq_getElem_cons h
theorem bsize_append (a b : ByteArray) : (a ++ b).size = a.size + b.size := ByteArray.size_append

theorem tokLoop_len : ∀ (l : List (Int × Int)) (out : List ByteArray), (tokLoop l out).2 = true → (tokLoop l out).1.length = out.length + l.length
  | [], out, _ => by simp [tokLoop]
  | p :: l, out, h => by
    rw [tokLoop] at h ⊢
    split at h
    · rename_i c
      rw [if_pos c]
      split at h
      · cases h
      · rename_i c2
        rw [if_neg c2, tokLoop_len l _ h]
        simp
        omega
    · cases h
theorem tokLoop_short : ∀ (l : List (Int × Int)) (out : List ByteArray), Short out → Short (tokLoop l out).1
  | [], out, h => h
  | p :: l, out, h => by
    rw [tokLoop]
    split
    · split
      · exact h
      · rename_i c2
        exact tokLoop_short l _ (short_snoc h (by have : ¬ 24 < (tokB out p.1 ++ tokB out p.2).size := fun k => c2 (.inl k); omega))
    · exact h
theorem tokV_60 {l : List (Int × Int)} (h : vocabOk l = true) : l.length ≤ 60 := by
  unfold vocabOk tokV at h
  split at h
  · cases h
  · omega
theorem tokV_len {l : List (Int × Int)} (h : vocabOk l = true) : (tokV l).1.length = l.length := by
  have h60 := tokV_60 h
  unfold vocabOk tokV at h
  rw [if_neg (by omega)] at h
  unfold tokV
  rw [if_neg (by omega), tokLoop_len l [] h]
  simp
theorem tokV_short (l : List (Int × Int)) : Short (tokV l).1 := by
  unfold tokV
  split
  · exact short_nil
  · exact tokLoop_short l [] short_nil
/-- What Token(v, id) is. -/
def tokenV (l : List (Int × Int)) (id : Int) : ByteArray := if vocabOk l = true ∧ 0 ≤ id ∧ id ≤ 255 + (l.length : Int) then tokB (tokV l).1 id else strOfNums []

/-! ### the canonical text -/
theorem tokLoop_pairs : ∀ (l : List (Int × Int)) (out : List ByteArray), (tokLoop l out).2 = true → out.length + l.length ≤ 60 → ∀ p ∈ l, 0 ≤ p.1 ∧ p.1 ≤ 315 ∧ 0 ≤ p.2 ∧ p.2 ≤ 315
  | [], _, _, _, p, hp => by cases hp
  | q :: l, out, h, hl, p, hp => by
    rw [tokLoop] at h
    split at h
    · rename_i c
      split at h
      · cases h
      · simp only [List.length_cons] at hl
        rcases List.mem_cons.1 hp with e | hp
        · subst e; unfold pairOk at c; omega
        · exact tokLoop_pairs l _ h (by simp; omega) p hp
    · cases h
theorem vocab_pairs {l : List (Int × Int)} (h : vocabOk l = true) : ∀ p ∈ l, 0 ≤ p.1 ∧ p.1 ≤ 315 ∧ 0 ≤ p.2 ∧ p.2 ≤ 315 := by
  have h60 := tokV_60 h
  unfold vocabOk tokV at h
  rw [if_neg (by omega)] at h
  exact tokLoop_pairs l [] h (by simpa using h60)
def pairsL : List (Int × Int) → List Int
  | [] => []
  | p :: l => varL p.1.toNat ++ varL p.2.toNat ++ pairsL l
def canonL (l : List (Int × Int)) : List Int := [98, 112, 101] ++ varL l.length ++ pairsL l
def canonV (l : List (Int × Int)) : ByteArray := if vocabOk l = true then strOfNums (canonL l) else strOfNums []

abbrev PI := S113
def prs (l : List PI) : List (Int × Int) := l.map fun p => (p.f0, p.f1)
theorem rdI_drop (l : List PI) (i : Nat) (h : i < l.length) : l.drop i = rd_T113 l (i : Int) :: l.drop (i + 1) := by
  unfold rd_T113
  rw [Int.toNat_natCast, List.getD_eq_getElem?_getD, List.getElem?_eq_getElem h]
  exact List.drop_eq_getElem_cons h
theorem prs_length (l : List PI) : (prs l).length = l.length := by simp [prs]

theorem varL_le2 {n : Nat} (h : n < 16384) : (varL n).length ≤ 2 := by
  by_cases c : n < 128
  · rw [varL_small c]; simp
  · rw [varL_big c, varL_small (by omega)]; simp
theorem pairsL_len : ∀ (l : List (Int × Int)), (∀ p ∈ l, 0 ≤ p.1 ∧ p.1 ≤ 315 ∧ 0 ≤ p.2 ∧ p.2 ≤ 315) → (pairsL l).length ≤ 4 * l.length
  | [], _ => Nat.le_refl _
  | p :: l, h => by
    have hp := h p (by simp)
    have := pairsL_len l (fun q hq => h q (by simp [hq]))
    have h1 := varL_le2 (n := p.1.toNat) (by omega)
    have h2 := varL_le2 (n := p.2.toNat) (by omega)
    unfold pairsL
    simp only [List.length_append, List.length_cons]
    omega
theorem canon_bl {l : List (Int × Int)} (hv : vocabOk l = true) {s : ByteArray} (h : canonV l = s) : bl s = [98, 112, 101, (l.length : Int)] ++ pairsL l := by
  have h60 := tokV_60 hv
  subst h
  unfold canonV
  rw [if_pos hv]
  have hb : IsB (canonL l) := by
    unfold canonL
    refine isB_append (isB_append (isB_cons (by omega) (isB_cons (by omega) (isB_cons (by omega) isB_nil))) (varL_isB _)) ?_
    have : ∀ l : List (Int × Int), IsB (pairsL l) := by
      intro l
      induction l with
      | nil => exact isB_nil
      | cons p l ih => exact isB_append (isB_append (varL_isB _) (varL_isB _)) ih
    exact this l
  rw [bl_strOf hb]
  unfold canonL
  rw [varL_small (by omega)]
  rfl
theorem canon_size {l : List (Int × Int)} (hv : vocabOk l = true) {s : ByteArray} (h : canonV l = s) : 4 ≤ s.size ∧ s.size ≤ 250 := by
  have h60 := tokV_60 hv
  have hp := pairsL_len l (vocab_pairs hv)
  have hb := congrArg List.length (canon_bl hv h)
  rw [bl_length, List.length_append] at hb
  simp only [List.length_cons, List.length_nil] at hb
  omega
def isCanon (s : ByteArray) : Prop := ∃ l : List PI, vocabOk (prs l) = true ∧ canonV (prs l) = s
abbrev CanT := List PI × Bool
def goodC (s : ByteArray) (R : CanT) : Prop := R = ([], false) ∨ (s.size ≠ 0 ∧ ∃ v, R = (v, true) ∧ canonV (prs v) = s)
theorem goodC_no {s : ByteArray} {R : CanT} (h : goodC s R) (hn : ¬ isCanon s) : R = ([], false) := by
  rcases h with h | ⟨h0, v, rfl, hv⟩
  · exact h
  · by_cases c : vocabOk (prs v) = true
    · exact absurd ⟨v, c, hv⟩ hn
    · unfold canonV at hv
      rw [if_neg c] at hv
      subst hv
      exact absurd (by rw [strOf_size]; rfl) h0
/-- one pair, read -/
theorem pair_read {s : ByteArray} {i : Nat} {l : List PI} (hlt : i < l.length) (hp : ∀ p ∈ prs l, 0 ≤ p.1 ∧ p.1 ≤ 315 ∧ 0 ≤ p.2 ∧ p.2 ≤ 315) {n : Nat} (hn : n ≤ s.size) (h : (bl s).drop n = pairsL (prs (l.drop i))) :
    ∃ a b : Nat, readVarV (tl s n) = (l[i].f0, (a : Int)) ∧ readVarV (tl s (n + a)) = (l[i].f1, (b : Int)) ∧ 1 ≤ a ∧ 1 ≤ b ∧ n + a + b ≤ s.size ∧ (bl s).drop (n + a + b) = pairsL (prs (l.drop (i + 1))) := by
  have hm : (l[i].f0, l[i].f1) ∈ prs l := by
    unfold prs
    exact List.mem_map.2 ⟨l[i], List.getElem_mem hlt, rfl⟩
  have hq := hp _ hm
  simp only at hq
  obtain ⟨x, hx⟩ := Int.eq_ofNat_of_zero_le hq.1
  obtain ⟨y, hy⟩ := Int.eq_ofNat_of_zero_le hq.2.2.1
  rw [List.drop_eq_getElem_cons hlt] at h
  simp only [prs, List.map_cons, pairsL] at h
  rw [hx, hy, Int.toNat_natCast, Int.toNat_natCast, List.append_assoc] at h
  have r1 := rv_varL (s := tl s n) (n := x) (by omega) (xs := varL y ++ pairsL (prs (l.drop (i + 1)))) (by rw [tl_bl, h]; rfl)
  have h2 : (bl s).drop (n + (varL x).length) = varL y ++ pairsL (prs (l.drop (i + 1))) := by
    rw [← List.drop_drop, h, List.drop_left' rfl]; rfl
  have r2 := rv_varL (s := tl s (n + (varL x).length)) (n := y) (by omega) (xs := pairsL (prs (l.drop (i + 1)))) (by rw [tl_bl, h2])
  have hl := congrArg List.length h
  rw [List.length_drop, bl_length, List.length_append, List.length_append] at hl
  refine ⟨(varL x).length, (varL y).length, by rw [r1, hx], by rw [r2, hy], varL_pos x, varL_pos y, by omega, ?_⟩
  rw [← List.drop_drop, h2, List.drop_left' rfl]

theorem spec_l1In_eq (a b c : Int) : spec_l1In.f a b c = some (decide (b ≤ a ∧ a ≤ c)) := by
  unfold spec_l1In.f
  by_cases h : a ≥ b
  · rw [if_pos h]; simp [show b ≤ a from h]
  · rw [if_neg h]; simp [show ¬ b ≤ a from h]

theorem spec_Var_l0 (n : Nat) : ∀ (xs : List Int), xs.length + n / 128 < 140737488355328 → n < 9223372036854775808 →
    Ev (fun k => spec_Var.l0 k (n : Int) xs) (strOfNums (xs ++ varL n)) := by
  induction n using Nat.strongRecOn with
  | ind n ih =>
  intro xs h1 h2
  refine Ev.step (fun k => by rw [spec_Var.l0]) ?_
  rw [varL]
  by_cases c : n < 128
  · rw [if_pos c]
    refine Ev.neg (by omega) (Ev.pos (by omega) (Ev.val _ _ ?_))
    rw [Int.emod_eq_of_lt (by omega) (by omega)]
  · rw [if_neg c]
    refine Ev.pos (by omega) (Ev.pos (by omega) ?_)
    have e1 : wrap64 (Int.tdiv (n : Int) 128) = ((n / 128 : Nat) : Int) := by rw [tdiv_nn (by omega), w64 (by omega) (by omega)]; omega
    have e2 : (wrap64 (128 + Int.tmod (n : Int) 128)) % 256 = ((n % 128 + 128 : Nat) : Int) := by rw [tmod_nn (by omega), w64 (by omega) (by omega)]; omega
    rw [e1, e2]
    have := ih (n / 128) (by omega) (xs ++ [((n % 128 + 128 : Nat) : Int)]) (by simp; omega) (by omega)
    simpa [List.append_assoc] using this
theorem spec_Var_in (n : Nat) (h : n ≤ 562949953421311) : Ev (fun k => spec_Var.f k (n : Int)) (strOfNums (varL n)) := by
  unfold spec_Var.f
  refine Ev.bind0 (spec_l1In_eq _ _ _) (Ev.pos (by simp; omega) ?_)
  simpa using spec_Var_l0 n [] (by simp; omega) (by omega)
theorem spec_Var_out (x : Int) (h : ¬ (0 ≤ x ∧ x ≤ 562949953421311)) : Ev (fun k => spec_Var.f k x) (strOfNums []) := by
  unfold spec_Var.f
  exact Ev.bind0 (spec_l1In_eq _ _ _) (Ev.neg (by simp; omega) (Ev.val _ _ rfl))

theorem spec_ReadVar_l1 (s : ByteArray) (x4 : Int) (r : Int × Int) (m : Nat) : ∀ (n e : Nat), n < 128 ^ e → e + m ≤ 7 → m ≤ s.size →
    Ev (fun k => spec_ReadVar.l1 k s x4 ((n * 128 ^ m + lev s m : Nat) : Int) (-1)) r → Ev (fun k => spec_ReadVar.l1 k s x4 (n : Int) ((m : Int) - 1)) r := by
  induction m with
  | zero =>
    intro n e hn he hm h
    simpa [lev] using h
  | succ m ih =>
    intro n e hn he hm h
    have hb := bt_range s (m : Int)
    have h7 : 128 ^ e ≤ 128 ^ 6 := Nat.pow_le_pow_right (by decide) (by omega)
    have h6 : (128 : Nat) ^ 6 = 4398046511104 := by decide
    refine Ev.step (fun k => by rw [spec_ReadVar.l1]) ?_
    have e0 : ((m + 1 : Nat) : Int) - 1 = (m : Int) := by omega
    rw [e0]
    refine Ev.pos (by omega) (Ev.pos (by omega) (Ev.pos (by omega) ?_))
    have e1 : wrap64 (wrap64 ((n : Int) * 128) + Int.tmod (wrap64 (bt s (m : Int))) 128) = ((n * 128 + (bt s (m : Int)).toNat % 128 : Nat) : Int) := by
      rw [wbt, tmod_nn (by omega), w64 (x := (n : Int) * 128) (by omega) (by omega), w64 (by omega) (by omega)]
      omega
    rw [e1, w64 (by omega) (by omega)]
    refine ih _ (e + 1) (by rw [Nat.pow_succ]; omega) (by omega) (by omega) ?_
    have e2 : (n * 128 + (bt s (m : Int)).toNat % 128) * 128 ^ m + lev s m = n * 128 ^ (m + 1) + lev s (m + 1) := by
      rw [lev, Nat.pow_succ, Nat.add_mul, Nat.mul_assoc, Nat.mul_comm 128 (128 ^ m)]
      omega
    rw [e2]
    exact h
theorem spec_ReadVar_l0 (s : ByteArray) (hs : s.size ≤ 140737488351232) (d : Nat) : ∀ (i : Nat), i + d = 7 → Ev (fun k => spec_ReadVar.l0 k s ((i + 1 : Nat) : Int)) (rvTry s d i) := by
  induction d with
  | zero =>
    intro i hi
    refine Ev.step (fun k => by rw [spec_ReadVar.l0]) ?_
    refine Ev.neg (by omega) ?_
    refine Ev.step (fun k => by rw [spec_ReadVar.j1]) ?_
    exact Ev.neg (by simp) (Ev.now _)
  | succ d ih =>
    intro i hi
    refine Ev.step (fun k => by rw [spec_ReadVar.l0]) ?_
    refine Ev.pos (by omega) ?_
    refine Ev.step (fun k => by rw [spec_ReadVar.j1]) ?_
    rw [rvTry]
    by_cases c : i < s.size
    · rw [if_pos c]
      refine Ev.pos (by simp; omega) ?_
      rw [w64 (x := ((i + 1 : Nat) : Int) - 1) (by omega) (by omega)]
      refine spec_ReadVar_l1 s _ _ (i + 1) 0 0 (by simp) (by omega) (by omega) ?_
      rw [Nat.zero_mul, Nat.zero_add]
      refine Ev.step (fun k => by rw [spec_ReadVar.l1]) ?_
      refine Ev.neg (by omega) (Ev.bind (spec_Var_in _ (lev_le (by omega))) (Ev.pos (by omega) (Ev.pos (by omega) ?_)))
      rw [Int.toNat_natCast]
      by_cases v : isVarAt s (i + 1)
      · rw [if_pos v]
        exact Ev.pos v (Ev.now _)
      · rw [if_neg v]
        refine Ev.neg v ?_
        rw [w64 (by omega) (by omega)]
        exact ih (i + 1) (by omega)
    · rw [if_neg c]
      exact Ev.neg (by simp; omega) (Ev.now _)
theorem spec_ReadVar_ev (s : ByteArray) (hs : s.size ≤ 140737488351232) : Ev (fun k => spec_ReadVar.f k s) (readVarV s) := by
  unfold spec_ReadVar.f readVarV
  rw [← rv_same]
  exact spec_ReadVar_l0 s hs 7 0 rfl

theorem spec_l7Bytes_eq {out : List ByteArray} {id : Int} (h0 : 0 ≤ id) (h1 : id ≤ 255 + (out.length : Int)) (hl : out.length ≤ 100000) : spec_l7Bytes.f out id = some (tokB out id) := by
  unfold spec_l7Bytes.f tokB
  by_cases c : id < 256
  · rw [if_pos c, if_pos c]
  · rw [if_neg c, if_neg c, w64 (by omega) (by omega), if_pos (by omega), if_pos (by omega)]
theorem spec_l7Table_l1 (l : List PI) (out : List ByteArray) (t : ByteArray) (R : List ByteArray × Bool) (ho : out.length ≤ 1000) (d : Nat) : ∀ (j : Nat), j + d = out.length →
    Ev (fun k => spec_l7Table.l0 k (out ++ [t]) ((out.length : Int) + 1) l) R → Ev (fun k => spec_l7Table.l1 k out (out.length : Int) t (j : Int) l) (if t ∈ out.drop j then (out, false) else R) := by
  induction d with
  | zero =>
    intro j hj h
    refine Ev.step (fun k => by rw [spec_l7Table.l1]) ?_
    rw [List.drop_eq_nil_of_le (by omega), if_neg (by simp)]
    refine Ev.neg (by omega) (Ev.pos (by omega) ?_)
    rw [w64 (by omega) (by omega)]
    exact h
  | succ d ih =>
    intro j hj h
    refine Ev.step (fun k => by rw [spec_l7Table.l1]) ?_
    refine Ev.pos (by omega) (Ev.pos (by omega) (Ev.pos (by omega) ?_))
    rw [rdOf_drop out j (by omega)]
    by_cases c : (rdOf ByteArray.empty out (j : Int)).toList = t.toList
    · refine Ev.pos c ?_
      rw [if_pos (by rw [(tl_iff _ _).1 c]; simp)]
      exact Ev.now _
    · refine Ev.neg c ?_
      have e : (t ∈ rdOf ByteArray.empty out (j : Int) :: out.drop (j + 1)) ↔ t ∈ out.drop (j + 1) := by
        rw [List.mem_cons]
        exact ⟨fun h => h.elim (fun h => absurd (by rw [h]) c) id, .inr⟩
      simp only [e]
      have := ih (j + 1) (by omega) h
      have e1 : ((j + 1 : Nat) : Int) = (j : Int) + 1 := by omega
      rw [e1] at this
      rw [w64 (by omega) (by omega)]
      exact this
theorem spec_l7Table_l0 (l : List PI) (hl : l.length ≤ 60) (d : Nat) : ∀ (out : List ByteArray), out.length + d = l.length → Short out →
    Ev (fun k => spec_l7Table.l0 k out (out.length : Int) l) (tokLoop (prs (l.drop out.length)) out) := by
  induction d with
  | zero =>
    intro out ho hs
    refine Ev.step (fun k => by rw [spec_l7Table.l0]) ?_
    rw [List.drop_eq_nil_of_le (by omega)]
    exact Ev.neg (by omega) (Ev.now _)
  | succ d ih =>
    intro out ho hs
    refine Ev.step (fun k => by rw [spec_l7Table.l0]) ?_
    rw [rdI_drop l out.length (by omega)]
    generalize rd_T113 l (out.length : Int) = p
    rw [w64 (by omega) (by omega)]
    refine Ev.pos (by omega) (Ev.pos (by omega) ?_)
    simp only [prs, List.map_cons, tokLoop]
    have bad : ¬ pairOk out.length (p.f0, p.f1) → Ev (fun k => spec_l7Table.j1 k out (out.length : Int) true l p.f0 p.f1) (out, false) := by
      intro h
      refine Ev.step (fun k => by rw [spec_l7Table.j1]) ?_
      exact Ev.pos rfl (Ev.now _)
    by_cases c : pairOk out.length (p.f0, p.f1)
    · rw [if_pos c]
      have s0 : (tokB out p.f0).size ≤ 24 := tokB_size hs c.1.1 c.1.2
      have s1 : (tokB out p.f1).size ≤ 24 := tokB_size hs c.2.1 c.2.2
      refine Ev.bind0 (spec_l1In_eq _ _ _) (Ev.pos (decide_eq_true c.1) (Ev.bind0 (spec_l1In_eq _ _ _) ?_))
      rw [decide_eq_true c.2]
      refine Ev.step (fun k => by rw [spec_l7Table.j1]) ?_
      refine Ev.neg (by simp) (Ev.bind0 (spec_l7Bytes_eq c.1.1 c.1.2 (by omega)) (Ev.bind0 (spec_l7Bytes_eq c.2.1 c.2.2 (by omega)) (Ev.pos (by omega) ?_)))
      generalize tokB out p.f0 ++ tokB out p.f1 = t
      by_cases c2 : (t.size : Int) > 24
      · rw [if_pos (.inl (by omega))]
        exact Ev.pos c2 (Ev.now _)
      · refine Ev.neg c2 ?_
        have R := ih (out ++ [t]) (by simp; omega) (short_snoc hs (by omega))
        have e1 : ((out ++ [t]).length : Int) = (out.length : Int) + 1 := by simp
        have e2 : (out ++ [t]).length = out.length + 1 := by simp
        rw [e1, e2] at R
        have := spec_l7Table_l1 l out t _ (by omega) out.length 0 (by omega) R
        rw [List.drop_zero] at this
        have e3 : (24 < t.size ∨ t ∈ out) ↔ t ∈ out := ⟨fun h => h.elim (fun h => by omega) id, .inr⟩
        simp only [e3]
        exact this
    · rw [if_neg c]
      refine Ev.bind0 (spec_l1In_eq _ _ _) ?_
      by_cases c1 : 0 ≤ p.f0 ∧ p.f0 ≤ 255 + (out.length : Int)
      · refine Ev.pos (decide_eq_true c1) (Ev.bind0 (spec_l1In_eq _ _ _) ?_)
        rw [decide_eq_false (fun h => c ⟨c1, h⟩)]
        exact bad c
      · exact Ev.neg (by rw [decide_eq_false c1]; simp) (bad c)
theorem spec_l7Table_ev (l : List PI) : Ev (fun k => spec_l7Table.f k l) (tokV (prs l)) := by
  unfold spec_l7Table.f tokV
  refine Ev.bind0 rfl ?_
  rw [prs_length]
  by_cases c : 60 < l.length
  · rw [if_pos c]; exact Ev.pos (by omega) (Ev.now _)
  · rw [if_neg c]
    refine Ev.neg (by omega) ?_
    exact spec_l7Table_l0 l (by omega) l.length [] (by simp) short_nil

theorem spec_VocabOk_ev (l : List PI) : Ev (fun k => spec_VocabOk.f k l) (vocabOk (prs l)) := by
  unfold spec_VocabOk.f
  exact Ev.bind (spec_l7Table_ev l) (Ev.now _)

theorem spec_Canon_l0 (l : List PI) (hl : l.length ≤ 60) (hp : ∀ p ∈ prs l, 0 ≤ p.1 ∧ p.1 ≤ 315 ∧ 0 ≤ p.2 ∧ p.2 ≤ 315) (d : Nat) : ∀ (i : Nat) (xs : List Int), i + d = l.length → xs.length ≤ 100 + 14 * i →
    Ev (fun k => spec_Canon.l0 k (strOfNums xs) (i : Int) l) (strOfNums (xs ++ pairsL (prs (l.drop i)))) := by
  induction d with
  | zero =>
    intro i xs hi hx
    refine Ev.step (fun k => by rw [spec_Canon.l0]) ?_
    rw [List.drop_eq_nil_of_le (by omega)]
    exact Ev.neg (by omega) (Ev.val _ _ (by simp [prs, pairsL]))
  | succ d ih =>
    intro i xs hi hx
    have hm : rd_T113 l (i : Int) ∈ l := by
      have := rdI_drop l i (by omega)
      exact List.mem_of_mem_drop (i := i) (by rw [this]; exact List.mem_cons_self)
    refine Ev.step (fun k => by rw [spec_Canon.l0]) ?_
    rw [rdI_drop l i (by omega)]
    generalize rd_T113 l (i : Int) = p at hm
    obtain ⟨h0, h1, h2, h3⟩ := hp (p.f0, p.f1) (List.mem_map.2 ⟨p, hm, rfl⟩)
    obtain ⟨n, hn⟩ := Int.eq_ofNat_of_zero_le h0
    obtain ⟨m, hmm⟩ := Int.eq_ofNat_of_zero_le h2
    simp only at hn hmm h1 h3
    have l1 := varL_le7 (n := n) (by omega)
    have l2 := varL_le7 (n := m) (by omega)
    refine Ev.pos (by omega) (Ev.pos (by omega) ?_)
    rw [hn, hmm]
    refine Ev.bind (spec_Var_in n (by omega)) (Ev.pos (by rw [strOf_size, strOf_size]; omega) ?_)
    refine Ev.bind (spec_Var_in m (by omega)) ?_
    rw [strOf_append]
    refine Ev.pos (by rw [strOf_size, strOf_size, List.length_append]; omega) ?_
    rw [strOf_append, w64 (by omega) (by omega)]
    have := ih (i + 1) (xs ++ varL n ++ varL m) (by omega) (by simp only [List.length_append]; omega)
    have e1 : ((i + 1 : Nat) : Int) = (i : Int) + 1 := by omega
    rw [e1] at this
    have e2 : xs ++ pairsL (prs (p :: l.drop (i + 1))) = xs ++ varL n ++ varL m ++ pairsL (prs (l.drop (i + 1))) := by
      simp only [prs, List.map_cons, pairsL, hn, hmm, Int.toNat_natCast, List.append_assoc]
    rw [e2]
    exact this
theorem spec_Canon_ev (l : List PI) : Ev (fun k => spec_Canon.f k l) (canonV (prs l)) := by
  unfold spec_Canon.f canonV
  refine Ev.bind (spec_VocabOk_ev l) ?_
  refine Ev.ite Iff.rfl (fun c => ?_) (fun _ => Ev.now _)
  have h60 := tokV_60 c
  rw [prs_length] at h60
  have l1 := varL_le7 (n := l.length) (by omega)
  refine Ev.bind (spec_Var_in l.length (by omega)) (Ev.pos (by rw [strOf_size]; omega) ?_)
  have e : (⟨#[98, 112, 101]⟩ : ByteArray) = strOfNums [98, 112, 101] := rfl
  rw [e, strOf_append]
  have := spec_Canon_l0 l h60 (vocab_pairs c) l.length 0 ([98, 112, 101] ++ varL l.length) (by omega) (by simp; omega)
  unfold canonL
  rw [prs_length]
  exact this

theorem spec_rc_end (s : ByteArray) (h0 : s.size ≠ 0) (n : Nat) (hn : ¬ n < s.size) (v : List PI) : ∃ R, Ev (fun k => spec_ReadCanon.l0 k s (n : Int) v) R ∧ goodC s R ∧ (canonV (prs v) = s → R = (v, true)) := by
  by_cases c : canonV (prs v) = s
  · refine ⟨(v, true), ?_, .inr ⟨h0, v, rfl, c⟩, fun _ => rfl⟩
    refine Ev.step (fun k => by rw [spec_ReadCanon.l0]) ?_
    exact Ev.neg (by omega) (Ev.bind (spec_Canon_ev v) (Ev.pos ((tl_iff _ _).2 c) (Ev.now _)))
  · refine ⟨([], false), ?_, .inl rfl, fun e => absurd e c⟩
    refine Ev.step (fun k => by rw [spec_ReadCanon.l0]) ?_
    exact Ev.neg (by omega) (Ev.bind (spec_Canon_ev v) (Ev.neg (fun e => c ((tl_iff _ _).1 e)) (Ev.now _)))
theorem spec_rc_step (s : ByteArray) (hs : s.size ≤ 250) (n : Nat) (hn : n < s.size) (v : List PI) (hv : v.length ≤ n) (R : CanT) :
    ((readVarV (tl s n)).2 = 0 ∨ (readVarV (tl s (n + (readVarV (tl s n)).2.toNat))).2 = 0 → R = ([], false)) →
    (¬ (readVarV (tl s n)).2 = 0 → ¬ (readVarV (tl s (n + (readVarV (tl s n)).2.toNat))).2 = 0 → Ev (fun k => spec_ReadCanon.l0 k s ((n + (readVarV (tl s n)).2.toNat + (readVarV (tl s (n + (readVarV (tl s n)).2.toNat))).2.toNat : Nat) : Int) (v ++ [⟨(readVarV (tl s n)).1, (readVarV (tl s (n + (readVarV (tl s n)).2.toNat))).1⟩])) R) →
    Ev (fun k => spec_ReadCanon.l0 k s (n : Int) v) R := by
  intro hz hgo
  have r1 := rv_range (tl s n)
  have e1 := spec_ReadVar_ev (tl s n) (by rw [tl_size]; omega)
  have r2 := rv_range (tl s (n + (readVarV (tl s n)).2.toNat))
  have e2 := spec_ReadVar_ev (tl s (n + (readVarV (tl s n)).2.toNat)) (by rw [tl_size]; omega)
  rw [tl_size] at r1 r2
  generalize readVarV (tl s n) = p at *
  generalize readVarV (tl s (n + p.2.toNat)) = q at *
  refine Ev.step (fun k => by rw [spec_ReadCanon.l0]) ?_
  have a1 : wrap64 ((n : Int) + p.2) = ((n + p.2.toNat : Nat) : Int) := by rw [w64 (by omega) (by omega)]; omega
  have a2 : wrap64 (((n + p.2.toNat : Nat) : Int) + q.2) = ((n + p.2.toNat + q.2.toNat : Nat) : Int) := by rw [w64 (by omega) (by omega)]; omega
  refine Ev.pos (by omega) (Ev.pos (by omega) (Ev.pos (by omega) ?_))
  rw [Int.toNat_natCast]
  refine Ev.bind e1 ?_
  rw [a1, Int.toNat_natCast]
  refine Ev.pos (Int.natCast_nonneg _) (Ev.pos (by clear a1 a2; omega) (Ev.bind e2 ?_))
  rw [a2]
  clear a1 a2
  by_cases c1 : p.2 = 0
  · rw [hz (.inl c1)]; exact Ev.pos c1 (Ev.now _)
  · by_cases c2 : q.2 = 0
    · rw [hz (.inr c2)]; exact Ev.neg c1 (Ev.pos c2 (Ev.now _))
    · exact Ev.neg c1 (Ev.neg c2 (Ev.pos (by omega) (hgo c1 c2)))
theorem spec_rc_any (s : ByteArray) (h0 : s.size ≠ 0) (hs : s.size ≤ 250) (d : Nat) : ∀ (n : Nat) (v : List PI), s.size ≤ n + d → v.length ≤ n → ∃ R, Ev (fun k => spec_ReadCanon.l0 k s (n : Int) v) R ∧ goodC s R := by
  induction d with
  | zero =>
    intro n v hn hv
    obtain ⟨R, e, g, _⟩ := spec_rc_end s h0 n (by omega) v
    exact ⟨R, e, g⟩
  | succ d ih =>
    intro n v hn hv
    by_cases c : n < s.size
    · by_cases c1 : (readVarV (tl s n)).2 = 0
      · exact ⟨([], false), spec_rc_step s hs n c v hv _ (fun _ => rfl) (fun h => absurd c1 h), .inl rfl⟩
      · by_cases c2 : (readVarV (tl s (n + (readVarV (tl s n)).2.toNat))).2 = 0
        · exact ⟨([], false), spec_rc_step s hs n c v hv _ (fun _ => rfl) (fun _ h => absurd c2 h), .inl rfl⟩
        · have r1 := rv_range (tl s n)
          obtain ⟨R, e, g⟩ := ih (n + (readVarV (tl s n)).2.toNat + (readVarV (tl s (n + (readVarV (tl s n)).2.toNat))).2.toNat) (v ++ [⟨(readVarV (tl s n)).1, (readVarV (tl s (n + (readVarV (tl s n)).2.toNat))).1⟩]) (by omega) (by rw [List.length_append, List.length_singleton]; omega)
          exact ⟨R, spec_rc_step s hs n c v hv _ (fun h => h.elim (fun h => absurd h c1) (fun h => absurd h c2)) (fun _ _ => e), g⟩
    · obtain ⟨R, e, g, _⟩ := spec_rc_end s h0 n c v
      exact ⟨R, e, g⟩
theorem spec_rc_canon (s : ByteArray) (l : List PI) (hv : vocabOk (prs l) = true) (hc : canonV (prs l) = s) (d : Nat) : ∀ (i n : Nat), i + d = l.length → n ≤ s.size → i ≤ n → (bl s).drop n = pairsL (prs (l.drop i)) →
    Ev (fun k => spec_ReadCanon.l0 k s (n : Int) (l.take i)) (l, true) := by
  have hz := canon_size hv hc
  induction d with
  | zero =>
    intro i n hi hn hin h
    have e0 : l.drop i = [] := List.drop_eq_nil_of_le (by omega)
    rw [e0] at h
    have hl := congrArg List.length h
    rw [List.length_drop, bl_length] at hl
    have hl' : s.size - n = 0 := hl
    rw [List.take_of_length_le (by omega)]
    obtain ⟨R, e, _, g⟩ := spec_rc_end s (by omega) n (by omega) l
    rw [g hc] at e
    exact e
  | succ d ih =>
    intro i n hi hn hin h
    obtain ⟨a, b, ha, hb, a1, b1, hnb, hd⟩ := pair_read (by omega : i < l.length) (vocab_pairs hv) hn h
    have R := ih (i + 1) (n + a + b) (by omega) hnb (by omega) hd
    rw [List.take_succ_eq_append_getElem (by omega : i < l.length)] at R
    refine spec_rc_step s hz.2 n (by omega) (l.take i) (by rw [List.length_take]; omega) _ ?_ ?_
    · rw [ha]; simp only [Int.toNat_natCast]; rw [hb]
      simp only
      intro h; omega
    · rw [ha]; simp only [Int.toNat_natCast]; rw [hb]
      simp only [Int.toNat_natCast]
      intro _ _
      exact R
theorem spec_ReadCanon_yes (s : ByteArray) (l : List PI) (hv : vocabOk (prs l) = true) (hc : canonV (prs l) = s) : Ev (fun k => spec_ReadCanon.f k s) (l, true) := by
  have hz := canon_size hv hc
  have hb := canon_bl hv hc
  unfold spec_ReadCanon.f
  refine Ev.neg (by omega) ?_
  rw [decide_eq_false (by omega)]
  refine Ev.step (fun k => by rw [spec_ReadCanon.j0]) ?_
  refine Ev.neg (by simp) ?_
  have := spec_rc_canon s l hv hc l.length 0 4 (by omega) (by omega) (by omega) (by rw [hb, List.drop_zero]; rfl)
  exact this
theorem spec_ReadCanon_no (s : ByteArray) (hn : ¬ isCanon s) : Ev (fun k => spec_ReadCanon.f k s) ([], false) := by
  have jt : Ev (fun k => spec_ReadCanon.j0 k s true) ([], false) := by
    refine Ev.step (fun k => by rw [spec_ReadCanon.j0]) ?_
    exact Ev.pos rfl (Ev.now _)
  unfold spec_ReadCanon.f
  by_cases c0 : (s.size : Int) < 4
  · exact Ev.pos c0 jt
  · refine Ev.neg c0 ?_
    by_cases c1 : (s.size : Int) > 250
    · rw [decide_eq_true c1]; exact jt
    · rw [decide_eq_false c1]
      refine Ev.step (fun k => by rw [spec_ReadCanon.j0]) ?_
      refine Ev.neg (by simp) ?_
      obtain ⟨R, e, g⟩ := spec_rc_any s (by omega) (by omega) s.size 4 [] (by omega) (by simp)
      rw [goodC_no g hn] at e
      exact e

theorem impl_within_eq (a b c : Int) : impl_within.f a b c = some (decide (b ≤ a ∧ a ≤ c)) := by
  unfold impl_within.f
  by_cases h : a ≥ b
  · rw [if_pos h]; simp [show b ≤ a from h]
  · rw [if_neg h]; simp [show ¬ b ≤ a from h]

theorem impl_Var_l0 (n : Nat) : ∀ (xs : List Int), xs.length + n / 128 < 140737488355328 → n < 9223372036854775808 →
    Ev (fun k => impl_Var.l0 k (n : Int) xs) (strOfNums (xs ++ varL n)) := by
  induction n using Nat.strongRecOn with
  | ind n ih =>
  intro xs h1 h2
  refine Ev.step (fun k => by rw [impl_Var.l0]) ?_
  rw [varL]
  by_cases c : n < 128
  · rw [if_pos c]
    refine Ev.neg (by omega) (Ev.pos (by omega) (Ev.val _ _ ?_))
    rw [Int.emod_eq_of_lt (by omega) (by omega)]
  · rw [if_neg c]
    refine Ev.pos (by omega) (Ev.pos (by omega) ?_)
    have e1 : ((n : Int) / 128) = ((n / 128 : Nat) : Int) := by omega
    have e2 : (Go.bits .or .i64 (Go.bits .and .i64 (n : Int) 127) 128) % 256 = ((n % 128 + 128 : Nat) : Int) := by
      rw [and127 (by omega) (by omega), or_join' 7 128 _ (by omega) (by omega) (by omega) (by omega) (by omega) (by omega)]; omega
    rw [e1, e2]
    have := ih (n / 128) (by omega) (xs ++ [((n % 128 + 128 : Nat) : Int)]) (by simp; omega) (by omega)
    simpa [List.append_assoc] using this
theorem impl_Var_in (n : Nat) (h : n ≤ 562949953421311) : Ev (fun k => impl_Var.f k (n : Int)) (strOfNums (varL n)) := by
  unfold impl_Var.f
  refine Ev.bind0 (impl_within_eq _ _ _) (Ev.pos (by simp; omega) ?_)
  simpa using impl_Var_l0 n [] (by simp; omega) (by omega)
theorem impl_Var_out (x : Int) (h : ¬ (0 ≤ x ∧ x ≤ 562949953421311)) : Ev (fun k => impl_Var.f k x) (strOfNums []) := by
  unfold impl_Var.f
  exact Ev.bind0 (impl_within_eq _ _ _) (Ev.neg (by simp; omega) (Ev.val _ _ rfl))

theorem readVar_or (n b i : Nat) (hi : i ≤ 6) (hn : n < 128 ^ i) (hb : b < 128) :
    Go.bits .or .i64 (n : Int) (shl .i64 (b : Int) (wrap64 (7 * (i : Int)))) = ((n + b * 128 ^ i : Nat) : Int) := by
  have hp : (2 : Nat) ^ (7 * i) = 128 ^ i := by rw [Nat.pow_mul]
  have h7 : 128 ^ i ≤ 128 ^ 6 := Nat.pow_le_pow_right (by decide) hi
  have h6 : (128 : Nat) ^ 6 = 4398046511104 := by decide
  have hm : b * 128 ^ i ≤ 127 * 128 ^ i := Nat.mul_le_mul_right _ (by omega)
  have e1 : shl .i64 (b : Int) (wrap64 (7 * (i : Int))) = ((b * 128 ^ i : Nat) : Int) := by
    rw [w64 (by omega) (by omega)]
    unfold shl
    have : min (7 * (i : Int)).toNat IntKind.i64.bits = 7 * i := by
      have : IntKind.i64.bits = 64 := rfl
      omega
    rw [this]
    have e : (b : Int) * 2 ^ (7 * i) = ((b * 128 ^ i : Nat) : Int) := by
      rw [← hp]; simp
    rw [e]
    exact wraps_i64 _ (by omega) (by omega)
  rw [e1, or_join' (7 * i) ((b * 128 ^ i : Nat) : Int) (n : Int) (by omega) ?_ (by omega) (by omega) ?_ (by omega)]
  · omega
  · have e : (2 : Int) ^ (7 * i) = ((128 ^ i : Nat) : Int) := by rw [← hp]; simp
    rw [e, ← Int.natCast_emod, Nat.mul_mod_left]; rfl
  · have e : (2 : Int) ^ (7 * i) = ((128 ^ i : Nat) : Int) := by rw [← hp]; simp
    rw [e]; omega
theorem impl_ReadVar_l0 (s : ByteArray) (hs : s.size ≤ 140737488351232) (d : Nat) : ∀ (i : Nat), i + d = 7 → Ev (fun k => impl_ReadVar.l0 k s ((lev s i : Nat) : Int) (i : Int)) (rvFrom s d i) := by
  induction d with
  | zero =>
    intro i hi
    refine Ev.step (fun k => by rw [impl_ReadVar.l0]) ?_
    have fin : Ev (fun k => impl_ReadVar.j1 k s ((lev s i : Nat) : Int) (i : Int) false) (rvFrom s 0 i) := by
      refine Ev.step (fun k => by rw [impl_ReadVar.j1]) ?_
      exact Ev.neg (by simp) (Ev.now _)
    by_cases c : (i : Int) < (s.size : Int)
    · refine Ev.pos c ?_
      rw [show decide ((i : Int) < 7) = false by simp; omega]
      exact fin
    · exact Ev.neg c fin
  | succ d ih =>
    intro i hi
    have hb := bt_range s (i : Int)
    refine Ev.step (fun k => by rw [impl_ReadVar.l0]) ?_
    rw [rvFrom]
    by_cases c : i < s.size
    · rw [if_pos c]
      refine Ev.pos (by omega) ?_
      refine Ev.step (fun k => by rw [impl_ReadVar.j1]) ?_
      have eb : wrap64 (Go.bits .and .u8 (bt s (i : Int)) 127) = (((bt s (i : Int)).toNat % 128 : Nat) : Int) := by
        rw [u8_and127 hb.1 (by omega), w64 (by omega) (by omega)]; omega
      have ev : Go.bits .or .i64 ((lev s i : Nat) : Int) (shl .i64 (wrap64 (Go.bits .and .u8 (bt s (i : Int)) 127)) (wrap64 (7 * (i : Int)))) = ((lev s (i + 1) : Nat) : Int) := by
        rw [eb, readVar_or _ _ i (by omega) (lev_lt s i) (by omega)]
        rfl
      rw [ev, w64 (x := (i : Int) + 1) (by omega) (by omega), w64 (x := 7 * (i : Int)) (by omega) (by omega)]
      have e1 : (i : Int) + 1 = ((i + 1 : Nat) : Int) := by omega
      rw [e1, Int.toNat_natCast]
      refine Ev.pos (by simp; omega) (Ev.pos (by omega) (Ev.pos (by omega) (Ev.pos (by omega) ?_)))
      by_cases l : bt s (i : Int) < 128
      · rw [if_pos l]
        refine Ev.pos l (Ev.bind (impl_Var_in _ (lev_le (by omega))) (Ev.pos (by omega) (Ev.pos (by omega) ?_)))
        by_cases v : isVarAt s (i + 1)
        · rw [if_pos v]
          exact Ev.pos v (Ev.now _)
        · rw [if_neg v]
          exact Ev.neg v (Ev.now _)
      · rw [if_neg l]
        refine Ev.neg l ?_
        exact ih (i + 1) (by omega)
    · rw [if_neg c]
      refine Ev.neg (by omega) ?_
      refine Ev.step (fun k => by rw [impl_ReadVar.j1]) ?_
      exact Ev.neg (by simp) (Ev.now _)
theorem impl_ReadVar_ev (s : ByteArray) (hs : s.size ≤ 140737488351232) : Ev (fun k => impl_ReadVar.f k s) (readVarV s) := by
  unfold impl_ReadVar.f readVarV
  exact impl_ReadVar_l0 s hs 7 0 rfl

theorem size_zero (s : ByteArray) : s.size = 0 ↔ s = ⟨#[]⟩ := by
  constructor
  · intro h
    apply bl_inj
    have : (bl s).length = 0 := by rw [bl_length]; exact h
    rw [List.eq_nil_of_length_eq_zero this]; rfl
  · intro h; subst h; rfl
theorem tl_nil (s : ByteArray) : (s.toList == ([] : List UInt8)) = decide (s.size = 0) := by
  have e : ([] : List UInt8) = (⟨#[]⟩ : ByteArray).toList := by rw [Go.Lib.toList_data]
  rw [e, Bool.eq_iff_iff, beq_iff_eq, tl_iff, decide_eq_true_iff, size_zero]
theorem tl_nil' (s : ByteArray) : (s.toList = ([] : List UInt8)) = (s.size = 0) := by
  have e : ([] : List UInt8) = (⟨#[]⟩ : ByteArray).toList := by rw [Go.Lib.toList_data]
  rw [e, tl_iff, size_zero]

def numV (s : ByteArray) (bad : Bool) : Int × ByteArray × Bool := if bad = true then (0, s, true) else if (readVarV s).2 = 0 then (0, s, true) else ((readVarV s).1, tl s (readVarV s).2.toNat, bad)
theorem impl_scan_num_ev (s : ByteArray) (bad : Bool) (hs : s.size ≤ 140737488351232) : Ev (fun k => impl_scan_num.f k s bad) (numV s bad) := by
  have hr := rv_range s
  unfold impl_scan_num.f numV
  refine Ev.bind (impl_ReadVar_ev s hs) (Ev.ite Iff.rfl (fun _ => Ev.now _) (fun _ => Ev.ite Iff.rfl (fun _ => Ev.now _) (fun _ => ?_)))
  exact Ev.pos hr.1 (Ev.pos hr.2.1 (Ev.now _))
theorem numV_size (s : ByteArray) (bad : Bool) : (numV s bad).2.1.size ≤ s.size := by
  unfold numV
  split
  · exact Nat.le_refl _
  · split
    · exact Nat.le_refl _
    · show (tl s _).size ≤ s.size
      rw [tl_size]; omega
theorem impl_scan_cut_eq (s : ByteArray) (n : Int) (h0 : 0 ≤ n) (h1 : n ≤ s.size) : impl_scan_cut.f s false n = some (s.extract 0 n.toNat, tl s n.toNat, false) := by
  unfold impl_scan_cut.f
  rw [if_neg (by simp), impl_within_eq]
  simp only [Option.bind_some]
  rw [decide_eq_true (show 0 ≤ n ∧ n ≤ (s.size : Int) from ⟨h0, h1⟩), if_pos rfl, if_pos h0, if_pos h1]
theorem impl_scan_cut_no (s : ByteArray) (n : Int) (h1 : ¬ n ≤ s.size) : impl_scan_cut.f s false n = some (⟨#[]⟩, s, true) := by
  unfold impl_scan_cut.f
  rw [if_neg (by simp), impl_within_eq]
  simp only [Option.bind_some]
  rw [decide_eq_false (show ¬ (0 ≤ n ∧ n ≤ (s.size : Int)) from fun h => h1 h.2), if_neg (by simp)]

theorem slices_Index_string_l0 (l : List ByteArray) (x : ByteArray) (hl : l.length ≤ 9223372036854775806) (d : Nat) : ∀ (j : Nat), j + d = l.length →
    ∃ r : Int, Ev (fun k => slices_Index_string_string.l0 k l x (l.length : Int) (j : Int)) r ∧ (0 ≤ r ↔ x ∈ l.drop j) := by
  induction d with
  | zero =>
    intro j hj
    refine ⟨-1, ?_, ?_⟩
    · refine Ev.step (fun k => by rw [slices_Index_string_string.l0]) ?_
      exact Ev.neg (by omega) (Ev.now _)
    · rw [List.drop_eq_nil_of_le (by omega)]; simp
  | succ d ih =>
    intro j hj
    obtain ⟨r, h1, h2⟩ := ih (j + 1) (by omega)
    have e1 : ((j + 1 : Nat) : Int) = (j : Int) + 1 := by omega
    rw [e1] at h1
    by_cases c : x.toList = (rdOf ByteArray.empty l (j : Int)).toList
    · refine ⟨j, ?_, ?_⟩
      · refine Ev.step (fun k => by rw [slices_Index_string_string.l0]) ?_
        exact Ev.pos (by omega) (Ev.pos (by omega) (Ev.pos (by omega) (Ev.pos c (Ev.now _))))
      · rw [rdOf_drop l j (by omega), ← (tl_iff _ _).1 c]; simp
    · refine ⟨r, ?_, ?_⟩
      · refine Ev.step (fun k => by rw [slices_Index_string_string.l0]) ?_
        refine Ev.pos (by omega) (Ev.pos (by omega) (Ev.pos (by omega) (Ev.neg c ?_)))
        rw [w64 (by omega) (by omega)]
        exact h1
      · rw [h2, rdOf_drop l j (by omega), List.mem_cons]
        exact ⟨.inr, fun h => h.elim (fun h => absurd (by rw [h]) c) id⟩
theorem slices_Contains_string_ev (l : List ByteArray) (x : ByteArray) (hl : l.length ≤ 9223372036854775806) : Ev (fun k => slices_Contains_string_string.f k l x) (decide (x ∈ l)) := by
  obtain ⟨r, h1, h2⟩ := slices_Index_string_l0 l x hl l.length 0 (by omega)
  unfold slices_Contains_string_string.f slices_Index_string_string.f
  refine Ev.bind h1 (Ev.val _ _ ?_)
  rw [List.drop_zero] at h2
  rw [Bool.eq_iff_iff, decide_eq_true_iff, decide_eq_true_iff]
  exact h2

theorem impl_bytesIn_eq {out : List ByteArray} {id : Int} (h0 : 0 ≤ id) (h1 : id ≤ 255 + (out.length : Int)) (hl : out.length ≤ 100000) : impl_bytesIn.f out id = some (tokB out id) := by
  unfold impl_bytesIn.f tokB
  by_cases c : id < 256
  · rw [if_pos c, if_pos c]
  · rw [if_neg c, if_neg c, w64 (by omega) (by omega), if_pos (by omega), if_pos (by omega)]
theorem impl_tokens_l0 (l : List PI) (hl : l.length ≤ 60) (d : Nat) : ∀ (out : List ByteArray), out.length + d = l.length → Short out →
    Ev (fun k => impl_tokens.l0 k out l (l.length : Int) (out.length : Int)) (tokLoop (prs (l.drop out.length)) out) := by
  induction d with
  | zero =>
    intro out ho hs
    refine Ev.step (fun k => by rw [impl_tokens.l0]) ?_
    rw [List.drop_eq_nil_of_le (by omega)]
    exact Ev.neg (by omega) (Ev.now _)
  | succ d ih =>
    intro out ho hs
    refine Ev.step (fun k => by rw [impl_tokens.l0]) ?_
    rw [rdI_drop l out.length (by omega)]
    generalize rd_T113 l (out.length : Int) = p
    rw [w64 (by omega) (by omega)]
    refine Ev.pos (by omega) (Ev.pos (by omega) (Ev.pos (by omega) ?_))
    simp only [prs, List.map_cons, tokLoop]
    have bad : ¬ pairOk out.length (p.f0, p.f1) → Ev (fun k => impl_tokens.j1 k out l (l.length : Int) (out.length : Int) true p.f0 p.f1) (out, false) := by
      intro h
      refine Ev.step (fun k => by rw [impl_tokens.j1]) ?_
      exact Ev.pos rfl (Ev.now _)
    by_cases c : pairOk out.length (p.f0, p.f1)
    · rw [if_pos c]
      have s0 : (tokB out p.f0).size ≤ 24 := tokB_size hs c.1.1 c.1.2
      have s1 : (tokB out p.f1).size ≤ 24 := tokB_size hs c.2.1 c.2.2
      refine Ev.bind0 (impl_within_eq _ _ _) (Ev.pos (decide_eq_true c.1) (Ev.bind0 (impl_within_eq _ _ _) ?_))
      rw [decide_eq_true c.2]
      refine Ev.step (fun k => by rw [impl_tokens.j1]) ?_
      refine Ev.neg (by simp) (Ev.bind0 (impl_bytesIn_eq c.1.1 c.1.2 (by omega)) (Ev.bind0 (impl_bytesIn_eq c.2.1 c.2.2 (by omega)) (Ev.pos (by omega) ?_)))
      generalize tokB out p.f0 ++ tokB out p.f1 = t
      by_cases c2 : (t.size : Int) > 24
      · rw [if_pos (.inl (by omega))]
        exact Ev.pos c2 (Ev.now _)
      · refine Ev.neg c2 (Ev.bind (slices_Contains_string_ev out t (by omega)) ?_)
        by_cases c3 : t ∈ out
        · rw [if_pos (.inr c3)]
          exact Ev.pos (decide_eq_true c3) (Ev.now _)
        · rw [if_neg (by rintro (h | h); omega; exact c3 h)]
          refine Ev.neg (by rw [decide_eq_false c3]; simp) (Ev.pos (by omega) ?_)
          have R := ih (out ++ [t]) (by simp; omega) (short_snoc hs (by omega))
          have e1 : ((out ++ [t]).length : Int) = (out.length : Int) + 1 := by simp
          have e2 : (out ++ [t]).length = out.length + 1 := by simp
          rw [e1, e2] at R
          rw [w64 (by omega) (by omega)]
          exact R
    · rw [if_neg c]
      refine Ev.bind0 (impl_within_eq _ _ _) ?_
      by_cases c1 : 0 ≤ p.f0 ∧ p.f0 ≤ 255 + (out.length : Int)
      · refine Ev.pos (decide_eq_true c1) (Ev.bind0 (impl_within_eq _ _ _) ?_)
        rw [decide_eq_false (fun h => c ⟨c1, h⟩)]
        exact bad c
      · exact Ev.neg (by rw [decide_eq_false c1]; simp) (bad c)
theorem impl_tokens_ev (l : List PI) : Ev (fun k => impl_tokens.f k l) (tokV (prs l)) := by
  unfold impl_tokens.f tokV
  refine Ev.bind0 rfl ?_
  rw [prs_length]
  by_cases c : 60 < l.length
  · rw [if_pos c]; exact Ev.pos (by omega) (Ev.now _)
  · rw [if_neg c]
    refine Ev.neg (by omega) ?_
    exact impl_tokens_l0 l (by omega) l.length [] (by simp) short_nil

theorem impl_VocabOk_ev (l : List PI) : Ev (fun k => impl_VocabOk.f k l) (vocabOk (prs l)) := by
  unfold impl_VocabOk.f
  exact Ev.bind (impl_tokens_ev l) (Ev.now _)

theorem impl_Canon_l0 (l : List PI) (hl : l.length ≤ 60) (hp : ∀ p ∈ prs l, 0 ≤ p.1 ∧ p.1 ≤ 315 ∧ 0 ≤ p.2 ∧ p.2 ≤ 315) (d : Nat) : ∀ (i : Nat) (xs : List Int), i + d = l.length → xs.length ≤ 100 + 14 * i →
    Ev (fun k => impl_Canon.l0 k (strOfNums xs) l (l.length : Int) (i : Int)) (strOfNums (xs ++ pairsL (prs (l.drop i)))) := by
  induction d with
  | zero =>
    intro i xs hi hx
    refine Ev.step (fun k => by rw [impl_Canon.l0]) ?_
    rw [List.drop_eq_nil_of_le (by omega)]
    exact Ev.neg (by omega) (Ev.val _ _ (by simp [prs, pairsL]))
  | succ d ih =>
    intro i xs hi hx
    have hm : rd_T113 l (i : Int) ∈ l := by
      have := rdI_drop l i (by omega)
      exact List.mem_of_mem_drop (i := i) (by rw [this]; exact List.mem_cons_self)
    refine Ev.step (fun k => by rw [impl_Canon.l0]) ?_
    rw [rdI_drop l i (by omega)]
    generalize rd_T113 l (i : Int) = p at hm
    obtain ⟨h0, h1, h2, h3⟩ := hp (p.f0, p.f1) (List.mem_map.2 ⟨p, hm, rfl⟩)
    obtain ⟨n, hn⟩ := Int.eq_ofNat_of_zero_le h0
    obtain ⟨m, hmm⟩ := Int.eq_ofNat_of_zero_le h2
    simp only at hn hmm h1 h3
    have l1 := varL_le7 (n := n) (by omega)
    have l2 := varL_le7 (n := m) (by omega)
    refine Ev.pos (by omega) (Ev.pos (by omega) (Ev.pos (by omega) ?_))
    rw [hn, hmm]
    refine Ev.bind (impl_Var_in n (by omega)) (Ev.pos (by rw [strOf_size, strOf_size]; omega) ?_)
    refine Ev.bind (impl_Var_in m (by omega)) ?_
    rw [strOf_append]
    refine Ev.pos (by rw [strOf_size, strOf_size, List.length_append]; omega) ?_
    rw [strOf_append, w64 (by omega) (by omega)]
    have := ih (i + 1) (xs ++ varL n ++ varL m) (by omega) (by simp only [List.length_append]; omega)
    have e1 : ((i + 1 : Nat) : Int) = (i : Int) + 1 := by omega
    rw [e1] at this
    have e2 : xs ++ pairsL (prs (p :: l.drop (i + 1))) = xs ++ varL n ++ varL m ++ pairsL (prs (l.drop (i + 1))) := by
      simp only [prs, List.map_cons, pairsL, hn, hmm, Int.toNat_natCast, List.append_assoc]
    rw [e2]
    exact this
theorem impl_Canon_ev (l : List PI) : Ev (fun k => impl_Canon.f k l) (canonV (prs l)) := by
  unfold impl_Canon.f canonV
  refine Ev.bind (impl_VocabOk_ev l) ?_
  refine Ev.ite Iff.rfl (fun c => ?_) (fun _ => Ev.now _)
  have h60 := tokV_60 c
  rw [prs_length] at h60
  have l1 := varL_le7 (n := l.length) (by omega)
  refine Ev.bind (impl_Var_in l.length (by omega)) (Ev.pos (by rw [strOf_size]; omega) ?_)
  have e : (⟨#[98, 112, 101]⟩ : ByteArray) = strOfNums [98, 112, 101] := rfl
  rw [e, strOf_append]
  have := impl_Canon_l0 l h60 (vocab_pairs c) l.length 0 ([98, 112, 101] ++ varL l.length) (by omega) (by simp; omega)
  unfold canonL
  rw [prs_length]
  exact this

theorem impl_rc_end (s : ByteArray) (n : Nat) (t : ByteArray) (bad : Bool) (v : List PI) : ∃ R, Ev (fun k => impl_ReadCanon.l0 k s (n : Int) (n : Int) t bad v) R ∧ goodC s R ∧ (bad = false → s.size ≠ 0 → canonV (prs v) = s → R = (v, true)) := by
  cases bad with
  | true =>
    refine ⟨([], false), ?_, .inl rfl, fun h => by cases h⟩
    refine Ev.step (fun k => by rw [impl_ReadCanon.l0]) ?_
    exact Ev.neg (by omega) (Ev.pos rfl (Ev.now _))
  | false =>
    by_cases c0 : s.size = 0
    · refine ⟨([], false), ?_, .inl rfl, fun _ h => absurd c0 h⟩
      refine Ev.step (fun k => by rw [impl_ReadCanon.l0]) ?_
      exact Ev.neg (by omega) (Ev.neg (by simp) (Ev.pos (by rw [tl_nil']; exact c0) (Ev.now _)))
    · by_cases c : canonV (prs v) = s
      · refine ⟨(v, true), ?_, .inr ⟨c0, v, rfl, c⟩, fun _ _ _ => rfl⟩
        refine Ev.step (fun k => by rw [impl_ReadCanon.l0]) ?_
        exact Ev.neg (by omega) (Ev.neg (by simp) (Ev.neg (by rw [tl_nil']; exact c0) (Ev.bind (impl_Canon_ev v) (Ev.pos ((tl_iff _ _).2 c) (Ev.now _)))))
      · refine ⟨([], false), ?_, .inl rfl, fun _ _ e => absurd e c⟩
        refine Ev.step (fun k => by rw [impl_ReadCanon.l0]) ?_
        exact Ev.neg (by omega) (Ev.neg (by simp) (Ev.neg (by rw [tl_nil']; exact c0) (Ev.bind (impl_Canon_ev v) (Ev.neg (fun e => c ((tl_iff _ _).1 e)) (Ev.now _)))))
theorem impl_rc_any (s : ByteArray) (m : Nat) (hm : m ≤ 60) (d : Nat) : ∀ (i : Nat) (t : ByteArray) (bad : Bool) (v : List PI), i + d = m → t.size ≤ 1048576 → v.length ≤ i → ∃ R, Ev (fun k => impl_ReadCanon.l0 k s (m : Int) (i : Int) t bad v) R ∧ goodC s R := by
  induction d with
  | zero =>
    intro i t bad v hi ht hv
    have : i = m := by omega
    subst this
    obtain ⟨R, e, g, _⟩ := impl_rc_end s i t bad v
    exact ⟨R, e, g⟩
  | succ d ih =>
    intro i t bad v hi ht hv
    have e1 := impl_scan_num_ev t bad (by omega)
    have z1 := numV_size t bad
    generalize numV t bad = p at *
    have e2 := impl_scan_num_ev p.2.1 p.2.2 (by omega)
    have z2 := numV_size p.2.1 p.2.2
    generalize numV p.2.1 p.2.2 = q at *
    obtain ⟨R, e, g⟩ := ih (i + 1) q.2.1 q.2.2 (v ++ [⟨p.1, q.1⟩]) (by omega) (by omega) (by rw [List.length_append, List.length_singleton]; omega)
    refine ⟨R, ?_, g⟩
    have e3 : ((i + 1 : Nat) : Int) = (i : Int) + 1 := by omega
    rw [e3] at e
    refine Ev.step (fun k => by rw [impl_ReadCanon.l0]) ?_
    rw [w64 (x := (i : Int) + 1) (by omega) (by omega)]
    exact Ev.pos (by omega) (Ev.bind e1 (Ev.bind e2 (Ev.pos (by omega) e)))
theorem impl_rc_canon (s : ByteArray) (l : List PI) (hv : vocabOk (prs l) = true) (hc : canonV (prs l) = s) (d : Nat) : ∀ (i n : Nat), i + d = l.length → n ≤ s.size → (bl s).drop n = pairsL (prs (l.drop i)) →
    Ev (fun k => impl_ReadCanon.l0 k s (l.length : Int) (i : Int) (tl s n) false (l.take i)) (l, true) := by
  have hz := canon_size hv hc
  have h60 := tokV_60 hv
  rw [prs_length] at h60
  induction d with
  | zero =>
    intro i n hi hn h
    have : i = l.length := by omega
    subst this
    rw [List.take_of_length_le (Nat.le_refl _)]
    obtain ⟨R, e, _, g⟩ := impl_rc_end s l.length (tl s n) false l
    rw [g rfl (by omega) hc] at e
    exact e
  | succ d ih =>
    intro i n hi hn h
    obtain ⟨a, b, ha, hb, a1, b1, hnb, hd⟩ := pair_read (by omega : i < l.length) (vocab_pairs hv) hn h
    have R := ih (i + 1) (n + a + b) (by omega) hnb hd
    rw [List.take_succ_eq_append_getElem (by omega : i < l.length)] at R
    have e1 := impl_scan_num_ev (tl s n) false (by rw [tl_size]; omega)
    have e2 := impl_scan_num_ev (tl s (n + a)) false (by rw [tl_size]; omega)
    have v1 : numV (tl s n) false = (l[i].f0, tl s (n + a), false) := by
      unfold numV
      rw [if_neg (by simp), ha, if_neg (by simp only; omega)]
      simp only [Int.toNat_natCast]
      rw [tl_tl]
    have v2 : numV (tl s (n + a)) false = (l[i].f1, tl s (n + a + b), false) := by
      unfold numV
      rw [if_neg (by simp), hb, if_neg (by simp only; omega)]
      simp only [Int.toNat_natCast]
      rw [tl_tl]
    rw [v1] at e1
    rw [v2] at e2
    have e3 : ((i + 1 : Nat) : Int) = (i : Int) + 1 := by omega
    rw [e3] at R
    refine Ev.step (fun k => by rw [impl_ReadCanon.l0]) ?_
    rw [w64 (x := (i : Int) + 1) (by omega) (by omega)]
    exact Ev.pos (by omega) (Ev.bind e1 (Ev.bind e2 (Ev.pos (by rw [List.length_take]; omega) R)))
theorem impl_many_ev (t : ByteArray) (bad : Bool) (ht : t.size ≤ 1048576) : Ev (fun k => impl_scan_many.f k t bad 60) (if (numV t bad).1 > 60 then (0, (numV t bad).2.1, true) else if (numV t bad).2.2 = true then (0, (numV t bad).2.1, (numV t bad).2.2) else ((numV t bad).1, (numV t bad).2.1, (numV t bad).2.2)) := by
  unfold impl_scan_many.f
  exact Ev.bind (impl_scan_num_ev t bad (by omega)) (Ev.ite Iff.rfl (fun _ => Ev.now _) (fun _ => Ev.ite Iff.rfl (fun _ => Ev.now _) (fun _ => Ev.now _)))
theorem numV_pos (t : ByteArray) (bad : Bool) : 0 ≤ (numV t bad).1 := by
  have hr := rv_range t
  unfold numV
  split
  · exact Int.le_refl _
  · split
    · exact Int.le_refl _
    · rename_i c; exact (hr.2.2.2 c).1
theorem impl_ReadCanon_ex (s : ByteArray) (hs : s.size ≤ 1048576) : ∃ R, Ev (fun k => impl_ReadCanon.f k s) R ∧ goodC s R := by
  have key (t : ByteArray) (bad : Bool) (ht : t.size ≤ 1048576) : ∃ R, Ev (fun k => (impl_scan_many.f k t bad 60).bind fun bt205 => (impl_ReadCanon.l0 k s bt205.1 0 bt205.2.1 bt205.2.2 ([] : List PI))) R ∧ goodC s R := by
    have e := impl_many_ev t bad ht
    have hp := numV_pos t bad
    have hz := numV_size t bad
    generalize numV t bad = p at *
    have go (m : Int) (h0 : 0 ≤ m) (h1 : m ≤ 60) (b : Bool) : ∃ R, Ev (fun k => impl_ReadCanon.l0 k s m 0 p.2.1 b ([] : List PI)) R ∧ goodC s R := by
      obtain ⟨n, rfl⟩ := Int.eq_ofNat_of_zero_le h0
      exact impl_rc_any s n (by omega) n 0 p.2.1 b [] (by omega) (by omega) (by simp)
    by_cases c : p.1 > 60
    · rw [if_pos c] at e
      obtain ⟨R, e2, g⟩ := go 0 (by omega) (by omega) true
      exact ⟨R, Ev.bind e e2, g⟩
    · rw [if_neg c] at e
      by_cases c2 : p.2.2 = true
      · rw [if_pos c2] at e
        obtain ⟨R, e2, g⟩ := go 0 (by omega) (by omega) p.2.2
        exact ⟨R, Ev.bind e e2, g⟩
      · rw [if_neg c2] at e
        obtain ⟨R, e2, g⟩ := go p.1 hp (by omega) p.2.2
        exact ⟨R, Ev.bind e e2, g⟩
  unfold impl_ReadCanon.f
  by_cases c : (3 : Int) ≤ s.size
  · obtain ⟨R, e, g⟩ := key (tl s (3 : Int).toNat) false (by rw [tl_size]; omega)
    exact ⟨R, Ev.bind0 (impl_scan_cut_eq s 3 (by omega) c) e, g⟩
  · obtain ⟨R, e, g⟩ := key s true hs
    exact ⟨R, Ev.bind0 (impl_scan_cut_no s 3 c) e, g⟩
theorem impl_ReadCanon_no (s : ByteArray) (hs : s.size ≤ 1048576) (hn : ¬ isCanon s) : Ev (fun k => impl_ReadCanon.f k s) ([], false) := by
  obtain ⟨R, e, g⟩ := impl_ReadCanon_ex s hs
  rw [goodC_no g hn] at e
  exact e
theorem impl_ReadCanon_yes (s : ByteArray) (l : List PI) (hv : vocabOk (prs l) = true) (hc : canonV (prs l) = s) : Ev (fun k => impl_ReadCanon.f k s) (l, true) := by
  have hz := canon_size hv hc
  have hb := canon_bl hv hc
  have h60 := tokV_60 hv
  rw [prs_length] at h60 hb
  have rd3 := rv_varL (s := tl s 3) (n := l.length) (by omega) (xs := pairsL (prs l)) (by rw [tl_bl, hb, varL_small (by omega)]; rfl)
  rw [varL_small (by omega)] at rd3
  have v1 : numV (tl s 3) false = ((l.length : Int), tl s 4, false) := by
    unfold numV
    rw [if_neg (by simp), rd3, if_neg (by simp)]
    simp only [List.length_singleton, Int.toNat_natCast]
    rw [tl_tl]
  have e := impl_many_ev (tl s 3) false (by rw [tl_size]; omega)
  rw [v1] at e
  simp only at e
  rw [if_neg (by omega), if_neg (by simp)] at e
  unfold impl_ReadCanon.f
  refine Ev.bind0 (impl_scan_cut_eq s 3 (by omega) (by omega)) (Ev.bind e ?_)
  exact impl_rc_canon s l hv hc l.length 0 4 (by omega) (by omega) (by rw [hb, List.drop_zero]; rfl)

theorem rdI_get (l : List PI) (i : Nat) (h : i < l.length) : rd_T113 l (i : Int) = l[i] := by
  unfold rd_T113
  rw [Int.toNat_natCast, List.getD_eq_getElem?_getD, List.getElem?_eq_getElem h]; rfl
theorem laws_eqPairS_l0 (a : List PI) (ha : a.length ≤ 1048576) (d : Nat) : ∀ (i : Nat), i + d = a.length → Ev (fun k => laws_eqPairS.l0 k a a (i : Int)) true := by
  induction d with
  | zero =>
    intro i hi
    refine Ev.step (fun k => by rw [laws_eqPairS.l0]) ?_
    exact Ev.neg (by omega) (Ev.now _)
  | succ d ih =>
    intro i hi
    refine Ev.step (fun k => by rw [laws_eqPairS.l0]) ?_
    refine Ev.pos (by omega) (Ev.pos (by omega) (Ev.pos (by omega) ?_))
    refine Ev.bind0 (a := true) (by unfold laws_eqPair.f; rw [if_pos rfl, if_pos rfl]) (Ev.pos rfl ?_)
    have := ih (i + 1) (by omega)
    have e1 : ((i + 1 : Nat) : Int) = (i : Int) + 1 := by omega
    rw [e1] at this
    rw [w64 (by omega) (by omega)]
    exact this
theorem laws_eqVocab_ev (a : List PI) (ha : a.length ≤ 1048576) : Ev (fun k => laws_eqVocab.f k a a) true := by
  unfold laws_eqVocab.f laws_eqPairS.f
  refine Ev.bind (a := true) (Ev.pos rfl ?_) (Ev.pos rfl (Ev.now _))
  exact laws_eqPairS_l0 a ha a.length 0 (by omega)

/-! what the laws' marks leave, and that they are found again -/
def mkP : Nat → Int → List PI
  | 0, _ => []
  | d + 1, a => ⟨a, a + 1⟩ :: mkP d (a + 2)
theorem mkP_length : ∀ (d : Nat) (a : Int), (mkP d a).length = d
  | 0, _ => rfl
  | d + 1, a => by simp [mkP, mkP_length d]
theorem rdP_mid (M : List PI) (x : PI) (L : List PI) : rd_T113 (M ++ x :: L) (M.length : Int) = x := by
  rw [rdI_get _ M.length (by simp)]
  simp
theorem laws_markP_l0 : ∀ (R M : List PI) (a : Int), M.length + R.length ≤ 1048576 → 0 ≤ a → a + 2 * R.length ≤ 40000000 →
    Ev (fun k => laws_markPairS.l0 k (M ++ R) a (M.length : Int)) (a + 2 * (R.length : Int), M ++ mkP R.length a)
  | [], M, a, hl, h0, ha => by
    refine Ev.step (fun k => by rw [laws_markPairS.l0]) ?_
    exact Ev.neg (by simp) (Ev.val _ _ (by simp [mkP]))
  | x :: R, M, a, hl, h0, ha => by
    rw [List.length_cons] at hl ha
    have g := laws_markP_l0 R (M ++ [⟨a, a + 1⟩]) (a + 2) (by simp; omega) (by omega) (by omega)
    refine Ev.step (fun k => by rw [laws_markPairS.l0]) ?_
    have e1 : (M ++ x :: R).set (M.length : Int).toNat ⟨a, (rd_T113 (M ++ x :: R) (M.length : Int)).f1⟩ = M ++ ⟨a, x.f1⟩ :: R := by
      rw [rdP_mid, Int.toNat_natCast, List.set_append_right _ _ (Nat.le_refl _), Nat.sub_self, List.set_cons_zero]
    refine Ev.pos (by simp; omega) (Ev.pos (by omega) (Ev.bind0 rfl ?_))
    rw [e1, rdP_mid, Int.toNat_natCast, List.set_append_right _ _ (Nat.le_refl _), Nat.sub_self, List.set_cons_zero, w64 (x := a + 1) (by omega) (by omega), w64 (x := a + 1 + 1) (by omega) (by omega), w64 (x := (M.length : Int) + 1) (by omega) (by omega)]
    have e2 : (((M ++ [(⟨a, a + 1⟩ : PI)]).length : Nat) : Int) = (M.length : Int) + 1 := by simp
    rw [e2, List.append_assoc, List.append_assoc] at g
    rw [show a + 1 + 1 = a + 2 by omega, List.length_cons, show a + 2 * ((R.length + 1 : Nat) : Int) = a + 2 + 2 * (R.length : Int) by omega]
    exact g
theorem laws_markV_ev (l : List PI) (a : Int) (hl : l.length ≤ 1048576) (h0 : 0 ≤ a) (ha : a ≤ 10000000) : Ev (fun k => laws_markVocab.f k l a) (a + 2 * (l.length : Int), mkP l.length a) := by
  have h := laws_markP_l0 l [] a (by simpa using hl) h0 (by omega)
  unfold laws_markVocab.f laws_markPairS.f
  exact Ev.bind h (Ev.now _)
theorem laws_heldP_l0 : ∀ (d : Nat) (M : List PI) (a : Int), M.length + d ≤ 1048576 → 0 ≤ a → a + 2 * d ≤ 40000000 →
    Ev (fun k => laws_heldPairS.l0 k (M ++ mkP d a) a (M.length : Int)) (a + 2 * (d : Int))
  | 0, M, a, hl, h0, ha => by
    refine Ev.step (fun k => by rw [laws_heldPairS.l0]) ?_
    exact Ev.neg (by simp [mkP]) (Ev.val _ _ (by simp))
  | d + 1, M, a, hl, h0, ha => by
    have g := laws_heldP_l0 d (M ++ [⟨a, a + 1⟩]) (a + 2) (by simp; omega) (by omega) (by omega)
    refine Ev.step (fun k => by rw [laws_heldPairS.l0]) ?_
    unfold mkP
    have e2 : (((M ++ [(⟨a, a + 1⟩ : PI)]).length : Nat) : Int) = (M.length : Int) + 1 := by simp
    rw [e2, List.append_assoc] at g
    rw [rdP_mid, w64 (x := a + 1) (by omega) (by omega), w64 (x := a + 1 + 1) (by omega) (by omega), w64 (x := (M.length : Int) + 1) (by omega) (by omega)]
    rw [show a + 1 + 1 = a + 2 by omega, show a + 2 * ((d + 1 : Nat) : Int) = a + 2 + 2 * (d : Int) by omega]
    refine Ev.pos (by simp; omega) (Ev.pos (by omega) (Ev.pos rfl (Ev.pos rfl ?_)))
    exact g
theorem laws_heldV_ev (d : Nat) (a : Int) (hl : d ≤ 1048576) (h0 : 0 ≤ a) (ha : a ≤ 10000000) : Ev (fun k => laws_heldVocab.f k (mkP d a) a) (a + 2 * (d : Int)) := by
  have h := laws_heldP_l0 d [] a (by simpa using hl) h0 (by omega)
  unfold laws_heldVocab.f laws_heldPairS.f
  exact Ev.bind h (Ev.neg (by omega) (Ev.now _))

theorem FnExactReadCanon : laws_FnExactReadCanon.Pure := by
  intro s _
  refine Ev.rounds (g := fun k => laws_FnExactReadCanon.f k s) ?_
  unfold laws_FnExactReadCanon.f
  by_cases c0 : (s.size : Int) > 1048576
  · exact Ev.pos c0 (Ev.now _)
  · have key : ∃ R : CanT, Ev (fun k => spec_ReadCanon.f k s) R ∧ Ev (fun k => impl_ReadCanon.f k s) R ∧ R.1.length ≤ 60 := by
      by_cases h : isCanon s
      · obtain ⟨l, hv, hc⟩ := h
        have h60 := tokV_60 hv
        rw [prs_length] at h60
        exact ⟨(l, true), spec_ReadCanon_yes s l hv hc, impl_ReadCanon_yes s l hv hc, h60⟩
      · exact ⟨([], false), spec_ReadCanon_no s h, impl_ReadCanon_no s (by omega) h, by simp⟩
    obtain ⟨⟨l, b⟩, e1, e2, hl⟩ := key
    simp only at hl
    have eq := laws_eqVocab_ev l (by omega)
    have hm := laws_markV_ev l 1 (by omega) (by omega) (by omega)
    have hh := laws_heldV_ev l.length 1 (by omega) (by omega) (by omega)
    refine Ev.neg c0 (Ev.bind e1 (Ev.bind e2 (Ev.bind eq (Ev.pos rfl ?_))))
    refine Ev.step (fun k => by rw [laws_FnExactReadCanon.j0]) ?_
    refine Ev.neg (by simp) (Ev.bind hm (Ev.bind hh (Ev.neg (by omega) (Ev.pos rfl (Ev.bind e2 (Ev.bind eq (Ev.pos rfl ?_)))))))
    refine Ev.step (fun k => by rw [laws_FnExactReadCanon.j1]) ?_
    exact Ev.neg (by simp) (Ev.bind hh (Ev.neg (by omega) (Ev.pos rfl (Ev.now _))))

end Go.Proofs.Ytopnfbnfmaghaaa.Pure
