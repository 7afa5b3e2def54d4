/- The pure statement of the law FnExactReadVar is proved: for all arguments within the stated bounds the printed function answers true. Conditions: none beyond those bounds. -/
import Derived.Test.YtpimomkkdocgbaaPFnExactReadVarx2
import Derived.Laws.BitsLemmas
import Derived.Lib.Strings
namespace Go.Proofs.Ytpimomkkdocgbaa.Pure
open Go Go.RowKit Go.Proofs.Ytpimomkkdocgbaa.PFnExactReadVar Go.Proofs.YtpimomkkdocgbaaW.PrintWords Go.Proofs.YtpimomkkdocgbaaW.PrintLast Go.Proofs.YtpimomkkdocgbaaW.PrintMore
set_option linter.unusedVariables false
set_option linter.unusedSimpArgs false

/-! ### what Var makes -/
def varL (n : Nat) : List Int := if n < 128 then [(n : Int)] else ((n % 128 + 128 : Nat) : Int) :: varL (n / 128)
termination_by n
decreasing_by omega

/-! ### Base: rounds, whole numbers, bits, byte strings (no program in sight) -/
theorem Ev.pos {α : Type} {c : Prop} [Decidable c] {g f : Nat → Option α} {r : α} (h : c) (e : Ev g r) : Ev (fun k => if c then g k else f k) r := by
  simpa only [if_pos h] using e
theorem Ev.neg {α : Type} {c : Prop} [Decidable c] {g f : Nat → Option α} {r : α} (h : ¬ c) (e : Ev f r) : Ev (fun k => if c then g k else f k) r := by
  simpa only [if_neg h] using e
theorem Ev.val {α : Type} (r s : α) (h : r = s) : Ev (fun _ => some r) s := by subst h; exact Ev.now _
theorem Ev.val0 {α : Type} {o : Option α} {s : α} (h : o = some s) : Ev (fun _ => o) s := by subst h; exact Ev.now _
theorem Ev.bind0 {α β : Type} {o : Option α} {f : Nat → α → Option β} {a : α} {r : β} (h : o = some a) (k : Ev (fun n => f n a) r) : Ev (fun n => o.bind (f n)) r := by
  subst h; simpa only [Option.bind_some] using k
theorem Ev.and {α β : Type} {g : Nat → Option α} {f : Nat → Option β} {r : α} {s : β} (h : Ev g r) (k : Ev f s) : ∃ K, ∀ n, K ≤ n → g n = some r ∧ f n = some s := by
  obtain ⟨K, h⟩ := h
  obtain ⟨L, k⟩ := k
  exact ⟨max K L, fun n hn => ⟨h n (by omega), k n (by omega)⟩⟩

theorem w64 {x : Int} (h0 : -9223372036854775808 ≤ x) (h1 : x ≤ 9223372036854775807) : wrap64 x = x := by unfold wrap64; omega
theorem wf64 {x : Int} (h : (Lit.int .i64 x).wf = true) : -9223372036854775808 ≤ x ∧ x ≤ 9223372036854775807 := by
  simp [Lit.wf, IntKind.min, IntKind.max, IntKind.signed, IntKind.bits] at h
  omega
theorem tdiv_nn {x y : Int} (h : 0 ≤ x) : Int.tdiv x y = x / y := Int.tdiv_eq_ediv_of_nonneg h
theorem tmod_nn {x y : Int} (h : 0 ≤ x) : Int.tmod x y = x % y := Int.tmod_eq_emod_of_nonneg h

theorem wraps_i64 (n : Int) (h₀ : 0 ≤ n) (h₁ : n < 2 ^ 63) : IntKind.i64.wrap n = n := by rw [IntKind.wrap_i64]; omega
theorem and_mask (i : Nat) (hi : i ≤ 63) (x : Int) (h0 : 0 ≤ x) (h1 : x < 9223372036854775808) : Go.bits .and .i64 x (2 ^ i - 1) = x % 2 ^ i :=
  bits_mask .i64 63 (by decide) wraps_i64 i hi x h0 h1
theorem and127 {x : Int} (h0 : 0 ≤ x) (h1 : x < 9223372036854775808) : Go.bits .and .i64 x 127 = x % 128 := and_mask 7 (by decide) x h0 h1
theorem and255 {x : Int} (h0 : 0 ≤ x) (h1 : x < 9223372036854775808) : Go.bits .and .i64 x 255 = x % 256 := and_mask 8 (by decide) x h0 h1
theorem and1 {x : Int} (h0 : 0 ≤ x) (h1 : x < 9223372036854775808) : Go.bits .and .i64 x 1 = x % 2 := and_mask 1 (by decide) x h0 h1
theorem or_join (i : Nat) (x y : Int) (hx : 0 ≤ x) (hm : x % 2 ^ i = 0) (hx1 : x < 9223372036854775808) (hy : 0 ≤ y) (hy1 : y < 2 ^ i) (hy2 : y < 9223372036854775808) : Go.bits .or .i64 x y = x + y :=
  bits_join .i64 63 (by decide) wraps_i64 i x y hx hm hx1 hy hy1 hy2
theorem bits_or_comm (k : IntKind) (x y : Int) : Go.bits .or k x y = Go.bits .or k y x := by simp only [Go.bits, BitVec.or_comm]
theorem or_join' (i : Nat) (x y : Int) (hx : 0 ≤ x) (hm : x % 2 ^ i = 0) (hx1 : x < 9223372036854775808) (hy : 0 ≤ y) (hy1 : y < 2 ^ i) (hy2 : y < 9223372036854775808) : Go.bits .or .i64 y x = x + y := by
  rw [bits_or_comm]; exact or_join i x y hx hm hx1 hy hy1 hy2
theorem u8_and127 {x : Int} (h0 : 0 ≤ x) (h1 : x < 256) : Go.bits .and .u8 x 127 = x % 128 := bits_mask .u8 8 (by decide) wraps_u8 7 (by decide) x h0 h1
theorem bits_xor_nat (a b : Nat) (ha : a < 2 ^ 63) (hb : b < 2 ^ 63) : Go.bits .xor .i64 a b = ((a ^^^ b : Nat) : Int) := by
  have hp : 2 ^ 63 ≤ 2 ^ IntKind.i64.bits := Nat.pow_le_pow_right (by decide) (by decide)
  have ha' : a % 2 ^ IntKind.i64.bits = a := Nat.mod_eq_of_lt (Nat.lt_of_lt_of_le ha hp)
  have hb' : b % 2 ^ IntKind.i64.bits = b := Nat.mod_eq_of_lt (Nat.lt_of_lt_of_le hb hp)
  simp only [Go.bits, BitVec.ofInt_natCast, BitVec.toNat_xor, BitVec.toNat_ofNat, ha', hb']
  exact wraps_i64 _ (Int.natCast_nonneg _) (by exact_mod_cast Nat.xor_lt_two_pow ha hb)

theorem wbt (s : ByteArray) (i : Int) : wrap64 (bt s i) = bt s i := by have := bt_range s i; exact w64 (by omega) (by omega)
theorem toList_eq {s t : ByteArray} (h : s = t) : s.toList = t.toList := by rw [h]
theorem strOf_append (xs ys : List Int) : strOfNums xs ++ strOfNums ys = strOfNums (xs ++ ys) := by
  apply ByteArray.ext
  rw [ByteArray.data_append]
  simp [strOfNums]
theorem strOf_size (xs : List Int) : (strOfNums xs).size = xs.length := by simp [strOfNums, ByteArray.size]
theorem strOf_nil : (⟨#[]⟩ : ByteArray) = strOfNums [] := rfl
theorem cast_pow256 (d : Nat) : ((256 ^ d : Nat) : Int) = (256 : Int) ^ d := Int.natCast_pow 256 d
theorem lt_pow256 (m d : Nat) : ((m : Int) < 256 ^ d) = (m < 256 ^ d) := by
  rw [← cast_pow256]; exact propext Int.ofNat_lt
theorem pow256_six (i : Int) (h0 : 0 ≤ i) (h1 : i ≤ 6) : (256 : Int) ^ i.toNat ≤ 281474976710656 := by
  obtain rfl | rfl | rfl | rfl | rfl | rfl | rfl : i = 0 ∨ i = 1 ∨ i = 2 ∨ i = 3 ∨ i = 4 ∨ i = 5 ∨ i = 6 := by omega
  all_goals decide

/-! ### Str: a byte string as the list of its numbers -/
def IsB (xs : List Int) : Prop := ∀ x ∈ xs, 0 ≤ x ∧ x ≤ 255
def bl (s : ByteArray) : List Int := s.data.toList.map fun b => (b.toNat : Int)
theorem bl_isB (s : ByteArray) : IsB (bl s) := by
  intro x hx
  simp only [bl, List.mem_map] at hx
  obtain ⟨b, _, rfl⟩ := hx
  have := b.toNat_lt
  omega
theorem bl_length (s : ByteArray) : (bl s).length = s.size := by unfold bl; rw [List.length_map]; rfl
theorem strOf_bl (s : ByteArray) : strOfNums (bl s) = s := by
  apply ByteArray.ext
  apply Array.ext'
  unfold strOfNums bl
  rw [List.map_map]
  have : ((fun n : Int => UInt8.ofNat n.toNat) ∘ fun b : UInt8 => (b.toNat : Int)) = id := by
    funext b
    simp only [Function.comp_apply, Int.toNat_natCast, UInt8.ofNat_toNat, id]
  rw [this, List.map_id]
theorem bl_strOf {xs : List Int} (h : IsB xs) : bl (strOfNums xs) = xs := by
  induction xs with
  | nil => rfl
  | cons a l ih =>
    have ha := h a (by simp)
    have hl := ih (fun x hx => h x (by simp [hx]))
    simp only [bl, strOfNums, List.map_cons, List.toList_toArray] at hl ⊢
    rw [hl]
    congr 1
    simp only [UInt8.toNat_ofNat']
    omega
theorem bl_append (s t : ByteArray) : bl (s ++ t) = bl s ++ bl t := by simp [bl, ByteArray.data_append]
theorem bl_extract (s : ByteArray) (a b : Nat) : bl (s.extract a b) = ((bl s).drop a).take (b - a) := by
  simp [bl, ByteArray.data_extract, List.extract_eq_take_drop, List.map_take, List.map_drop]
theorem bl_inj {s t : ByteArray} (h : bl s = bl t) : s = t := by rw [← strOf_bl s, ← strOf_bl t, h]
theorem tl_iff (s t : ByteArray) : s.toList = t.toList ↔ s = t := by
  constructor
  · intro h
    rw [Go.Lib.toList_data, Go.Lib.toList_data] at h
    exact ByteArray.ext (Array.ext' h)
  · intro h; rw [h]
theorem bt_bl (s : ByteArray) (i : Int) : bt s i = rd (bl s) i := by
  unfold bt rd bl
  split
  · rename_i h
    have h' : i.toNat < s.data.toList.length := h
    rw [List.getD_eq_getElem?_getD, List.getElem?_map, List.getElem?_eq_getElem h']
    simp only [Option.map_some, Option.getD_some]
    rfl
  · rename_i h
    have h' : ¬ i.toNat < s.data.toList.length := h
    rw [List.getD_eq_getElem?_getD, List.getElem?_map, List.getElem?_eq_none (by omega)]
    rfl
theorem bt_nat (s : ByteArray) (i : Nat) (h : i < s.size) : bt s (i : Int) = (bl s)[i]'(by rw [bl_length]; exact h) := by
  rw [bt_bl]
  unfold rd
  rw [Int.toNat_natCast, List.getD_eq_getElem?_getD, List.getElem?_eq_getElem (by rw [bl_length]; exact h)]
  rfl
theorem isB_nil : IsB [] := fun _ h => by cases h
theorem isB_append {xs ys : List Int} (h : IsB xs) (k : IsB ys) : IsB (xs ++ ys) := fun x hx => (List.mem_append.1 hx).elim (h x) (k x)
theorem isB_cons {x : Int} {ys : List Int} (h : 0 ≤ x ∧ x ≤ 255) (k : IsB ys) : IsB (x :: ys) := by
  intro y hy
  rcases List.mem_cons.1 hy with e | e
  · subst e; exact h
  · exact k y e
theorem strOf_inj {xs ys : List Int} (h : IsB xs) (k : IsB ys) (e : strOfNums xs = strOfNums ys) : xs = ys := by
  rw [← bl_strOf h, ← bl_strOf k, e]

theorem varL_small {n : Nat} (h : n < 128) : varL n = [(n : Int)] := by rw [varL, if_pos h]
theorem varL_big {n : Nat} (h : ¬ n < 128) : varL n = ((n % 128 + 128 : Nat) : Int) :: varL (n / 128) := by rw [varL, if_neg h]
theorem varL_isB (n : Nat) : IsB (varL n) := by
  induction n using Nat.strongRecOn with
  | ind n ih =>
  by_cases c : n < 128
  · rw [varL_small c]; exact isB_cons (by omega) isB_nil
  · rw [varL_big c]; exact isB_cons (by omega) (ih _ (by omega))
theorem varL_pos (n : Nat) : 0 < (varL n).length := by
  rw [varL]; split <;> simp
/-- All bytes but the last are 128 or more; the last is less. -/
theorem varL_shape (n : Nat) : ∀ (j : Nat) (h : j < (varL n).length), (j + 1 = (varL n).length → (varL n)[j] < 128) ∧ (j + 1 < (varL n).length → 128 ≤ (varL n)[j]) := by
  induction n using Nat.strongRecOn with
  | ind n ih =>
  intro j h
  by_cases c : n < 128
  · have e := varL_small c
    simp only [e, List.length_singleton] at h ⊢
    obtain rfl : j = 0 := by omega
    simp
    omega
  · have e := varL_big c
    simp only [e, List.length_cons] at h ⊢
    cases j with
    | zero =>
      have := varL_pos (n / 128)
      simp only [List.getElem_cons_zero]
      exact ⟨fun k => by omega, fun _ => by omega⟩
    | succ j =>
      simp only [List.getElem_cons_succ]
      have := ih (n / 128) (by omega) j (by omega)
      exact ⟨fun k => this.1 (by omega), fun k => this.2 (by omega)⟩
/-- A beginning of a text that is a Var: where the bytes are less than 128. -/
theorem var_at {s : ByteArray} {n k : Nat} (hk : k ≤ s.size) (h : (strOfNums (varL n)).toList = (s.extract 0 k).toList) :
    0 < k ∧ ∀ j, j < k → (j + 1 = k → bt s (j : Int) < 128) ∧ (j + 1 < k → 128 ≤ bt s (j : Int)) := by
  have e := (tl_iff _ _).1 h
  have e2 : varL n = (bl s).take k := by
    have := congrArg bl e
    rw [bl_strOf (varL_isB n), bl_extract] at this
    simpa using this
  have hl : (varL n).length = k := by rw [e2, List.length_take, bl_length]; omega
  refine ⟨by have := varL_pos n; omega, fun j hj => ?_⟩
  have hs := varL_shape n j (by omega)
  have hb : bt s (j : Int) = (varL n)[j]'(by omega) := by
    rw [bt_nat s j (by omega)]
    simp only [e2, List.getElem_take]
  rw [hb]
  exact ⟨fun h => hs.1 (by omega), fun h => hs.2 (by omega)⟩

/-! ### what ReadVar tells -/
def lev (s : ByteArray) : Nat → Nat
  | 0 => 0
  | k + 1 => lev s k + ((bt s (k : Int)).toNat % 128) * 128 ^ k
theorem lev_lt (s : ByteArray) : ∀ k, lev s k < 128 ^ k
  | 0 => by simp [lev]
  | k + 1 => by
    have h := lev_lt s k
    have h2 : (bt s (k : Int)).toNat % 128 ≤ 127 := by omega
    have h3 : ((bt s (k : Int)).toNat % 128) * 128 ^ k ≤ 127 * 128 ^ k := Nat.mul_le_mul_right _ h2
    rw [lev, Nat.pow_succ]
    omega
theorem lev_le {s : ByteArray} {k : Nat} (h : k ≤ 7) : lev s k ≤ 562949953421311 := by
  have h1 := lev_lt s k
  have h2 : 128 ^ k ≤ 128 ^ 7 := Nat.pow_le_pow_right (by decide) h
  have h3 : (128 : Nat) ^ 7 = 562949953421312 := by decide
  omega
def isVarAt (s : ByteArray) (k : Nat) : Prop := (strOfNums (varL (lev s k))).toList = (s.extract 0 k).toList
instance (s : ByteArray) (k : Nat) : Decidable (isVarAt s k) := inferInstanceAs (Decidable (_ = _))
/-- The first byte below 128 ends it. -/
def rvFrom (s : ByteArray) : Nat → Nat → Int × Int
  | 0, _ => (0, 0)
  | d + 1, i => if i < s.size then (if bt s (i : Int) < 128 then (if isVarAt s (i + 1) then ((lev s (i + 1) : Nat), ((i + 1 : Nat) : Int)) else (0, 0)) else rvFrom s d (i + 1)) else (0, 0)
/-- What ReadVar(s) is. -/
def readVarV (s : ByteArray) : Int × Int := rvFrom s 7 0
/-- Each beginning is tried. -/
def rvTry (s : ByteArray) : Nat → Nat → Int × Int
  | 0, _ => (0, 0)
  | d + 1, i => if i < s.size then (if isVarAt s (i + 1) then ((lev s (i + 1) : Nat), ((i + 1 : Nat) : Int)) else rvTry s d (i + 1)) else (0, 0)
theorem rvTry_none (s : ByteArray) (j : Nat) (hj : bt s (j : Int) < 128) : ∀ (d i : Nat), j < i → rvTry s d i = (0, 0)
  | 0, _, _ => rfl
  | d + 1, i, h => by
    rw [rvTry]
    split
    · rename_i hi
      rw [if_neg ?_]
      · exact rvTry_none s j hj d (i + 1) (by omega)
      · intro hv
        have := ((var_at (by omega) hv).2 j (by omega)).2 (by omega)
        omega
    · rfl
theorem rv_same (s : ByteArray) : ∀ (d i : Nat), rvTry s d i = rvFrom s d i
  | 0, _ => rfl
  | d + 1, i => by
    rw [rvTry, rvFrom]
    split
    · rename_i hi
      by_cases c : bt s (i : Int) < 128
      · rw [if_pos c]
        split
        · rfl
        · exact rvTry_none s i c d (i + 1) (by omega)
      · rw [if_neg c, if_neg ?_]
        · exact rv_same s d (i + 1)
        · intro hv
          have := ((var_at (by omega) hv).2 i (by omega)).1 rfl
          omega
    · rfl

theorem spec_l1In_eq (a b c : Int) : spec_l1In.f a b c = some (decide (b ≤ a ∧ a ≤ c)) := by
  unfold spec_l1In.f
  by_cases h : a ≥ b
  · rw [if_pos h]; simp [show b ≤ a from h]
  · rw [if_neg h]; simp [show ¬ b ≤ a from h]

theorem spec_Var_l0 (n : Nat) : ∀ (xs : List Int), xs.length + n / 128 < 140737488355328 → n < 9223372036854775808 →
    Ev (fun k => spec_Var.l0 k (n : Int) xs) (strOfNums (xs ++ varL n)) := by
  induction n using Nat.strongRecOn with
  | ind n ih =>
  intro xs h1 h2
  refine Ev.step (fun k => by rw [spec_Var.l0]) ?_
  rw [varL]
  by_cases c : n < 128
  · rw [if_pos c]
    refine Ev.neg (by omega) (Ev.pos (by omega) (Ev.val _ _ ?_))
    rw [Int.emod_eq_of_lt (by omega) (by omega)]
  · rw [if_neg c]
    refine Ev.pos (by omega) (Ev.pos (by omega) ?_)
    have e1 : wrap64 (Int.tdiv (n : Int) 128) = ((n / 128 : Nat) : Int) := by rw [tdiv_nn (by omega), w64 (by omega) (by omega)]; omega
    have e2 : (wrap64 (128 + Int.tmod (n : Int) 128)) % 256 = ((n % 128 + 128 : Nat) : Int) := by rw [tmod_nn (by omega), w64 (by omega) (by omega)]; omega
    rw [e1, e2]
    have := ih (n / 128) (by omega) (xs ++ [((n % 128 + 128 : Nat) : Int)]) (by simp; omega) (by omega)
    simpa [List.append_assoc] using this
theorem spec_Var_in (n : Nat) (h : n ≤ 562949953421311) : Ev (fun k => spec_Var.f k (n : Int)) (strOfNums (varL n)) := by
  unfold spec_Var.f
  refine Ev.bind0 (spec_l1In_eq _ _ _) (Ev.pos (by simp; omega) ?_)
  simpa using spec_Var_l0 n [] (by simp; omega) (by omega)
theorem spec_Var_out (x : Int) (h : ¬ (0 ≤ x ∧ x ≤ 562949953421311)) : Ev (fun k => spec_Var.f k x) (strOfNums []) := by
  unfold spec_Var.f
  exact Ev.bind0 (spec_l1In_eq _ _ _) (Ev.neg (by simp; omega) (Ev.val _ _ rfl))

theorem spec_ReadVar_l1 (s : ByteArray) (x4 : Int) (r : Int × Int) (m : Nat) : ∀ (n e : Nat), n < 128 ^ e → e + m ≤ 7 → m ≤ s.size →
    Ev (fun k => spec_ReadVar.l1 k s x4 ((n * 128 ^ m + lev s m : Nat) : Int) (-1)) r → Ev (fun k => spec_ReadVar.l1 k s x4 (n : Int) ((m : Int) - 1)) r := by
  induction m with
  | zero =>
    intro n e hn he hm h
    simpa [lev] using h
  | succ m ih =>
    intro n e hn he hm h
    have hb := bt_range s (m : Int)
    have h7 : 128 ^ e ≤ 128 ^ 6 := Nat.pow_le_pow_right (by decide) (by omega)
    have h6 : (128 : Nat) ^ 6 = 4398046511104 := by decide
    refine Ev.step (fun k => by rw [spec_ReadVar.l1]) ?_
    have e0 : ((m + 1 : Nat) : Int) - 1 = (m : Int) := by omega
    rw [e0]
    refine Ev.pos (by omega) (Ev.pos (by omega) (Ev.pos (by omega) ?_))
    have e1 : wrap64 (wrap64 ((n : Int) * 128) + Int.tmod (wrap64 (bt s (m : Int))) 128) = ((n * 128 + (bt s (m : Int)).toNat % 128 : Nat) : Int) := by
      rw [wbt, tmod_nn (by omega), w64 (x := (n : Int) * 128) (by omega) (by omega), w64 (by omega) (by omega)]
      omega
    rw [e1, w64 (by omega) (by omega)]
    refine ih _ (e + 1) (by rw [Nat.pow_succ]; omega) (by omega) (by omega) ?_
    have e2 : (n * 128 + (bt s (m : Int)).toNat % 128) * 128 ^ m + lev s m = n * 128 ^ (m + 1) + lev s (m + 1) := by
      rw [lev, Nat.pow_succ, Nat.add_mul, Nat.mul_assoc, Nat.mul_comm 128 (128 ^ m)]
      omega
    rw [e2]
    exact h
theorem spec_ReadVar_l0 (s : ByteArray) (hs : s.size ≤ 140737488351232) (d : Nat) : ∀ (i : Nat), i + d = 7 → Ev (fun k => spec_ReadVar.l0 k s ((i + 1 : Nat) : Int)) (rvTry s d i) := by
  induction d with
  | zero =>
    intro i hi
    refine Ev.step (fun k => by rw [spec_ReadVar.l0]) ?_
    refine Ev.neg (by omega) ?_
    refine Ev.step (fun k => by rw [spec_ReadVar.j1]) ?_
    exact Ev.neg (by simp) (Ev.now _)
  | succ d ih =>
    intro i hi
    refine Ev.step (fun k => by rw [spec_ReadVar.l0]) ?_
    refine Ev.pos (by omega) ?_
    refine Ev.step (fun k => by rw [spec_ReadVar.j1]) ?_
    rw [rvTry]
    by_cases c : i < s.size
    · rw [if_pos c]
      refine Ev.pos (by simp; omega) ?_
      rw [w64 (x := ((i + 1 : Nat) : Int) - 1) (by omega) (by omega)]
      refine spec_ReadVar_l1 s _ _ (i + 1) 0 0 (by simp) (by omega) (by omega) ?_
      rw [Nat.zero_mul, Nat.zero_add]
      refine Ev.step (fun k => by rw [spec_ReadVar.l1]) ?_
      refine Ev.neg (by omega) (Ev.bind (spec_Var_in _ (lev_le (by omega))) (Ev.pos (by omega) (Ev.pos (by omega) ?_)))
      rw [Int.toNat_natCast]
      by_cases v : isVarAt s (i + 1)
      · rw [if_pos v]
        exact Ev.pos v (Ev.now _)
      · rw [if_neg v]
        refine Ev.neg v ?_
        rw [w64 (by omega) (by omega)]
        exact ih (i + 1) (by omega)
    · rw [if_neg c]
      exact Ev.neg (by simp; omega) (Ev.now _)
theorem spec_ReadVar_ev (s : ByteArray) (hs : s.size ≤ 140737488351232) : Ev (fun k => spec_ReadVar.f k s) (readVarV s) := by
  unfold spec_ReadVar.f readVarV
  rw [← rv_same]
  exact spec_ReadVar_l0 s hs 7 0 rfl

theorem impl_within_eq (a b c : Int) : impl_within.f a b c = some (decide (b ≤ a ∧ a ≤ c)) := by
  unfold impl_within.f
  by_cases h : a ≥ b
  · rw [if_pos h]; simp [show b ≤ a from h]
  · rw [if_neg h]; simp [show ¬ b ≤ a from h]

theorem impl_Var_l0 (n : Nat) : ∀ (xs : List Int), xs.length + n / 128 < 140737488355328 → n < 9223372036854775808 →
    Ev (fun k => impl_Var.l0 k (n : Int) xs) (strOfNums (xs ++ varL n)) := by
  induction n using Nat.strongRecOn with
  | ind n ih =>
  intro xs h1 h2
  refine Ev.step (fun k => by rw [impl_Var.l0]) ?_
  rw [varL]
  by_cases c : n < 128
  · rw [if_pos c]
    refine Ev.neg (by omega) (Ev.pos (by omega) (Ev.val _ _ ?_))
    rw [Int.emod_eq_of_lt (by omega) (by omega)]
  · rw [if_neg c]
    refine Ev.pos (by omega) (Ev.pos (by omega) ?_)
    have e1 : ((n : Int) / 128) = ((n / 128 : Nat) : Int) := by omega
    have e2 : (Go.bits .or .i64 (Go.bits .and .i64 (n : Int) 127) 128) % 256 = ((n % 128 + 128 : Nat) : Int) := by
      rw [and127 (by omega) (by omega), or_join' 7 128 _ (by omega) (by omega) (by omega) (by omega) (by omega) (by omega)]; omega
    rw [e1, e2]
    have := ih (n / 128) (by omega) (xs ++ [((n % 128 + 128 : Nat) : Int)]) (by simp; omega) (by omega)
    simpa [List.append_assoc] using this
theorem impl_Var_in (n : Nat) (h : n ≤ 562949953421311) : Ev (fun k => impl_Var.f k (n : Int)) (strOfNums (varL n)) := by
  unfold impl_Var.f
  refine Ev.bind0 (impl_within_eq _ _ _) (Ev.pos (by simp; omega) ?_)
  simpa using impl_Var_l0 n [] (by simp; omega) (by omega)
theorem impl_Var_out (x : Int) (h : ¬ (0 ≤ x ∧ x ≤ 562949953421311)) : Ev (fun k => impl_Var.f k x) (strOfNums []) := by
  unfold impl_Var.f
  exact Ev.bind0 (impl_within_eq _ _ _) (Ev.neg (by simp; omega) (Ev.val _ _ rfl))

theorem readVar_or (n b i : Nat) (hi : i ≤ 6) (hn : n < 128 ^ i) (hb : b < 128) :
    Go.bits .or .i64 (n : Int) (shl .i64 (b : Int) (wrap64 (7 * (i : Int)))) = ((n + b * 128 ^ i : Nat) : Int) := by
  have hp : (2 : Nat) ^ (7 * i) = 128 ^ i := by rw [Nat.pow_mul]
  have h7 : 128 ^ i ≤ 128 ^ 6 := Nat.pow_le_pow_right (by decide) hi
  have h6 : (128 : Nat) ^ 6 = 4398046511104 := by decide
  have hm : b * 128 ^ i ≤ 127 * 128 ^ i := Nat.mul_le_mul_right _ (by omega)
  have e1 : shl .i64 (b : Int) (wrap64 (7 * (i : Int))) = ((b * 128 ^ i : Nat) : Int) := by
    rw [w64 (by omega) (by omega)]
    unfold shl
    have : min (7 * (i : Int)).toNat IntKind.i64.bits = 7 * i := by
      have : IntKind.i64.bits = 64 := rfl
      omega
    rw [this]
    have e : (b : Int) * 2 ^ (7 * i) = ((b * 128 ^ i : Nat) : Int) := by
      rw [← hp]; simp
    rw [e]
    exact wraps_i64 _ (by omega) (by omega)
  rw [e1, or_join' (7 * i) ((b * 128 ^ i : Nat) : Int) (n : Int) (by omega) ?_ (by omega) (by omega) ?_ (by omega)]
  · omega
  · have e : (2 : Int) ^ (7 * i) = ((128 ^ i : Nat) : Int) := by rw [← hp]; simp
    rw [e, ← Int.natCast_emod, Nat.mul_mod_left]; rfl
  · have e : (2 : Int) ^ (7 * i) = ((128 ^ i : Nat) : Int) := by rw [← hp]; simp
    rw [e]; omega
theorem impl_ReadVar_l0 (s : ByteArray) (hs : s.size ≤ 140737488351232) (d : Nat) : ∀ (i : Nat), i + d = 7 → Ev (fun k => impl_ReadVar.l0 k s ((lev s i : Nat) : Int) (i : Int)) (rvFrom s d i) := by
  induction d with
  | zero =>
    intro i hi
    refine Ev.step (fun k => by rw [impl_ReadVar.l0]) ?_
    have fin : Ev (fun k => impl_ReadVar.j1 k s ((lev s i : Nat) : Int) (i : Int) false) (rvFrom s 0 i) := by
      refine Ev.step (fun k => by rw [impl_ReadVar.j1]) ?_
      exact Ev.neg (by simp) (Ev.now _)
    by_cases c : (i : Int) < (s.size : Int)
    · refine Ev.pos c ?_
      rw [show decide ((i : Int) < 7) = false by simp; omega]
      exact fin
    · exact Ev.neg c fin
  | succ d ih =>
    intro i hi
    have hb := bt_range s (i : Int)
    refine Ev.step (fun k => by rw [impl_ReadVar.l0]) ?_
    rw [rvFrom]
    by_cases c : i < s.size
    · rw [if_pos c]
      refine Ev.pos (by omega) ?_
      refine Ev.step (fun k => by rw [impl_ReadVar.j1]) ?_
      have eb : wrap64 (Go.bits .and .u8 (bt s (i : Int)) 127) = (((bt s (i : Int)).toNat % 128 : Nat) : Int) := by
        rw [u8_and127 hb.1 (by omega), w64 (by omega) (by omega)]; omega
      have ev : Go.bits .or .i64 ((lev s i : Nat) : Int) (shl .i64 (wrap64 (Go.bits .and .u8 (bt s (i : Int)) 127)) (wrap64 (7 * (i : Int)))) = ((lev s (i + 1) : Nat) : Int) := by
        rw [eb, readVar_or _ _ i (by omega) (lev_lt s i) (by omega)]
        rfl
      rw [ev, w64 (x := (i : Int) + 1) (by omega) (by omega), w64 (x := 7 * (i : Int)) (by omega) (by omega)]
      have e1 : (i : Int) + 1 = ((i + 1 : Nat) : Int) := by omega
      rw [e1, Int.toNat_natCast]
      refine Ev.pos (by simp; omega) (Ev.pos (by omega) (Ev.pos (by omega) (Ev.pos (by omega) ?_)))
      by_cases l : bt s (i : Int) < 128
      · rw [if_pos l]
        refine Ev.pos l (Ev.bind (impl_Var_in _ (lev_le (by omega))) (Ev.pos (by omega) (Ev.pos (by omega) ?_)))
        by_cases v : isVarAt s (i + 1)
        · rw [if_pos v]
          exact Ev.pos v (Ev.now _)
        · rw [if_neg v]
          exact Ev.neg v (Ev.now _)
      · rw [if_neg l]
        refine Ev.neg l ?_
        exact ih (i + 1) (by omega)
    · rw [if_neg c]
      refine Ev.neg (by omega) ?_
      refine Ev.step (fun k => by rw [impl_ReadVar.j1]) ?_
      exact Ev.neg (by simp) (Ev.now _)
theorem impl_ReadVar_ev (s : ByteArray) (hs : s.size ≤ 140737488351232) : Ev (fun k => impl_ReadVar.f k s) (readVarV s) := by
  unfold impl_ReadVar.f readVarV
  exact impl_ReadVar_l0 s hs 7 0 rfl

theorem FnExactReadVar : laws_FnExactReadVar.Pure := by
  intro a0 h0
  refine Ev.rounds (g := fun k => laws_FnExactReadVar.f k a0) ?_
  unfold laws_FnExactReadVar.f
  by_cases c : (a0.size : Int) > 1048576
  · exact Ev.pos c (Ev.now _)
  · exact Ev.neg c (Ev.bind (spec_ReadVar_ev a0 h0) (Ev.bind (impl_ReadVar_ev a0 h0) (Ev.pos rfl (Ev.pos rfl (Ev.now _)))))

end Go.Proofs.Ytpimomkkdocgbaa.Pure
