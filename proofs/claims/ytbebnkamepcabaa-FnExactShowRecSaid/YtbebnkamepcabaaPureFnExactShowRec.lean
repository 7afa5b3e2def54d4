/- The pure statement of the law FnExactShowRec is proved: for all arguments within the stated bounds the printed function answers true. Conditions: none beyond those bounds. -/
import Derived.Test.YtbebnkamepcabaaPFnExactShowRecx6
import Derived.Laws.BitsLemmas
import Derived.Lib.Strings
namespace Go.Proofs.Ytbebnkamepcabaa.Pure
open Go Go.RowKit Go.Proofs.Ytbebnkamepcabaa.PFnExactShowRec Go.Proofs.YtbebnkamepcabaaW.PrintWords Go.Proofs.YtbebnkamepcabaaW.PrintLast Go.Proofs.YtbebnkamepcabaaW.PrintMore
set_option linter.unusedVariables false
set_option linter.unusedSimpArgs false

/-! ### Base: rounds, whole numbers, bits, byte strings (no program in sight) -/
theorem Ev.pos {α : Type} {c : Prop} [Decidable c] {g f : Nat → Option α} {r : α} (h : c) (e : Ev g r) : Ev (fun k => if c then g k else f k) r := by
  simpa only [if_pos h] using e
theorem Ev.neg {α : Type} {c : Prop} [Decidable c] {g f : Nat → Option α} {r : α} (h : ¬ c) (e : Ev f r) : Ev (fun k => if c then g k else f k) r := by
  simpa only [if_neg h] using e
theorem Ev.val {α : Type} (r s : α) (h : r = s) : Ev (fun _ => some r) s := by subst h; exact Ev.now _
theorem Ev.val0 {α : Type} {o : Option α} {s : α} (h : o = some s) : Ev (fun _ => o) s := by subst h; exact Ev.now _
theorem Ev.bind0 {α β : Type} {o : Option α} {f : Nat → α → Option β} {a : α} {r : β} (h : o = some a) (k : Ev (fun n => f n a) r) : Ev (fun n => o.bind (f n)) r := by
  subst h; simpa only [Option.bind_some] using k
theorem Ev.and {α β : Type} {g : Nat → Option α} {f : Nat → Option β} {r : α} {s : β} (h : Ev g r) (k : Ev f s) : ∃ K, ∀ n, K ≤ n → g n = some r ∧ f n = some s := by
  obtain ⟨K, h⟩ := h
  obtain ⟨L, k⟩ := k
  exact ⟨max K L, fun n hn => ⟨h n (by omega), k n (by omega)⟩⟩

theorem w64 {x : Int} (h0 : -9223372036854775808 ≤ x) (h1 : x ≤ 9223372036854775807) : wrap64 x = x := by unfold wrap64; omega
theorem wf64 {x : Int} (h : (Lit.int .i64 x).wf = true) : -9223372036854775808 ≤ x ∧ x ≤ 9223372036854775807 := by
  simp [Lit.wf, IntKind.min, IntKind.max, IntKind.signed, IntKind.bits] at h
  omega
theorem tdiv_nn {x y : Int} (h : 0 ≤ x) : Int.tdiv x y = x / y := Int.tdiv_eq_ediv_of_nonneg h
theorem tmod_nn {x y : Int} (h : 0 ≤ x) : Int.tmod x y = x % y := Int.tmod_eq_emod_of_nonneg h

theorem wraps_i64 (n : Int) (h₀ : 0 ≤ n) (h₁ : n < 2 ^ 63) : IntKind.i64.wrap n = n := by rw [IntKind.wrap_i64]; omega
theorem and_mask (i : Nat) (hi : i ≤ 63) (x : Int) (h0 : 0 ≤ x) (h1 : x < 9223372036854775808) : Go.bits .and .i64 x (2 ^ i - 1) = x % 2 ^ i :=
  bits_mask .i64 63 (by decide) wraps_i64 i hi x h0 h1
theorem and127 {x : Int} (h0 : 0 ≤ x) (h1 : x < 9223372036854775808) : Go.bits .and .i64 x 127 = x % 128 := and_mask 7 (by decide) x h0 h1
theorem and255 {x : Int} (h0 : 0 ≤ x) (h1 : x < 9223372036854775808) : Go.bits .and .i64 x 255 = x % 256 := and_mask 8 (by decide) x h0 h1
theorem and1 {x : Int} (h0 : 0 ≤ x) (h1 : x < 9223372036854775808) : Go.bits .and .i64 x 1 = x % 2 := and_mask 1 (by decide) x h0 h1
theorem or_join (i : Nat) (x y : Int) (hx : 0 ≤ x) (hm : x % 2 ^ i = 0) (hx1 : x < 9223372036854775808) (hy : 0 ≤ y) (hy1 : y < 2 ^ i) (hy2 : y < 9223372036854775808) : Go.bits .or .i64 x y = x + y :=
  bits_join .i64 63 (by decide) wraps_i64 i x y hx hm hx1 hy hy1 hy2
theorem bits_or_comm (k : IntKind) (x y : Int) : Go.bits .or k x y = Go.bits .or k y x := by simp only [Go.bits, BitVec.or_comm]
theorem or_join' (i : Nat) (x y : Int) (hx : 0 ≤ x) (hm : x % 2 ^ i = 0) (hx1 : x < 9223372036854775808) (hy : 0 ≤ y) (hy1 : y < 2 ^ i) (hy2 : y < 9223372036854775808) : Go.bits .or .i64 y x = x + y := by
  rw [bits_or_comm]; exact or_join i x y hx hm hx1 hy hy1 hy2
theorem u8_and127 {x : Int} (h0 : 0 ≤ x) (h1 : x < 256) : Go.bits .and .u8 x 127 = x % 128 := bits_mask .u8 8 (by decide) wraps_u8 7 (by decide) x h0 h1
theorem bits_xor_nat (a b : Nat) (ha : a < 2 ^ 63) (hb : b < 2 ^ 63) : Go.bits .xor .i64 a b = ((a ^^^ b : Nat) : Int) := by
  have hp : 2 ^ 63 ≤ 2 ^ IntKind.i64.bits := Nat.pow_le_pow_right (by decide) (by decide)
  have ha' : a % 2 ^ IntKind.i64.bits = a := Nat.mod_eq_of_lt (Nat.lt_of_lt_of_le ha hp)
  have hb' : b % 2 ^ IntKind.i64.bits = b := Nat.mod_eq_of_lt (Nat.lt_of_lt_of_le hb hp)
  simp only [Go.bits, BitVec.ofInt_natCast, BitVec.toNat_xor, BitVec.toNat_ofNat, ha', hb']
  exact wraps_i64 _ (Int.natCast_nonneg _) (by exact_mod_cast Nat.xor_lt_two_pow ha hb)

theorem wbt (s : ByteArray) (i : Int) : wrap64 (bt s i) = bt s i := by have := bt_range s i; exact w64 (by omega) (by omega)
theorem toList_eq {s t : ByteArray} (h : s = t) : s.toList = t.toList := by rw [h]
theorem strOf_append (xs ys : List Int) : strOfNums xs ++ strOfNums ys = strOfNums (xs ++ ys) := by
  apply ByteArray.ext
  rw [ByteArray.data_append]
  simp [strOfNums]
theorem strOf_size (xs : List Int) : (strOfNums xs).size = xs.length := by simp [strOfNums, ByteArray.size]
theorem strOf_nil : (⟨#[]⟩ : ByteArray) = strOfNums [] := rfl
theorem cast_pow256 (d : Nat) : ((256 ^ d : Nat) : Int) = (256 : Int) ^ d := Int.natCast_pow 256 d
theorem lt_pow256 (m d : Nat) : ((m : Int) < 256 ^ d) = (m < 256 ^ d) := by
  rw [← cast_pow256]; exact propext Int.ofNat_lt
theorem pow256_six (i : Int) (h0 : 0 ≤ i) (h1 : i ≤ 6) : (256 : Int) ^ i.toNat ≤ 281474976710656 := by
  obtain rfl | rfl | rfl | rfl | rfl | rfl | rfl : i = 0 ∨ i = 1 ∨ i = 2 ∨ i = 3 ∨ i = 4 ∨ i = 5 ∨ i = 6 := by omega
  all_goals decide

/-! ### Str: a byte string as the list of its numbers -/
def IsB (xs : List Int) : Prop := ∀ x ∈ xs, 0 ≤ x ∧ x ≤ 255
def bl (s : ByteArray) : List Int := s.data.toList.map fun b => (b.toNat : Int)
theorem bl_isB (s : ByteArray) : IsB (bl s) := by
  intro x hx
  simp only [bl, List.mem_map] at hx
  obtain ⟨b, _, rfl⟩ := hx
  have := b.toNat_lt
  omega
theorem bl_length (s : ByteArray) : (bl s).length = s.size := by unfold bl; rw [List.length_map]; rfl
theorem strOf_bl (s : ByteArray) : strOfNums (bl s) = s := by
  apply ByteArray.ext
  apply Array.ext'
  unfold strOfNums bl
  rw [List.map_map]
  have : ((fun n : Int => UInt8.ofNat n.toNat) ∘ fun b : UInt8 => (b.toNat : Int)) = id := by
    funext b
    simp only [Function.comp_apply, Int.toNat_natCast, UInt8.ofNat_toNat, id]
  rw [this, List.map_id]
theorem bl_strOf {xs : List Int} (h : IsB xs) : bl (strOfNums xs) = xs := by
  induction xs with
  | nil => rfl
  | cons a l ih =>
    have ha := h a (by simp)
    have hl := ih (fun x hx => h x (by simp [hx]))
    simp only [bl, strOfNums, List.map_cons, List.toList_toArray] at hl ⊢
    rw [hl]
    congr 1
    simp only [UInt8.toNat_ofNat']
    omega
theorem bl_append (s t : ByteArray) : bl (s ++ t) = bl s ++ bl t := by simp [bl, ByteArray.data_append]
theorem bl_extract (s : ByteArray) (a b : Nat) : bl (s.extract a b) = ((bl s).drop a).take (b - a) := by
  simp [bl, ByteArray.data_extract, List.extract_eq_take_drop, List.map_take, List.map_drop]
theorem bl_inj {s t : ByteArray} (h : bl s = bl t) : s = t := by rw [← strOf_bl s, ← strOf_bl t, h]
theorem tl_iff (s t : ByteArray) : s.toList = t.toList ↔ s = t := by
  constructor
  · intro h
    rw [Go.Lib.toList_data, Go.Lib.toList_data] at h
    exact ByteArray.ext (Array.ext' h)
  · intro h; rw [h]
theorem bt_bl (s : ByteArray) (i : Int) : bt s i = rd (bl s) i := by
  unfold bt rd bl
  split
  · rename_i h
    have h' : i.toNat < s.data.toList.length := h
    rw [List.getD_eq_getElem?_getD, List.getElem?_map, List.getElem?_eq_getElem h']
    simp only [Option.map_some, Option.getD_some]
    rfl
  · rename_i h
    have h' : ¬ i.toNat < s.data.toList.length := h
    rw [List.getD_eq_getElem?_getD, List.getElem?_map, List.getElem?_eq_none (by omega)]
    rfl
theorem bt_nat (s : ByteArray) (i : Nat) (h : i < s.size) : bt s (i : Int) = (bl s)[i]'(by rw [bl_length]; exact h) := by
  rw [bt_bl]
  unfold rd
  rw [Int.toNat_natCast, List.getD_eq_getElem?_getD, List.getElem?_eq_getElem (by rw [bl_length]; exact h)]
  rfl
theorem isB_nil : IsB [] := fun _ h => by cases h
theorem isB_append {xs ys : List Int} (h : IsB xs) (k : IsB ys) : IsB (xs ++ ys) := fun x hx => (List.mem_append.1 hx).elim (h x) (k x)
theorem isB_cons {x : Int} {ys : List Int} (h : 0 ≤ x ∧ x ≤ 255) (k : IsB ys) : IsB (x :: ys) := by
  intro y hy
  rcases List.mem_cons.1 hy with e | e
  · subst e; exact h
  · exact k y e
theorem strOf_inj {xs ys : List Int} (h : IsB xs) (k : IsB ys) (e : strOfNums xs = strOfNums ys) : xs = ys := by
  rw [← bl_strOf h, ← bl_strOf k, e]

theorem size_zero (s : ByteArray) : s.size = 0 ↔ s = ⟨#[]⟩ := by
  constructor
  · intro h
    apply bl_inj
    have : (bl s).length = 0 := by rw [bl_length]; exact h
    rw [List.eq_nil_of_length_eq_zero this]; rfl
  · intro h; subst h; rfl
theorem tl_nil (s : ByteArray) : (s.toList == ([] : List UInt8)) = decide (s.size = 0) := by
  have e : ([] : List UInt8) = (⟨#[]⟩ : ByteArray).toList := by rw [Go.Lib.toList_data]
  rw [e, Bool.eq_iff_iff, beq_iff_eq, tl_iff, decide_eq_true_iff, size_zero]
theorem tl_nil' (s : ByteArray) : (s.toList = ([] : List UInt8)) = (s.size = 0) := by
  have e : ([] : List UInt8) = (⟨#[]⟩ : ByteArray).toList := by rw [Go.Lib.toList_data]
  rw [e, tl_iff, size_zero]

abbrev baseP (i t : Int) : Prop := (i = 0 ∧ t = 0) ∨ (1 ≤ i ∧ i ≤ 100000 ∧ 1 ≤ t ∧ t ≤ 100000)
abbrev recOkP (kd tm ix vt : Int) (n : Nat) : Prop :=
  (kd = 1 ∧ 0 ≤ tm ∧ tm ≤ 100000 ∧ -1 ≤ vt ∧ vt ≤ 4 ∧ ix = 0 ∧ n = 0) ∨ (kd = 2 ∧ 1 ≤ tm ∧ tm ≤ 100000 ∧ 1 ≤ ix ∧ ix ≤ 100000 ∧ vt = 0 ∧ n ≤ 900) ∨
  (kd = 3 ∧ tm = 0 ∧ 1 ≤ ix ∧ ix ≤ 100000 ∧ vt = 0 ∧ n = 0) ∨ (kd = 4 ∧ baseP ix tm ∧ vt = 0 ∧ n = 0)

/-! ### what Var makes -/
def varL (n : Nat) : List Int := if n < 128 then [(n : Int)] else ((n % 128 + 128 : Nat) : Int) :: varL (n / 128)
termination_by n
decreasing_by omega

theorem varL_small {n : Nat} (h : n < 128) : varL n = [(n : Int)] := by rw [varL, if_pos h]
theorem varL_big {n : Nat} (h : ¬ n < 128) : varL n = ((n % 128 + 128 : Nat) : Int) :: varL (n / 128) := by rw [varL, if_neg h]
theorem varL_isB (n : Nat) : IsB (varL n) := by
  induction n using Nat.strongRecOn with
  | ind n ih =>
  by_cases c : n < 128
  · rw [varL_small c]; exact isB_cons (by omega) isB_nil
  · rw [varL_big c]; exact isB_cons (by omega) (ih _ (by omega))
theorem varL_pos (n : Nat) : 0 < (varL n).length := by
  rw [varL]; split <;> simp
/-- All bytes but the last are 128 or more; the last is less. -/
theorem varL_shape (n : Nat) : ∀ (j : Nat) (h : j < (varL n).length), (j + 1 = (varL n).length → (varL n)[j] < 128) ∧ (j + 1 < (varL n).length → 128 ≤ (varL n)[j]) := by
  induction n using Nat.strongRecOn with
  | ind n ih =>
  intro j h
  by_cases c : n < 128
  · have e := varL_small c
    simp only [e, List.length_singleton] at h ⊢
    obtain rfl : j = 0 := by omega
    simp
    omega
  · have e := varL_big c
    simp only [e, List.length_cons] at h ⊢
    cases j with
    | zero =>
      have := varL_pos (n / 128)
      simp only [List.getElem_cons_zero]
      exact ⟨fun k => by omega, fun _ => by omega⟩
    | succ j =>
      simp only [List.getElem_cons_succ]
      have := ih (n / 128) (by omega) j (by omega)
      exact ⟨fun k => this.1 (by omega), fun k => this.2 (by omega)⟩
/-- A beginning of a text that is a Var: where the bytes are less than 128. -/
theorem var_at {s : ByteArray} {n k : Nat} (hk : k ≤ s.size) (h : (strOfNums (varL n)).toList = (s.extract 0 k).toList) :
    0 < k ∧ ∀ j, j < k → (j + 1 = k → bt s (j : Int) < 128) ∧ (j + 1 < k → 128 ≤ bt s (j : Int)) := by
  have e := (tl_iff _ _).1 h
  have e2 : varL n = (bl s).take k := by
    have := congrArg bl e
    rw [bl_strOf (varL_isB n), bl_extract] at this
    simpa using this
  have hl : (varL n).length = k := by rw [e2, List.length_take, bl_length]; omega
  refine ⟨by have := varL_pos n; omega, fun j hj => ?_⟩
  have hs := varL_shape n j (by omega)
  have hb : bt s (j : Int) = (varL n)[j]'(by omega) := by
    rw [bt_nat s j (by omega)]
    simp only [e2, List.getElem_take]
  rw [hb]
  exact ⟨fun h => hs.1 (by omega), fun h => hs.2 (by omega)⟩

/-- What ShowRec(r) is. -/
def showRecV (kd tm ix vt : Int) (d : ByteArray) : ByteArray := if recOkP kd tm ix vt d.size then strOfNums ([kd] ++ varL tm.toNat ++ varL ix.toNat ++ varL (vt + 1).toNat) ++ d else strOfNums []
theorem varL_le7 {n : Nat} (h : n ≤ 562949953421311) : (varL n).length ≤ 7 := by
  have : ∀ (k n : Nat), n < 128 ^ (k + 1) → (varL n).length ≤ k + 1 := by
    intro k
    induction k with
    | zero => intro n h; rw [varL_small (by simpa using h)]; simp
    | succ k ih =>
      intro n h
      by_cases c : n < 128
      · rw [varL_small c]; simp
      · rw [varL_big c]
        have := ih (n / 128) (by rw [Nat.pow_succ] at h; omega)
        simpa using this
  exact this 6 n (by omega)

theorem spec_l1In_eq (a b c : Int) : spec_l1In.f a b c = some (decide (b ≤ a ∧ a ≤ c)) := by
  unfold spec_l1In.f
  by_cases h : a ≥ b
  · rw [if_pos h]; simp [show b ≤ a from h]
  · rw [if_neg h]; simp [show ¬ b ≤ a from h]

theorem spec_l5Based_eq (i t : Int) : spec_l5Based.f i t = some (decide (baseP i t)) := by
  unfold spec_l5Based.f baseP
  simp only [spec_l1In_eq, Option.bind_some, decide_eq_true_eq]
  repeat' split
  all_goals (simp only [Option.some.injEq]; rw [Bool.eq_iff_iff]; simp only [decide_eq_true_eq, beq_iff_eq, Bool.false_eq_true, false_iff, true_iff]; omega)
theorem spec_RecOk_eq (kd tm ix vt : Int) (d : ByteArray) : spec_RecOk.f kd tm ix vt d = some (decide (recOkP kd tm ix vt d.size)) := by
  unfold spec_RecOk.f recOkP
  simp only [spec_l1In_eq, spec_l5Based_eq, Option.bind_some, tl_nil, decide_eq_true_eq]
  repeat' split
  all_goals (simp only [Option.some.injEq]; rw [Bool.eq_iff_iff]; simp only [decide_eq_true_eq, Bool.false_eq_true, false_iff, true_iff, baseP] at *; omega)

theorem spec_Var_l0 (n : Nat) : ∀ (xs : List Int), xs.length + n / 128 < 140737488355328 → n < 9223372036854775808 →
    Ev (fun k => spec_Var.l0 k (n : Int) xs) (strOfNums (xs ++ varL n)) := by
  induction n using Nat.strongRecOn with
  | ind n ih =>
  intro xs h1 h2
  refine Ev.step (fun k => by rw [spec_Var.l0]) ?_
  rw [varL]
  by_cases c : n < 128
  · rw [if_pos c]
    refine Ev.neg (by omega) (Ev.pos (by omega) (Ev.val _ _ ?_))
    rw [Int.emod_eq_of_lt (by omega) (by omega)]
  · rw [if_neg c]
    refine Ev.pos (by omega) (Ev.pos (by omega) ?_)
    have e1 : wrap64 (Int.tdiv (n : Int) 128) = ((n / 128 : Nat) : Int) := by rw [tdiv_nn (by omega), w64 (by omega) (by omega)]; omega
    have e2 : (wrap64 (128 + Int.tmod (n : Int) 128)) % 256 = ((n % 128 + 128 : Nat) : Int) := by rw [tmod_nn (by omega), w64 (by omega) (by omega)]; omega
    rw [e1, e2]
    have := ih (n / 128) (by omega) (xs ++ [((n % 128 + 128 : Nat) : Int)]) (by simp; omega) (by omega)
    simpa [List.append_assoc] using this
theorem spec_Var_in (n : Nat) (h : n ≤ 562949953421311) : Ev (fun k => spec_Var.f k (n : Int)) (strOfNums (varL n)) := by
  unfold spec_Var.f
  refine Ev.bind0 (spec_l1In_eq _ _ _) (Ev.pos (by simp; omega) ?_)
  simpa using spec_Var_l0 n [] (by simp; omega) (by omega)
theorem spec_Var_out (x : Int) (h : ¬ (0 ≤ x ∧ x ≤ 562949953421311)) : Ev (fun k => spec_Var.f k x) (strOfNums []) := by
  unfold spec_Var.f
  exact Ev.bind0 (spec_l1In_eq _ _ _) (Ev.neg (by simp; omega) (Ev.val _ _ rfl))

theorem spec_ShowRec_ev (kd tm ix vt : Int) (d : ByteArray) (hd : d.size ≤ 9223372036854775000) : Ev (fun k => spec_ShowRec.f k kd tm ix vt d) (showRecV kd tm ix vt d) := by
  unfold spec_ShowRec.f showRecV
  refine Ev.bind0 (spec_RecOk_eq _ _ _ _ _) ?_
  by_cases c : recOkP kd tm ix vt d.size
  · rw [if_pos c]
    have c2 : 1 ≤ kd ∧ kd ≤ 4 ∧ 0 ≤ tm ∧ tm ≤ 100000 ∧ 0 ≤ ix ∧ ix ≤ 100000 ∧ -1 ≤ vt ∧ vt ≤ 4 := by unfold recOkP baseP at c; omega
    obtain ⟨n, rfl⟩ := Int.eq_ofNat_of_zero_le c2.2.2.1
    obtain ⟨m, rfl⟩ := Int.eq_ofNat_of_zero_le c2.2.2.2.2.1
    obtain ⟨q, hq⟩ := Int.eq_ofNat_of_zero_le (show 0 ≤ vt + 1 by omega)
    have h1 := varL_le7 (n := n) (by omega)
    have h2 := varL_le7 (n := m) (by omega)
    have h3 := varL_le7 (n := q) (by omega)
    refine Ev.pos (decide_eq_true c) (Ev.bind0 rfl ?_)
    rw [w64 (by omega) (by omega), hq, Int.emod_eq_of_lt (by omega) (by omega)]
    refine Ev.bind (spec_Var_in n (by omega)) ?_
    refine Ev.pos (by rw [strOf_size, strOf_size]; simp; omega) ?_
    refine Ev.bind (spec_Var_in m (by omega)) ?_
    rw [strOf_append]
    refine Ev.pos (by rw [strOf_size, strOf_size]; simp; omega) ?_
    refine Ev.bind (spec_Var_in q (by omega)) ?_
    rw [strOf_append]
    refine Ev.pos (by rw [strOf_size, strOf_size]; simp; omega) ?_
    rw [strOf_append]
    refine Ev.pos (by rw [strOf_size]; simp; omega) ?_
    refine Ev.val _ _ ?_
    simp only [Int.toNat_natCast]
  · rw [if_neg c]
    exact Ev.neg (by rw [decide_eq_false c]; simp) (Ev.now _)

theorem impl_within_eq (a b c : Int) : impl_within.f a b c = some (decide (b ≤ a ∧ a ≤ c)) := by
  unfold impl_within.f
  by_cases h : a ≥ b
  · rw [if_pos h]; simp [show b ≤ a from h]
  · rw [if_neg h]; simp [show ¬ b ≤ a from h]

theorem impl_isTerm_eq (n : Int) : impl_isTerm.f n = some (decide (0 ≤ n ∧ n ≤ 100000)) := by
  unfold impl_isTerm.f; simp only [impl_within_eq, Option.bind_some]
theorem impl_isVote_eq (n : Int) : impl_isVote.f n = some (decide (-1 ≤ n ∧ n ≤ 4)) := by
  unfold impl_isVote.f; simp only [impl_within_eq, Option.bind_some]
theorem impl_isBase_eq (i t : Int) : impl_isBase.f i t = some (decide (baseP i t)) := by
  unfold impl_isBase.f baseP
  simp only [impl_within_eq, Option.bind_some, decide_eq_true_eq]
  repeat' split
  all_goals (simp only [Option.some.injEq]; rw [Bool.eq_iff_iff]; simp only [decide_eq_true_eq, Bool.false_eq_true, false_iff, true_iff]; omega)
theorem impl_RecOk_eq (kd tm ix vt : Int) (d : ByteArray) : impl_RecOk.f kd tm ix vt d = some (decide (recOkP kd tm ix vt d.size)) := by
  unfold impl_RecOk.f recOkP
  simp only [impl_within_eq, impl_isTerm_eq, impl_isVote_eq, impl_isBase_eq, Option.bind_some, tl_nil, decide_eq_true_eq, Bool.and_eq_true, beq_iff_eq]
  repeat' split
  all_goals (simp only [Option.some.injEq]; rw [Bool.eq_iff_iff]; simp only [decide_eq_true_eq, beq_iff_eq, Bool.false_eq_true, false_iff, true_iff, baseP] at *; omega)

theorem impl_Var_l0 (n : Nat) : ∀ (xs : List Int), xs.length + n / 128 < 140737488355328 → n < 9223372036854775808 →
    Ev (fun k => impl_Var.l0 k (n : Int) xs) (strOfNums (xs ++ varL n)) := by
  induction n using Nat.strongRecOn with
  | ind n ih =>
  intro xs h1 h2
  refine Ev.step (fun k => by rw [impl_Var.l0]) ?_
  rw [varL]
  by_cases c : n < 128
  · rw [if_pos c]
    refine Ev.neg (by omega) (Ev.pos (by omega) (Ev.val _ _ ?_))
    rw [Int.emod_eq_of_lt (by omega) (by omega)]
  · rw [if_neg c]
    refine Ev.pos (by omega) (Ev.pos (by omega) ?_)
    have e1 : ((n : Int) / 128) = ((n / 128 : Nat) : Int) := by omega
    have e2 : (Go.bits .or .i64 (Go.bits .and .i64 (n : Int) 127) 128) % 256 = ((n % 128 + 128 : Nat) : Int) := by
      rw [and127 (by omega) (by omega), or_join' 7 128 _ (by omega) (by omega) (by omega) (by omega) (by omega) (by omega)]; omega
    rw [e1, e2]
    have := ih (n / 128) (by omega) (xs ++ [((n % 128 + 128 : Nat) : Int)]) (by simp; omega) (by omega)
    simpa [List.append_assoc] using this
theorem impl_Var_in (n : Nat) (h : n ≤ 562949953421311) : Ev (fun k => impl_Var.f k (n : Int)) (strOfNums (varL n)) := by
  unfold impl_Var.f
  refine Ev.bind0 (impl_within_eq _ _ _) (Ev.pos (by simp; omega) ?_)
  simpa using impl_Var_l0 n [] (by simp; omega) (by omega)
theorem impl_Var_out (x : Int) (h : ¬ (0 ≤ x ∧ x ≤ 562949953421311)) : Ev (fun k => impl_Var.f k x) (strOfNums []) := by
  unfold impl_Var.f
  exact Ev.bind0 (impl_within_eq _ _ _) (Ev.neg (by simp; omega) (Ev.val _ _ rfl))

theorem impl_ShowRec_ev (kd tm ix vt : Int) (d : ByteArray) (hd : d.size ≤ 9223372036854775000) : Ev (fun k => impl_ShowRec.f k kd tm ix vt d) (showRecV kd tm ix vt d) := by
  unfold impl_ShowRec.f showRecV
  refine Ev.bind0 (impl_RecOk_eq _ _ _ _ _) ?_
  by_cases c : recOkP kd tm ix vt d.size
  · rw [if_pos c]
    have c2 : 1 ≤ kd ∧ kd ≤ 4 ∧ 0 ≤ tm ∧ tm ≤ 100000 ∧ 0 ≤ ix ∧ ix ≤ 100000 ∧ -1 ≤ vt ∧ vt ≤ 4 := by unfold recOkP baseP at c; omega
    obtain ⟨n, rfl⟩ := Int.eq_ofNat_of_zero_le c2.2.2.1
    obtain ⟨m, rfl⟩ := Int.eq_ofNat_of_zero_le c2.2.2.2.2.1
    obtain ⟨q, hq⟩ := Int.eq_ofNat_of_zero_le (show 0 ≤ vt + 1 by omega)
    have h1 := varL_le7 (n := n) (by omega)
    have h2 := varL_le7 (n := m) (by omega)
    have h3 := varL_le7 (n := q) (by omega)
    refine Ev.pos (decide_eq_true c) (Ev.bind0 rfl ?_)
    rw [w64 (by omega) (by omega), hq, Int.emod_eq_of_lt (by omega) (by omega)]
    refine Ev.bind (impl_Var_in n (by omega)) ?_
    refine Ev.pos (by rw [strOf_size, strOf_size]; simp; omega) ?_
    refine Ev.bind (impl_Var_in m (by omega)) ?_
    rw [strOf_append]
    refine Ev.pos (by rw [strOf_size, strOf_size]; simp; omega) ?_
    refine Ev.bind (impl_Var_in q (by omega)) ?_
    rw [strOf_append]
    refine Ev.pos (by rw [strOf_size, strOf_size]; simp; omega) ?_
    rw [strOf_append]
    refine Ev.pos (by rw [strOf_size]; simp; omega) ?_
    refine Ev.val _ _ ?_
    simp only [Int.toNat_natCast]
  · rw [if_neg c]
    exact Ev.neg (by rw [decide_eq_false c]; simp) (Ev.now _)

theorem laws_szRec_eq (a b c d : Int) (s : ByteArray) (hs : s.size ≤ 9223372036854775807) : laws_szRec.f a b c d s 1048576 = some (if 1048576 - (s.size : Int) < 0 then -1 else 1048576 - (s.size : Int)) := by
  unfold laws_szRec.f
  rw [w64 (by omega) (by omega)]
  split <;> rfl
theorem laws_toRec_eq (a b c d : Int) (s : ByteArray) : laws_toRec.f a b c d s = some (a, b, c, d, s) := rfl

theorem FnExactShowRec : laws_FnExactShowRec.Pure := by
  intro a b c d s _ _ _ _ hs
  refine Ev.rounds (g := fun k => laws_FnExactShowRec.f k a b c d s) ?_
  unfold laws_FnExactShowRec.f
  refine Ev.bind0 (laws_szRec_eq _ _ _ _ _ hs) ?_
  by_cases h : 1048576 - (s.size : Int) < 0
  · rw [if_pos h]; exact Ev.pos (by omega) (Ev.now _)
  · rw [if_neg h]
    exact Ev.neg h (Ev.bind0 (laws_toRec_eq _ _ _ _ _) (Ev.bind (spec_ShowRec_ev a b c d s (by omega)) (Ev.bind0 (laws_toRec_eq _ _ _ _ _) (Ev.bind (impl_ShowRec_ev a b c d s (by omega)) (Ev.pos rfl (Ev.now _))))))

end Go.Proofs.Ytbebnkamepcabaa.Pure
