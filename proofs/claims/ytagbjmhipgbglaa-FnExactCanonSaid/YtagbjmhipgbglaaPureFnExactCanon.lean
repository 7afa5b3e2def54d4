/- The pure statement of the law FnExactCanon is proved: for all arguments within the stated bounds the printed function answers true. Conditions: none beyond those bounds. -/
import Derived.Test.YtagbjmhipgbglaaPFnExactCanonx5
import Derived.Laws.BitsLemmas
import Derived.Lib.Strings
namespace Go.Proofs.Ytagbjmhipgbglaa.Pure
open Go Go.RowKit Go.Proofs.Ytagbjmhipgbglaa.PFnExactCanon Go.Proofs.YtagbjmhipgbglaaW.PrintWords Go.Proofs.YtagbjmhipgbglaaW.PrintLast Go.Proofs.YtagbjmhipgbglaaW.PrintMore
set_option linter.unusedVariables false
set_option linter.unusedSimpArgs false

/-! ### Base: rounds, whole numbers, bits, byte strings (no program in sight) -/
theorem Ev.pos {α : Type} {c : Prop} [Decidable c] {g f : Nat → Option α} {r : α} (h : c) (e : Ev g r) : Ev (fun k => if c then g k else f k) r := by
  simpa only [if_pos h] using e
theorem Ev.neg {α : Type} {c : Prop} [Decidable c] {g f : Nat → Option α} {r : α} (h : ¬ c) (e : Ev f r) : Ev (fun k => if c then g k else f k) r := by
  simpa only [if_neg h] using e
theorem Ev.val {α : Type} (r s : α) (h : r = s) : Ev (fun _ => some r) s := by subst h; exact Ev.now _
theorem Ev.val0 {α : Type} {o : Option α} {s : α} (h : o = some s) : Ev (fun _ => o) s := by subst h; exact Ev.now _
theorem Ev.bind0 {α β : Type} {o : Option α} {f : Nat → α → Option β} {a : α} {r : β} (h : o = some a) (k : Ev (fun n => f n a) r) : Ev (fun n => o.bind (f n)) r := by
  subst h; simpa only [Option.bind_some] using k
theorem Ev.and {α β : Type} {g : Nat → Option α} {f : Nat → Option β} {r : α} {s : β} (h : Ev g r) (k : Ev f s) : ∃ K, ∀ n, K ≤ n → g n = some r ∧ f n = some s := by
  obtain ⟨K, h⟩ := h
  obtain ⟨L, k⟩ := k
  exact ⟨max K L, fun n hn => ⟨h n (by omega), k n (by omega)⟩⟩

theorem Ev.ite {α : Type} {c d : Prop} [Decidable c] [Decidable d] {g f : Nat → Option α} {a b : α} (h : c ↔ d) (e : d → Ev g a) (e' : ¬ d → Ev f b) : Ev (fun k => if c then g k else f k) (if d then a else b) := by
  by_cases x : d
  · rw [if_pos x]; exact Ev.pos (h.2 x) (e x)
  · rw [if_neg x]; exact Ev.neg (fun y => x (h.1 y)) (e' x)
theorem w64 {x : Int} (h0 : -9223372036854775808 ≤ x) (h1 : x ≤ 9223372036854775807) : wrap64 x = x := by unfold wrap64; omega
theorem wf64 {x : Int} (h : (Lit.int .i64 x).wf = true) : -9223372036854775808 ≤ x ∧ x ≤ 9223372036854775807 := by
  simp [Lit.wf, IntKind.min, IntKind.max, IntKind.signed, IntKind.bits] at h
  omega
theorem tdiv_nn {x y : Int} (h : 0 ≤ x) : Int.tdiv x y = x / y := Int.tdiv_eq_ediv_of_nonneg h
theorem tmod_nn {x y : Int} (h : 0 ≤ x) : Int.tmod x y = x % y := Int.tmod_eq_emod_of_nonneg h

theorem wraps_i64 (n : Int) (h₀ : 0 ≤ n) (h₁ : n < 2 ^ 63) : IntKind.i64.wrap n = n := by rw [IntKind.wrap_i64]; omega
theorem and_mask (i : Nat) (hi : i ≤ 63) (x : Int) (h0 : 0 ≤ x) (h1 : x < 9223372036854775808) : Go.bits .and .i64 x (2 ^ i - 1) = x % 2 ^ i :=
  bits_mask .i64 63 (by decide) wraps_i64 i hi x h0 h1
theorem and127 {x : Int} (h0 : 0 ≤ x) (h1 : x < 9223372036854775808) : Go.bits .and .i64 x 127 = x % 128 := and_mask 7 (by decide) x h0 h1
theorem and255 {x : Int} (h0 : 0 ≤ x) (h1 : x < 9223372036854775808) : Go.bits .and .i64 x 255 = x % 256 := and_mask 8 (by decide) x h0 h1
theorem and1 {x : Int} (h0 : 0 ≤ x) (h1 : x < 9223372036854775808) : Go.bits .and .i64 x 1 = x % 2 := and_mask 1 (by decide) x h0 h1
theorem or_join (i : Nat) (x y : Int) (hx : 0 ≤ x) (hm : x % 2 ^ i = 0) (hx1 : x < 9223372036854775808) (hy : 0 ≤ y) (hy1 : y < 2 ^ i) (hy2 : y < 9223372036854775808) : Go.bits .or .i64 x y = x + y :=
  bits_join .i64 63 (by decide) wraps_i64 i x y hx hm hx1 hy hy1 hy2
theorem bits_or_comm (k : IntKind) (x y : Int) : Go.bits .or k x y = Go.bits .or k y x := by simp only [Go.bits, BitVec.or_comm]
theorem or_join' (i : Nat) (x y : Int) (hx : 0 ≤ x) (hm : x % 2 ^ i = 0) (hx1 : x < 9223372036854775808) (hy : 0 ≤ y) (hy1 : y < 2 ^ i) (hy2 : y < 9223372036854775808) : Go.bits .or .i64 y x = x + y := by
  rw [bits_or_comm]; exact or_join i x y hx hm hx1 hy hy1 hy2
theorem u8_and127 {x : Int} (h0 : 0 ≤ x) (h1 : x < 256) : Go.bits .and .u8 x 127 = x % 128 := bits_mask .u8 8 (by decide) wraps_u8 7 (by decide) x h0 h1
theorem bits_xor_nat (a b : Nat) (ha : a < 2 ^ 63) (hb : b < 2 ^ 63) : Go.bits .xor .i64 a b = ((a ^^^ b : Nat) : Int) := by
  have hp : 2 ^ 63 ≤ 2 ^ IntKind.i64.bits := Nat.pow_le_pow_right (by decide) (by decide)
  have ha' : a % 2 ^ IntKind.i64.bits = a := Nat.mod_eq_of_lt (Nat.lt_of_lt_of_le ha hp)
  have hb' : b % 2 ^ IntKind.i64.bits = b := Nat.mod_eq_of_lt (Nat.lt_of_lt_of_le hb hp)
  simp only [Go.bits, BitVec.ofInt_natCast, BitVec.toNat_xor, BitVec.toNat_ofNat, ha', hb']
  exact wraps_i64 _ (Int.natCast_nonneg _) (by exact_mod_cast Nat.xor_lt_two_pow ha hb)

theorem wbt (s : ByteArray) (i : Int) : wrap64 (bt s i) = bt s i := by have := bt_range s i; exact w64 (by omega) (by omega)
theorem toList_eq {s t : ByteArray} (h : s = t) : s.toList = t.toList := by rw [h]
theorem strOf_append (xs ys : List Int) : strOfNums xs ++ strOfNums ys = strOfNums (xs ++ ys) := by
  apply ByteArray.ext
  rw [ByteArray.data_append]
  simp [strOfNums]
theorem strOf_size (xs : List Int) : (strOfNums xs).size = xs.length := by simp [strOfNums, ByteArray.size]
theorem strOf_nil : (⟨#[]⟩ : ByteArray) = strOfNums [] := rfl
theorem cast_pow256 (d : Nat) : ((256 ^ d : Nat) : Int) = (256 : Int) ^ d := Int.natCast_pow 256 d
theorem lt_pow256 (m d : Nat) : ((m : Int) < 256 ^ d) = (m < 256 ^ d) := by
  rw [← cast_pow256]; exact propext Int.ofNat_lt
theorem pow256_six (i : Int) (h0 : 0 ≤ i) (h1 : i ≤ 6) : (256 : Int) ^ i.toNat ≤ 281474976710656 := by
  obtain rfl | rfl | rfl | rfl | rfl | rfl | rfl : i = 0 ∨ i = 1 ∨ i = 2 ∨ i = 3 ∨ i = 4 ∨ i = 5 ∨ i = 6 := by omega
  all_goals decide

/-! ### Str: a byte string as the list of its numbers -/
def IsB (xs : List Int) : Prop := ∀ x ∈ xs, 0 ≤ x ∧ x ≤ 255
def bl (s : ByteArray) : List Int := s.data.toList.map fun b => (b.toNat : Int)
theorem bl_isB (s : ByteArray) : IsB (bl s) := by
  intro x hx
  simp only [bl, List.mem_map] at hx
  obtain ⟨b, _, rfl⟩ := hx
  have := b.toNat_lt
  omega
theorem bl_length (s : ByteArray) : (bl s).length = s.size := by unfold bl; rw [List.length_map]; rfl
theorem strOf_bl (s : ByteArray) : strOfNums (bl s) = s := by
  apply ByteArray.ext
  apply Array.ext'
  unfold strOfNums bl
  rw [List.map_map]
  have : ((fun n : Int => UInt8.ofNat n.toNat) ∘ fun b : UInt8 => (b.toNat : Int)) = id := by
    funext b
    simp only [Function.comp_apply, Int.toNat_natCast, UInt8.ofNat_toNat, id]
  rw [this, List.map_id]
theorem bl_strOf {xs : List Int} (h : IsB xs) : bl (strOfNums xs) = xs := by
  induction xs with
  | nil => rfl
  | cons a l ih =>
    have ha := h a (by simp)
    have hl := ih (fun x hx => h x (by simp [hx]))
    simp only [bl, strOfNums, List.map_cons, List.toList_toArray] at hl ⊢
    rw [hl]
    congr 1
    simp only [UInt8.toNat_ofNat']
    omega
theorem bl_append (s t : ByteArray) : bl (s ++ t) = bl s ++ bl t := by simp [bl, ByteArray.data_append]
theorem bl_extract (s : ByteArray) (a b : Nat) : bl (s.extract a b) = ((bl s).drop a).take (b - a) := by
  simp [bl, ByteArray.data_extract, List.extract_eq_take_drop, List.map_take, List.map_drop]
theorem bl_inj {s t : ByteArray} (h : bl s = bl t) : s = t := by rw [← strOf_bl s, ← strOf_bl t, h]
theorem tl_iff (s t : ByteArray) : s.toList = t.toList ↔ s = t := by
  constructor
  · intro h
    rw [Go.Lib.toList_data, Go.Lib.toList_data] at h
    exact ByteArray.ext (Array.ext' h)
  · intro h; rw [h]
theorem bt_bl (s : ByteArray) (i : Int) : bt s i = rd (bl s) i := by
  unfold bt rd bl
  split
  · rename_i h
    have h' : i.toNat < s.data.toList.length := h
    rw [List.getD_eq_getElem?_getD, List.getElem?_map, List.getElem?_eq_getElem h']
    simp only [Option.map_some, Option.getD_some]
    rfl
  · rename_i h
    have h' : ¬ i.toNat < s.data.toList.length := h
    rw [List.getD_eq_getElem?_getD, List.getElem?_map, List.getElem?_eq_none (by omega)]
    rfl
theorem bt_nat (s : ByteArray) (i : Nat) (h : i < s.size) : bt s (i : Int) = (bl s)[i]'(by rw [bl_length]; exact h) := by
  rw [bt_bl]
  unfold rd
  rw [Int.toNat_natCast, List.getD_eq_getElem?_getD, List.getElem?_eq_getElem (by rw [bl_length]; exact h)]
  rfl
theorem isB_nil : IsB [] := fun _ h => by cases h
theorem isB_append {xs ys : List Int} (h : IsB xs) (k : IsB ys) : IsB (xs ++ ys) := fun x hx => (List.mem_append.1 hx).elim (h x) (k x)
theorem isB_cons {x : Int} {ys : List Int} (h : 0 ≤ x ∧ x ≤ 255) (k : IsB ys) : IsB (x :: ys) := by
  intro y hy
  rcases List.mem_cons.1 hy with e | e
  · subst e; exact h
  · exact k y e
theorem strOf_inj {xs ys : List Int} (h : IsB xs) (k : IsB ys) (e : strOfNums xs = strOfNums ys) : xs = ys := by
  rw [← bl_strOf h, ← bl_strOf k, e]
instance instDecEqBytes : DecidableEq ByteArray := fun a b => decidable_of_iff (a.toList = b.toList) (tl_iff a b)
instance instDecMemBytes (x : ByteArray) : (l : List ByteArray) → Decidable (x ∈ l)
  | [] => .isFalse (by simp)
  | y :: l => if h : x = y then .isTrue (by simp [h]) else (match instDecMemBytes x l with
    | .isTrue k => .isTrue (by simp [k])
    | .isFalse k => .isFalse (by simp [h, k]))

/-! ### vocabularies: the tokens that merges make -/
def tokB (out : List ByteArray) (id : Int) : ByteArray := if id < 256 then strOfNums [id % 256] else rdOf ByteArray.empty out (id - 256)
abbrev pairOk (i : Nat) (p : Int × Int) : Prop := (0 ≤ p.1 ∧ p.1 ≤ 255 + (i : Int)) ∧ (0 ≤ p.2 ∧ p.2 ≤ 255 + (i : Int))
def tokLoop : List (Int × Int) → List ByteArray → List ByteArray × Bool
  | [], out => (out, true)
  | p :: l, out => if pairOk out.length p then (if 24 < (tokB out p.1 ++ tokB out p.2).size ∨ (tokB out p.1 ++ tokB out p.2) ∈ out then (out, false) else tokLoop l (out ++ [tokB out p.1 ++ tokB out p.2])) else (out, false)
def tokV (l : List (Int × Int)) : List ByteArray × Bool := if 60 < l.length then ([], false) else tokLoop l []
def vocabOk (l : List (Int × Int)) : Bool := (tokV l).2
def Short (out : List ByteArray) : Prop := ∀ s ∈ out, s.size ≤ 24
theorem rdOf_mem {out : List ByteArray} {i : Int} (h0 : 0 ≤ i) (h1 : i < out.length) : rdOf ByteArray.empty out i ∈ out := by
  have h : i.toNat < out.length := by omega
  unfold rdOf
  rw [List.getD_eq_getElem?_getD, List.getElem?_eq_getElem h]
  exact List.getElem_mem h
theorem tokB_size {out : List ByteArray} (hs : Short out) {id : Int} (h0 : 0 ≤ id) (h1 : id ≤ 255 + (out.length : Int)) : (tokB out id).size ≤ 24 := by
  unfold tokB
  split
  · rw [strOf_size]; simp
  · exact hs _ (rdOf_mem (by omega) (by omega))
theorem short_snoc {out : List ByteArray} (hs : Short out) {t : ByteArray} (ht : t.size ≤ 24) : Short (out ++ [t]) := by
  intro s h
  rcases List.mem_append.1 h with h | h
  · exact hs s h
  · rw [List.mem_singleton.1 h]; exact ht
theorem short_nil : Short [] := fun _ h => by cases h
theorem rdOf_drop (out : List ByteArray) (j : Nat) (h : j < out.length) : out.drop j = rdOf ByteArray.empty out (j : Int) :: out.drop (j + 1) := by
  unfold rdOf
  rw [Int.toNat_natCast, List.getD_eq_getElem?_getD, List.getElem?_eq_getElem h]
  exact List.drop_eq_getElem_cons h
theorem bsize_append (a b : ByteArray) : (a ++ b).size = a.size + b.size := ByteArray.size_append

theorem tokLoop_len : ∀ (l : List (Int × Int)) (out : List ByteArray), (tokLoop l out).2 = true → (tokLoop l out).1.length = out.length + l.length
  | [], out, _ => by simp [tokLoop]
  | p :: l, out, h => by
    rw [tokLoop] at h ⊢
    split at h
    · rename_i c
      rw [if_pos c]
      split at h
      · cases h
      · rename_i c2
        rw [if_neg c2, tokLoop_len l _ h]
        simp
        omega
    · cases h
theorem tokLoop_short : ∀ (l : List (Int × Int)) (out : List ByteArray), Short out → Short (tokLoop l out).1
  | [], out, h => h
  | p :: l, out, h => by
    rw [tokLoop]
    split
    · split
      · exact h
      · rename_i c2
        exact tokLoop_short l _ (short_snoc h (by have : ¬ 24 < (tokB out p.1 ++ tokB out p.2).size := fun k => c2 (.inl k); omega))
    · exact h
theorem tokV_60 {l : List (Int × Int)} (h : vocabOk l = true) : l.length ≤ 60 := by
  unfold vocabOk tokV at h
  split at h
  · cases h
  · omega
theorem tokV_len {l : List (Int × Int)} (h : vocabOk l = true) : (tokV l).1.length = l.length := by
  have h60 := tokV_60 h
  unfold vocabOk tokV at h
  rw [if_neg (by omega)] at h
  unfold tokV
  rw [if_neg (by omega), tokLoop_len l [] h]
  simp
theorem tokV_short (l : List (Int × Int)) : Short (tokV l).1 := by
  unfold tokV
  split
  · exact short_nil
  · exact tokLoop_short l [] short_nil
/-- What Token(v, id) is. -/
def tokenV (l : List (Int × Int)) (id : Int) : ByteArray := if vocabOk l = true ∧ 0 ≤ id ∧ id ≤ 255 + (l.length : Int) then tokB (tokV l).1 id else strOfNums []

/-! ### what Var makes -/
def varL (n : Nat) : List Int := if n < 128 then [(n : Int)] else ((n % 128 + 128 : Nat) : Int) :: varL (n / 128)
termination_by n
decreasing_by omega

theorem varL_small {n : Nat} (h : n < 128) : varL n = [(n : Int)] := by rw [varL, if_pos h]
theorem varL_big {n : Nat} (h : ¬ n < 128) : varL n = ((n % 128 + 128 : Nat) : Int) :: varL (n / 128) := by rw [varL, if_neg h]
theorem varL_isB (n : Nat) : IsB (varL n) := by
  induction n using Nat.strongRecOn with
  | ind n ih =>
  by_cases c : n < 128
  · rw [varL_small c]; exact isB_cons (by omega) isB_nil
  · rw [varL_big c]; exact isB_cons (by omega) (ih _ (by omega))
theorem varL_pos (n : Nat) : 0 < (varL n).length := by
  rw [varL]; split <;> simp
/-- All bytes but the last are 128 or more; the last is less. -/
theorem varL_shape (n : Nat) : ∀ (j : Nat) (h : j < (varL n).length), (j + 1 = (varL n).length → (varL n)[j] < 128) ∧ (j + 1 < (varL n).length → 128 ≤ (varL n)[j]) := by
  induction n using Nat.strongRecOn with
  | ind n ih =>
  intro j h
  by_cases c : n < 128
  · have e := varL_small c
    simp only [e, List.length_singleton] at h ⊢
    obtain rfl : j = 0 := by omega
    simp
    omega
  · have e := varL_big c
    simp only [e, List.length_cons] at h ⊢
    cases j with
    | zero =>
      have := varL_pos (n / 128)
      simp only [List.getElem_cons_zero]
      exact ⟨fun k => by omega, fun _ => by omega⟩
    | succ j =>
      simp only [List.getElem_cons_succ]
      have := ih (n / 128) (by omega) j (by omega)
      exact ⟨fun k => this.1 (by omega), fun k => this.2 (by omega)⟩
/-- A beginning of a text that is a Var: where the bytes are less than 128. -/
theorem var_at {s : ByteArray} {n k : Nat} (hk : k ≤ s.size) (h : (strOfNums (varL n)).toList = (s.extract 0 k).toList) :
    0 < k ∧ ∀ j, j < k → (j + 1 = k → bt s (j : Int) < 128) ∧ (j + 1 < k → 128 ≤ bt s (j : Int)) := by
  have e := (tl_iff _ _).1 h
  have e2 : varL n = (bl s).take k := by
    have := congrArg bl e
    rw [bl_strOf (varL_isB n), bl_extract] at this
    simpa using this
  have hl : (varL n).length = k := by rw [e2, List.length_take, bl_length]; omega
  refine ⟨by have := varL_pos n; omega, fun j hj => ?_⟩
  have hs := varL_shape n j (by omega)
  have hb : bt s (j : Int) = (varL n)[j]'(by omega) := by
    rw [bt_nat s j (by omega)]
    simp only [e2, List.getElem_take]
  rw [hb]
  exact ⟨fun h => hs.1 (by omega), fun h => hs.2 (by omega)⟩

theorem varL_le7 {n : Nat} (h : n ≤ 562949953421311) : (varL n).length ≤ 7 := by
  have : ∀ (k n : Nat), n < 128 ^ (k + 1) → (varL n).length ≤ k + 1 := by
    intro k
    induction k with
    | zero => intro n h; rw [varL_small (by simpa using h)]; simp
    | succ k ih =>
      intro n h
      by_cases c : n < 128
      · rw [varL_small c]; simp
      · rw [varL_big c]
        have := ih (n / 128) (by rw [Nat.pow_succ] at h; omega)
        simpa using this
  exact this 6 n (by omega)

/-! ### the canonical text -/
theorem tokLoop_pairs : ∀ (l : List (Int × Int)) (out : List ByteArray), (tokLoop l out).2 = true → out.length + l.length ≤ 60 → ∀ p ∈ l, 0 ≤ p.1 ∧ p.1 ≤ 315 ∧ 0 ≤ p.2 ∧ p.2 ≤ 315
  | [], _, _, _, p, hp => by cases hp
  | q :: l, out, h, hl, p, hp => by
    rw [tokLoop] at h
    split at h
    · rename_i c
      split at h
      · cases h
      · simp only [List.length_cons] at hl
        rcases List.mem_cons.1 hp with e | hp
        · subst e; unfold pairOk at c; omega
        · exact tokLoop_pairs l _ h (by simp; omega) p hp
    · cases h
theorem vocab_pairs {l : List (Int × Int)} (h : vocabOk l = true) : ∀ p ∈ l, 0 ≤ p.1 ∧ p.1 ≤ 315 ∧ 0 ≤ p.2 ∧ p.2 ≤ 315 := by
  have h60 := tokV_60 h
  unfold vocabOk tokV at h
  rw [if_neg (by omega)] at h
  exact tokLoop_pairs l [] h (by simpa using h60)
def pairsL : List (Int × Int) → List Int
  | [] => []
  | p :: l => varL p.1.toNat ++ varL p.2.toNat ++ pairsL l
def canonL (l : List (Int × Int)) : List Int := [98, 112, 101] ++ varL l.length ++ pairsL l
def canonV (l : List (Int × Int)) : ByteArray := if vocabOk l = true then strOfNums (canonL l) else strOfNums []

abbrev PI := S88
def prs (l : List PI) : List (Int × Int) := l.map fun p => (p.f0, p.f1)
theorem rdI_drop (l : List PI) (i : Nat) (h : i < l.length) : l.drop i = rd_T88 l (i : Int) :: l.drop (i + 1) := by
  unfold rd_T88
  rw [Int.toNat_natCast, List.getD_eq_getElem?_getD, List.getElem?_eq_getElem h]
  exact List.drop_eq_getElem_cons h
theorem prs_length (l : List PI) : (prs l).length = l.length := by simp [prs]

theorem spec_l1In_eq (a b c : Int) : spec_l1In.f a b c = some (decide (b ≤ a ∧ a ≤ c)) := by
  unfold spec_l1In.f
  by_cases h : a ≥ b
  · rw [if_pos h]; simp [show b ≤ a from h]
  · rw [if_neg h]; simp [show ¬ b ≤ a from h]

theorem spec_l7Bytes_eq {out : List ByteArray} {id : Int} (h0 : 0 ≤ id) (h1 : id ≤ 255 + (out.length : Int)) (hl : out.length ≤ 100000) : spec_l7Bytes.f out id = some (tokB out id) := by
  unfold spec_l7Bytes.f tokB
  by_cases c : id < 256
  · rw [if_pos c, if_pos c]
  · rw [if_neg c, if_neg c, w64 (by omega) (by omega), if_pos (by omega), if_pos (by omega)]
theorem spec_l7Table_l1 (l : List PI) (out : List ByteArray) (t : ByteArray) (R : List ByteArray × Bool) (ho : out.length ≤ 1000) (d : Nat) : ∀ (j : Nat), j + d = out.length →
    Ev (fun k => spec_l7Table.l0 k (out ++ [t]) ((out.length : Int) + 1) l) R → Ev (fun k => spec_l7Table.l1 k out (out.length : Int) t (j : Int) l) (if t ∈ out.drop j then (out, false) else R) := by
  induction d with
  | zero =>
    intro j hj h
    refine Ev.step (fun k => by rw [spec_l7Table.l1]) ?_
    rw [List.drop_eq_nil_of_le (by omega), if_neg (by simp)]
    refine Ev.neg (by omega) (Ev.pos (by omega) ?_)
    rw [w64 (by omega) (by omega)]
    exact h
  | succ d ih =>
    intro j hj h
    refine Ev.step (fun k => by rw [spec_l7Table.l1]) ?_
    refine Ev.pos (by omega) (Ev.pos (by omega) (Ev.pos (by omega) ?_))
    rw [rdOf_drop out j (by omega)]
    by_cases c : (rdOf ByteArray.empty out (j : Int)).toList = t.toList
    · refine Ev.pos c ?_
      rw [if_pos (by rw [(tl_iff _ _).1 c]; simp)]
      exact Ev.now _
    · refine Ev.neg c ?_
      have e : (t ∈ rdOf ByteArray.empty out (j : Int) :: out.drop (j + 1)) ↔ t ∈ out.drop (j + 1) := by
        rw [List.mem_cons]
        exact ⟨fun h => h.elim (fun h => absurd (by rw [h]) c) id, .inr⟩
      simp only [e]
      have := ih (j + 1) (by omega) h
      have e1 : ((j + 1 : Nat) : Int) = (j : Int) + 1 := by omega
      rw [e1] at this
      rw [w64 (by omega) (by omega)]
      exact this
theorem spec_l7Table_l0 (l : List PI) (hl : l.length ≤ 60) (d : Nat) : ∀ (out : List ByteArray), out.length + d = l.length → Short out →
    Ev (fun k => spec_l7Table.l0 k out (out.length : Int) l) (tokLoop (prs (l.drop out.length)) out) := by
  induction d with
  | zero =>
    intro out ho hs
    refine Ev.step (fun k => by rw [spec_l7Table.l0]) ?_
    rw [List.drop_eq_nil_of_le (by omega)]
    exact Ev.neg (by omega) (Ev.now _)
  | succ d ih =>
    intro out ho hs
    refine Ev.step (fun k => by rw [spec_l7Table.l0]) ?_
    rw [rdI_drop l out.length (by omega)]
    generalize rd_T88 l (out.length : Int) = p
    rw [w64 (by omega) (by omega)]
    refine Ev.pos (by omega) (Ev.pos (by omega) ?_)
    simp only [prs, List.map_cons, tokLoop]
    have bad : ¬ pairOk out.length (p.f0, p.f1) → Ev (fun k => spec_l7Table.j1 k out (out.length : Int) true l p.f0 p.f1) (out, false) := by
      intro h
      refine Ev.step (fun k => by rw [spec_l7Table.j1]) ?_
      exact Ev.pos rfl (Ev.now _)
    by_cases c : pairOk out.length (p.f0, p.f1)
    · rw [if_pos c]
      have s0 : (tokB out p.f0).size ≤ 24 := tokB_size hs c.1.1 c.1.2
      have s1 : (tokB out p.f1).size ≤ 24 := tokB_size hs c.2.1 c.2.2
      refine Ev.bind0 (spec_l1In_eq _ _ _) (Ev.pos (decide_eq_true c.1) (Ev.bind0 (spec_l1In_eq _ _ _) ?_))
      rw [decide_eq_true c.2]
      refine Ev.step (fun k => by rw [spec_l7Table.j1]) ?_
      refine Ev.neg (by simp) (Ev.bind0 (spec_l7Bytes_eq c.1.1 c.1.2 (by omega)) (Ev.bind0 (spec_l7Bytes_eq c.2.1 c.2.2 (by omega)) (Ev.pos (by omega) ?_)))
      generalize tokB out p.f0 ++ tokB out p.f1 = t
      by_cases c2 : (t.size : Int) > 24
      · rw [if_pos (.inl (by omega))]
        exact Ev.pos c2 (Ev.now _)
      · refine Ev.neg c2 ?_
        have R := ih (out ++ [t]) (by simp; omega) (short_snoc hs (by omega))
        have e1 : ((out ++ [t]).length : Int) = (out.length : Int) + 1 := by simp
        have e2 : (out ++ [t]).length = out.length + 1 := by simp
        rw [e1, e2] at R
        have := spec_l7Table_l1 l out t _ (by omega) out.length 0 (by omega) R
        rw [List.drop_zero] at this
        have e3 : (24 < t.size ∨ t ∈ out) ↔ t ∈ out := ⟨fun h => h.elim (fun h => by omega) id, .inr⟩
        simp only [e3]
        exact this
    · rw [if_neg c]
      refine Ev.bind0 (spec_l1In_eq _ _ _) ?_
      by_cases c1 : 0 ≤ p.f0 ∧ p.f0 ≤ 255 + (out.length : Int)
      · refine Ev.pos (decide_eq_true c1) (Ev.bind0 (spec_l1In_eq _ _ _) ?_)
        rw [decide_eq_false (fun h => c ⟨c1, h⟩)]
        exact bad c
      · exact Ev.neg (by rw [decide_eq_false c1]; simp) (bad c)
theorem spec_l7Table_ev (l : List PI) : Ev (fun k => spec_l7Table.f k l) (tokV (prs l)) := by
  unfold spec_l7Table.f tokV
  refine Ev.bind0 rfl ?_
  rw [prs_length]
  by_cases c : 60 < l.length
  · rw [if_pos c]; exact Ev.pos (by omega) (Ev.now _)
  · rw [if_neg c]
    refine Ev.neg (by omega) ?_
    exact spec_l7Table_l0 l (by omega) l.length [] (by simp) short_nil

theorem spec_VocabOk_ev (l : List PI) : Ev (fun k => spec_VocabOk.f k l) (vocabOk (prs l)) := by
  unfold spec_VocabOk.f
  exact Ev.bind (spec_l7Table_ev l) (Ev.now _)

theorem spec_Var_l0 (n : Nat) : ∀ (xs : List Int), xs.length + n / 128 < 140737488355328 → n < 9223372036854775808 →
    Ev (fun k => spec_Var.l0 k (n : Int) xs) (strOfNums (xs ++ varL n)) := by
  induction n using Nat.strongRecOn with
  | ind n ih =>
  intro xs h1 h2
  refine Ev.step (fun k => by rw [spec_Var.l0]) ?_
  rw [varL]
  by_cases c : n < 128
  · rw [if_pos c]
    refine Ev.neg (by omega) (Ev.pos (by omega) (Ev.val _ _ ?_))
    rw [Int.emod_eq_of_lt (by omega) (by omega)]
  · rw [if_neg c]
    refine Ev.pos (by omega) (Ev.pos (by omega) ?_)
    have e1 : wrap64 (Int.tdiv (n : Int) 128) = ((n / 128 : Nat) : Int) := by rw [tdiv_nn (by omega), w64 (by omega) (by omega)]; omega
    have e2 : (wrap64 (128 + Int.tmod (n : Int) 128)) % 256 = ((n % 128 + 128 : Nat) : Int) := by rw [tmod_nn (by omega), w64 (by omega) (by omega)]; omega
    rw [e1, e2]
    have := ih (n / 128) (by omega) (xs ++ [((n % 128 + 128 : Nat) : Int)]) (by simp; omega) (by omega)
    simpa [List.append_assoc] using this
theorem spec_Var_in (n : Nat) (h : n ≤ 562949953421311) : Ev (fun k => spec_Var.f k (n : Int)) (strOfNums (varL n)) := by
  unfold spec_Var.f
  refine Ev.bind0 (spec_l1In_eq _ _ _) (Ev.pos (by simp; omega) ?_)
  simpa using spec_Var_l0 n [] (by simp; omega) (by omega)
theorem spec_Var_out (x : Int) (h : ¬ (0 ≤ x ∧ x ≤ 562949953421311)) : Ev (fun k => spec_Var.f k x) (strOfNums []) := by
  unfold spec_Var.f
  exact Ev.bind0 (spec_l1In_eq _ _ _) (Ev.neg (by simp; omega) (Ev.val _ _ rfl))

theorem spec_Canon_l0 (l : List PI) (hl : l.length ≤ 60) (hp : ∀ p ∈ prs l, 0 ≤ p.1 ∧ p.1 ≤ 315 ∧ 0 ≤ p.2 ∧ p.2 ≤ 315) (d : Nat) : ∀ (i : Nat) (xs : List Int), i + d = l.length → xs.length ≤ 100 + 14 * i →
    Ev (fun k => spec_Canon.l0 k (strOfNums xs) (i : Int) l) (strOfNums (xs ++ pairsL (prs (l.drop i)))) := by
  induction d with
  | zero =>
    intro i xs hi hx
    refine Ev.step (fun k => by rw [spec_Canon.l0]) ?_
    rw [List.drop_eq_nil_of_le (by omega)]
    exact Ev.neg (by omega) (Ev.val _ _ (by simp [prs, pairsL]))
  | succ d ih =>
    intro i xs hi hx
    have hm : rd_T88 l (i : Int) ∈ l := by
      have := rdI_drop l i (by omega)
      exact List.mem_of_mem_drop (i := i) (by rw [this]; exact List.mem_cons_self)
    refine Ev.step (fun k => by rw [spec_Canon.l0]) ?_
    rw [rdI_drop l i (by omega)]
    generalize rd_T88 l (i : Int) = p at hm
    obtain ⟨h0, h1, h2, h3⟩ := hp (p.f0, p.f1) (List.mem_map.2 ⟨p, hm, rfl⟩)
    obtain ⟨n, hn⟩ := Int.eq_ofNat_of_zero_le h0
    obtain ⟨m, hmm⟩ := Int.eq_ofNat_of_zero_le h2
    simp only at hn hmm h1 h3
    have l1 := varL_le7 (n := n) (by omega)
    have l2 := varL_le7 (n := m) (by omega)
    refine Ev.pos (by omega) (Ev.pos (by omega) ?_)
    rw [hn, hmm]
    refine Ev.bind (spec_Var_in n (by omega)) (Ev.pos (by rw [strOf_size, strOf_size]; omega) ?_)
    refine Ev.bind (spec_Var_in m (by omega)) ?_
    rw [strOf_append]
    refine Ev.pos (by rw [strOf_size, strOf_size, List.length_append]; omega) ?_
    rw [strOf_append, w64 (by omega) (by omega)]
    have := ih (i + 1) (xs ++ varL n ++ varL m) (by omega) (by simp only [List.length_append]; omega)
    have e1 : ((i + 1 : Nat) : Int) = (i : Int) + 1 := by omega
    rw [e1] at this
    have e2 : xs ++ pairsL (prs (p :: l.drop (i + 1))) = xs ++ varL n ++ varL m ++ pairsL (prs (l.drop (i + 1))) := by
      simp only [prs, List.map_cons, pairsL, hn, hmm, Int.toNat_natCast, List.append_assoc]
    rw [e2]
    exact this
theorem spec_Canon_ev (l : List PI) : Ev (fun k => spec_Canon.f k l) (canonV (prs l)) := by
  unfold spec_Canon.f canonV
  refine Ev.bind (spec_VocabOk_ev l) ?_
  refine Ev.ite Iff.rfl (fun c => ?_) (fun _ => Ev.now _)
  have h60 := tokV_60 c
  rw [prs_length] at h60
  have l1 := varL_le7 (n := l.length) (by omega)
  refine Ev.bind (spec_Var_in l.length (by omega)) (Ev.pos (by rw [strOf_size]; omega) ?_)
  have e : (⟨#[98, 112, 101]⟩ : ByteArray) = strOfNums [98, 112, 101] := rfl
  rw [e, strOf_append]
  have := spec_Canon_l0 l h60 (vocab_pairs c) l.length 0 ([98, 112, 101] ++ varL l.length) (by omega) (by simp; omega)
  unfold canonL
  rw [prs_length]
  exact this

theorem impl_within_eq (a b c : Int) : impl_within.f a b c = some (decide (b ≤ a ∧ a ≤ c)) := by
  unfold impl_within.f
  by_cases h : a ≥ b
  · rw [if_pos h]; simp [show b ≤ a from h]
  · rw [if_neg h]; simp [show ¬ b ≤ a from h]

theorem slices_Index_string_l0 (l : List ByteArray) (x : ByteArray) (hl : l.length ≤ 9223372036854775806) (d : Nat) : ∀ (j : Nat), j + d = l.length →
    ∃ r : Int, Ev (fun k => slices_Index_string_string.l0 k l x (l.length : Int) (j : Int)) r ∧ (0 ≤ r ↔ x ∈ l.drop j) := by
  induction d with
  | zero =>
    intro j hj
    refine ⟨-1, ?_, ?_⟩
    · refine Ev.step (fun k => by rw [slices_Index_string_string.l0]) ?_
      exact Ev.neg (by omega) (Ev.now _)
    · rw [List.drop_eq_nil_of_le (by omega)]; simp
  | succ d ih =>
    intro j hj
    obtain ⟨r, h1, h2⟩ := ih (j + 1) (by omega)
    have e1 : ((j + 1 : Nat) : Int) = (j : Int) + 1 := by omega
    rw [e1] at h1
    by_cases c : x.toList = (rdOf ByteArray.empty l (j : Int)).toList
    · refine ⟨j, ?_, ?_⟩
      · refine Ev.step (fun k => by rw [slices_Index_string_string.l0]) ?_
        exact Ev.pos (by omega) (Ev.pos (by omega) (Ev.pos (by omega) (Ev.pos c (Ev.now _))))
      · rw [rdOf_drop l j (by omega), ← (tl_iff _ _).1 c]; simp
    · refine ⟨r, ?_, ?_⟩
      · refine Ev.step (fun k => by rw [slices_Index_string_string.l0]) ?_
        refine Ev.pos (by omega) (Ev.pos (by omega) (Ev.pos (by omega) (Ev.neg c ?_)))
        rw [w64 (by omega) (by omega)]
        exact h1
      · rw [h2, rdOf_drop l j (by omega), List.mem_cons]
        exact ⟨.inr, fun h => h.elim (fun h => absurd (by rw [h]) c) id⟩
theorem slices_Contains_string_ev (l : List ByteArray) (x : ByteArray) (hl : l.length ≤ 9223372036854775806) : Ev (fun k => slices_Contains_string_string.f k l x) (decide (x ∈ l)) := by
  obtain ⟨r, h1, h2⟩ := slices_Index_string_l0 l x hl l.length 0 (by omega)
  unfold slices_Contains_string_string.f slices_Index_string_string.f
  refine Ev.bind h1 (Ev.val _ _ ?_)
  rw [List.drop_zero] at h2
  rw [Bool.eq_iff_iff, decide_eq_true_iff, decide_eq_true_iff]
  exact h2

theorem impl_bytesIn_eq {out : List ByteArray} {id : Int} (h0 : 0 ≤ id) (h1 : id ≤ 255 + (out.length : Int)) (hl : out.length ≤ 100000) : impl_bytesIn.f out id = some (tokB out id) := by
  unfold impl_bytesIn.f tokB
  by_cases c : id < 256
  · rw [if_pos c, if_pos c]
  · rw [if_neg c, if_neg c, w64 (by omega) (by omega), if_pos (by omega), if_pos (by omega)]
theorem impl_tokens_l0 (l : List PI) (hl : l.length ≤ 60) (d : Nat) : ∀ (out : List ByteArray), out.length + d = l.length → Short out →
    Ev (fun k => impl_tokens.l0 k out l (l.length : Int) (out.length : Int)) (tokLoop (prs (l.drop out.length)) out) := by
  induction d with
  | zero =>
    intro out ho hs
    refine Ev.step (fun k => by rw [impl_tokens.l0]) ?_
    rw [List.drop_eq_nil_of_le (by omega)]
    exact Ev.neg (by omega) (Ev.now _)
  | succ d ih =>
    intro out ho hs
    refine Ev.step (fun k => by rw [impl_tokens.l0]) ?_
    rw [rdI_drop l out.length (by omega)]
    generalize rd_T88 l (out.length : Int) = p
    rw [w64 (by omega) (by omega)]
    refine Ev.pos (by omega) (Ev.pos (by omega) (Ev.pos (by omega) ?_))
    simp only [prs, List.map_cons, tokLoop]
    have bad : ¬ pairOk out.length (p.f0, p.f1) → Ev (fun k => impl_tokens.j1 k out l (l.length : Int) (out.length : Int) true p.f0 p.f1) (out, false) := by
      intro h
      refine Ev.step (fun k => by rw [impl_tokens.j1]) ?_
      exact Ev.pos rfl (Ev.now _)
    by_cases c : pairOk out.length (p.f0, p.f1)
    · rw [if_pos c]
      have s0 : (tokB out p.f0).size ≤ 24 := tokB_size hs c.1.1 c.1.2
      have s1 : (tokB out p.f1).size ≤ 24 := tokB_size hs c.2.1 c.2.2
      refine Ev.bind0 (impl_within_eq _ _ _) (Ev.pos (decide_eq_true c.1) (Ev.bind0 (impl_within_eq _ _ _) ?_))
      rw [decide_eq_true c.2]
      refine Ev.step (fun k => by rw [impl_tokens.j1]) ?_
      refine Ev.neg (by simp) (Ev.bind0 (impl_bytesIn_eq c.1.1 c.1.2 (by omega)) (Ev.bind0 (impl_bytesIn_eq c.2.1 c.2.2 (by omega)) (Ev.pos (by omega) ?_)))
      generalize tokB out p.f0 ++ tokB out p.f1 = t
      by_cases c2 : (t.size : Int) > 24
      · rw [if_pos (.inl (by omega))]
        exact Ev.pos c2 (Ev.now _)
      · refine Ev.neg c2 (Ev.bind (slices_Contains_string_ev out t (by omega)) ?_)
        by_cases c3 : t ∈ out
        · rw [if_pos (.inr c3)]
          exact Ev.pos (decide_eq_true c3) (Ev.now _)
        · rw [if_neg (by rintro (h | h); omega; exact c3 h)]
          refine Ev.neg (by rw [decide_eq_false c3]; simp) (Ev.pos (by omega) ?_)
          have R := ih (out ++ [t]) (by simp; omega) (short_snoc hs (by omega))
          have e1 : ((out ++ [t]).length : Int) = (out.length : Int) + 1 := by simp
          have e2 : (out ++ [t]).length = out.length + 1 := by simp
          rw [e1, e2] at R
          rw [w64 (by omega) (by omega)]
          exact R
    · rw [if_neg c]
      refine Ev.bind0 (impl_within_eq _ _ _) ?_
      by_cases c1 : 0 ≤ p.f0 ∧ p.f0 ≤ 255 + (out.length : Int)
      · refine Ev.pos (decide_eq_true c1) (Ev.bind0 (impl_within_eq _ _ _) ?_)
        rw [decide_eq_false (fun h => c ⟨c1, h⟩)]
        exact bad c
      · exact Ev.neg (by rw [decide_eq_false c1]; simp) (bad c)
theorem impl_tokens_ev (l : List PI) : Ev (fun k => impl_tokens.f k l) (tokV (prs l)) := by
  unfold impl_tokens.f tokV
  refine Ev.bind0 rfl ?_
  rw [prs_length]
  by_cases c : 60 < l.length
  · rw [if_pos c]; exact Ev.pos (by omega) (Ev.now _)
  · rw [if_neg c]
    refine Ev.neg (by omega) ?_
    exact impl_tokens_l0 l (by omega) l.length [] (by simp) short_nil

theorem impl_VocabOk_ev (l : List PI) : Ev (fun k => impl_VocabOk.f k l) (vocabOk (prs l)) := by
  unfold impl_VocabOk.f
  exact Ev.bind (impl_tokens_ev l) (Ev.now _)

theorem impl_Var_l0 (n : Nat) : ∀ (xs : List Int), xs.length + n / 128 < 140737488355328 → n < 9223372036854775808 →
    Ev (fun k => impl_Var.l0 k (n : Int) xs) (strOfNums (xs ++ varL n)) := by
  induction n using Nat.strongRecOn with
  | ind n ih =>
  intro xs h1 h2
  refine Ev.step (fun k => by rw [impl_Var.l0]) ?_
  rw [varL]
  by_cases c : n < 128
  · rw [if_pos c]
    refine Ev.neg (by omega) (Ev.pos (by omega) (Ev.val _ _ ?_))
    rw [Int.emod_eq_of_lt (by omega) (by omega)]
  · rw [if_neg c]
    refine Ev.pos (by omega) (Ev.pos (by omega) ?_)
    have e1 : ((n : Int) / 128) = ((n / 128 : Nat) : Int) := by omega
    have e2 : (Go.bits .or .i64 (Go.bits .and .i64 (n : Int) 127) 128) % 256 = ((n % 128 + 128 : Nat) : Int) := by
      rw [and127 (by omega) (by omega), or_join' 7 128 _ (by omega) (by omega) (by omega) (by omega) (by omega) (by omega)]; omega
    rw [e1, e2]
    have := ih (n / 128) (by omega) (xs ++ [((n % 128 + 128 : Nat) : Int)]) (by simp; omega) (by omega)
    simpa [List.append_assoc] using this
theorem impl_Var_in (n : Nat) (h : n ≤ 562949953421311) : Ev (fun k => impl_Var.f k (n : Int)) (strOfNums (varL n)) := by
  unfold impl_Var.f
  refine Ev.bind0 (impl_within_eq _ _ _) (Ev.pos (by simp; omega) ?_)
  simpa using impl_Var_l0 n [] (by simp; omega) (by omega)
theorem impl_Var_out (x : Int) (h : ¬ (0 ≤ x ∧ x ≤ 562949953421311)) : Ev (fun k => impl_Var.f k x) (strOfNums []) := by
  unfold impl_Var.f
  exact Ev.bind0 (impl_within_eq _ _ _) (Ev.neg (by simp; omega) (Ev.val _ _ rfl))

theorem impl_Canon_l0 (l : List PI) (hl : l.length ≤ 60) (hp : ∀ p ∈ prs l, 0 ≤ p.1 ∧ p.1 ≤ 315 ∧ 0 ≤ p.2 ∧ p.2 ≤ 315) (d : Nat) : ∀ (i : Nat) (xs : List Int), i + d = l.length → xs.length ≤ 100 + 14 * i →
    Ev (fun k => impl_Canon.l0 k (strOfNums xs) l (l.length : Int) (i : Int)) (strOfNums (xs ++ pairsL (prs (l.drop i)))) := by
  induction d with
  | zero =>
    intro i xs hi hx
    refine Ev.step (fun k => by rw [impl_Canon.l0]) ?_
    rw [List.drop_eq_nil_of_le (by omega)]
    exact Ev.neg (by omega) (Ev.val _ _ (by simp [prs, pairsL]))
  | succ d ih =>
    intro i xs hi hx
    have hm : rd_T88 l (i : Int) ∈ l := by
      have := rdI_drop l i (by omega)
      exact List.mem_of_mem_drop (i := i) (by rw [this]; exact List.mem_cons_self)
    refine Ev.step (fun k => by rw [impl_Canon.l0]) ?_
    rw [rdI_drop l i (by omega)]
    generalize rd_T88 l (i : Int) = p at hm
    obtain ⟨h0, h1, h2, h3⟩ := hp (p.f0, p.f1) (List.mem_map.2 ⟨p, hm, rfl⟩)
    obtain ⟨n, hn⟩ := Int.eq_ofNat_of_zero_le h0
    obtain ⟨m, hmm⟩ := Int.eq_ofNat_of_zero_le h2
    simp only at hn hmm h1 h3
    have l1 := varL_le7 (n := n) (by omega)
    have l2 := varL_le7 (n := m) (by omega)
    refine Ev.pos (by omega) (Ev.pos (by omega) (Ev.pos (by omega) ?_))
    rw [hn, hmm]
    refine Ev.bind (impl_Var_in n (by omega)) (Ev.pos (by rw [strOf_size, strOf_size]; omega) ?_)
    refine Ev.bind (impl_Var_in m (by omega)) ?_
    rw [strOf_append]
    refine Ev.pos (by rw [strOf_size, strOf_size, List.length_append]; omega) ?_
    rw [strOf_append, w64 (by omega) (by omega)]
    have := ih (i + 1) (xs ++ varL n ++ varL m) (by omega) (by simp only [List.length_append]; omega)
    have e1 : ((i + 1 : Nat) : Int) = (i : Int) + 1 := by omega
    rw [e1] at this
    have e2 : xs ++ pairsL (prs (p :: l.drop (i + 1))) = xs ++ varL n ++ varL m ++ pairsL (prs (l.drop (i + 1))) := by
      simp only [prs, List.map_cons, pairsL, hn, hmm, Int.toNat_natCast, List.append_assoc]
    rw [e2]
    exact this
theorem impl_Canon_ev (l : List PI) : Ev (fun k => impl_Canon.f k l) (canonV (prs l)) := by
  unfold impl_Canon.f canonV
  refine Ev.bind (impl_VocabOk_ev l) ?_
  refine Ev.ite Iff.rfl (fun c => ?_) (fun _ => Ev.now _)
  have h60 := tokV_60 c
  rw [prs_length] at h60
  have l1 := varL_le7 (n := l.length) (by omega)
  refine Ev.bind (impl_Var_in l.length (by omega)) (Ev.pos (by rw [strOf_size]; omega) ?_)
  have e : (⟨#[98, 112, 101]⟩ : ByteArray) = strOfNums [98, 112, 101] := rfl
  rw [e, strOf_append]
  have := impl_Canon_l0 l h60 (vocab_pairs c) l.length 0 ([98, 112, 101] ++ varL l.length) (by omega) (by simp; omega)
  unfold canonL
  rw [prs_length]
  exact this

abbrev PL := S118
theorem rdL_drop (l : List PL) (i : Nat) (h : i < l.length) : rd_T118 l (i : Int) = l[i] := by
  unfold rd_T118
  rw [Int.toNat_natCast, List.getD_eq_getElem?_getD, List.getElem?_eq_getElem h]; rfl
theorem rdI_get (l : List PI) (i : Nat) (h : i < l.length) : rd_T88 l (i : Int) = l[i] := by
  unfold rd_T88
  rw [Int.toNat_natCast, List.getD_eq_getElem?_getD, List.getElem?_eq_getElem h]; rfl
/-- a vocabulary of the laws as the program's -/
def toV (l : List PL) : List PI := l.map fun p => ⟨p.f0, p.f1⟩
theorem toV_length (l : List PL) : (toV l).length = l.length := by simp [toV]
theorem laws_szVocab_eq (l : List PL) (hl : l.length ≤ 9223372036854775807) : laws_szVocab.f l 1048576 = some (if 1048576 - (l.length : Int) < 0 then -1 else 1048576 - (l.length : Int)) := by
  unfold laws_szVocab.f laws_szPairS.f
  rw [w64 (by omega) (by omega)]
  by_cases c : 1048576 - (l.length : Int) < 0
  · rw [if_pos c, if_pos c]; rfl
  · rw [if_neg c, if_neg c]
    simp only [Option.bind_some]
    rw [if_neg c]
theorem laws_toPairS_l0 (l : List PL) (hl : l.length ≤ 1048576) (d : Nat) : ∀ (i : Nat) (ys : List PI), i + d = l.length → ys.length = i →
    Ev (fun k => laws_toPairS.l0 k l (ys ++ List.replicate d z88) (i : Int)) (ys ++ toV (l.drop i)) := by
  induction d with
  | zero =>
    intro i ys hi hy
    refine Ev.step (fun k => by rw [laws_toPairS.l0]) ?_
    rw [List.drop_eq_nil_of_le (by omega)]
    exact Ev.neg (by omega) (Ev.now _)
  | succ d ih =>
    intro i ys hi hy
    refine Ev.step (fun k => by rw [laws_toPairS.l0]) ?_
    refine Ev.pos (by omega) (Ev.pos (by omega) ?_)
    rw [rdL_drop l i (by omega)]
    refine Ev.bind0 rfl (Ev.pos (by simp; omega) ?_)
    rw [w64 (by omega) (by omega), Int.toNat_natCast, List.set_append_right _ _ (by omega), hy, Nat.sub_self, List.replicate_succ, List.set_cons_zero]
    have := ih (i + 1) (ys ++ [⟨l[i].f0, l[i].f1⟩]) (by omega) (by simp; omega)
    have e1 : ((i + 1 : Nat) : Int) = (i : Int) + 1 := by omega
    rw [e1] at this
    have e2 : ys ++ toV (l.drop i) = (ys ++ [⟨l[i].f0, l[i].f1⟩]) ++ toV (l.drop (i + 1)) := by
      unfold toV; rw [List.drop_eq_getElem_cons (show i < l.length by omega), List.map_cons, List.append_assoc]; rfl
    have e3 : ys ++ (⟨l[i].f0, l[i].f1⟩ : PI) :: List.replicate d z88 = (ys ++ [⟨l[i].f0, l[i].f1⟩]) ++ List.replicate d z88 := by simp
    rw [e2, e3]
    exact this
theorem laws_toVocab_ev (l : List PL) (hl : l.length ≤ 1048576) : Ev (fun k => laws_toVocab.f k l) (toV l) := by
  unfold laws_toVocab.f laws_toPairS.f
  refine Ev.bind (a := toV l) ?_ (Ev.now _)
  refine Ev.pos (by omega) (Ev.pos (by omega) ?_)
  rw [Int.toNat_natCast]
  simpa using laws_toPairS_l0 l hl l.length 0 [] (by omega) rfl
theorem laws_eqPairS_l0 (a : List PI) (ha : a.length ≤ 1048576) (d : Nat) : ∀ (i : Nat), i + d = a.length → Ev (fun k => laws_eqPairS.l0 k a a (i : Int)) true := by
  induction d with
  | zero =>
    intro i hi
    refine Ev.step (fun k => by rw [laws_eqPairS.l0]) ?_
    exact Ev.neg (by omega) (Ev.now _)
  | succ d ih =>
    intro i hi
    refine Ev.step (fun k => by rw [laws_eqPairS.l0]) ?_
    refine Ev.pos (by omega) (Ev.pos (by omega) (Ev.pos (by omega) ?_))
    refine Ev.bind0 (a := true) (by unfold laws_eqPair.f; rw [if_pos rfl, if_pos rfl]) (Ev.pos rfl ?_)
    have := ih (i + 1) (by omega)
    have e1 : ((i + 1 : Nat) : Int) = (i : Int) + 1 := by omega
    rw [e1] at this
    rw [w64 (by omega) (by omega)]
    exact this
theorem laws_eqVocab_ev (a : List PI) (ha : a.length ≤ 1048576) : Ev (fun k => laws_eqVocab.f k a a) true := by
  unfold laws_eqVocab.f laws_eqPairS.f
  refine Ev.bind (a := true) (Ev.pos rfl ?_) (Ev.pos rfl (Ev.now _))
  exact laws_eqPairS_l0 a ha a.length 0 (by omega)

theorem FnExactCanon : laws_FnExactCanon.Pure := by
  intro l hl
  refine Ev.rounds (g := fun k => laws_FnExactCanon.f k l) ?_
  unfold laws_FnExactCanon.f
  refine Ev.bind0 (laws_szVocab_eq l hl.1) ?_
  by_cases c : 1048576 - (l.length : Int) < 0
  · rw [if_pos c]; exact Ev.pos (by omega) (Ev.now _)
  · rw [if_neg c]
    have h : l.length ≤ 1048576 := by omega
    have h' : (toV l).length ≤ 1048576 := by rw [toV_length]; exact h
    have e := laws_toVocab_ev l h
    exact Ev.neg c (Ev.bind e (Ev.bind (spec_Canon_ev _) (Ev.bind e (Ev.bind (impl_Canon_ev _) (Ev.pos rfl (Ev.bind e (Ev.bind (laws_eqVocab_ev _ h') (Ev.pos rfl (Ev.now _)))))))))

end Go.Proofs.Ytagbjmhipgbglaa.Pure
