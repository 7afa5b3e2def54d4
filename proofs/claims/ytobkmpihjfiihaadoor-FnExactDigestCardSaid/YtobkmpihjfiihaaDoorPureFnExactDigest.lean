/- The pure statement of the law FnExactDigest is proved: for all arguments within the stated bounds the printed function answers true. Conditions: none beyond those bounds. -/
import Derived.Test.YtobkmpihjfiihaaDoorPFnExactDigestx10
import Derived.Laws.BitsLemmas
import Derived.Lib.Strings
namespace Go.Proofs.YtobkmpihjfiihaaDoor.Pure
open Go Go.RowKit Go.Proofs.YtobkmpihjfiihaaDoor.PFnExactDigest Go.Proofs.YtobkmpihjfiihaaDoorW.PrintWords Go.Proofs.YtobkmpihjfiihaaDoorW.PrintLast Go.Proofs.YtobkmpihjfiihaaDoorW.PrintMore
set_option linter.unusedVariables false
set_option linter.unusedSimpArgs false

/-! ### Base: rounds, whole numbers, bits, byte strings (no program in sight) -/
theorem Ev.pos {α : Type} {c : Prop} [Decidable c] {g f : Nat → Option α} {r : α} (h : c) (e : Ev g r) : Ev (fun k => if c then g k else f k) r := by
  simpa only [if_pos h] using e
theorem Ev.neg {α : Type} {c : Prop} [Decidable c] {g f : Nat → Option α} {r : α} (h : ¬ c) (e : Ev f r) : Ev (fun k => if c then g k else f k) r := by
  simpa only [if_neg h] using e
theorem Ev.val {α : Type} (r s : α) (h : r = s) : Ev (fun _ => some r) s := by subst h; exact Ev.now _
theorem Ev.val0 {α : Type} {o : Option α} {s : α} (h : o = some s) : Ev (fun _ => o) s := by subst h; exact Ev.now _
theorem Ev.bind0 {α β : Type} {o : Option α} {f : Nat → α → Option β} {a : α} {r : β} (h : o = some a) (k : Ev (fun n => f n a) r) : Ev (fun n => o.bind (f n)) r := by
  subst h; simpa only [Option.bind_some] using k
theorem Ev.and {α β : Type} {g : Nat → Option α} {f : Nat → Option β} {r : α} {s : β} (h : Ev g r) (k : Ev f s) : ∃ K, ∀ n, K ≤ n → g n = some r ∧ f n = some s := by
  obtain ⟨K, h⟩ := h
  obtain ⟨L, k⟩ := k
  exact ⟨max K L, fun n hn => ⟨h n (by omega), k n (by omega)⟩⟩

theorem Ev.ite {α : Type} {c d : Prop} [Decidable c] [Decidable d] {g f : Nat → Option α} {a b : α} (h : c ↔ d) (e : d → Ev g a) (e' : ¬ d → Ev f b) : Ev (fun k => if c then g k else f k) (if d then a else b) := by
  by_cases x : d
  · rw [if_pos x]; exact Ev.pos (h.2 x) (e x)
  · rw [if_neg x]; exact Ev.neg (fun y => x (h.1 y)) (e' x)
theorem w64 {x : Int} (h0 : -9223372036854775808 ≤ x) (h1 : x ≤ 9223372036854775807) : wrap64 x = x := by unfold wrap64; omega
theorem wf64 {x : Int} (h : (Lit.int .i64 x).wf = true) : -9223372036854775808 ≤ x ∧ x ≤ 9223372036854775807 := by
  simp [Lit.wf, IntKind.min, IntKind.max, IntKind.signed, IntKind.bits] at h
  omega
theorem tdiv_nn {x y : Int} (h : 0 ≤ x) : Int.tdiv x y = x / y := Int.tdiv_eq_ediv_of_nonneg h
theorem tmod_nn {x y : Int} (h : 0 ≤ x) : Int.tmod x y = x % y := Int.tmod_eq_emod_of_nonneg h

theorem wraps_i64 (n : Int) (h₀ : 0 ≤ n) (h₁ : n < 2 ^ 63) : IntKind.i64.wrap n = n := by rw [IntKind.wrap_i64]; omega
theorem and_mask (i : Nat) (hi : i ≤ 63) (x : Int) (h0 : 0 ≤ x) (h1 : x < 9223372036854775808) : Go.bits .and .i64 x (2 ^ i - 1) = x % 2 ^ i :=
  bits_mask .i64 63 (by decide) wraps_i64 i hi x h0 h1
theorem and127 {x : Int} (h0 : 0 ≤ x) (h1 : x < 9223372036854775808) : Go.bits .and .i64 x 127 = x % 128 := and_mask 7 (by decide) x h0 h1
theorem and255 {x : Int} (h0 : 0 ≤ x) (h1 : x < 9223372036854775808) : Go.bits .and .i64 x 255 = x % 256 := and_mask 8 (by decide) x h0 h1
theorem and1 {x : Int} (h0 : 0 ≤ x) (h1 : x < 9223372036854775808) : Go.bits .and .i64 x 1 = x % 2 := and_mask 1 (by decide) x h0 h1
theorem or_join (i : Nat) (x y : Int) (hx : 0 ≤ x) (hm : x % 2 ^ i = 0) (hx1 : x < 9223372036854775808) (hy : 0 ≤ y) (hy1 : y < 2 ^ i) (hy2 : y < 9223372036854775808) : Go.bits .or .i64 x y = x + y :=
  bits_join .i64 63 (by decide) wraps_i64 i x y hx hm hx1 hy hy1 hy2
theorem bits_or_comm (k : IntKind) (x y : Int) : Go.bits .or k x y = Go.bits .or k y x := by simp only [Go.bits, BitVec.or_comm]
theorem or_join' (i : Nat) (x y : Int) (hx : 0 ≤ x) (hm : x % 2 ^ i = 0) (hx1 : x < 9223372036854775808) (hy : 0 ≤ y) (hy1 : y < 2 ^ i) (hy2 : y < 9223372036854775808) : Go.bits .or .i64 y x = x + y := by
  rw [bits_or_comm]; exact or_join i x y hx hm hx1 hy hy1 hy2
theorem u8_and127 {x : Int} (h0 : 0 ≤ x) (h1 : x < 256) : Go.bits .and .u8 x 127 = x % 128 := bits_mask .u8 8 (by decide) wraps_u8 7 (by decide) x h0 h1
theorem bits_xor_nat (a b : Nat) (ha : a < 2 ^ 63) (hb : b < 2 ^ 63) : Go.bits .xor .i64 a b = ((a ^^^ b : Nat) : Int) := by
  have hp : 2 ^ 63 ≤ 2 ^ IntKind.i64.bits := Nat.pow_le_pow_right (by decide) (by decide)
  have ha' : a % 2 ^ IntKind.i64.bits = a := Nat.mod_eq_of_lt (Nat.lt_of_lt_of_le ha hp)
  have hb' : b % 2 ^ IntKind.i64.bits = b := Nat.mod_eq_of_lt (Nat.lt_of_lt_of_le hb hp)
  simp only [Go.bits, BitVec.ofInt_natCast, BitVec.toNat_xor, BitVec.toNat_ofNat, ha', hb']
  exact wraps_i64 _ (Int.natCast_nonneg _) (by exact_mod_cast Nat.xor_lt_two_pow ha hb)

theorem wbt (s : ByteArray) (i : Int) : wrap64 (bt s i) = bt s i := by have := bt_range s i; exact w64 (by omega) (by omega)
theorem toList_eq {s t : ByteArray} (h : s = t) : s.toList = t.toList := by rw [h]
theorem strOf_append (xs ys : List Int) : strOfNums xs ++ strOfNums ys = strOfNums (xs ++ ys) := by
  apply ByteArray.ext
  rw [ByteArray.data_append]
  simp [strOfNums]
theorem strOf_size (xs : List Int) : (strOfNums xs).size = xs.length := by simp [strOfNums, ByteArray.size]
theorem strOf_nil : (⟨#[]⟩ : ByteArray) = strOfNums [] := rfl
theorem cast_pow256 (d : Nat) : ((256 ^ d : Nat) : Int) = (256 : Int) ^ d := Int.natCast_pow 256 d
theorem lt_pow256 (m d : Nat) : ((m : Int) < 256 ^ d) = (m < 256 ^ d) := by
  rw [← cast_pow256]; exact propext Int.ofNat_lt
theorem pow256_six (i : Int) (h0 : 0 ≤ i) (h1 : i ≤ 6) : (256 : Int) ^ i.toNat ≤ 281474976710656 := by
  obtain rfl | rfl | rfl | rfl | rfl | rfl | rfl : i = 0 ∨ i = 1 ∨ i = 2 ∨ i = 3 ∨ i = 4 ∨ i = 5 ∨ i = 6 := by omega
  all_goals decide

/-! ### Str: a byte string as the list of its numbers -/
def IsB (xs : List Int) : Prop := ∀ x ∈ xs, 0 ≤ x ∧ x ≤ 255
def bl (s : ByteArray) : List Int := s.data.toList.map fun b => (b.toNat : Int)
theorem bl_isB (s : ByteArray) : IsB (bl s) := by
  intro x hx
  simp only [bl, List.mem_map] at hx
  obtain ⟨b, _, rfl⟩ := hx
  have := b.toNat_lt
  omega
theorem bl_length (s : ByteArray) : (bl s).length = s.size := by unfold bl; rw [List.length_map]; rfl
theorem strOf_bl (s : ByteArray) : strOfNums (bl s) = s := by
  apply ByteArray.ext
  apply Array.ext'
  unfold strOfNums bl
  rw [List.map_map]
  have : ((fun n : Int => UInt8.ofNat n.toNat) ∘ fun b : UInt8 => (b.toNat : Int)) = id := by
    funext b
    simp only [Function.comp_apply, Int.toNat_natCast, UInt8.ofNat_toNat, id]
  rw [this, List.map_id]
theorem bl_strOf {xs : List Int} (h : IsB xs) : bl (strOfNums xs) = xs := by
  induction xs with
  | nil => rfl
  | cons a l ih =>
    have ha := h a (by simp)
    have hl := ih (fun x hx => h x (by simp [hx]))
    simp only [bl, strOfNums, List.map_cons, List.toList_toArray] at hl ⊢
    rw [hl]
    congr 1
    simp only [UInt8.toNat_ofNat']
    omega
theorem bl_append (s t : ByteArray) : bl (s ++ t) = bl s ++ bl t := by simp [bl, ByteArray.data_append]
theorem bl_extract (s : ByteArray) (a b : Nat) : bl (s.extract a b) = ((bl s).drop a).take (b - a) := by
  simp [bl, ByteArray.data_extract, List.extract_eq_take_drop, List.map_take, List.map_drop]
theorem bl_inj {s t : ByteArray} (h : bl s = bl t) : s = t := by rw [← strOf_bl s, ← strOf_bl t, h]
theorem tl_iff (s t : ByteArray) : s.toList = t.toList ↔ s = t := by
  constructor
  · intro h
    rw [Go.Lib.toList_data, Go.Lib.toList_data] at h
    exact ByteArray.ext (Array.ext' h)
  · intro h; rw [h]
theorem bt_bl (s : ByteArray) (i : Int) : bt s i = rd (bl s) i := by
  unfold bt rd bl
  split
  · rename_i h
    have h' : i.toNat < s.data.toList.length := h
    rw [List.getD_eq_getElem?_getD, List.getElem?_map, List.getElem?_eq_getElem h']
    simp only [Option.map_some, Option.getD_some]
    rfl
  · rename_i h
    have h' : ¬ i.toNat < s.data.toList.length := h
    rw [List.getD_eq_getElem?_getD, List.getElem?_map, List.getElem?_eq_none (by omega)]
    rfl
theorem bt_nat (s : ByteArray) (i : Nat) (h : i < s.size) : bt s (i : Int) = (bl s)[i]'(by rw [bl_length]; exact h) := by
  rw [bt_bl]
  unfold rd
  rw [Int.toNat_natCast, List.getD_eq_getElem?_getD, List.getElem?_eq_getElem (by rw [bl_length]; exact h)]
  rfl
theorem isB_nil : IsB [] := fun _ h => by cases h
theorem isB_append {xs ys : List Int} (h : IsB xs) (k : IsB ys) : IsB (xs ++ ys) := fun x hx => (List.mem_append.1 hx).elim (h x) (k x)
theorem isB_cons {x : Int} {ys : List Int} (h : 0 ≤ x ∧ x ≤ 255) (k : IsB ys) : IsB (x :: ys) := by
  intro y hy
  rcases List.mem_cons.1 hy with e | e
  · subst e; exact h
  · exact k y e
theorem strOf_inj {xs ys : List Int} (h : IsB xs) (k : IsB ys) (e : strOfNums xs = strOfNums ys) : xs = ys := by
  rw [← bl_strOf h, ← bl_strOf k, e]
instance instDecEqBytes : DecidableEq ByteArray := fun a b => decidable_of_iff (a.toList = b.toList) (tl_iff a b)
instance instDecMemBytes (x : ByteArray) : (l : List ByteArray) → Decidable (x ∈ l)
  | [] => .isFalse (by simp)
  | y :: l => if h : x = y then .isTrue (by simp [h]) else (match instDecMemBytes x l with
    | .isTrue k => .isTrue (by simp [k])
    | .isFalse k => .isFalse (by simp [h, k]))

/-! ### vocabularies: the tokens that merges make -/
def tokB (out : List ByteArray) (id : Int) : ByteArray := if id < 256 then strOfNums [id % 256] else rdOf ByteArray.empty out (id - 256)
abbrev pairOk (i : Nat) (p : Int × Int) : Prop := (0 ≤ p.1 ∧ p.1 ≤ 255 + (i : Int)) ∧ (0 ≤ p.2 ∧ p.2 ≤ 255 + (i : Int))
def tokLoop : List (Int × Int) → List ByteArray → List ByteArray × Bool
  | [], out => (out, true)
  | p :: l, out => if pairOk out.length p then (if 24 < (tokB out p.1 ++ tokB out p.2).size ∨ (tokB out p.1 ++ tokB out p.2) ∈ out then (out, false) else tokLoop l (out ++ [tokB out p.1 ++ tokB out p.2])) else (out, false)
def tokV (l : List (Int × Int)) : List ByteArray × Bool := if 60 < l.length then ([], false) else tokLoop l []
def vocabOk (l : List (Int × Int)) : Bool := (tokV l).2
def Short (out : List ByteArray) : Prop := ∀ s ∈ out, s.size ≤ 24
theorem rdOf_mem {out : List ByteArray} {i : Int} (h0 : 0 ≤ i) (h1 : i < out.length) : rdOf ByteArray.empty out i ∈ out := by
  have h : i.toNat < out.length := by omega
  unfold rdOf
  rw [List.getD_eq_getElem?_getD, List.getElem?_eq_getElem h]
  exact List.getElem_mem h
theorem tokB_size {out : List ByteArray} (hs : Short out) {id : Int} (h0 : 0 ≤ id) (h1 : id ≤ 255 + (out.length : Int)) : (tokB out id).size ≤ 24 := by
  unfold tokB
  split
  · rw [strOf_size]; simp
  · exact hs _ (rdOf_mem (by omega) (by omega))
theorem short_snoc {out : List ByteArray} (hs : Short out) {t : ByteArray} (ht : t.size ≤ 24) : Short (out ++ [t]) := by
  intro s h
  rcases List.mem_append.1 h with h | h
  · exact hs s h
  · rw [List.mem_singleton.1 h]; exact ht
theorem short_nil : Short [] := fun _ h => by cases h
theorem rdOf_drop (out : List ByteArray) (j : Nat) (h : j < out.length) : out.drop j = rdOf ByteArray.empty out (j : Int) :: out.drop (j + 1) := by
  unfold rdOf
  rw [Int.toNat_natCast, List.getD_eq_getElem?_getD, List.getElem?_eq_getElem h]
  exact List.drop_eq_getElem_cons h
theorem bsize_append (a b : ByteArray) : (a ++ b).size = a.size + b.size := ByteArray.size_append

theorem tokLoop_len : ∀ (l : List (Int × Int)) (out : List ByteArray), (tokLoop l out).2 = true → (tokLoop l out).1.length = out.length + l.length
  | [], out, _ => by simp [tokLoop]
  | p :: l, out, h => by
    rw [tokLoop] at h ⊢
    split at h
    · rename_i c
      rw [if_pos c]
      split at h
      · cases h
      · rename_i c2
        rw [if_neg c2, tokLoop_len l _ h]
        simp
        omega
    · cases h
theorem tokLoop_short : ∀ (l : List (Int × Int)) (out : List ByteArray), Short out → Short (tokLoop l out).1
  | [], out, h => h
  | p :: l, out, h => by
    rw [tokLoop]
    split
    · split
      · exact h
      · rename_i c2
        exact tokLoop_short l _ (short_snoc h (by have : ¬ 24 < (tokB out p.1 ++ tokB out p.2).size := fun k => c2 (.inl k); omega))
    · exact h
theorem tokV_60 {l : List (Int × Int)} (h : vocabOk l = true) : l.length ≤ 60 := by
  unfold vocabOk tokV at h
  split at h
  · cases h
  · omega
theorem tokV_len {l : List (Int × Int)} (h : vocabOk l = true) : (tokV l).1.length = l.length := by
  have h60 := tokV_60 h
  unfold vocabOk tokV at h
  rw [if_neg (by omega)] at h
  unfold tokV
  rw [if_neg (by omega), tokLoop_len l [] h]
  simp
theorem tokV_short (l : List (Int × Int)) : Short (tokV l).1 := by
  unfold tokV
  split
  · exact short_nil
  · exact tokLoop_short l [] short_nil
/-- What Token(v, id) is. -/
def tokenV (l : List (Int × Int)) (id : Int) : ByteArray := if vocabOk l = true ∧ 0 ≤ id ∧ id ≤ 255 + (l.length : Int) then tokB (tokV l).1 id else strOfNums []

/-! ### what Var makes -/
def varL (n : Nat) : List Int := if n < 128 then [(n : Int)] else ((n % 128 + 128 : Nat) : Int) :: varL (n / 128)
termination_by n
decreasing_by omega

theorem varL_small {n : Nat} (h : n < 128) : varL n = [(n : Int)] := by rw [varL, if_pos h]
theorem varL_big {n : Nat} (h : ¬ n < 128) : varL n = ((n % 128 + 128 : Nat) : Int) :: varL (n / 128) := by rw [varL, if_neg h]
theorem varL_isB (n : Nat) : IsB (varL n) := by
  induction n using Nat.strongRecOn with
  | ind n ih =>
  by_cases c : n < 128
  · rw [varL_small c]; exact isB_cons (by omega) isB_nil
  · rw [varL_big c]; exact isB_cons (by omega) (ih _ (by omega))
theorem varL_pos (n : Nat) : 0 < (varL n).length := by
  rw [varL]; split <;> simp
/-- All bytes but the last are 128 or more; the last is less. -/
theorem varL_shape (n : Nat) : ∀ (j : Nat) (h : j < (varL n).length), (j + 1 = (varL n).length → (varL n)[j] < 128) ∧ (j + 1 < (varL n).length → 128 ≤ (varL n)[j]) := by
  induction n using Nat.strongRecOn with
  | ind n ih =>
  intro j h
  by_cases c : n < 128
  · have e := varL_small c
    simp only [e, List.length_singleton] at h ⊢
    obtain rfl : j = 0 := by omega
    simp
    omega
  · have e := varL_big c
    simp only [e, List.length_cons] at h ⊢
    cases j with
    | zero =>
      have := varL_pos (n / 128)
      simp only [List.getElem_cons_zero]
      exact ⟨fun k => by omega, fun _ => by omega⟩
    | succ j =>
      simp only [List.getElem_cons_succ]
      have := ih (n / 128) (by omega) j (by omega)
      exact ⟨fun k => this.1 (by omega), fun k => this.2 (by omega)⟩
/-- A beginning of a text that is a Var: where the bytes are less than 128. -/
theorem var_at {s : ByteArray} {n k : Nat} (hk : k ≤ s.size) (h : (strOfNums (varL n)).toList = (s.extract 0 k).toList) :
    0 < k ∧ ∀ j, j < k → (j + 1 = k → bt s (j : Int) < 128) ∧ (j + 1 < k → 128 ≤ bt s (j : Int)) := by
  have e := (tl_iff _ _).1 h
  have e2 : varL n = (bl s).take k := by
    have := congrArg bl e
    rw [bl_strOf (varL_isB n), bl_extract] at this
    simpa using this
  have hl : (varL n).length = k := by rw [e2, List.length_take, bl_length]; omega
  refine ⟨by have := varL_pos n; omega, fun j hj => ?_⟩
  have hs := varL_shape n j (by omega)
  have hb : bt s (j : Int) = (varL n)[j]'(by omega) := by
    rw [bt_nat s j (by omega)]
    simp only [e2, List.getElem_take]
  rw [hb]
  exact ⟨fun h => hs.1 (by omega), fun h => hs.2 (by omega)⟩

theorem varL_le7 {n : Nat} (h : n ≤ 562949953421311) : (varL n).length ≤ 7 := by
  have : ∀ (k n : Nat), n < 128 ^ (k + 1) → (varL n).length ≤ k + 1 := by
    intro k
    induction k with
    | zero => intro n h; rw [varL_small (by simpa using h)]; simp
    | succ k ih =>
      intro n h
      by_cases c : n < 128
      · rw [varL_small c]; simp
      · rw [varL_big c]
        have := ih (n / 128) (by rw [Nat.pow_succ] at h; omega)
        simpa using this
  exact this 6 n (by omega)

/-! ### the canonical text -/
theorem tokLoop_pairs : ∀ (l : List (Int × Int)) (out : List ByteArray), (tokLoop l out).2 = true → out.length + l.length ≤ 60 → ∀ p ∈ l, 0 ≤ p.1 ∧ p.1 ≤ 315 ∧ 0 ≤ p.2 ∧ p.2 ≤ 315
  | [], _, _, _, p, hp => by cases hp
  | q :: l, out, h, hl, p, hp => by
    rw [tokLoop] at h
    split at h
    · rename_i c
      split at h
      · cases h
      · simp only [List.length_cons] at hl
        rcases List.mem_cons.1 hp with e | hp
        · subst e; unfold pairOk at c; omega
        · exact tokLoop_pairs l _ h (by simp; omega) p hp
    · cases h
theorem vocab_pairs {l : List (Int × Int)} (h : vocabOk l = true) : ∀ p ∈ l, 0 ≤ p.1 ∧ p.1 ≤ 315 ∧ 0 ≤ p.2 ∧ p.2 ≤ 315 := by
  have h60 := tokV_60 h
  unfold vocabOk tokV at h
  rw [if_neg (by omega)] at h
  exact tokLoop_pairs l [] h (by simpa using h60)
def pairsL : List (Int × Int) → List Int
  | [] => []
  | p :: l => varL p.1.toNat ++ varL p.2.toNat ++ pairsL l
def canonL (l : List (Int × Int)) : List Int := [98, 112, 101] ++ varL l.length ++ pairsL l
def canonV (l : List (Int × Int)) : ByteArray := if vocabOk l = true then strOfNums (canonL l) else strOfNums []

/-! ### what Fixed makes, and what ReadFixed reads -/
def fixL : Nat → Nat → List Int
  | 0, _ => []
  | w + 1, n => fixL w (n / 256) ++ [((n % 256 : Nat) : Int)]
theorem fixL_length : ∀ (w n : Nat), (fixL w n).length = w
  | 0, _ => rfl
  | w + 1, n => by simp [fixL, fixL_length w]
theorem set_replicate (i : Nat) (v : Int) (xs : List Int) : (List.replicate (i + 1) 0 ++ xs).set i v = List.replicate i 0 ++ (v :: xs) := by
  rw [List.replicate_succ', List.append_assoc, List.set_append_right _ _ (by simp)]
  simp
/-- What Fixed(n, w) is. -/
def fixedV (n w : Int) : List Int := if 1 ≤ w ∧ w ≤ 7 ∧ 0 ≤ n ∧ n < 256 ^ w.toNat then fixL w.toNat n.toNat else []
def beAcc (s : ByteArray) : Nat → Int → Int → Int
  | 0, _, n => n
  | d + 1, i, n => beAcc s d (i + 1) (n * 256 + bt s i)
/-- What ReadFixed(s, w) is. -/
def readFixedV (s : ByteArray) (w : Int) : Int × Bool := if 1 ≤ w ∧ w ≤ 7 ∧ w ≤ (s.size : Int) then (beAcc s w.toNat 0 0, true) else (0, false)

/-! ### Sha: what both sides make of a text (shaB, wds, wds2, rnds, addsV, rotV: the walk's own words) -/
theorem int_toNat_nat (i : Nat) : (i : Int).toNat = i := Int.toNat_natCast i
theorem rd_nat (l : List Int) (i : Nat) : rd l (i : Int) = l.getD i 0 := by unfold rd; rw [Int.toNat_natCast]
/-- n blocks of a text from place i on. -/
def blkV (p : ByteArray) : Nat → Nat → List Int → List Int
  | 0, _, s => s
  | n + 1, i, s => blkV p n (i + 64) (shaB s (p.extract i (i + 64)))
theorem blkV_add (p : ByteArray) (n : Nat) : ∀ (m i : Nat) (s : List Int), blkV p (n + m) i s = blkV p m (i + 64 * n) (blkV p n i s) := by
  induction n with
  | zero => intro m i s; simp [blkV]
  | succ n ih => intro m i s; rw [show n + 1 + m = (n + m) + 1 by omega]; simp only [blkV]; rw [ih, show i + 64 + 64 * n = i + 64 * (n + 1) by omega]
def U32s (s : List Int) : Prop := s.length = 8 ∧ ∀ x ∈ s, 0 ≤ x ∧ x < 4294967296
theorem shaInit_u : U32s shaInit := by
  refine ⟨rfl, fun x hx => ?_⟩
  simp only [shaInit, List.mem_cons, List.not_mem_nil, or_false] at hx
  omega
def addL (s v : List Int) : Nat → List Int
  | 0 => []
  | n + 1 => addL s v n ++ [(s.getD n 0 + v.getD n 0) % 4294967296]
theorem addL_length (s v : List Int) (n : Nat) : (addL s v n).length = n := by
  induction n with
  | zero => rfl
  | succ n ih => simp [addL, ih]
theorem addL_u (s v : List Int) (n : Nat) : ∀ x ∈ addL s v n, 0 ≤ x ∧ x < 4294967296 := by
  induction n with
  | zero => intro x hx; cases hx
  | succ n ih =>
    intro x hx
    simp only [addL, List.mem_append, List.mem_singleton] at hx
    rcases hx with hx | rfl
    · exact ih x hx
    · omega
theorem addsV_addL (s v : List Int) (h : s.length = 8) : addsV s v 8 = addL s v 8 := by
  obtain ⟨s0, s1, s2, s3, s4, s5, s6, s7, rfl⟩ := eight s h
  rfl
theorem shaB_u (s : List Int) (b : ByteArray) (h : s.length = 8) : U32s (shaB s b) := by
  unfold shaB
  rw [addsV_addL _ _ h]
  exact ⟨addL_length _ _ _, addL_u _ _ _⟩
theorem blkV_u (p : ByteArray) (n : Nat) : ∀ (i : Nat) (s : List Int), U32s s → U32s (blkV p n i s) := by
  induction n with
  | zero => intro i s h; exact h
  | succ n ih => intro i s h; exact ih _ _ (shaB_u _ _ h.1)
theorem blkV_congr (p q : ByteArray) (n : Nat) : ∀ (i j : Nat) (s : List Int), (∀ d, d < n → p.extract (i + 64 * d) (i + 64 * d + 64) = q.extract (j + 64 * d) (j + 64 * d + 64)) → blkV p n i s = blkV q n j s := by
  induction n with
  | zero => intro i j s h; rfl
  | succ n ih =>
    intro i j s h
    simp only [blkV]
    have h0 := h 0 (by omega)
    simp only [Nat.mul_zero, Nat.add_zero] at h0
    rw [h0]
    exact ih _ _ _ fun d hd => by
      have := h (d + 1) (by omega)
      rwa [show i + 64 * (d + 1) = i + 64 + 64 * d by omega, show j + 64 * (d + 1) = j + 64 + 64 * d by omega] at this
/-- The words of a state as a text. -/
def outL : List Int → List Int
  | [] => []
  | x :: r => fixedV x 4 ++ outL r
theorem fixedV_len (n w : Int) : (fixedV n w).length ≤ 7 := by
  unfold fixedV
  split
  · rw [fixL_length]; omega
  · simp
/-- What stands behind a text of n bytes. -/
def zerosV (n : Nat) : Nat := (64 - (n + 9) % 64) % 64
def tailL (n : Nat) : List Int := 128 :: (List.replicate (zerosV n + 1) 0 ++ fixedV (8 * (n : Int)) 7)
def padV (a : ByteArray) : ByteArray := a ++ strOfNums (tailL a.size)
def shaV (a : ByteArray) : ByteArray := strOfNums (outL (blkV (padV a) ((padV a).size / 64) 0 shaInit))
theorem fixedV7_len (n : Nat) (h : n ≤ 140737488351232) : (fixedV (8 * (n : Int)) 7).length = 7 := by
  unfold fixedV
  rw [if_pos (by refine ⟨by omega, by omega, by omega, ?_⟩; have e : (256 : Int) ^ (7 : Int).toNat = 72057594037927936 := by decide
                 rw [e]; omega), fixL_length]
  rfl
theorem tailL_len (n : Nat) (h : n ≤ 140737488351232) : (tailL n).length = zerosV n + 9 := by
  unfold tailL
  rw [List.length_cons, List.length_append, List.length_replicate, fixedV7_len n h]
theorem padV_size (a : ByteArray) (h : a.size ≤ 140737488351232) : (padV a).size = a.size + zerosV a.size + 9 := by
  unfold padV
  rw [ByteArray.size_append, strOf_size, tailL_len _ h]
  omega
theorem zerosV_mod (n : Nat) : (n + zerosV n + 9) % 64 = 0 ∧ zerosV n < 64 := by unfold zerosV; omega

theorem pairsL_len14 : ∀ (l : List (Int × Int)), (∀ p ∈ l, 0 ≤ p.1 ∧ p.1 ≤ 315 ∧ 0 ≤ p.2 ∧ p.2 ≤ 315) → (pairsL l).length ≤ 14 * l.length
  | [], _ => by simp [pairsL]
  | p :: l, h => by
    have h0 := h p (by simp)
    have ih := pairsL_len14 l (fun q hq => h q (by simp [hq]))
    have v1 := varL_le7 (n := p.1.toNat) (by omega)
    have v2 := varL_le7 (n := p.2.toNat) (by omega)
    simp only [pairsL, List.length_append, List.length_cons]
    omega
theorem canonV_size (l : List (Int × Int)) : (canonV l).size ≤ 1000 := by
  unfold canonV
  split
  · rename_i c
    have h60 := tokV_60 c
    have hp := pairsL_len14 l (vocab_pairs c)
    have v := varL_le7 (n := l.length) (by omega)
    rw [strOf_size]
    unfold canonL
    simp only [List.length_append, List.length_cons, List.length_nil]
    omega
  · rw [strOf_size]; simp
def digestV (l : List (Int × Int)) : ByteArray := if vocabOk l = true then shaV (canonV l) else ⟨#[]⟩

abbrev PI := S76
def prs (l : List PI) : List (Int × Int) := l.map fun p => (p.f0, p.f1)
theorem rdI_drop (l : List PI) (i : Nat) (h : i < l.length) : l.drop i = rd_T76 l (i : Int) :: l.drop (i + 1) := by
  unfold rd_T76
  rw [Int.toNat_natCast, List.getD_eq_getElem?_getD, List.getElem?_eq_getElem h]
  exact List.drop_eq_getElem_cons h
theorem prs_length (l : List PI) : (prs l).length = l.length := by simp [prs]

theorem impl_within_eq (a b c : Int) : impl_within.f a b c = some (decide (b ≤ a ∧ a ≤ c)) := by
  unfold impl_within.f
  by_cases h : a ≥ b
  · rw [if_pos h]; simp [show b ≤ a from h]
  · rw [if_neg h]; simp [show ¬ b ≤ a from h]

theorem slices_Index_string_l0 (l : List ByteArray) (x : ByteArray) (hl : l.length ≤ 9223372036854775806) (d : Nat) : ∀ (j : Nat), j + d = l.length →
    ∃ r : Int, Ev (fun k => slices_Index_string_string.l0 k l x (l.length : Int) (j : Int)) r ∧ (0 ≤ r ↔ x ∈ l.drop j) := by
  induction d with
  | zero =>
    intro j hj
    refine ⟨-1, ?_, ?_⟩
    · refine Ev.step (fun k => by rw [slices_Index_string_string.l0]) ?_
      exact Ev.neg (by omega) (Ev.now _)
    · rw [List.drop_eq_nil_of_le (by omega)]; simp
  | succ d ih =>
    intro j hj
    obtain ⟨r, h1, h2⟩ := ih (j + 1) (by omega)
    have e1 : ((j + 1 : Nat) : Int) = (j : Int) + 1 := by omega
    rw [e1] at h1
    by_cases c : x.toList = (rdOf ByteArray.empty l (j : Int)).toList
    · refine ⟨j, ?_, ?_⟩
      · refine Ev.step (fun k => by rw [slices_Index_string_string.l0]) ?_
        exact Ev.pos (by omega) (Ev.pos (by omega) (Ev.pos (by omega) (Ev.pos c (Ev.now _))))
      · rw [rdOf_drop l j (by omega), ← (tl_iff _ _).1 c]; simp
    · refine ⟨r, ?_, ?_⟩
      · refine Ev.step (fun k => by rw [slices_Index_string_string.l0]) ?_
        refine Ev.pos (by omega) (Ev.pos (by omega) (Ev.pos (by omega) (Ev.neg c ?_)))
        rw [w64 (by omega) (by omega)]
        exact h1
      · rw [h2, rdOf_drop l j (by omega), List.mem_cons]
        exact ⟨.inr, fun h => h.elim (fun h => absurd (by rw [h]) c) id⟩
theorem slices_Contains_string_ev (l : List ByteArray) (x : ByteArray) (hl : l.length ≤ 9223372036854775806) : Ev (fun k => slices_Contains_string_string.f k l x) (decide (x ∈ l)) := by
  obtain ⟨r, h1, h2⟩ := slices_Index_string_l0 l x hl l.length 0 (by omega)
  unfold slices_Contains_string_string.f slices_Index_string_string.f
  refine Ev.bind h1 (Ev.val _ _ ?_)
  rw [List.drop_zero] at h2
  rw [Bool.eq_iff_iff, decide_eq_true_iff, decide_eq_true_iff]
  exact h2

theorem impl_bytesIn_eq {out : List ByteArray} {id : Int} (h0 : 0 ≤ id) (h1 : id ≤ 255 + (out.length : Int)) (hl : out.length ≤ 100000) : impl_bytesIn.f out id = some (tokB out id) := by
  unfold impl_bytesIn.f tokB
  by_cases c : id < 256
  · rw [if_pos c, if_pos c]
  · rw [if_neg c, if_neg c, w64 (by omega) (by omega), if_pos (by omega), if_pos (by omega)]
theorem impl_tokens_l0 (l : List PI) (hl : l.length ≤ 60) (d : Nat) : ∀ (out : List ByteArray), out.length + d = l.length → Short out →
    Ev (fun k => impl_tokens.l0 k out l (l.length : Int) (out.length : Int)) (tokLoop (prs (l.drop out.length)) out) := by
  induction d with
  | zero =>
    intro out ho hs
    refine Ev.step (fun k => by rw [impl_tokens.l0]) ?_
    rw [List.drop_eq_nil_of_le (by omega)]
    exact Ev.neg (by omega) (Ev.now _)
  | succ d ih =>
    intro out ho hs
    refine Ev.step (fun k => by rw [impl_tokens.l0]) ?_
    rw [rdI_drop l out.length (by omega)]
    generalize rd_T76 l (out.length : Int) = p
    rw [w64 (by omega) (by omega)]
    refine Ev.pos (by omega) (Ev.pos (by omega) (Ev.pos (by omega) ?_))
    simp only [prs, List.map_cons, tokLoop]
    have bad : ¬ pairOk out.length (p.f0, p.f1) → Ev (fun k => impl_tokens.j1 k out l (l.length : Int) (out.length : Int) true p.f0 p.f1) (out, false) := by
      intro h
      refine Ev.step (fun k => by rw [impl_tokens.j1]) ?_
      exact Ev.pos rfl (Ev.now _)
    by_cases c : pairOk out.length (p.f0, p.f1)
    · rw [if_pos c]
      have s0 : (tokB out p.f0).size ≤ 24 := tokB_size hs c.1.1 c.1.2
      have s1 : (tokB out p.f1).size ≤ 24 := tokB_size hs c.2.1 c.2.2
      refine Ev.bind0 (impl_within_eq _ _ _) (Ev.pos (decide_eq_true c.1) (Ev.bind0 (impl_within_eq _ _ _) ?_))
      rw [decide_eq_true c.2]
      refine Ev.step (fun k => by rw [impl_tokens.j1]) ?_
      refine Ev.neg (by simp) (Ev.bind0 (impl_bytesIn_eq c.1.1 c.1.2 (by omega)) (Ev.bind0 (impl_bytesIn_eq c.2.1 c.2.2 (by omega)) (Ev.pos (by omega) ?_)))
      generalize tokB out p.f0 ++ tokB out p.f1 = t
      by_cases c2 : (t.size : Int) > 24
      · rw [if_pos (.inl (by omega))]
        exact Ev.pos c2 (Ev.now _)
      · refine Ev.neg c2 (Ev.bind (slices_Contains_string_ev out t (by omega)) ?_)
        by_cases c3 : t ∈ out
        · rw [if_pos (.inr c3)]
          exact Ev.pos (decide_eq_true c3) (Ev.now _)
        · rw [if_neg (by rintro (h | h); omega; exact c3 h)]
          refine Ev.neg (by rw [decide_eq_false c3]; simp) (Ev.pos (by omega) ?_)
          have R := ih (out ++ [t]) (by simp; omega) (short_snoc hs (by omega))
          have e1 : ((out ++ [t]).length : Int) = (out.length : Int) + 1 := by simp
          have e2 : (out ++ [t]).length = out.length + 1 := by simp
          rw [e1, e2] at R
          rw [w64 (by omega) (by omega)]
          exact R
    · rw [if_neg c]
      refine Ev.bind0 (impl_within_eq _ _ _) ?_
      by_cases c1 : 0 ≤ p.f0 ∧ p.f0 ≤ 255 + (out.length : Int)
      · refine Ev.pos (decide_eq_true c1) (Ev.bind0 (impl_within_eq _ _ _) ?_)
        rw [decide_eq_false (fun h => c ⟨c1, h⟩)]
        exact bad c
      · exact Ev.neg (by rw [decide_eq_false c1]; simp) (bad c)
theorem impl_tokens_ev (l : List PI) : Ev (fun k => impl_tokens.f k l) (tokV (prs l)) := by
  unfold impl_tokens.f tokV
  refine Ev.bind0 rfl ?_
  rw [prs_length]
  by_cases c : 60 < l.length
  · rw [if_pos c]; exact Ev.pos (by omega) (Ev.now _)
  · rw [if_neg c]
    refine Ev.neg (by omega) ?_
    exact impl_tokens_l0 l (by omega) l.length [] (by simp) short_nil

theorem impl_VocabOk_ev (l : List PI) : Ev (fun k => impl_VocabOk.f k l) (vocabOk (prs l)) := by
  unfold impl_VocabOk.f
  exact Ev.bind (impl_tokens_ev l) (Ev.now _)

theorem impl_Var_l0 (n : Nat) : ∀ (xs : List Int), xs.length + n / 128 < 140737488355328 → n < 9223372036854775808 →
    Ev (fun k => impl_Var.l0 k (n : Int) xs) (strOfNums (xs ++ varL n)) := by
  induction n using Nat.strongRecOn with
  | ind n ih =>
  intro xs h1 h2
  refine Ev.step (fun k => by rw [impl_Var.l0]) ?_
  rw [varL]
  by_cases c : n < 128
  · rw [if_pos c]
    refine Ev.neg (by omega) (Ev.pos (by omega) (Ev.val _ _ ?_))
    rw [Int.emod_eq_of_lt (by omega) (by omega)]
  · rw [if_neg c]
    refine Ev.pos (by omega) (Ev.pos (by omega) ?_)
    have e1 : ((n : Int) / 128) = ((n / 128 : Nat) : Int) := by omega
    have e2 : (Go.bits .or .i64 (Go.bits .and .i64 (n : Int) 127) 128) % 256 = ((n % 128 + 128 : Nat) : Int) := by
      rw [and127 (by omega) (by omega), or_join' 7 128 _ (by omega) (by omega) (by omega) (by omega) (by omega) (by omega)]; omega
    rw [e1, e2]
    have := ih (n / 128) (by omega) (xs ++ [((n % 128 + 128 : Nat) : Int)]) (by simp; omega) (by omega)
    simpa [List.append_assoc] using this
theorem impl_Var_in (n : Nat) (h : n ≤ 562949953421311) : Ev (fun k => impl_Var.f k (n : Int)) (strOfNums (varL n)) := by
  unfold impl_Var.f
  refine Ev.bind0 (impl_within_eq _ _ _) (Ev.pos (by simp; omega) ?_)
  simpa using impl_Var_l0 n [] (by simp; omega) (by omega)
theorem impl_Var_out (x : Int) (h : ¬ (0 ≤ x ∧ x ≤ 562949953421311)) : Ev (fun k => impl_Var.f k x) (strOfNums []) := by
  unfold impl_Var.f
  exact Ev.bind0 (impl_within_eq _ _ _) (Ev.neg (by simp; omega) (Ev.val _ _ rfl))

theorem impl_Canon_l0 (l : List PI) (hl : l.length ≤ 60) (hp : ∀ p ∈ prs l, 0 ≤ p.1 ∧ p.1 ≤ 315 ∧ 0 ≤ p.2 ∧ p.2 ≤ 315) (d : Nat) : ∀ (i : Nat) (xs : List Int), i + d = l.length → xs.length ≤ 100 + 14 * i →
    Ev (fun k => impl_Canon.l0 k (strOfNums xs) l (l.length : Int) (i : Int)) (strOfNums (xs ++ pairsL (prs (l.drop i)))) := by
  induction d with
  | zero =>
    intro i xs hi hx
    refine Ev.step (fun k => by rw [impl_Canon.l0]) ?_
    rw [List.drop_eq_nil_of_le (by omega)]
    exact Ev.neg (by omega) (Ev.val _ _ (by simp [prs, pairsL]))
  | succ d ih =>
    intro i xs hi hx
    have hm : rd_T76 l (i : Int) ∈ l := by
      have := rdI_drop l i (by omega)
      exact List.mem_of_mem_drop (i := i) (by rw [this]; exact List.mem_cons_self)
    refine Ev.step (fun k => by rw [impl_Canon.l0]) ?_
    rw [rdI_drop l i (by omega)]
    generalize rd_T76 l (i : Int) = p at hm
    obtain ⟨h0, h1, h2, h3⟩ := hp (p.f0, p.f1) (List.mem_map.2 ⟨p, hm, rfl⟩)
    obtain ⟨n, hn⟩ := Int.eq_ofNat_of_zero_le h0
    obtain ⟨m, hmm⟩ := Int.eq_ofNat_of_zero_le h2
    simp only at hn hmm h1 h3
    have l1 := varL_le7 (n := n) (by omega)
    have l2 := varL_le7 (n := m) (by omega)
    refine Ev.pos (by omega) (Ev.pos (by omega) (Ev.pos (by omega) ?_))
    rw [hn, hmm]
    refine Ev.bind (impl_Var_in n (by omega)) (Ev.pos (by rw [strOf_size, strOf_size]; omega) ?_)
    refine Ev.bind (impl_Var_in m (by omega)) ?_
    rw [strOf_append]
    refine Ev.pos (by rw [strOf_size, strOf_size, List.length_append]; omega) ?_
    rw [strOf_append, w64 (by omega) (by omega)]
    have := ih (i + 1) (xs ++ varL n ++ varL m) (by omega) (by simp only [List.length_append]; omega)
    have e1 : ((i + 1 : Nat) : Int) = (i : Int) + 1 := by omega
    rw [e1] at this
    have e2 : xs ++ pairsL (prs (p :: l.drop (i + 1))) = xs ++ varL n ++ varL m ++ pairsL (prs (l.drop (i + 1))) := by
      simp only [prs, List.map_cons, pairsL, hn, hmm, Int.toNat_natCast, List.append_assoc]
    rw [e2]
    exact this
theorem impl_Canon_ev (l : List PI) : Ev (fun k => impl_Canon.f k l) (canonV (prs l)) := by
  unfold impl_Canon.f canonV
  refine Ev.bind (impl_VocabOk_ev l) ?_
  refine Ev.ite Iff.rfl (fun c => ?_) (fun _ => Ev.now _)
  have h60 := tokV_60 c
  rw [prs_length] at h60
  have l1 := varL_le7 (n := l.length) (by omega)
  refine Ev.bind (impl_Var_in l.length (by omega)) (Ev.pos (by rw [strOf_size]; omega) ?_)
  have e : (⟨#[98, 112, 101]⟩ : ByteArray) = strOfNums [98, 112, 101] := rfl
  rw [e, strOf_append]
  have := impl_Canon_l0 l h60 (vocab_pairs c) l.length 0 ([98, 112, 101] ++ varL l.length) (by omega) (by simp; omega)
  unfold canonL
  rw [prs_length]
  exact this

theorem impl_Fixed_l0 (d : Nat) : ∀ (n : Nat) (xs : List Int), d ≤ 7 → n < 9223372036854775808 →
    Ev (fun k => impl_Fixed.l0 k (n : Int) (List.replicate d 0 ++ xs) ((d : Int) - 1)) (strOfNums (fixL d n ++ xs)) := by
  induction d with
  | zero =>
    intro n xs hd hn
    refine Ev.step (fun k => by rw [impl_Fixed.l0]) ?_
    exact Ev.neg (by omega) (Ev.val _ _ (by simp [fixL]))
  | succ d ih =>
    intro n xs hd hn
    refine Ev.step (fun k => by rw [impl_Fixed.l0]) ?_
    refine Ev.pos (by omega) (Ev.pos (by omega) (Ev.pos (by simp; omega) ?_))
    have e1 : (Go.bits .and .i64 (n : Int) 255) % 256 = ((n % 256 : Nat) : Int) := by rw [and255 (by omega) (by omega)]; omega
    have e2 : (n : Int) / 256 = ((n / 256 : Nat) : Int) := by omega
    have e3 : ((d + 1 : Nat) : Int) - 1 = (d : Int) := by omega
    rw [e1, e2, e3, w64 (by omega) (by omega), Int.toNat_natCast, set_replicate]
    have := ih (n / 256) (((n % 256 : Nat) : Int) :: xs) (by omega) (by omega)
    simpa [fixL, List.append_assoc] using this
theorem impl_Fixed_ev (n w : Int) (hn : n ≤ 9223372036854775807) : Ev (fun k => impl_Fixed.f k n w) (strOfNums (fixedV n w)) := by
  unfold impl_Fixed.f fixedV
  refine Ev.bind0 (impl_within_eq _ _ _) ?_
  by_cases c : 1 ≤ w ∧ w ≤ 7
  · refine Ev.pos (by simp; omega) ?_
    by_cases c2 : n < 0
    · refine Ev.pos c2 ?_
      refine Ev.step (fun k => by rw [impl_Fixed.j0]) ?_
      refine Ev.pos rfl (Ev.val _ _ ?_)
      rw [if_neg (by omega)]; rfl
    · obtain ⟨m, rfl⟩ := Int.eq_ofNat_of_zero_le (show 0 ≤ n by omega)
      obtain ⟨d, rfl⟩ := Int.eq_ofNat_of_zero_le (show 0 ≤ w by omega)
      have e1 : wrap64 (8 * (d : Int)) = ((8 * d : Nat) : Int) := by rw [w64 (by omega) (by omega)]; omega
      have e2 : shl .i64 1 ((8 * d : Nat) : Int) = ((256 ^ d : Nat) : Int) := by
        obtain rfl | rfl | rfl | rfl | rfl | rfl | rfl : d = 1 ∨ d = 2 ∨ d = 3 ∨ d = 4 ∨ d = 5 ∨ d = 6 ∨ d = 7 := by omega
        all_goals decide
      rw [e1, e2]
      refine Ev.neg c2 (Ev.pos (by omega) ?_)
      refine Ev.step (fun k => by rw [impl_Fixed.j0]) ?_
      have e3 : ((m : Int) < 256 ^ (d : Int).toNat) = (m < 256 ^ d) := by rw [Int.toNat_natCast, lt_pow256]
      by_cases c3 : m < 256 ^ d
      · refine Ev.neg (by simp only [decide_eq_true_eq]; omega) (Ev.pos (by omega) (Ev.pos (by simp; omega) ?_))
        rw [if_pos (by rw [e3]; exact ⟨by omega, by omega, by omega, c3⟩), w64 (by omega) (by omega), Int.toNat_natCast, Int.toNat_natCast]
        simpa using impl_Fixed_l0 d m [] (by omega) (by omega)
      · refine Ev.pos (by simp only [decide_eq_true_eq]; omega) (Ev.val _ _ ?_)
        rw [if_neg (by rw [e3]; omega)]; rfl
  · refine Ev.neg (by simp; omega) ?_
    refine Ev.step (fun k => by rw [impl_Fixed.j0]) ?_
    refine Ev.pos rfl (Ev.val _ _ ?_)
    rw [if_neg (by omega)]; rfl

theorem impl_Sha_pre_ev (a : ByteArray) (h : a.size ≤ 140737488351232) : Ev (fun k => impl_Sha.pre k a) (padV a) := by
  unfold impl_Sha.pre
  have e1 : wrap64 ((a.size : Int) + 9) = ((a.size + 9 : Nat) : Int) := by rw [w64 (by omega) (by omega)]; omega
  have e2 : Int.tmod ((a.size + 9 : Nat) : Int) 64 = (((a.size + 9) % 64 : Nat) : Int) := by rw [tmod_nn (by omega)]; omega
  have e3 : wrap64 (64 - (((a.size + 9) % 64 : Nat) : Int)) = ((64 - (a.size + 9) % 64 : Nat) : Int) := by rw [w64 (by omega) (by omega)]; omega
  have e4 : Int.tmod ((64 - (a.size + 9) % 64 : Nat) : Int) 64 = ((zerosV a.size : Nat) : Int) := by rw [tmod_nn (by omega)]; unfold zerosV; omega
  have hz := zerosV_mod a.size
  have e5 : wrap64 (((zerosV a.size : Nat) : Int) + 1) = ((zerosV a.size + 1 : Nat) : Int) := by rw [w64 (by omega) (by omega)]; omega
  simp only [e1, e2, e3, e4, e5]
  have e6 : wrap64 (8 * (a.size : Int)) = 8 * (a.size : Int) := w64 (by omega) (by omega)
  rw [e6, int_toNat_nat]
  have hs : (⟨#[128]⟩ : ByteArray).size = 1 := rfl
  refine Ev.pos (by omega) (Ev.pos (by omega) (Ev.pos (by omega) (Ev.bind0 rfl (Ev.pos ?_ (Ev.bind (impl_Fixed_ev _ _ (by omega)) (Ev.pos ?_ (Ev.val _ _ ?_)))))))
  · rw [ByteArray.size_append, strOf_size, List.length_replicate, hs]; omega
  · have := fixedV_len (8 * (a.size : Int)) 7
    rw [ByteArray.size_append, ByteArray.size_append, strOf_size, strOf_size, List.length_replicate, hs]; omega
  · unfold padV tailL
    rw [show (⟨#[128]⟩ : ByteArray) = strOfNums [128] from rfl]
    simp only [ByteArray.append_assoc, strOf_append]
    rfl
theorem impl_Sha_l0_ev (p : ByteArray) (n : Nat) : ∀ (i : Nat) (s : List Int), p.size = i + 64 * n → Ev (fun k => impl_Sha.l0 k s p i) (blkV p n i s) := by
  induction n with
  | zero =>
    intro i s h
    refine Ev.step (fun k => by rw [impl_Sha.l0]) ?_
    exact Ev.neg (by omega) (Ev.now _)
  | succ n ih =>
    intro i s h
    refine Ev.step (fun k => by rw [impl_Sha.l0]) ?_
    exact Ev.pos (by omega) (Ev.pos (by omega) (ih _ _ (by omega)))
theorem impl_Sha_l1_ev (s : List Int) (h8 : s.length = 8) (hs : ∀ x ∈ s, 0 ≤ x ∧ x < 4294967296) (n : Nat) : ∀ (i : Nat) (o : List Int), s.length = i + n → o.length ≤ 7 * i → i ≤ 8 → n ≤ 8 →
    Ev (fun k => impl_Sha.l1 k s n i (strOfNums o)) (strOfNums (o ++ outL (s.drop i))) := by
  induction n with
  | zero =>
    intro i o h ho hi hn
    refine Ev.val _ _ ?_
    rw [List.drop_of_length_le (by omega)]
    simp [outL]
  | succ n ih =>
    intro i o h ho hi hn
    have hl : i < s.length := by omega
    have hx := hs _ (List.getElem_mem hl)
    have e : s.getD i 0 = s[i] := by simp [List.getElem?_eq_getElem hl]
    have hd : s.drop i = s[i] :: s.drop (i + 1) := List.drop_eq_getElem_cons hl
    have h4 := fixedV_len (s[i]) 4
    simp only [impl_Sha.l1]
    rw [e]
    have hf := impl_Fixed_ev s[i] 4 (by omega)
    have hz : (strOfNums o).size + (strOfNums (fixedV s[i] 4)).size ≤ 9223372036854775807 := by
      rw [strOf_size, strOf_size]
      omega
    refine Ev.bind hf (Ev.pos hz ?_)
    rw [strOf_append]
    have := ih (i + 1) (o ++ fixedV s[i] 4) (by omega) (by rw [List.length_append]; omega) (by omega) (by omega)
    rw [hd]
    simpa [outL, List.append_assoc] using this
theorem impl_Sha_ev (a : ByteArray) (h : a.size ≤ 140737488351232) : Ev (fun k => impl_Sha.f k a) (shaV a) := by
  unfold impl_Sha.f
  have hp := padV_size a h
  have hz := zerosV_mod a.size
  have hu := blkV_u (padV a) ((padV a).size / 64) 0 shaInit shaInit_u
  refine Ev.bind (impl_Sha_pre_ev a h) (Ev.bind (impl_Sha_l0_ev (padV a) ((padV a).size / 64) 0 shaInit (by omega)) (Ev.pos ⟨hu.1, hu.2, by omega⟩ ?_))
  have := impl_Sha_l1_ev _ hu.1 hu.2 8 0 [] (by rw [hu.1]) (by simp) (by omega) (by omega)
  rw [List.drop_zero, List.nil_append] at this
  exact this

theorem impl_Digest_ev (l : List PI) : Ev (fun k => impl_Digest.f k l) (digestV (prs l)) := by
  unfold impl_Digest.f digestV
  have hs := canonV_size (prs l)
  exact Ev.bind (impl_VocabOk_ev l) (Ev.ite Iff.rfl (fun _ => Ev.bind (impl_Canon_ev l) (Ev.bind (impl_Sha_ev _ (by omega)) (Ev.now _))) (fun _ => Ev.now _))

theorem spec_l1In_eq (a b c : Int) : spec_l1In.f a b c = some (decide (b ≤ a ∧ a ≤ c)) := by
  unfold spec_l1In.f
  by_cases h : a ≥ b
  · rw [if_pos h]; simp [show b ≤ a from h]
  · rw [if_neg h]; simp [show ¬ b ≤ a from h]

theorem spec_l7Bytes_eq {out : List ByteArray} {id : Int} (h0 : 0 ≤ id) (h1 : id ≤ 255 + (out.length : Int)) (hl : out.length ≤ 100000) : spec_l7Bytes.f out id = some (tokB out id) := by
  unfold spec_l7Bytes.f tokB
  by_cases c : id < 256
  · rw [if_pos c, if_pos c]
  · rw [if_neg c, if_neg c, w64 (by omega) (by omega), if_pos (by omega), if_pos (by omega)]
theorem spec_l7Table_l1 (l : List PI) (out : List ByteArray) (t : ByteArray) (R : List ByteArray × Bool) (ho : out.length ≤ 1000) (d : Nat) : ∀ (j : Nat), j + d = out.length →
    Ev (fun k => spec_l7Table.l0 k (out ++ [t]) ((out.length : Int) + 1) l) R → Ev (fun k => spec_l7Table.l1 k out (out.length : Int) t (j : Int) l) (if t ∈ out.drop j then (out, false) else R) := by
  induction d with
  | zero =>
    intro j hj h
    refine Ev.step (fun k => by rw [spec_l7Table.l1]) ?_
    rw [List.drop_eq_nil_of_le (by omega), if_neg (by simp)]
    refine Ev.neg (by omega) (Ev.pos (by omega) ?_)
    rw [w64 (by omega) (by omega)]
    exact h
  | succ d ih =>
    intro j hj h
    refine Ev.step (fun k => by rw [spec_l7Table.l1]) ?_
    refine Ev.pos (by omega) (Ev.pos (by omega) (Ev.pos (by omega) ?_))
    rw [rdOf_drop out j (by omega)]
    by_cases c : (rdOf ByteArray.empty out (j : Int)).toList = t.toList
    · refine Ev.pos c ?_
      rw [if_pos (by rw [(tl_iff _ _).1 c]; simp)]
      exact Ev.now _
    · refine Ev.neg c ?_
      have e : (t ∈ rdOf ByteArray.empty out (j : Int) :: out.drop (j + 1)) ↔ t ∈ out.drop (j + 1) := by
        rw [List.mem_cons]
        exact ⟨fun h => h.elim (fun h => absurd (by rw [h]) c) id, .inr⟩
      simp only [e]
      have := ih (j + 1) (by omega) h
      have e1 : ((j + 1 : Nat) : Int) = (j : Int) + 1 := by omega
      rw [e1] at this
      rw [w64 (by omega) (by omega)]
      exact this
theorem spec_l7Table_l0 (l : List PI) (hl : l.length ≤ 60) (d : Nat) : ∀ (out : List ByteArray), out.length + d = l.length → Short out →
    Ev (fun k => spec_l7Table.l0 k out (out.length : Int) l) (tokLoop (prs (l.drop out.length)) out) := by
  induction d with
  | zero =>
    intro out ho hs
    refine Ev.step (fun k => by rw [spec_l7Table.l0]) ?_
    rw [List.drop_eq_nil_of_le (by omega)]
    exact Ev.neg (by omega) (Ev.now _)
  | succ d ih =>
    intro out ho hs
    refine Ev.step (fun k => by rw [spec_l7Table.l0]) ?_
    rw [rdI_drop l out.length (by omega)]
    generalize rd_T76 l (out.length : Int) = p
    rw [w64 (by omega) (by omega)]
    refine Ev.pos (by omega) (Ev.pos (by omega) ?_)
    simp only [prs, List.map_cons, tokLoop]
    have bad : ¬ pairOk out.length (p.f0, p.f1) → Ev (fun k => spec_l7Table.j1 k out (out.length : Int) true l p.f0 p.f1) (out, false) := by
      intro h
      refine Ev.step (fun k => by rw [spec_l7Table.j1]) ?_
      exact Ev.pos rfl (Ev.now _)
    by_cases c : pairOk out.length (p.f0, p.f1)
    · rw [if_pos c]
      have s0 : (tokB out p.f0).size ≤ 24 := tokB_size hs c.1.1 c.1.2
      have s1 : (tokB out p.f1).size ≤ 24 := tokB_size hs c.2.1 c.2.2
      refine Ev.bind0 (spec_l1In_eq _ _ _) (Ev.pos (decide_eq_true c.1) (Ev.bind0 (spec_l1In_eq _ _ _) ?_))
      rw [decide_eq_true c.2]
      refine Ev.step (fun k => by rw [spec_l7Table.j1]) ?_
      refine Ev.neg (by simp) (Ev.bind0 (spec_l7Bytes_eq c.1.1 c.1.2 (by omega)) (Ev.bind0 (spec_l7Bytes_eq c.2.1 c.2.2 (by omega)) (Ev.pos (by omega) ?_)))
      generalize tokB out p.f0 ++ tokB out p.f1 = t
      by_cases c2 : (t.size : Int) > 24
      · rw [if_pos (.inl (by omega))]
        exact Ev.pos c2 (Ev.now _)
      · refine Ev.neg c2 ?_
        have R := ih (out ++ [t]) (by simp; omega) (short_snoc hs (by omega))
        have e1 : ((out ++ [t]).length : Int) = (out.length : Int) + 1 := by simp
        have e2 : (out ++ [t]).length = out.length + 1 := by simp
        rw [e1, e2] at R
        have := spec_l7Table_l1 l out t _ (by omega) out.length 0 (by omega) R
        rw [List.drop_zero] at this
        have e3 : (24 < t.size ∨ t ∈ out) ↔ t ∈ out := ⟨fun h => h.elim (fun h => by omega) id, .inr⟩
        simp only [e3]
        exact this
    · rw [if_neg c]
      refine Ev.bind0 (spec_l1In_eq _ _ _) ?_
      by_cases c1 : 0 ≤ p.f0 ∧ p.f0 ≤ 255 + (out.length : Int)
      · refine Ev.pos (decide_eq_true c1) (Ev.bind0 (spec_l1In_eq _ _ _) ?_)
        rw [decide_eq_false (fun h => c ⟨c1, h⟩)]
        exact bad c
      · exact Ev.neg (by rw [decide_eq_false c1]; simp) (bad c)
theorem spec_l7Table_ev (l : List PI) : Ev (fun k => spec_l7Table.f k l) (tokV (prs l)) := by
  unfold spec_l7Table.f tokV
  refine Ev.bind0 rfl ?_
  rw [prs_length]
  by_cases c : 60 < l.length
  · rw [if_pos c]; exact Ev.pos (by omega) (Ev.now _)
  · rw [if_neg c]
    refine Ev.neg (by omega) ?_
    exact spec_l7Table_l0 l (by omega) l.length [] (by simp) short_nil

theorem spec_VocabOk_ev (l : List PI) : Ev (fun k => spec_VocabOk.f k l) (vocabOk (prs l)) := by
  unfold spec_VocabOk.f
  exact Ev.bind (spec_l7Table_ev l) (Ev.now _)

theorem spec_Var_l0 (n : Nat) : ∀ (xs : List Int), xs.length + n / 128 < 140737488355328 → n < 9223372036854775808 →
    Ev (fun k => spec_Var.l0 k (n : Int) xs) (strOfNums (xs ++ varL n)) := by
  induction n using Nat.strongRecOn with
  | ind n ih =>
  intro xs h1 h2
  refine Ev.step (fun k => by rw [spec_Var.l0]) ?_
  rw [varL]
  by_cases c : n < 128
  · rw [if_pos c]
    refine Ev.neg (by omega) (Ev.pos (by omega) (Ev.val _ _ ?_))
    rw [Int.emod_eq_of_lt (by omega) (by omega)]
  · rw [if_neg c]
    refine Ev.pos (by omega) (Ev.pos (by omega) ?_)
    have e1 : wrap64 (Int.tdiv (n : Int) 128) = ((n / 128 : Nat) : Int) := by rw [tdiv_nn (by omega), w64 (by omega) (by omega)]; omega
    have e2 : (wrap64 (128 + Int.tmod (n : Int) 128)) % 256 = ((n % 128 + 128 : Nat) : Int) := by rw [tmod_nn (by omega), w64 (by omega) (by omega)]; omega
    rw [e1, e2]
    have := ih (n / 128) (by omega) (xs ++ [((n % 128 + 128 : Nat) : Int)]) (by simp; omega) (by omega)
    simpa [List.append_assoc] using this
theorem spec_Var_in (n : Nat) (h : n ≤ 562949953421311) : Ev (fun k => spec_Var.f k (n : Int)) (strOfNums (varL n)) := by
  unfold spec_Var.f
  refine Ev.bind0 (spec_l1In_eq _ _ _) (Ev.pos (by simp; omega) ?_)
  simpa using spec_Var_l0 n [] (by simp; omega) (by omega)
theorem spec_Var_out (x : Int) (h : ¬ (0 ≤ x ∧ x ≤ 562949953421311)) : Ev (fun k => spec_Var.f k x) (strOfNums []) := by
  unfold spec_Var.f
  exact Ev.bind0 (spec_l1In_eq _ _ _) (Ev.neg (by simp; omega) (Ev.val _ _ rfl))

theorem spec_Canon_l0 (l : List PI) (hl : l.length ≤ 60) (hp : ∀ p ∈ prs l, 0 ≤ p.1 ∧ p.1 ≤ 315 ∧ 0 ≤ p.2 ∧ p.2 ≤ 315) (d : Nat) : ∀ (i : Nat) (xs : List Int), i + d = l.length → xs.length ≤ 100 + 14 * i →
    Ev (fun k => spec_Canon.l0 k (strOfNums xs) (i : Int) l) (strOfNums (xs ++ pairsL (prs (l.drop i)))) := by
  induction d with
  | zero =>
    intro i xs hi hx
    refine Ev.step (fun k => by rw [spec_Canon.l0]) ?_
    rw [List.drop_eq_nil_of_le (by omega)]
    exact Ev.neg (by omega) (Ev.val _ _ (by simp [prs, pairsL]))
  | succ d ih =>
    intro i xs hi hx
    have hm : rd_T76 l (i : Int) ∈ l := by
      have := rdI_drop l i (by omega)
      exact List.mem_of_mem_drop (i := i) (by rw [this]; exact List.mem_cons_self)
    refine Ev.step (fun k => by rw [spec_Canon.l0]) ?_
    rw [rdI_drop l i (by omega)]
    generalize rd_T76 l (i : Int) = p at hm
    obtain ⟨h0, h1, h2, h3⟩ := hp (p.f0, p.f1) (List.mem_map.2 ⟨p, hm, rfl⟩)
    obtain ⟨n, hn⟩ := Int.eq_ofNat_of_zero_le h0
    obtain ⟨m, hmm⟩ := Int.eq_ofNat_of_zero_le h2
    simp only at hn hmm h1 h3
    have l1 := varL_le7 (n := n) (by omega)
    have l2 := varL_le7 (n := m) (by omega)
    refine Ev.pos (by omega) (Ev.pos (by omega) ?_)
    rw [hn, hmm]
    refine Ev.bind (spec_Var_in n (by omega)) (Ev.pos (by rw [strOf_size, strOf_size]; omega) ?_)
    refine Ev.bind (spec_Var_in m (by omega)) ?_
    rw [strOf_append]
    refine Ev.pos (by rw [strOf_size, strOf_size, List.length_append]; omega) ?_
    rw [strOf_append, w64 (by omega) (by omega)]
    have := ih (i + 1) (xs ++ varL n ++ varL m) (by omega) (by simp only [List.length_append]; omega)
    have e1 : ((i + 1 : Nat) : Int) = (i : Int) + 1 := by omega
    rw [e1] at this
    have e2 : xs ++ pairsL (prs (p :: l.drop (i + 1))) = xs ++ varL n ++ varL m ++ pairsL (prs (l.drop (i + 1))) := by
      simp only [prs, List.map_cons, pairsL, hn, hmm, Int.toNat_natCast, List.append_assoc]
    rw [e2]
    exact this
theorem spec_Canon_ev (l : List PI) : Ev (fun k => spec_Canon.f k l) (canonV (prs l)) := by
  unfold spec_Canon.f canonV
  refine Ev.bind (spec_VocabOk_ev l) ?_
  refine Ev.ite Iff.rfl (fun c => ?_) (fun _ => Ev.now _)
  have h60 := tokV_60 c
  rw [prs_length] at h60
  have l1 := varL_le7 (n := l.length) (by omega)
  refine Ev.bind (spec_Var_in l.length (by omega)) (Ev.pos (by rw [strOf_size]; omega) ?_)
  have e : (⟨#[98, 112, 101]⟩ : ByteArray) = strOfNums [98, 112, 101] := rfl
  rw [e, strOf_append]
  have := spec_Canon_l0 l h60 (vocab_pairs c) l.length 0 ([98, 112, 101] ++ varL l.length) (by omega) (by simp; omega)
  unfold canonL
  rw [prs_length]
  exact this

theorem turn_eq (x m : Int) (hm : m ∈ [7, 18, 17, 19, 6, 11, 25, 2, 13, 22]) : spec_l2Turn.f x m = some (rotV x (-m)) := by
  have hb : 0 ≤ m ∧ m ≤ 32 := by
    simp only [List.mem_cons, List.not_mem_nil, or_false] at hm
    omega
  have hw : ∀ n : Int, 0 ≤ n → n ≤ 32 → IntKind.u64.wrap n = n := fun n h0 h1 => by
    have e : IntKind.u64.wrap n = n % 18446744073709551616 := by simp [IntKind.wrap, IntKind.bits, IntKind.signed]
    rw [e]; omega
  unfold spec_l2Turn.f rotV
  rw [w64 (x := 32 - m) (by omega) (by omega), hw m hb.1 hb.2, hw (32 - m) (by omega) (by omega), if_pos (by omega), if_pos (by omega), Int.neg_neg, show 32 + -m = 32 - m by omega, bits_or_comm]
theorem l2_l3 (h v : List Int) (hh : h.length = 8) (hv : v.length = 8) (d : Nat) : ∀ (i : Nat), i + d = 8 → Ev (fun k => spec_l2Block.l3 k h v (addL h v i) (i : Int)) (addL h v 8) := by
  induction d with
  | zero =>
    intro i hi
    refine Ev.step (fun k => by rw [spec_l2Block.l3]) ?_
    obtain rfl : i = 8 := by omega
    exact Ev.neg (by omega) (Ev.now _)
  | succ d ih =>
    intro i hi
    refine Ev.step (fun k => by rw [spec_l2Block.l3]) ?_
    have hl := addL_length h v i
    refine Ev.pos (by omega) (Ev.pos (by omega) (Ev.pos (by omega) (Ev.pos (by omega) (Ev.pos (by omega) ?_))))
    rw [rd_nat, rd_nat, w64 (by omega) (by omega)]
    exact ih (i + 1) (by omega)
theorem l2_l2 (t h x : List Int) (hh : h.length = 8) (ht : t.length = 64) (hx : x.length = 64) (d : Nat) : ∀ (i : Nat), i + d = 64 → Ev (fun k => spec_l2Block.l2 k h t x (rnds t x h i) (i : Int)) (addL h (rnds t x h 64) 8) := by
  induction d with
  | zero =>
    intro i hi
    refine Ev.step (fun k => by rw [spec_l2Block.l2]) ?_
    obtain rfl : i = 64 := by omega
    exact Ev.neg (by omega) (l2_l3 h _ hh (rnds_len _ _ _ hh 64) 8 0 (by omega))
  | succ d ih =>
    intro i hi
    refine Ev.step (fun k => by rw [spec_l2Block.l2]) ?_
    have hs : rnds t x h (i + 1) = rndV (t.getD i 0) (x.getD i 0) (rnds t x h i) := rfl
    obtain ⟨v0, v1, v2, v3, v4, v5, v6, v7, ev⟩ := eight _ (rnds_len t x h hh i)
    have g := ih (i + 1) (by omega)
    rw [hs, ev] at g
    rw [ev]
    have r0 : rd [v0, v1, v2, v3, v4, v5, v6, v7] 0 = v0 := rfl
    have r1 : rd [v0, v1, v2, v3, v4, v5, v6, v7] 1 = v1 := rfl
    have r2 : rd [v0, v1, v2, v3, v4, v5, v6, v7] 2 = v2 := rfl
    have r3 : rd [v0, v1, v2, v3, v4, v5, v6, v7] 3 = v3 := rfl
    have r4 : rd [v0, v1, v2, v3, v4, v5, v6, v7] 4 = v4 := rfl
    have r5 : rd [v0, v1, v2, v3, v4, v5, v6, v7] 5 = v5 := rfl
    have r6 : rd [v0, v1, v2, v3, v4, v5, v6, v7] 6 = v6 := rfl
    have r7 : rd [v0, v1, v2, v3, v4, v5, v6, v7] 7 = v7 := rfl
    simp only [r0, r1, r2, r3, r4, r5, r6, r7, rd_nat, List.length_cons, List.length_nil]
    rw [w64 (x := (i : Int) + 1) (by omega) (by omega)]
    refine Ev.pos (by omega) (Ev.pos (by decide) (Ev.bind0 (turn_eq _ _ (by decide)) (Ev.bind0 (turn_eq _ _ (by decide)) (Ev.bind0 (turn_eq _ _ (by decide)) (Ev.pos (by decide) (Ev.pos (by decide) (Ev.pos (by decide) (Ev.pos (by omega) (Ev.pos (by omega) (Ev.pos (by omega) (Ev.pos (by decide)
      (Ev.bind0 (turn_eq _ _ (by decide)) (Ev.bind0 (turn_eq _ _ (by decide)) (Ev.bind0 (turn_eq _ _ (by decide)) (Ev.pos (by decide) (Ev.pos (by decide) (Ev.pos (by decide) ?_)))))))))))))))))
    have e : rndV (t.getD i 0) (x.getD i 0) [v0, v1, v2, v3, v4, v5, v6, v7] = [(rndT (t.getD i 0) (x.getD i 0) v0 v1 v2 v3 v4 v5 v6 v7 + rndY v0 v1 v2 + rndM v0 v1 v2) % 4294967296, v0, v1, v2, (v3 + rndT (t.getD i 0) (x.getD i 0) v0 v1 v2 v3 v4 v5 v6 v7) % 4294967296, v4, v5, v6] := rfl
    rw [e] at g
    simp only [rndT, rndY, rndM] at g
    simp only [Int.emod_add_emod, Int.add_emod_emod] at g ⊢
    simp only [← Int.add_assoc] at g ⊢
    exact g
theorem l2_l1 (b : ByteArray) (t h : List Int) (hh : h.length = 8) (ht : t.length = 64) (d : Nat) : ∀ (i : Nat), i + d = 48 → Ev (fun k => spec_l2Block.l1 k h t (wds2 b i) ((16 + i : Nat) : Int)) (addL h (rnds t (wds2 b 48) h 64) 8) := by
  induction d with
  | zero =>
    intro i hi
    refine Ev.step (fun k => by rw [spec_l2Block.l1]) ?_
    obtain rfl : i = 48 := by omega
    have hl := wds2_len b 48
    obtain ⟨x, hx⟩ : ∃ x, wds2 b 48 = x := ⟨_, rfl⟩
    rw [hx] at hl ⊢
    refine Ev.neg (by omega) ?_
    refine Ev.bind0 rfl ?_
    refine Ev.pos (by rw [List.length_nil]; omega) ?_
    rw [List.nil_append]
    exact l2_l2 t h x hh ht hl 64 0 (by omega)
  | succ d ih =>
    intro i hi
    refine Ev.step (fun k => by rw [spec_l2Block.l1]) ?_
    have hl := wds2_len b i
    have e15 : wrap64 (((16 + i : Nat) : Int) - 15) = ((16 + i - 15 : Nat) : Int) := by rw [w64 (by omega) (by omega)]; omega
    have e2 : wrap64 (((16 + i : Nat) : Int) - 2) = ((16 + i - 2 : Nat) : Int) := by rw [w64 (by omega) (by omega)]; omega
    have e16 : wrap64 (((16 + i : Nat) : Int) - 16) = ((16 + i - 16 : Nat) : Int) := by rw [w64 (by omega) (by omega)]; omega
    have e7 : wrap64 (((16 + i : Nat) : Int) - 7) = ((16 + i - 7 : Nat) : Int) := by rw [w64 (by omega) (by omega)]; omega
    have e1 : wrap64 (((16 + i : Nat) : Int) + 1) = ((16 + (i + 1) : Nat) : Int) := by rw [w64 (by omega) (by omega)]; omega
    simp only [e15, e2, e16, e7, e1, rd_nat]
    clear e15 e2 e16 e7 e1
    refine Ev.pos (by omega) (Ev.pos (by omega) (Ev.pos (by omega) (Ev.bind0 (turn_eq _ _ (by decide)) (Ev.bind0 (turn_eq _ _ (by decide)) (Ev.pos (by omega) (Ev.pos (by omega) (Ev.bind0 (turn_eq _ _ (by decide)) (Ev.bind0 (turn_eq _ _ (by decide)) (Ev.pos (by omega) (Ev.pos (by omega) (Ev.pos (by omega) (Ev.pos (by omega) (Ev.pos (by omega) ?_)))))))))))))
    have g := ih (i + 1) (by omega)
    have e : wds2 b (i + 1) = wds2 b i ++ [nextW (wds2 b i)] := rfl
    rw [e, nextW_eq hl rfl rfl rfl rfl] at g
    simp only [Int.emod_add_emod, Int.add_emod_emod] at g ⊢
    exact g
theorem l2_l0 (b : ByteArray) (hb : b.size = 64) (t h : List Int) (hh : h.length = 8) (ht : t.length = 64) (d : Nat) : ∀ (i : Nat), i + d = 16 → Ev (fun k => spec_l2Block.l0 k h t b (wds b i) (i : Int)) (addL h (rnds t (wds2 b 48) h 64) 8) := by
  induction d with
  | zero =>
    intro i hi
    refine Ev.step (fun k => by rw [spec_l2Block.l0]) ?_
    obtain rfl : i = 16 := by omega
    exact Ev.neg (by omega) (l2_l1 b t h hh ht 48 0 (by omega))
  | succ d ih =>
    intro i hi
    refine Ev.step (fun k => by rw [spec_l2Block.l0]) ?_
    have hl := wds_len b i
    have e0 : wrap64 (4 * (i : Int)) = 4 * (i : Int) := w64 (by omega) (by omega)
    have e1 : wrap64 (4 * (i : Int) + 1) = 4 * (i : Int) + 1 := w64 (by omega) (by omega)
    have e2 : wrap64 (4 * (i : Int) + 2) = 4 * (i : Int) + 2 := w64 (by omega) (by omega)
    have e3 : wrap64 (4 * (i : Int) + 3) = 4 * (i : Int) + 3 := w64 (by omega) (by omega)
    simp only [e0, e1, e2, e3]
    clear e0 e1 e2 e3
    rw [w64 (x := (i : Int) + 1) (by omega) (by omega)]
    refine Ev.pos (by omega) (Ev.pos (by omega) (Ev.pos (by omega) (Ev.pos (by omega) (Ev.pos (by omega) (Ev.pos (by omega) (Ev.pos (by omega) (Ev.pos (by omega) (Ev.pos (by omega) (Ev.pos (by omega) ?_)))))))))
    exact ih (i + 1) (by omega)
theorem spec_l2Block_ev (h : List Int) (b : ByteArray) (hh : h.length = 8) (hb : b.size = 64) : Ev (fun k => spec_l2Block.f k h shaTab b) (shaB h b) := by
  unfold spec_l2Block.f shaB
  rw [addsV_addL _ _ hh]
  exact l2_l0 b hb shaTab h hh rfl 16 0 (by omega)

theorem spec_Fixed_l0 (d : Nat) : ∀ (n : Nat) (w i : Int) (xs : List Int), 0 ≤ i → w - i = d → w ≤ 7 → xs.length ≤ i → n < 9223372036854775808 →
    Ev (fun k => spec_Fixed.l0 k (n : Int) w (strOfNums xs) i) (strOfNums (if n < 256 ^ d then fixL d n ++ xs else [])) := by
  induction d with
  | zero =>
    intro n w i xs hi hd hw hx hn
    refine Ev.step (fun k => by rw [spec_Fixed.l0]) ?_
    refine Ev.neg (by omega) ?_
    by_cases c : n = 0
    · subst c
      exact Ev.neg (by omega) (Ev.val _ _ (by simp [fixL]))
    · refine Ev.pos (by omega) (Ev.val _ _ ?_)
      rw [if_neg (by simp; omega)]; rfl
  | succ d ih =>
    intro n w i xs hi hd hw hx hn
    refine Ev.step (fun k => by rw [spec_Fixed.l0]) ?_
    refine Ev.pos (by omega) (Ev.bind (Ev.now _) (Ev.pos (by rw [strOf_size, strOf_size]; simp; omega) ?_))
    have e1 : (Int.tmod (n : Int) 256) % 256 = ((n % 256 : Nat) : Int) := by rw [tmod_nn (by omega)]; omega
    have e2 : wrap64 (Int.tdiv (n : Int) 256) = ((n / 256 : Nat) : Int) := by rw [tdiv_nn (by omega), w64 (by omega) (by omega)]; omega
    rw [e1, e2, w64 (by omega) (by omega), strOf_append]
    have := ih (n / 256) w (i + 1) ([((n % 256 : Nat) : Int)] ++ xs) (by omega) (by omega) hw (by simp; omega) (by omega)
    have e3 : (n / 256 < 256 ^ d) = (n < 256 ^ (d + 1)) := by
      rw [Nat.pow_succ, Nat.div_lt_iff_lt_mul (by decide)]
    simp only [e3] at this
    simpa [fixL, List.append_assoc] using this
theorem spec_Fixed_ev (n w : Int) (hn : n ≤ 9223372036854775807) : Ev (fun k => spec_Fixed.f k n w) (strOfNums (fixedV n w)) := by
  unfold spec_Fixed.f fixedV
  refine Ev.bind0 (spec_l1In_eq _ _ _) ?_
  by_cases c : 1 ≤ w ∧ w ≤ 7
  · refine Ev.pos (by simp; omega) ?_
    refine Ev.step (fun k => by rw [spec_Fixed.j0]) ?_
    by_cases c2 : n < 0
    · refine Ev.pos (by simpa using c2) (Ev.val _ _ ?_)
      rw [if_neg (by omega)]; rfl
    · obtain ⟨m, rfl⟩ := Int.eq_ofNat_of_zero_le (show 0 ≤ n by omega)
      obtain ⟨d, rfl⟩ := Int.eq_ofNat_of_zero_le (show 0 ≤ w by omega)
      refine Ev.neg (by simp) ?_
      rw [strOf_nil]
      have := spec_Fixed_l0 d m (d : Int) 0 [] (by omega) (by omega) (by omega) (by simp) (by omega)
      have e : (m < 256 ^ d) = (1 ≤ (d : Int) ∧ (d : Int) ≤ 7 ∧ 0 ≤ (m : Int) ∧ (m : Int) < 256 ^ (d : Int).toNat) := by
        rw [Int.toNat_natCast, lt_pow256]; apply propext; omega
      simp only [e] at this
      simpa using this
  · refine Ev.neg (by simp; omega) ?_
    refine Ev.step (fun k => by rw [spec_Fixed.j0]) ?_
    refine Ev.pos rfl (Ev.val _ _ ?_)
    rw [if_neg (by omega)]; rfl

theorem spec_Sha_l3_ev (s : List Int) (h8 : s.length = 8) (hs : ∀ x ∈ s, 0 ≤ x ∧ x < 4294967296) (n : Nat) : ∀ (i : Nat) (o : List Int), s.length = i + n → o.length ≤ 7 * i →
    Ev (fun k => spec_Sha.l3 k s (strOfNums o) (i : Int)) (strOfNums (o ++ outL (s.drop i))) := by
  induction n with
  | zero =>
    intro i o h ho
    refine Ev.step (fun k => by rw [spec_Sha.l3]) ?_
    refine Ev.neg (by omega) (Ev.val _ _ ?_)
    rw [List.drop_of_length_le (by omega)]
    simp [outL]
  | succ n ih =>
    intro i o h ho
    have hl : i < s.length := by omega
    have hx := hs _ (List.getElem_mem hl)
    have e : s.getD i 0 = s[i] := by simp [List.getElem?_eq_getElem hl]
    have hd : s.drop i = s[i] :: s.drop (i + 1) := List.drop_eq_getElem_cons hl
    have h4 := fixedV_len (s[i]) 4
    have hf := spec_Fixed_ev s[i] 4 (by omega)
    have hz : (strOfNums o).size + (strOfNums (fixedV s[i] 4)).size ≤ 9223372036854775807 := by
      rw [strOf_size, strOf_size]
      omega
    refine Ev.step (fun k => by rw [spec_Sha.l3]) ?_
    rw [rd_nat, e, w64 (x := s[i]) (by omega) (by omega), w64 (x := (i : Int) + 1) (by omega) (by omega)]
    refine Ev.pos (by omega) (Ev.pos (by omega) (Ev.pos (by omega) (Ev.bind hf (Ev.pos hz ?_))))
    rw [strOf_append]
    have := ih (i + 1) (o ++ fixedV s[i] 4) (by omega) (by rw [List.length_append]; omega)
    rw [hd]
    simpa [outL, List.append_assoc] using this
theorem spec_Sha_l2_ev (p : ByteArray) (hp : p.size ≤ 281474976710656) (n : Nat) : ∀ (i : Nat) (s : List Int), U32s s → p.size = i + 64 * n → Ev (fun k => spec_Sha.l2 k s shaTab p (i : Int)) (strOfNums (outL (blkV p n i s))) := by
  induction n with
  | zero =>
    intro i s hs h
    refine Ev.step (fun k => by rw [spec_Sha.l2]) ?_
    rw [w64 (by omega) (by omega)]
    refine Ev.neg (by omega) ?_
    have := spec_Sha_l3_ev s hs.1 hs.2 8 0 [] (by rw [hs.1]) (by simp)
    rw [List.drop_zero, List.nil_append] at this
    exact this
  | succ n ih =>
    intro i s hs h
    refine Ev.step (fun k => by rw [spec_Sha.l2]) ?_
    rw [w64 (by omega) (by omega)]
    have e1 : ((i : Int) + 64).toNat = i + 64 := by omega
    rw [e1, int_toNat_nat]
    refine Ev.pos (by omega) (Ev.pos (by omega) (Ev.pos (by omega) (Ev.bind (spec_l2Block_ev s _ hs.1 (by simp; omega)) ?_)))
    exact ih (i + 64) _ (shaB_u _ _ hs.1) (by omega)
theorem spec_Sha_l1_ev (a tl : ByteArray) (at_ : Nat) (r : ByteArray) (n : Nat) (hat : at_ ≤ a.size) (ha : a.size ≤ 140737488351232) (ht : tl.size ≤ 140737488351232) :
    ∀ (i : Nat) (s : List Int), U32s s → at_ = i + 64 * n → Ev (fun k => spec_Sha.l2 k (blkV a n i s) shaTab (a.extract at_ a.size ++ tl) 0) r → Ev (fun k => spec_Sha.l1 k a s shaTab tl (at_ : Int) (i : Int)) r := by
  induction n with
  | zero =>
    intro i s hs h hr
    refine Ev.step (fun k => by rw [spec_Sha.l1]) ?_
    rw [int_toNat_nat]
    refine Ev.neg (by omega) (Ev.pos (by omega) (Ev.pos (by omega) (Ev.pos (by simp; omega) hr)))
  | succ n ih =>
    intro i s hs h hr
    refine Ev.step (fun k => by rw [spec_Sha.l1]) ?_
    rw [w64 (by omega) (by omega)]
    have e1 : ((i : Int) + 64).toNat = i + 64 := by omega
    rw [e1, int_toNat_nat]
    refine Ev.pos (by omega) (Ev.pos (by omega) (Ev.pos (by omega) (Ev.pos (by omega) (Ev.bind (spec_l2Block_ev s _ hs.1 (by simp; omega)) ?_))))
    exact ih (i + 64) _ (shaB_u _ _ hs.1) (by omega) hr
theorem spec_Sha_l0_ev (a : ByteArray) (ha : a.size ≤ 140737488351232) (r : ByteArray) (hr : Ev (fun k => spec_Sha.l1 k a shaInit shaTab (strOfNums (tailL a.size)) ((a.size / 64 * 64 : Nat) : Int) 0) r) (d : Nat) :
    ∀ (j : Nat), j + d = zerosV a.size → Ev (fun k => spec_Sha.l0 k a shaInit shaTab (128 :: List.replicate j 0)) r := by
  have hz := zerosV_mod a.size
  induction d with
  | zero =>
    intro j hj
    refine Ev.step (fun k => by rw [spec_Sha.l0]) ?_
    have e1 : wrap64 ((a.size : Int) + ((128 :: List.replicate j (0 : Int)).length : Int)) = ((a.size + 1 + j : Nat) : Int) := by rw [List.length_cons, List.length_replicate, w64 (by omega) (by omega)]; omega
    have e2 : wrap64 (8 * (a.size : Int)) = 8 * (a.size : Int) := w64 (by omega) (by omega)
    have e3 : wrap64 ((wrap64 ((a.size : Int) / 64)) * 64) = ((a.size / 64 * 64 : Nat) : Int) := by
      rw [w64 (x := (a.size : Int) / 64) (by omega) (by omega), w64 (by omega) (by omega)]; omega
    rw [e1, e2, e3, tmod_nn (by omega)]
    clear e1 e2 e3
    have h7 := fixedV_len (8 * (a.size : Int)) 7
    refine Ev.pos (by omega) (Ev.bind0 rfl (Ev.pos ?_ (Ev.bind (spec_Fixed_ev _ _ (by omega)) (Ev.pos ?_ ?_))))
    · rw [strOf_size, strOf_size, List.length_cons, List.length_replicate]; simp; omega
    · rw [strOf_append, strOf_size, strOf_size, List.length_append, List.length_cons, List.length_replicate]; simp; omega
    · rw [strOf_append, strOf_append]
      have e : 128 :: List.replicate j (0 : Int) ++ [0] ++ fixedV (8 * (a.size : Int)) 7 = tailL a.size := by
        obtain rfl : j = zerosV a.size := by omega
        unfold tailL
        rw [List.replicate_succ']
        simp
      rw [e]
      exact hr
  | succ d ih =>
    intro j hj
    refine Ev.step (fun k => by rw [spec_Sha.l0]) ?_
    have e1 : wrap64 ((a.size : Int) + ((128 :: List.replicate j (0 : Int)).length : Int)) = ((a.size + 1 + j : Nat) : Int) := by rw [List.length_cons, List.length_replicate, w64 (by omega) (by omega)]; omega
    rw [e1, tmod_nn (by omega)]
    clear e1
    refine Ev.neg (by omega) (Ev.pos (by rw [List.length_cons, List.length_replicate]; omega) ?_)
    have e : 128 :: List.replicate j (0 : Int) ++ [0] = 128 :: List.replicate (j + 1) 0 := by rw [List.replicate_succ']; simp
    rw [e]
    exact ih (j + 1) (by omega)
theorem ext_left (a t : ByteArray) (i j : Nat) (h : j ≤ a.size) : (a ++ t).extract i j = a.extract i j := by
  apply bl_inj
  rw [bl_extract, bl_extract, bl_append]
  have hl := bl_length a
  apply List.ext_getElem?
  intro q
  simp only [List.getElem?_take, List.getElem?_drop]
  by_cases c : q < j - i
  · rw [if_pos c, if_pos c, List.getElem?_append_left (by omega)]
  · rw [if_neg c, if_neg c]
theorem ext_right (a t : ByteArray) (z i j : Nat) (hz : z ≤ a.size) : (a.extract z a.size ++ t).extract i j = (a ++ t).extract (z + i) (z + j) := by
  apply bl_inj
  rw [bl_extract, bl_extract, bl_append, bl_append, bl_extract]
  have hl := bl_length a
  have e : ((bl a).drop z).take (a.size - z) = (bl a).drop z := List.take_of_length_le (by rw [List.length_drop]; omega)
  rw [e, ← List.drop_append_of_le_length (by omega), List.drop_drop, show z + j - (z + i) = j - i by omega]
theorem spec_Sha_ev (a : ByteArray) (h : a.size ≤ 140737488351232) : Ev (fun k => spec_Sha.f k a) (shaV a) := by
  unfold spec_Sha.f
  refine Ev.bind0 (a := shaInit) rfl (Ev.bind0 (a := shaTab) rfl ?_)
  have hp := padV_size a h
  have hz := zerosV_mod a.size
  have htl := tailL_len a.size h
  refine spec_Sha_l0_ev a h _ ?_ (zerosV a.size) 0 (by omega)
  have hu := blkV_u a (a.size / 64) 0 shaInit shaInit_u
  have ht : (strOfNums (tailL a.size)).size = zerosV a.size + 9 := by rw [strOf_size, htl]
  refine spec_Sha_l1_ev a _ (a.size / 64 * 64) _ (a.size / 64) (by omega) h (by omega) 0 shaInit shaInit_u (by omega) ?_
  have hr : (a.extract (a.size / 64 * 64) a.size ++ strOfNums (tailL a.size)).size = (padV a).size - a.size / 64 * 64 := by
    rw [ByteArray.size_append, ByteArray.size_extract, ht]; omega
  have g := spec_Sha_l2_ev (a.extract (a.size / 64 * 64) a.size ++ strOfNums (tailL a.size)) (by omega) ((padV a).size / 64 - a.size / 64) 0 _ hu (by omega)
  have e1 : blkV a (a.size / 64) 0 shaInit = blkV (padV a) (a.size / 64) 0 shaInit := blkV_congr _ _ _ _ _ _ fun d hd => (ext_left a _ _ _ (by omega)).symm
  have e2 : ∀ s, blkV (a.extract (a.size / 64 * 64) a.size ++ strOfNums (tailL a.size)) ((padV a).size / 64 - a.size / 64) 0 s = blkV (padV a) ((padV a).size / 64 - a.size / 64) (0 + 64 * (a.size / 64)) s := fun s =>
    blkV_congr _ _ _ _ _ _ fun d hd => by
      rw [ext_right _ _ _ _ _ (by omega)]
      unfold padV
      congr 1 <;> omega
  have e3 : (padV a).size / 64 = a.size / 64 + ((padV a).size / 64 - a.size / 64) := by omega
  unfold shaV
  rw [e3, blkV_add, ← e1, ← e2]
  exact g

theorem spec_Digest_ev (l : List PI) : Ev (fun k => spec_Digest.f k l) (digestV (prs l)) := by
  unfold spec_Digest.f digestV
  have hs := canonV_size (prs l)
  exact Ev.bind (spec_VocabOk_ev l) (Ev.ite Iff.rfl (fun _ => Ev.bind (spec_Canon_ev l) (Ev.bind (spec_Sha_ev _ (by omega)) (Ev.now _))) (fun _ => Ev.now _))

theorem rdI_get (l : List PI) (i : Nat) (h : i < l.length) : rd_T76 l (i : Int) = l[i] := by
  unfold rd_T76
  rw [Int.toNat_natCast, List.getD_eq_getElem?_getD, List.getElem?_eq_getElem h]; rfl
theorem laws_eqPairS_l0 (a : List PI) (ha : a.length ≤ 1048576) (d : Nat) : ∀ (i : Nat), i + d = a.length → Ev (fun k => laws_eqPairS.l0 k a a (i : Int)) true := by
  induction d with
  | zero =>
    intro i hi
    refine Ev.step (fun k => by rw [laws_eqPairS.l0]) ?_
    exact Ev.neg (by omega) (Ev.now _)
  | succ d ih =>
    intro i hi
    refine Ev.step (fun k => by rw [laws_eqPairS.l0]) ?_
    refine Ev.pos (by omega) (Ev.pos (by omega) (Ev.pos (by omega) ?_))
    refine Ev.bind0 (a := true) (by unfold laws_eqPair.f; rw [if_pos rfl, if_pos rfl]) (Ev.pos rfl ?_)
    have := ih (i + 1) (by omega)
    have e1 : ((i + 1 : Nat) : Int) = (i : Int) + 1 := by omega
    rw [e1] at this
    rw [w64 (by omega) (by omega)]
    exact this
theorem laws_eqVocab_ev (a : List PI) (ha : a.length ≤ 1048576) : Ev (fun k => laws_eqVocab.f k a a) true := by
  unfold laws_eqVocab.f laws_eqPairS.f
  refine Ev.bind (a := true) (Ev.pos rfl ?_) (Ev.pos rfl (Ev.now _))
  exact laws_eqPairS_l0 a ha a.length 0 (by omega)

abbrev PL := S100
theorem rdL_drop (l : List PL) (i : Nat) (h : i < l.length) : rd_T100 l (i : Int) = l[i] := by
  unfold rd_T100
  rw [Int.toNat_natCast, List.getD_eq_getElem?_getD, List.getElem?_eq_getElem h]; rfl
/-- a vocabulary of the laws as the program's -/
def toV (l : List PL) : List PI := l.map fun p => ⟨p.f0, p.f1⟩
theorem toV_length (l : List PL) : (toV l).length = l.length := by simp [toV]
theorem laws_szVocab_eq (l : List PL) (hl : l.length ≤ 9223372036854775807) : laws_szVocab.f l 1048576 = some (if 1048576 - (l.length : Int) < 0 then -1 else 1048576 - (l.length : Int)) := by
  unfold laws_szVocab.f laws_szPairS.f
  rw [w64 (by omega) (by omega)]
  by_cases c : 1048576 - (l.length : Int) < 0
  · rw [if_pos c, if_pos c]; rfl
  · rw [if_neg c, if_neg c]
    simp only [Option.bind_some]
    rw [if_neg c]
theorem laws_toPairS_l0 (l : List PL) (hl : l.length ≤ 1048576) (d : Nat) : ∀ (i : Nat) (ys : List PI), i + d = l.length → ys.length = i →
    Ev (fun k => laws_toPairS.l0 k l (ys ++ List.replicate d z76) (i : Int)) (ys ++ toV (l.drop i)) := by
  induction d with
  | zero =>
    intro i ys hi hy
    refine Ev.step (fun k => by rw [laws_toPairS.l0]) ?_
    rw [List.drop_eq_nil_of_le (by omega)]
    exact Ev.neg (by omega) (Ev.now _)
  | succ d ih =>
    intro i ys hi hy
    refine Ev.step (fun k => by rw [laws_toPairS.l0]) ?_
    refine Ev.pos (by omega) (Ev.pos (by omega) ?_)
    rw [rdL_drop l i (by omega)]
    refine Ev.bind0 rfl (Ev.pos (by simp; omega) ?_)
    rw [w64 (by omega) (by omega), Int.toNat_natCast, List.set_append_right _ _ (by omega), hy, Nat.sub_self, List.replicate_succ, List.set_cons_zero]
    have := ih (i + 1) (ys ++ [⟨l[i].f0, l[i].f1⟩]) (by omega) (by simp; omega)
    have e1 : ((i + 1 : Nat) : Int) = (i : Int) + 1 := by omega
    rw [e1] at this
    have e2 : ys ++ toV (l.drop i) = (ys ++ [⟨l[i].f0, l[i].f1⟩]) ++ toV (l.drop (i + 1)) := by
      unfold toV; rw [List.drop_eq_getElem_cons (show i < l.length by omega), List.map_cons, List.append_assoc]; rfl
    have e3 : ys ++ (⟨l[i].f0, l[i].f1⟩ : PI) :: List.replicate d z76 = (ys ++ [⟨l[i].f0, l[i].f1⟩]) ++ List.replicate d z76 := by simp
    rw [e2, e3]
    exact this
theorem laws_toVocab_ev (l : List PL) (hl : l.length ≤ 1048576) : Ev (fun k => laws_toVocab.f k l) (toV l) := by
  unfold laws_toVocab.f laws_toPairS.f
  refine Ev.bind (a := toV l) ?_ (Ev.now _)
  refine Ev.pos (by omega) (Ev.pos (by omega) ?_)
  rw [Int.toNat_natCast]
  simpa using laws_toPairS_l0 l hl l.length 0 [] (by omega) rfl

theorem FnExactDigest : laws_FnExactDigest.Pure := by
  intro l hl
  refine Ev.rounds (g := fun k => laws_FnExactDigest.f k l) ?_
  unfold laws_FnExactDigest.f
  refine Ev.bind0 (laws_szVocab_eq l hl.1) ?_
  by_cases c : 1048576 - (l.length : Int) < 0
  · rw [if_pos c]; exact Ev.pos (by omega) (Ev.now _)
  · rw [if_neg c]
    have h : l.length ≤ 1048576 := by omega
    have h' : (toV l).length ≤ 1048576 := by rw [toV_length]; exact h
    have e := laws_toVocab_ev l h
    exact Ev.neg c (Ev.bind e (Ev.bind (spec_Digest_ev _) (Ev.bind e (Ev.bind (impl_Digest_ev _) (Ev.pos rfl (Ev.bind e (Ev.bind (laws_eqVocab_ev _ h') (Ev.pos rfl (Ev.now _)))))))))

end Go.Proofs.YtobkmpihjfiihaaDoor.Pure
