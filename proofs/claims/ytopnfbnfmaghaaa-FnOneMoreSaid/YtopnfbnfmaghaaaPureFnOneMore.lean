/- The pure statement of the law FnOneMore is proved: for all arguments within the stated bounds the printed function answers true. Conditions: none beyond those bounds. -/
import Derived.Test.YtopnfbnfmaghaaaPFnOneMorex12
import Derived.Laws.BitsLemmas
import Derived.Lib.Strings
namespace Go.Proofs.Ytopnfbnfmaghaaa.Pure
open Go Go.RowKit Go.Proofs.Ytopnfbnfmaghaaa.PFnOneMore Go.Proofs.YtopnfbnfmaghaaaW.PrintWords Go.Proofs.YtopnfbnfmaghaaaW.PrintLast Go.Proofs.YtopnfbnfmaghaaaW.PrintMore
set_option linter.unusedVariables false
set_option linter.unusedSimpArgs false

/-! ### Base: rounds, whole numbers, bits, byte strings (no program in sight) -/
theorem Ev.pos {α : Type} {c : Prop} [Decidable c] {g f : Nat → Option α} {r : α} (h : c) (e : Ev g r) : Ev (fun k => if c then g k else f k) r := by
  simpa only [if_pos h] using e
theorem Ev.neg {α : Type} {c : Prop} [Decidable c] {g f : Nat → Option α} {r : α} (h : ¬ c) (e : Ev f r) : Ev (fun k => if c then g k else f k) r := by
  simpa only [if_neg h] using e
theorem Ev.val {α : Type} (r s : α) (h : r = s) : Ev (fun _ => some r) s := by subst h; exact Ev.now _
theorem Ev.val0 {α : Type} {o : Option α} {s : α} (h : o = some s) : Ev (fun _ => o) s := by subst h; exact Ev.now _
theorem Ev.bind0 {α β : Type} {o : Option α} {f : Nat → α → Option β} {a : α} {r : β} (h : o = some a) (k : Ev (fun n => f n a) r) : Ev (fun n => o.bind (f n)) r := by
  subst h; simpa only [Option.bind_some] using k
theorem Ev.and {α β : Type} {g : Nat → Option α} {f : Nat → Option β} {r : α} {s : β} (h : Ev g r) (k : Ev f s) : ∃ K, ∀ n, K ≤ n → g n = some r ∧ f n = some s := by
  obtain ⟨K, h⟩ := h
  obtain ⟨L, k⟩ := k
  exact ⟨max K L, fun n hn => ⟨h n (by omega), k n (by omega)⟩⟩

theorem Ev.ite {α : Type} {c d : Prop} [Decidable c] [Decidable d] {g f : Nat → Option α} {a b : α} (h : c ↔ d) (e : d → Ev g a) (e' : ¬ d → Ev f b) : Ev (fun k => if c then g k else f k) (if d then a else b) := by
  by_cases x : d
  · rw [if_pos x]; exact Ev.pos (h.2 x) (e x)
  · rw [if_neg x]; exact Ev.neg (fun y => x (h.1 y)) (e' x)
theorem w64 {x : Int} (h0 : -9223372036854775808 ≤ x) (h1 : x ≤ 9223372036854775807) : wrap64 x = x := by unfold wrap64; omega
theorem wf64 {x : Int} (h : (Lit.int .i64 x).wf = true) : -9223372036854775808 ≤ x ∧ x ≤ 9223372036854775807 := by
  simp [Lit.wf, IntKind.min, IntKind.max, IntKind.signed, IntKind.bits] at h
  omega
theorem tdiv_nn {x y : Int} (h : 0 ≤ x) : Int.tdiv x y = x / y := Int.tdiv_eq_ediv_of_nonneg h
theorem tmod_nn {x y : Int} (h : 0 ≤ x) : Int.tmod x y = x % y := Int.tmod_eq_emod_of_nonneg h

theorem wraps_i64 (n : Int) (h₀ : 0 ≤ n) (h₁ : n < 2 ^ 63) : IntKind.i64.wrap n = n := by rw [IntKind.wrap_i64]; omega
theorem and_mask (i : Nat) (hi : i ≤ 63) (x : Int) (h0 : 0 ≤ x) (h1 : x < 9223372036854775808) : Go.bits .and .i64 x (2 ^ i - 1) = x % 2 ^ i :=
  bits_mask .i64 63 (by decide) wraps_i64 i hi x h0 h1
theorem and127 {x : Int} (h0 : 0 ≤ x) (h1 : x < 9223372036854775808) : Go.bits .and .i64 x 127 = x % 128 := and_mask 7 (by decide) x h0 h1
theorem and255 {x : Int} (h0 : 0 ≤ x) (h1 : x < 9223372036854775808) : Go.bits .and .i64 x 255 = x % 256 := and_mask 8 (by decide) x h0 h1
theorem and1 {x : Int} (h0 : 0 ≤ x) (h1 : x < 9223372036854775808) : Go.bits .and .i64 x 1 = x % 2 := and_mask 1 (by decide) x h0 h1
theorem or_join (i : Nat) (x y : Int) (hx : 0 ≤ x) (hm : x % 2 ^ i = 0) (hx1 : x < 9223372036854775808) (hy : 0 ≤ y) (hy1 : y < 2 ^ i) (hy2 : y < 9223372036854775808) : Go.bits .or .i64 x y = x + y :=
  bits_join .i64 63 (by decide) wraps_i64 i x y hx hm hx1 hy hy1 hy2
theorem bits_or_comm (k : IntKind) (x y : Int) : Go.bits .or k x y = Go.bits .or k y x := by simp only [Go.bits, BitVec.or_comm]
theorem or_join' (i : Nat) (x y : Int) (hx : 0 ≤ x) (hm : x % 2 ^ i = 0) (hx1 : x < 9223372036854775808) (hy : 0 ≤ y) (hy1 : y < 2 ^ i) (hy2 : y < 9223372036854775808) : Go.bits .or .i64 y x = x + y := by
  rw [bits_or_comm]; exact or_join i x y hx hm hx1 hy hy1 hy2
theorem u8_and127 {x : Int} (h0 : 0 ≤ x) (h1 : x < 256) : Go.bits .and .u8 x 127 = x % 128 := bits_mask .u8 8 (by decide) wraps_u8 7 (by decide) x h0 h1
theorem bits_xor_nat (a b : Nat) (ha : a < 2 ^ 63) (hb : b < 2 ^ 63) : Go.bits .xor .i64 a b = ((a ^^^ b : Nat) : Int) := by
  have hp : 2 ^ 63 ≤ 2 ^ IntKind.i64.bits := Nat.pow_le_pow_right (by decide) (by decide)
  have ha' : a % 2 ^ IntKind.i64.bits = a := Nat.mod_eq_of_lt (Nat.lt_of_lt_of_le ha hp)
  have hb' : b % 2 ^ IntKind.i64.bits = b := Nat.mod_eq_of_lt (Nat.lt_of_lt_of_le hb hp)
  simp only [Go.bits, BitVec.ofInt_natCast, BitVec.toNat_xor, BitVec.toNat_ofNat, ha', hb']
  exact wraps_i64 _ (Int.natCast_nonneg _) (by exact_mod_cast Nat.xor_lt_two_pow ha hb)

theorem wbt (s : ByteArray) (i : Int) : wrap64 (bt s i) = bt s i := by have := bt_range s i; exact w64 (by omega) (by omega)
theorem toList_eq {s t : ByteArray} (h : s = t) : s.toList = t.toList := by rw [h]
theorem strOf_append (xs ys : List Int) : strOfNums xs ++ strOfNums ys = strOfNums (xs ++ ys) := by
  apply ByteArray.ext
  rw [ByteArray.data_append]
  simp [strOfNums]
theorem strOf_size (xs : List Int) : (strOfNums xs).size = xs.length := by simp [strOfNums, ByteArray.size]
theorem strOf_nil : (⟨#[]⟩ : ByteArray) = strOfNums [] := rfl
theorem cast_pow256 (d : Nat) : ((256 ^ d : Nat) : Int) = (256 : Int) ^ d := Int.natCast_pow 256 d
theorem lt_pow256 (m d : Nat) : ((m : Int) < 256 ^ d) = (m < 256 ^ d) := by
  rw [← cast_pow256]; exact propext Int.ofNat_lt
theorem pow256_six (i : Int) (h0 : 0 ≤ i) (h1 : i ≤ 6) : (256 : Int) ^ i.toNat ≤ 281474976710656 := by
  obtain rfl | rfl | rfl | rfl | rfl | rfl | rfl : i = 0 ∨ i = 1 ∨ i = 2 ∨ i = 3 ∨ i = 4 ∨ i = 5 ∨ i = 6 := by omega
  all_goals decide

/-! ### Str: a byte string as the list of its numbers -/
def IsB (xs : List Int) : Prop := ∀ x ∈ xs, 0 ≤ x ∧ x ≤ 255
def bl (s : ByteArray) : List Int := s.data.toList.map fun b => (b.toNat : Int)
theorem bl_isB (s : ByteArray) : IsB (bl s) := by
  intro x hx
  simp only [bl, List.mem_map] at hx
  obtain ⟨b, _, rfl⟩ := hx
  have := b.toNat_lt
  omega
theorem bl_length (s : ByteArray) : (bl s).length = s.size := by unfold bl; rw [List.length_map]; rfl
theorem strOf_bl (s : ByteArray) : strOfNums (bl s) = s := by
  apply ByteArray.ext
  apply Array.ext'
  unfold strOfNums bl
  rw [List.map_map]
  have : ((fun n : Int => UInt8.ofNat n.toNat) ∘ fun b : UInt8 => (b.toNat : Int)) = id := by
    funext b
    simp only [Function.comp_apply, Int.toNat_natCast, UInt8.ofNat_toNat, id]
  rw [this, List.map_id]
theorem bl_strOf {xs : List Int} (h : IsB xs) : bl (strOfNums xs) = xs := by
  induction xs with
  | nil => rfl
  | cons a l ih =>
    have ha := h a (by simp)
    have hl := ih (fun x hx => h x (by simp [hx]))
    simp only [bl, strOfNums, List.map_cons, List.toList_toArray] at hl ⊢
    rw [hl]
    congr 1
    simp only [UInt8.toNat_ofNat']
    omega
theorem bl_append (s t : ByteArray) : bl (s ++ t) = bl s ++ bl t := by simp [bl, ByteArray.data_append]
theorem bl_extract (s : ByteArray) (a b : Nat) : bl (s.extract a b) = ((bl s).drop a).take (b - a) := by
  simp [bl, ByteArray.data_extract, List.extract_eq_take_drop, List.map_take, List.map_drop]
theorem bl_inj {s t : ByteArray} (h : bl s = bl t) : s = t := by rw [← strOf_bl s, ← strOf_bl t, h]
theorem tl_iff (s t : ByteArray) : s.toList = t.toList ↔ s = t := by
  constructor
  · intro h
    rw [Go.Lib.toList_data, Go.Lib.toList_data] at h
    exact ByteArray.ext (Array.ext' h)
  · intro h; rw [h]
theorem bt_bl (s : ByteArray) (i : Int) : bt s i = rd (bl s) i := by
  unfold bt rd bl
  split
  · rename_i h
    have h' : i.toNat < s.data.toList.length := h
    rw [List.getD_eq_getElem?_getD, List.getElem?_map, List.getElem?_eq_getElem h']
    simp only [Option.map_some, Option.getD_some]
    rfl
  · rename_i h
    have h' : ¬ i.toNat < s.data.toList.length := h
    rw [List.getD_eq_getElem?_getD, List.getElem?_map, List.getElem?_eq_none (by omega)]
    rfl
theorem bt_nat (s : ByteArray) (i : Nat) (h : i < s.size) : bt s (i : Int) = (bl s)[i]'(by rw [bl_length]; exact h) := by
  rw [bt_bl]
  unfold rd
  rw [Int.toNat_natCast, List.getD_eq_getElem?_getD, List.getElem?_eq_getElem (by rw [bl_length]; exact h)]
  rfl
theorem isB_nil : IsB [] := fun _ h => by cases h
theorem isB_append {xs ys : List Int} (h : IsB xs) (k : IsB ys) : IsB (xs ++ ys) := fun x hx => (List.mem_append.1 hx).elim (h x) (k x)
theorem isB_cons {x : Int} {ys : List Int} (h : 0 ≤ x ∧ x ≤ 255) (k : IsB ys) : IsB (x :: ys) := by
  intro y hy
  rcases List.mem_cons.1 hy with e | e
  · subst e; exact h
  · exact k y e
theorem strOf_inj {xs ys : List Int} (h : IsB xs) (k : IsB ys) (e : strOfNums xs = strOfNums ys) : xs = ys := by
  rw [← bl_strOf h, ← bl_strOf k, e]
instance instDecEqBytes : DecidableEq ByteArray := fun a b => decidable_of_iff (a.toList = b.toList) (tl_iff a b)
instance instDecMemBytes (x : ByteArray) : (l : List ByteArray) → Decidable (x ∈ l)
  | [] => .isFalse (by simp)
  | y :: l => if h : x = y then .isTrue (by simp [h]) else (match instDecMemBytes x l with
    | .isTrue k => .isTrue (by simp [k])
    | .isFalse k => .isFalse (by simp [h, k]))

/-! ### vocabularies: the tokens that merges make -/
def tokB (out : List ByteArray) (id : Int) : ByteArray := if id < 256 then strOfNums [id % 256] else rdOf ByteArray.empty out (id - 256)
abbrev pairOk (i : Nat) (p : Int × Int) : Prop := (0 ≤ p.1 ∧ p.1 ≤ 255 + (i : Int)) ∧ (0 ≤ p.2 ∧ p.2 ≤ 255 + (i : Int))
def tokLoop : List (Int × Int) → List ByteArray → List ByteArray × Bool
  | [], out => (out, true)
  | p :: l, out => if pairOk out.length p then (if 24 < (tokB out p.1 ++ tokB out p.2).size ∨ (tokB out p.1 ++ tokB out p.2) ∈ out then (out, false) else tokLoop l (out ++ [tokB out p.1 ++ tokB out p.2])) else (out, false)
def tokV (l : List (Int × Int)) : List ByteArray × Bool := if 60 < l.length then ([], false) else tokLoop l []
def vocabOk (l : List (Int × Int)) : Bool := (tokV l).2
def Short (out : List ByteArray) : Prop := ∀ s ∈ out, s.size ≤ 24
theorem rdOf_mem {out : List ByteArray} {i : Int} (h0 : 0 ≤ i) (h1 : i < out.length) : rdOf ByteArray.empty out i ∈ out := by
  have h : i.toNat < out.length := by omega
  unfold rdOf
  rw [List.getD_eq_getElem?_getD, List.getElem?_eq_getElem h]
  exact List.getElem_mem h
theorem tokB_size {out : List ByteArray} (hs : Short out) {id : Int} (h0 : 0 ≤ id) (h1 : id ≤ 255 + (out.length : Int)) : (tokB out id).size ≤ 24 := by
  unfold tokB
  split
  · rw [strOf_size]; simp
  · exact hs _ (rdOf_mem (by omega) (by omega))
theorem short_snoc {out : List ByteArray} (hs : Short out) {t : ByteArray} (ht : t.size ≤ 24) : Short (out ++ [t]) := by
  intro s h
  rcases List.mem_append.1 h with h | h
  · exact hs s h
  · rw [List.mem_singleton.1 h]; exact ht
theorem short_nil : Short [] := fun _ h => by cases h
theorem rdOf_drop (out : List ByteArray) (j : Nat) (h : j < out.length) : out.drop j = rdOf ByteArray.empty out (j : Int) :: out.drop (j + 1) := by
  unfold rdOf
  rw [Int.toNat_natCast, List.getD_eq_getElem?_getD, List.getElem?_eq_getElem h]
  exact List.drop_eq_getElem_cons h
theorem bsize_append (a b : ByteArray) : (a ++ b).size = a.size + b.size := ByteArray.size_append

/-! ### the number of a merge -/
def rankFrom : List (Int × Int) → Int → Int → Int → Int
  | [], _, _, _ => -1
  | p :: l, a, b, i => if p.1 = a ∧ p.2 = b then i else rankFrom l a b (i + 1)
def rankV (l : List (Int × Int)) (q : Int × Int) : Int := rankFrom l q.1 q.2 0

/-! ### which neighbours merge first -/
theorem rankFrom_spec : ∀ (v : List (Int × Int)) (q : Int × Int) (s : Int), (rankFrom v q.1 q.2 s = -1 ∧ q ∉ v) ∨ ∃ r, ∃ h : r < v.length, rankFrom v q.1 q.2 s = s + r ∧ v[r] = q ∧ ∀ r' (h' : r' < r), v[r']'(by omega) ≠ q
  | [], q, s => .inl ⟨rfl, by simp⟩
  | p :: v, q, s => by
    rw [rankFrom]
    by_cases c : p.1 = q.1 ∧ p.2 = q.2
    · rw [if_pos c]
      exact .inr ⟨0, by simp, by simp, by simp only [List.getElem_cons_zero]; exact Prod.ext c.1 c.2, fun r' h' => by omega⟩
    · rw [if_neg c]
      have hp : p ≠ q := fun e => c (by subst e; exact ⟨rfl, rfl⟩)
      rcases rankFrom_spec v q (s + 1) with ⟨h1, h2⟩ | ⟨r, h, h1, h2, h3⟩
      · exact .inl ⟨h1, by simp [h2]; exact fun e => hp e.symm⟩
      · refine .inr ⟨r + 1, by simp; omega, by rw [h1]; omega, by simpa using h2, fun r' h' => ?_⟩
        cases r' with
        | zero => simpa using hp
        | succ r' => simpa using h3 r' (by omega)
theorem rankV_spec (v : List (Int × Int)) (q : Int × Int) : (rankV v q = -1 ∧ q ∉ v) ∨ ∃ r, ∃ h : r < v.length, rankV v q = (r : Int) ∧ v[r] = q ∧ ∀ r' (h' : r' < r), v[r']'(by omega) ≠ q := by
  rcases rankFrom_spec v q 0 with h | ⟨r, h, h1, h2, h3⟩
  · exact .inl h
  · exact .inr ⟨r, h, by unfold rankV; rw [h1]; omega, h2, h3⟩
theorem rankV_range (v : List (Int × Int)) (q : Int × Int) : -1 ≤ rankV v q ∧ rankV v q < v.length := by
  rcases rankV_spec v q with h | ⟨r, h, h1, _⟩ <;> omega
/-- neighbours -/
def adj : List Int → List (Int × Int)
  | [] => []
  | [_] => []
  | a :: b :: l => (a, b) :: adj (b :: l)
theorem adj_length : ∀ l : List Int, (adj l).length = l.length - 1
  | [] => rfl
  | [_] => rfl
  | a :: b :: l => by rw [adj, List.length_cons, adj_length (b :: l)]; simp
theorem adj_get : ∀ (l : List Int) (i : Nat) (h : i + 1 < l.length), (adj l)[i]'(by rw [adj_length]; omega) = (l[i], l[i + 1])
  | [], i, h => by simp at h
  | [_], i, h => by simp at h
  | a :: b :: l, i, h => by
    cases i with
    | zero => simp [adj]
    | succ i =>
      have := adj_get (b :: l) i (by simpa using h)
      simp only [adj, List.getElem_cons_succ] at this ⊢
      exact this
/-- the first place of the least merge, and its number -/
def IsLeast (v : List (Int × Int)) (A : List (Int × Int)) (R : Int × Int) : Prop :=
  (R = (-1, -1) ∧ ∀ q ∈ A, rankV v q < 0) ∨
  ∃ i, ∃ h : i < A.length, R = ((i : Int), rankV v A[i]) ∧ 0 ≤ rankV v A[i] ∧ (∀ q ∈ A, rankV v q < 0 ∨ rankV v A[i] ≤ rankV v q) ∧ ∀ j (hj : j < i), rankV v (A[j]'(by omega)) ≠ rankV v A[i]
theorem isLeast_unique {v A : List (Int × Int)} {R Q : Int × Int} (h : IsLeast v A R) (k : IsLeast v A Q) : R = Q := by
  rcases h with ⟨rfl, h⟩ | ⟨i, hi, rfl, h0, h1, h2⟩
  · rcases k with ⟨rfl, _⟩ | ⟨j, hj, rfl, k0, _⟩
    · rfl
    · have := h _ (List.getElem_mem hj); omega
  · rcases k with ⟨rfl, k⟩ | ⟨j, hj, rfl, k0, k1, k2⟩
    · have := k _ (List.getElem_mem hi); omega
    · have a := h1 _ (List.getElem_mem hj)
      have b := k1 _ (List.getElem_mem hi)
      have e : rankV v A[i] = rankV v A[j] := by omega
      have hij : i = j := by
        rcases Nat.lt_trichotomy i j with h | h | h
        · exact absurd e (k2 i h)
        · exact h
        · exact absurd e.symm (h2 j h)
      subst hij
      rfl
/-- as the program looks: neighbour by neighbour -/
def leastFrom (v : List (Int × Int)) : List (Int × Int) → Int → Int → Int → Int × Int
  | [], _, pos, best => (pos, best)
  | q :: A, i, pos, best => if 0 ≤ rankV v q ∧ (best < 0 ∨ rankV v q < best) then leastFrom v A (i + 1) i (rankV v q) else leastFrom v A (i + 1) pos best
theorem isLeast_snoc {v A : List (Int × Int)} {pos best : Int} (h : IsLeast v A (pos, best)) (q : Int × Int) :
    IsLeast v (A ++ [q]) (if 0 ≤ rankV v q ∧ (best < 0 ∨ rankV v q < best) then ((A.length : Int), rankV v q) else (pos, best)) := by
  rcases h with ⟨e, h⟩ | ⟨i, hi, e, h0, h1, h2⟩
  · obtain ⟨rfl, rfl⟩ := Prod.mk.inj e
    by_cases c : 0 ≤ rankV v q
    · rw [if_pos ⟨c, .inl (by omega)⟩]
      refine .inr ⟨A.length, by simp, by simp, by simpa using c, fun p hp => ?_, fun j hj => ?_⟩
      · rcases List.mem_append.1 hp with hp | hp
        · exact .inl (h p hp)
        · rw [List.mem_singleton.1 hp]; right; simp
      · have := h _ (List.getElem_mem hj)
        rw [List.getElem_append_left hj]
        simp only [List.getElem_concat_length]
        omega
    · rw [if_neg (fun k => c k.1)]
      refine .inl ⟨rfl, fun p hp => ?_⟩
      rcases List.mem_append.1 hp with hp | hp
      · exact h p hp
      · rw [List.mem_singleton.1 hp]; omega
  · obtain ⟨rfl, rfl⟩ := Prod.mk.inj e
    by_cases c : 0 ≤ rankV v q ∧ (rankV v A[i] < 0 ∨ rankV v q < rankV v A[i])
    · rw [if_pos c]
      refine .inr ⟨A.length, by simp, by simp, by simpa using c.1, fun p hp => ?_, fun j hj => ?_⟩
      · simp only [List.getElem_concat_length]
        rcases List.mem_append.1 hp with hp | hp
        · have := h1 p hp; omega
        · rw [List.mem_singleton.1 hp]; omega
      · have := h1 _ (List.getElem_mem hj)
        rw [List.getElem_append_left hj]
        simp only [List.getElem_concat_length]
        omega
    · rw [if_neg c]
      refine .inr ⟨i, by simp; omega, ?_, ?_, fun p hp => ?_, fun j hj => ?_⟩
      · rw [List.getElem_append_left hi]
      · rw [List.getElem_append_left hi]; exact h0
      · rw [List.getElem_append_left hi]
        rcases List.mem_append.1 hp with hp | hp
        · exact h1 p hp
        · rw [List.mem_singleton.1 hp]; omega
      · rw [List.getElem_append_left hi, List.getElem_append_left (by omega)]
        exact h2 j hj
theorem leastFrom_spec (v : List (Int × Int)) : ∀ (B A : List (Int × Int)) (pos best : Int), IsLeast v A (pos, best) → IsLeast v (A ++ B) (leastFrom v B (A.length : Int) pos best)
  | [], A, pos, best, h => by simpa [leastFrom] using h
  | q :: B, A, pos, best, h => by
    have hs := isLeast_snoc h q
    rw [leastFrom]
    have e1 : ((A ++ [q]).length : Int) = (A.length : Int) + 1 := by simp
    have e2 : A ++ q :: B = (A ++ [q]) ++ B := by simp
    rw [e2]
    by_cases c : 0 ≤ rankV v q ∧ (best < 0 ∨ rankV v q < best)
    · rw [if_pos c] at hs ⊢
      have := leastFrom_spec v B (A ++ [q]) _ _ hs
      rw [e1] at this
      exact this
    · rw [if_neg c] at hs ⊢
      have := leastFrom_spec v B (A ++ [q]) _ _ hs
      rw [e1] at this
      exact this
def leastV (v : List (Int × Int)) (ts : List Int) : Int × Int := leastFrom v (adj ts) 0 (-1) (-1)
theorem leastV_spec (v : List (Int × Int)) (ts : List Int) : IsLeast v (adj ts) (leastV v ts) := by
  have := leastFrom_spec v (adj ts) [] (-1) (-1) (.inl ⟨rfl, fun q h => by cases h⟩)
  simpa [leastV] using this
/-- as the reference looks: merge by merge -/
def placeFrom (A : List (Int × Int)) : List (Int × Int) → Int → Int × Int
  | [], _ => (-1, -1)
  | p :: w, r => if 0 ≤ rankV A p then (rankV A p, r) else placeFrom A w (r + 1)
theorem placeFrom_spec (A : List (Int × Int)) : ∀ (w u : List (Int × Int)), (∀ p ∈ u, p ∉ A) → IsLeast (u ++ w) A (placeFrom A w (u.length : Int))
  | [], u, h => by
    refine .inl ⟨rfl, fun q hq => ?_⟩
    rw [List.append_nil]
    rcases rankV_spec u q with ⟨h1, _⟩ | ⟨r, hr, _, h2, _⟩
    · omega
    · exact absurd hq (h q (by rw [← h2]; exact List.getElem_mem hr))
  | p :: w, u, h => by
    rw [placeFrom]
    by_cases c : 0 ≤ rankV A p
    · rw [if_pos c]
      rcases rankV_spec A p with ⟨h1, _⟩ | ⟨i, hi, h1, h2, h3⟩
      · omega
      · have hu : p ∉ u := fun hp => h p hp (by rw [← h2]; exact List.getElem_mem hi)
        have low : ∀ q ∈ A, rankV (u ++ p :: w) q < 0 ∨ (u.length : Int) ≤ rankV (u ++ p :: w) q := by
          intro q hq
          rcases rankV_spec (u ++ p :: w) q with ⟨k1, _⟩ | ⟨r, hr, k1, k2, _⟩
          · left; omega
          · by_cases hlt : r < u.length
            · rw [List.getElem_append_left hlt] at k2
              exact absurd hq (h q (by rw [← k2]; exact List.getElem_mem hlt))
            · right; omega
        have hrk : rankV (u ++ p :: w) p = (u.length : Int) := by
          have hmem : p ∈ u ++ p :: w := by simp
          rcases rankV_spec (u ++ p :: w) p with ⟨_, k⟩ | ⟨r, hr, k1, k2, k3⟩
          · exact absurd hmem k
          · have := low p (by rw [← h2]; exact List.getElem_mem hi)
            by_cases hgt : u.length < r
            · exact absurd (by simp) (k3 u.length hgt)
            · omega
        refine .inr ⟨i, hi, ?_, ?_, ?_, ?_⟩
        · rw [h2, hrk, h1]
        · rw [h2, hrk]; omega
        · intro q hq
          rw [h2, hrk]
          exact low q hq
        · intro j hj e
          rw [h2, hrk] at e
          have hne := h3 j hj
          rcases rankV_spec (u ++ p :: w) (A[j]'(by omega)) with ⟨k1, _⟩ | ⟨r, hr, k1, k2, _⟩
          · omega
          · have hr' : r = u.length := by omega
            subst hr'
            apply hne
            rw [← k2]
            simp
    · rw [if_neg c]
      have hp : p ∉ A := by
        rcases rankV_spec A p with ⟨_, k⟩ | ⟨r, hr, k1, _⟩
        · exact k
        · omega
      have := placeFrom_spec A w (u ++ [p]) (fun q hq => (List.mem_append.1 hq).elim (h q) (fun hq => by rw [List.mem_singleton.1 hq]; exact hp))
      have e1 : ((u ++ [p]).length : Int) = (u.length : Int) + 1 := by simp
      have e2 : u ++ p :: w = (u ++ [p]) ++ w := by simp
      rw [e1] at this
      rw [e2]
      exact this
theorem place_least (v : List (Int × Int)) (ts : List Int) : placeFrom (adj ts) v 0 = leastV v ts := by
  have := placeFrom_spec (adj ts) v [] (fun p hp => by cases hp)
  exact isLeast_unique (by simpa using this) (leastV_spec v ts)

/-! ### merging once, and again and again -/
def mergedV (ts : List Int) (pos r : Int) : List Int := ts.take pos.toNat ++ [256 + r] ++ ts.drop (pos.toNat + 2)
def bpeFrom (v : List (Int × Int)) : Nat → List Int → List Int
  | 0, ts => ts
  | f + 1, ts => if (leastV v ts).1 < 0 then ts else bpeFrom v f (mergedV ts (leastV v ts).1 (leastV v ts).2)
def bpeV (v : List (Int × Int)) (s : ByteArray) : List Int := bpeFrom v s.size (bl s)
theorem least_in {v : List (Int × Int)} {ts : List Int} (h : ¬ (leastV v ts).1 < 0) : 0 ≤ (leastV v ts).1 ∧ (leastV v ts).1 + 2 ≤ ts.length ∧ 0 ≤ (leastV v ts).2 ∧ (leastV v ts).2 < v.length := by
  rcases leastV_spec v ts with ⟨e, _⟩ | ⟨i, hi, e, h0, _⟩
  · rw [e] at h; simp at h
  · have := rankV_range v ((adj ts)[i])
    rw [adj_length] at hi
    rw [e]
    simp only
    omega
theorem mergedV_length {ts : List Int} {pos r : Int} (h0 : 0 ≤ pos) (h1 : pos + 2 ≤ ts.length) : (mergedV ts pos r).length + 1 = ts.length := by
  unfold mergedV
  simp only [List.length_append, List.length_take, List.length_drop, List.length_singleton]
  omega
theorem bpeFrom_length (v : List (Int × Int)) : ∀ (f : Nat) (ts : List Int), (bpeFrom v f ts).length ≤ ts.length
  | 0, ts => Nat.le_refl _
  | f + 1, ts => by
    rw [bpeFrom]
    split
    · exact Nat.le_refl _
    · rename_i c
      have h := least_in c
      have := mergedV_length (r := (leastV v ts).2) h.1 h.2.1
      have := bpeFrom_length v f (mergedV ts (leastV v ts).1 (leastV v ts).2)
      omega
theorem bpeV_length (v : List (Int × Int)) (s : ByteArray) : (bpeV v s).length ≤ s.size := by
  have := bpeFrom_length v s.size (bl s)
  rw [bl_length] at this
  exact this
theorem least_nil (v : List (Int × Int)) : leastV v [] = (-1, -1) := rfl
def bpeOut (v : List (Int × Int)) (s : ByteArray) : List Int := if vocabOk v = true then (if (s.size : Int) > 64 then [] else bpeV v s) else []
theorem bpeOut_length (v : List (Int × Int)) (s : ByteArray) : (bpeOut v s).length ≤ 64 := by
  unfold bpeOut
  split
  · split
    · simp
    · have := bpeV_length v s; omega
  · simp
theorem bl_take_snoc (s : ByteArray) (i : Nat) (h : i < s.size) : (bl s).take i ++ [bt s (i : Int)] = (bl s).take (i + 1) := by
  rw [bt_nat s i h, List.take_succ_eq_append_getElem (by rw [bl_length]; exact h)]

theorem tokLoop_len : ∀ (l : List (Int × Int)) (out : List ByteArray), (tokLoop l out).2 = true → (tokLoop l out).1.length = out.length + l.length
  | [], out, _ => by simp [tokLoop]
  | p :: l, out, h => by
    rw [tokLoop] at h ⊢
    split at h
    · rename_i c
      rw [if_pos c]
      split at h
      · cases h
      · rename_i c2
        rw [if_neg c2, tokLoop_len l _ h]
        simp
        omega
    · cases h
theorem tokLoop_short : ∀ (l : List (Int × Int)) (out : List ByteArray), Short out → Short (tokLoop l out).1
  | [], out, h => h
  | p :: l, out, h => by
    rw [tokLoop]
    split
    · split
      · exact h
      · rename_i c2
        exact tokLoop_short l _ (short_snoc h (by have : ¬ 24 < (tokB out p.1 ++ tokB out p.2).size := fun k => c2 (.inl k); omega))
    · exact h
theorem tokV_60 {l : List (Int × Int)} (h : vocabOk l = true) : l.length ≤ 60 := by
  unfold vocabOk tokV at h
  split at h
  · cases h
  · omega
theorem tokV_len {l : List (Int × Int)} (h : vocabOk l = true) : (tokV l).1.length = l.length := by
  have h60 := tokV_60 h
  unfold vocabOk tokV at h
  rw [if_neg (by omega)] at h
  unfold tokV
  rw [if_neg (by omega), tokLoop_len l [] h]
  simp
theorem tokV_short (l : List (Int × Int)) : Short (tokV l).1 := by
  unfold tokV
  split
  · exact short_nil
  · exact tokLoop_short l [] short_nil
/-- What Token(v, id) is. -/
def tokenV (l : List (Int × Int)) (id : Int) : ByteArray := if vocabOk l = true ∧ 0 ≤ id ∧ id ≤ 255 + (l.length : Int) then tokB (tokV l).1 id else strOfNums []

/-! ### tokens of a vocabulary -/
abbrev tokIn (n : Nat) (t : Int) : Prop := 0 ≤ t ∧ t ≤ 255 + (n : Int)
def toksIn (n : Nat) (ts : List Int) : Bool := ts.all fun t => decide (tokIn n t)
def areToksV (l : List (Int × Int)) (ts : List Int) : Bool := toksIn l.length ts && (vocabOk l && decide (ts.length ≤ 1000))
theorem toksIn_cons (n : Nat) (t : Int) (ts : List Int) : toksIn n (t :: ts) = (decide (tokIn n t) && toksIn n ts) := by simp [toksIn]
theorem toksIn_mem {n : Nat} {ts : List Int} (h : toksIn n ts = true) : ∀ t ∈ ts, tokIn n t := by
  intro t ht
  have := List.all_eq_true.1 h t ht
  simpa using this
def decFold (T : List ByteArray) (acc : ByteArray) (ts : List Int) : ByteArray := ts.foldl (fun a t => a ++ tokB T t) acc
def decodeV (l : List (Int × Int)) (ts : List Int) : ByteArray × Bool := if areToksV l ts = true then (decFold (tokV l).1 (strOfNums []) ts, true) else (strOfNums [], false)
theorem tokenV_in {l : List (Int × Int)} (h : vocabOk l = true) {t : Int} (ht : tokIn l.length t) : tokenV l t = tokB (tokV l).1 t := by
  unfold tokenV; rw [if_pos ⟨h, ht⟩]

def endsFrom (T : List ByteArray) : Int → List Int → List Int
  | _, [] => []
  | n, t :: ts => (n + ((tokB T t).size : Int)) :: endsFrom T (n + ((tokB T t).size : Int)) ts
theorem endsFrom_length (T : List ByteArray) : ∀ (ts : List Int) (n : Int), (endsFrom T n ts).length = ts.length
  | [], _ => rfl
  | t :: ts, n => by simp [endsFrom, endsFrom_length T ts]
def endsV (l : List (Int × Int)) (ts : List Int) : List Int × Bool := if areToksV l ts = true then (endsFrom (tokV l).1 0 ts, true) else ([], false)
theorem endsV_length (l : List (Int × Int)) (ts : List Int) : (endsV l ts).1.length ≤ ts.length := by
  unfold endsV
  split
  · simp only [endsFrom_length]; omega
  · simp

theorem rdOf_get (l : List ByteArray) (i : Nat) (h : i < l.length) : rdOf ByteArray.empty l (i : Int) = l[i] := by
  unfold rdOf
  rw [Int.toNat_natCast, List.getD_eq_getElem?_getD, List.getElem?_eq_getElem h]; rfl

/-! ### MDecode: merging keeps the bytes -/
def bytesL (T : List ByteArray) (ts : List Int) : List Int := ts.flatMap fun t => bl (tokB T t)
theorem decFold_bl (T : List ByteArray) : ∀ (ts : List Int) (acc : ByteArray), bl (decFold T acc ts) = bl acc ++ bytesL T ts
  | [], acc => by simp [decFold, bytesL]
  | t :: ts, acc => by
    have := decFold_bl T ts (acc ++ tokB T t)
    unfold decFold bytesL at *
    rw [List.foldl_cons, this, bl_append, List.flatMap_cons, List.append_assoc]
theorem bytesL_append (T : List ByteArray) (a b : List Int) : bytesL T (a ++ b) = bytesL T a ++ bytesL T b := by simp [bytesL]
theorem rdOf_app (out rest : List ByteArray) (i : Int) (h0 : 0 ≤ i) (h1 : i < out.length) : rdOf ByteArray.empty (out ++ rest) i = rdOf ByteArray.empty out i := by
  obtain ⟨n, rfl⟩ := Int.eq_ofNat_of_zero_le h0
  rw [rdOf_get _ n (by rw [List.length_append]; omega), rdOf_get _ n (by omega), List.getElem_append_left (by omega)]
theorem tokB_app (out rest : List ByteArray) (t : Int) (h1 : t ≤ 255 + (out.length : Int)) : tokB (out ++ rest) t = tokB out t := by
  unfold tokB
  by_cases c : t < 256
  · rw [if_pos c, if_pos c]
  · rw [if_neg c, if_neg c, rdOf_app _ _ _ (by omega) (by omega)]
theorem tokLoop_spec : ∀ (l : List (Int × Int)) (out : List ByteArray), (tokLoop l out).2 = true → ∃ rest, (tokLoop l out).1 = out ++ rest ∧ rest.length = l.length ∧
    ∀ (r : Nat) (h : r < l.length), pairOk (out.length + r) l[r] ∧ tokB (out ++ rest) (256 + ((out.length + r : Nat) : Int)) = tokB (out ++ rest) l[r].1 ++ tokB (out ++ rest) l[r].2
  | [], out, _ => ⟨[], by simp [tokLoop], rfl, fun r h => by simp at h⟩
  | p :: l, out, h => by
    rw [tokLoop] at h ⊢
    split at h
    · rename_i c
      rw [if_pos c]
      split at h
      · cases h
      · rename_i c2
        rw [if_neg c2]
        obtain ⟨rest, e, hl, hr⟩ := tokLoop_spec l _ h
        refine ⟨(tokB out p.1 ++ tokB out p.2) :: rest, by rw [e]; simp, by simp [hl], fun r hlt => ?_⟩
        have e2 : out ++ (tokB out p.1 ++ tokB out p.2) :: rest = (out ++ [tokB out p.1 ++ tokB out p.2]) ++ rest := by simp
        cases r with
        | zero =>
          simp only [List.getElem_cons_zero, Nat.add_zero]
          refine ⟨c, ?_⟩
          rw [tokB_app out _ p.1 c.1.2, tokB_app out _ p.2 c.2.2]
          unfold tokB
          rw [if_neg (by omega), show (256 + (out.length : Int) - 256) = ((out.length : Nat) : Int) by omega, rdOf_get _ out.length (by simp)]
          simp
        | succ r =>
          have hr2 := hr r (by simpa using hlt)
          rw [List.length_append, List.length_singleton] at hr2
          simp only [List.getElem_cons_succ]
          rw [e2, show out.length + (r + 1) = out.length + 1 + r by omega]
          exact hr2
    · cases h
theorem tokV_spec {l : List (Int × Int)} (hv : vocabOk l = true) (r : Nat) (h : r < l.length) : pairOk r l[r] ∧ tokB (tokV l).1 (256 + (r : Int)) = tokB (tokV l).1 l[r].1 ++ tokB (tokV l).1 l[r].2 := by
  have h60 := tokV_60 hv
  unfold vocabOk tokV at hv
  rw [if_neg (by omega)] at hv
  obtain ⟨rest, e, hl, hr⟩ := tokLoop_spec l [] hv
  unfold tokV
  rw [if_neg (by omega), e]
  have := hr r h
  simpa using this
theorem least_split {v : List (Int × Int)} {ts : List Int} (h : ¬ (leastV v ts).1 < 0) : ∃ xs a b ys, ∃ r : Nat, ∃ hr : r < v.length, ts = xs ++ a :: b :: ys ∧ leastV v ts = ((xs.length : Int), (r : Int)) ∧ v[r] = (a, b) ∧ mergedV ts (leastV v ts).1 (leastV v ts).2 = xs ++ (256 + (r : Int)) :: ys := by
  rcases leastV_spec v ts with ⟨e, _⟩ | ⟨i, hi, e, h0, _⟩
  · rw [e] at h; simp at h
  · have hi2 : i + 1 < ts.length := by rw [adj_length] at hi; omega
    rw [adj_get ts i hi2] at e h0
    rcases rankV_spec v (ts[i], ts[i + 1]) with ⟨k, _⟩ | ⟨r, hr, k, k2, _⟩
    · omega
    · rw [k] at e
      have es : ts = ts.take i ++ ts[i] :: ts[i + 1] :: ts.drop (i + 2) := by
        conv => lhs; rw [← List.take_append_drop i ts, List.drop_eq_getElem_cons (show i < ts.length by omega), List.drop_eq_getElem_cons (show i + 1 < ts.length by omega)]
      refine ⟨ts.take i, ts[i], ts[i + 1], ts.drop (i + 2), r, hr, es, ?_, k2, ?_⟩
      · rw [e, List.length_take, Nat.min_eq_left (by omega)]
      · rw [e]
        unfold mergedV
        simp only [Int.toNat_natCast, List.append_assoc, List.cons_append, List.nil_append]
theorem toksIn_append (n : Nat) (a b : List Int) : toksIn n (a ++ b) = (toksIn n a && toksIn n b) := by simp [toksIn]
theorem merged_keeps {v : List (Int × Int)} (hv : vocabOk v = true) {ts : List Int} (h : ¬ (leastV v ts).1 < 0) :
    bytesL (tokV v).1 (mergedV ts (leastV v ts).1 (leastV v ts).2) = bytesL (tokV v).1 ts ∧ (toksIn v.length ts = true → toksIn v.length (mergedV ts (leastV v ts).1 (leastV v ts).2) = true) ∧ (mergedV ts (leastV v ts).1 (leastV v ts).2).length + 1 = ts.length := by
  obtain ⟨xs, a, b, ys, r, hr, es, _, ev, em⟩ := least_split h
  obtain ⟨_, hT⟩ := tokV_spec hv r hr
  rw [ev] at hT
  simp only at hT
  rw [em, es]
  refine ⟨?_, ?_, by simp only [List.length_append, List.length_cons]; omega⟩
  · have e1 : xs ++ (256 + (r : Int)) :: ys = xs ++ ([256 + (r : Int)] ++ ys) := rfl
    have e2 : xs ++ a :: b :: ys = xs ++ ([a, b] ++ ys) := rfl
    have e3 : bytesL (tokV v).1 [256 + (r : Int)] = bytesL (tokV v).1 [a, b] := by
      simp only [bytesL, List.flatMap_cons, List.flatMap_nil, List.append_nil]
      rw [hT, bl_append]
    rw [e1, e2, bytesL_append, bytesL_append, bytesL_append, bytesL_append, e3]
  · rw [toksIn_append, toksIn_cons, toksIn_cons, toksIn_append, toksIn_cons]
    simp only [Bool.and_eq_true, decide_eq_true_eq]
    rintro ⟨h1, _, _, h2⟩
    exact ⟨h1, ⟨by omega, by omega⟩, h2⟩
theorem bpeFrom_keeps {v : List (Int × Int)} (hv : vocabOk v = true) : ∀ (f : Nat) (ts : List Int), bytesL (tokV v).1 (bpeFrom v f ts) = bytesL (tokV v).1 ts ∧ (toksIn v.length ts = true → toksIn v.length (bpeFrom v f ts) = true) ∧ (ts.length ≤ f → (leastV v (bpeFrom v f ts)).1 < 0)
  | 0, ts => ⟨rfl, id, fun h => by have : ts = [] := List.eq_nil_of_length_eq_zero (by omega); subst this; rw [bpeFrom, least_nil]; simp⟩
  | f + 1, ts => by
    rw [bpeFrom]
    split
    · rename_i c
      exact ⟨rfl, id, fun _ => c⟩
    · rename_i c
      have h := merged_keeps hv c
      have k := bpeFrom_keeps hv f (mergedV ts (leastV v ts).1 (leastV v ts).2)
      exact ⟨k.1.trans h.1, fun e => k.2.1 (h.2.1 e), fun e => k.2.2 (by omega)⟩
theorem bytesL_bytes (T : List ByteArray) : ∀ (l : List Int), IsB l → bytesL T l = l
  | [], _ => rfl
  | b :: l, h => by
    have hb := h b (by simp)
    have := bytesL_bytes T l (fun x hx => h x (by simp [hx]))
    unfold bytesL at *
    rw [List.flatMap_cons, this]
    unfold tokB
    rw [if_pos (by omega), bl_strOf (isB_cons (by omega) isB_nil), show b % 256 = b by omega]
    rfl
theorem toksIn_bytes (n : Nat) : ∀ (l : List Int), IsB l → toksIn n l = true
  | [], _ => rfl
  | b :: l, h => by
    have hb := h b (by simp)
    rw [toksIn_cons, toksIn_bytes n l (fun x hx => h x (by simp [hx])), decide_eq_true (show tokIn n b from ⟨by omega, by omega⟩)]
    rfl
theorem bpeV_keeps {v : List (Int × Int)} (hv : vocabOk v = true) (s : ByteArray) : bytesL (tokV v).1 (bpeV v s) = bl s ∧ toksIn v.length (bpeV v s) = true ∧ (leastV v (bpeV v s)).1 < 0 := by
  have h := bpeFrom_keeps hv s.size (bl s)
  unfold bpeV
  exact ⟨h.1.trans (bytesL_bytes _ _ (bl_isB s)), h.2.1 (toksIn_bytes _ _ (bl_isB s)), h.2.2 (by rw [bl_length]; omega)⟩
theorem decFold_eq {T : List ByteArray} {ts : List Int} {s : ByteArray} (h : bytesL T ts = bl s) : decFold T (strOfNums []) ts = s := by
  apply bl_inj
  rw [decFold_bl, h, bl_strOf isB_nil]; rfl
theorem tokB_pos_loop : ∀ (l : List (Int × Int)) (out : List ByteArray), (∀ s ∈ out, 1 ≤ s.size) → ∀ s ∈ (tokLoop l out).1, 1 ≤ s.size
  | [], out, h => h
  | p :: l, out, h => by
    rw [tokLoop]
    split
    · rename_i c
      split
      · exact h
      · refine tokB_pos_loop l _ (fun s hs => ?_)
        rcases List.mem_append.1 hs with hs | hs
        · exact h s hs
        · rw [List.mem_singleton.1 hs, bsize_append]
          have : 1 ≤ (tokB out p.1).size := by
            unfold tokB
            split
            · rw [strOf_size]; simp
            · exact h _ (rdOf_mem (by omega) (by omega))
          omega
    · exact h
theorem tokB_pos {v : List (Int × Int)} (hv : vocabOk v = true) {t : Int} (ht : tokIn v.length t) : 1 ≤ (tokB (tokV v).1 t).size ∧ (tokB (tokV v).1 t).size ≤ 24 := by
  have hl := tokV_len hv
  refine ⟨?_, tokB_size (tokV_short v) ht.1 (by rw [hl]; exact ht.2)⟩
  unfold tokB
  split
  · rw [strOf_size]; simp
  · have h := rdOf_mem (out := (tokV v).1) (i := t - 256) (by omega) (by rw [hl]; omega)
    have h60 := tokV_60 hv
    have : ∀ s ∈ (tokV v).1, 1 ≤ s.size := by
      unfold tokV
      rw [if_neg (by omega)]
      exact tokB_pos_loop v [] (fun _ h => by cases h)
    exact this _ h

/-! ### one merge more -/
theorem tokLoop_take : ∀ (l : List (Int × Int)) (out : List ByteArray) (m : Nat), (tokLoop l out).2 = true → (tokLoop (l.take m) out).2 = true
  | [], out, m, h => by simpa using h
  | p :: l, out, 0, h => by simp [tokLoop]
  | p :: l, out, m + 1, h => by
    rw [List.take_succ_cons]
    rw [tokLoop] at h ⊢
    split at h
    · rename_i c
      rw [if_pos c]
      split at h
      · cases h
      · rename_i c2
        rw [if_neg c2]
        exact tokLoop_take l _ m h
    · cases h
theorem vocabOk_take {l : List (Int × Int)} (h : vocabOk l = true) (m : Nat) : vocabOk (l.take m) = true := by
  have h60 := tokV_60 h
  unfold vocabOk tokV at h ⊢
  rw [if_neg (by omega)] at h
  rw [if_neg (by rw [List.length_take]; omega)]
  exact tokLoop_take l [] m h
/-- the rank in the shorter list -/
theorem rankV_take (v : List (Int × Int)) (n : Nat) (q : Int × Int) : rankV (v.take n) q = if rankV v q < n then rankV v q else -1 := by
  rcases rankV_spec v q with ⟨h, hm⟩ | ⟨r, hr, h, hq, hmin⟩
  · rcases rankV_spec (v.take n) q with ⟨k, _⟩ | ⟨r2, hr2, k, kq, _⟩
    · rw [h, k]; split <;> rfl
    · exact absurd (by rw [← kq]; exact List.mem_of_mem_take (List.getElem_mem hr2)) hm
  · rw [h]
    rcases rankV_spec (v.take n) q with ⟨k, km⟩ | ⟨r2, hr2, k, kq, kmin⟩
    · rw [k]
      rw [if_neg]
      intro hlt
      apply km
      rw [← hq]
      rw [List.mem_take_iff_getElem]
      exact ⟨r, by omega, rfl⟩
    · rw [k]
      rw [List.length_take] at hr2
      rw [List.getElem_take] at kq
      have e : r = r2 := by
        rcases Nat.lt_trichotomy r r2 with x | x | x
        · exact absurd (by rw [List.getElem_take]; exact hq) (kmin r x)
        · exact x
        · exact absurd kq (hmin r2 x)
      subst e
      rw [if_pos (by omega)]
/-- if the shorter list merges something, both merge the same -/
theorem least_take {v : List (Int × Int)} {n : Nat} {ts : List Int} (h : ¬ (leastV (v.take n) ts).1 < 0) : leastV v ts = leastV (v.take n) ts := by
  have a := leastV_spec (v.take n) ts
  have b := leastV_spec v ts
  rcases a with ⟨e, _⟩ | ⟨i, hi, e, h0, h1, h2⟩
  · rw [e] at h; simp at h
  · refine isLeast_unique b ?_
    rw [e]
    have hr := rankV_take v n ((adj ts)[i])
    have hlt : rankV v ((adj ts)[i]) < n := by
      by_cases c : rankV v ((adj ts)[i]) < n
      · exact c
      · rw [if_neg c] at hr; omega
    rw [if_pos hlt] at hr
    rw [hr] at h0 h1 h2 ⊢
    refine .inr ⟨i, hi, rfl, h0, fun q hq => ?_, fun j hj => ?_⟩
    · have hq2 := rankV_take v n q
      have := h1 q hq
      have hrg := rankV_range v q
      by_cases c : rankV v q < n
      · rw [if_pos c] at hq2; omega
      · right; omega
    · have hj2 := rankV_take v n ((adj ts)[j]'(by omega))
      have := h2 j hj
      by_cases c : rankV v ((adj ts)[j]'(by omega)) < n
      · rw [if_pos c] at hj2; omega
      · omega
/-- stable under the shorter list: what the longer one merges is its last -/
theorem least_last {v : List (Int × Int)} {n : Nat} (hn : v.length = n + 1) {ts : List Int} (h : (leastV (v.take n) ts).1 < 0) (k : ¬ (leastV v ts).1 < 0) : (leastV v ts).2 = n := by
  have a := leastV_spec (v.take n) ts
  have b := leastV_spec v ts
  rcases a with ⟨_, ha⟩ | ⟨i, hi, e, _⟩
  · rcases b with ⟨e, _⟩ | ⟨i, hi, e, h0, _⟩
    · rw [e] at k; simp at k
    · rw [e]
      simp only
      have hr := rankV_take v n ((adj ts)[i])
      have := ha _ (List.getElem_mem hi)
      have hrg := rankV_range v ((adj ts)[i])
      by_cases c : rankV v ((adj ts)[i]) < n
      · rw [if_pos c] at hr; omega
      · omega
  · rw [e] at h; simp only at h; omega
theorem adj_mem_cases : ∀ (xs ys : List Int) (c : Int) (q : Int × Int), q ∈ adj (xs ++ c :: ys) → q.1 = c ∨ q.2 = c ∨ q ∈ adj xs ∨ q ∈ adj ys
  | [], [], c, q, h => by simp [adj] at h
  | [], y :: ys, c, q, h => by
    simp only [List.nil_append, adj, List.mem_cons] at h
    rcases h with h | h
    · left; rw [h]
    · right; right; right; exact h
  | [x], ys, c, q, h => by
    have e : [x] ++ c :: ys = x :: c :: ys := rfl
    rw [e] at h
    simp only [adj, List.mem_cons] at h
    rcases h with h | h
    · right; left; rw [h]
    · exact (adj_mem_cases [] ys c q h).elim .inl (fun h => h.elim (fun h => .inr (.inl h)) (fun h => h.elim (fun h => by simp [adj] at h) (fun h => .inr (.inr (.inr h)))))
  | x :: x2 :: xs, ys, c, q, h => by
    have e : (x :: x2 :: xs) ++ c :: ys = x :: x2 :: (xs ++ c :: ys) := rfl
    rw [e] at h
    simp only [adj, List.mem_cons] at h
    rcases h with h | h
    · right; right; left; rw [h]; simp [adj]
    · have := adj_mem_cases (x2 :: xs) ys c q h
      rcases this with h | h | h | h
      · exact .inl h
      · exact .inr (.inl h)
      · right; right; left; simp only [adj, List.mem_cons]; exact .inr h
      · exact .inr (.inr (.inr h))
theorem adj_left : ∀ (xs zs : List Int) (q : Int × Int), q ∈ adj xs → q ∈ adj (xs ++ zs)
  | [], zs, q, h => by simp [adj] at h
  | [x], zs, q, h => by simp [adj] at h
  | x :: y :: xs, zs, q, h => by
    simp only [adj, List.mem_cons] at h
    have e : (x :: y :: xs) ++ zs = x :: y :: (xs ++ zs) := rfl
    rw [e]
    simp only [adj, List.mem_cons]
    rcases h with h | h
    · exact .inl h
    · exact .inr (adj_left (y :: xs) zs q h)
theorem adj_right : ∀ (xs zs : List Int) (q : Int × Int), q ∈ adj zs → q ∈ adj (xs ++ zs)
  | [], zs, q, h => h
  | [x], zs, q, h => by
    cases zs with
    | nil => simp [adj] at h
    | cons z zs =>
      have e : [x] ++ z :: zs = x :: z :: zs := rfl
      rw [e]; simp only [adj, List.mem_cons]; exact .inr h
  | x :: y :: xs, zs, q, h => by
    have e : (x :: y :: xs) ++ zs = x :: y :: (xs ++ zs) := rfl
    rw [e]
    simp only [adj, List.mem_cons]
    exact .inr (adj_right (y :: xs) zs q h)
theorem stable_iff (v : List (Int × Int)) (ts : List Int) : (leastV v ts).1 < 0 ↔ ∀ q ∈ adj ts, q ∉ v := by
  rcases leastV_spec v ts with ⟨e, h⟩ | ⟨i, hi, e, h0, _⟩
  · refine ⟨fun _ q hq hm => ?_, fun _ => by rw [e]; simp⟩
    have := h q hq
    rcases rankV_spec v q with ⟨_, k⟩ | ⟨r, _, k, _⟩
    · exact k hm
    · omega
  · refine ⟨fun h => by rw [e] at h; simp only at h; omega, fun h => ?_⟩
    rcases rankV_spec v ((adj ts)[i]) with ⟨k, _⟩ | ⟨r, hr, _, k, _⟩
    · omega
    · exact absurd (by rw [← k]; exact List.getElem_mem hr) (h _ (List.getElem_mem hi))
/-- merging the last merge leaves what is stable under the others stable -/
theorem merge_stable {v : List (Int × Int)} (hv : vocabOk v = true) {n : Nat} (hn : v.length = n + 1) {ts : List Int} (h : (leastV (v.take n) ts).1 < 0) (k : ¬ (leastV v ts).1 < 0) :
    (leastV (v.take n) (mergedV ts (leastV v ts).1 (leastV v ts).2)).1 < 0 := by
  have hl := least_last hn h k
  obtain ⟨xs, a, b, ys, r, hr, es, el, ev, em⟩ := least_split k
  rw [em]
  rw [el] at hl
  simp only at hl
  have er : r = n := by omega
  subst er
  rw [stable_iff] at h ⊢
  intro q hq hm
  have hp : q.1 ≤ 255 + (r : Int) ∧ q.2 ≤ 255 + (r : Int) := by
    obtain ⟨i, hi, e⟩ := List.mem_iff_getElem.1 hm
    rw [List.length_take] at hi
    rw [List.getElem_take] at e
    have := (tokV_spec hv i (by omega)).1
    rw [e] at this
    unfold pairOk at this
    omega
  rcases adj_mem_cases xs ys _ q hq with e | e | e | e
  · omega
  · omega
  · exact h q (by rw [es]; exact adj_left xs _ q e) hm
  · exact h q (by rw [es]; exact adj_right xs _ q (adj_right [a] _ q (adj_right [b] _ q e))) hm
theorem bpeFrom_stop {v : List (Int × Int)} {ts : List Int} (h : (leastV v ts).1 < 0) : ∀ f, bpeFrom v f ts = ts
  | 0 => rfl
  | f + 1 => by rw [bpeFrom, if_pos h]
/-- more rounds than tokens change nothing -/
theorem bpeFrom_fuel (v : List (Int × Int)) : ∀ (f g : Nat) (ts : List Int), ts.length ≤ f → ts.length ≤ g → bpeFrom v f ts = bpeFrom v g ts
  | 0, g, ts, h, _ => by
    have : ts = [] := List.eq_nil_of_length_eq_zero (by omega)
    subst this
    rw [bpeFrom_stop (by rw [least_nil]; simp), bpeFrom_stop (by rw [least_nil]; simp)]
  | f + 1, 0, ts, _, h => by
    have : ts = [] := List.eq_nil_of_length_eq_zero (by omega)
    subst this
    rw [bpeFrom_stop (by rw [least_nil]; simp), bpeFrom_stop (by rw [least_nil]; simp)]
  | f + 1, g + 1, ts, h, h2 => by
    rw [bpeFrom, bpeFrom]
    split
    · rfl
    · rename_i c
      have hi := least_in c
      have hm := mergedV_length (r := (leastV v ts).2) hi.1 hi.2.1
      exact bpeFrom_fuel v f g _ (by omega) (by omega)
/-- first by the shorter list, then by the longer one -/
theorem bpeFrom_two (v : List (Int × Int)) (n : Nat) : ∀ (f : Nat) (ts : List Int), ts.length ≤ f → bpeFrom v f ts = bpeFrom v f (bpeFrom (v.take n) f ts)
  | 0, ts, h => rfl
  | f + 1, ts, h => by
    by_cases c : (leastV (v.take n) ts).1 < 0
    · rw [bpeFrom_stop c]
    · have e := least_take c
      have hi := least_in c
      have hm := mergedV_length (r := (leastV (v.take n) ts).2) hi.1 hi.2.1
      have l1 := bpeFrom_length (v.take n) f (mergedV ts (leastV (v.take n) ts).1 (leastV (v.take n) ts).2)
      have ih := bpeFrom_two v n f (mergedV ts (leastV (v.take n) ts).1 (leastV (v.take n) ts).2) (by omega)
      have e1 : bpeFrom (v.take n) (f + 1) ts = bpeFrom (v.take n) f (mergedV ts (leastV (v.take n) ts).1 (leastV (v.take n) ts).2) := by rw [bpeFrom, if_neg c]
      have e2 : bpeFrom v (f + 1) ts = bpeFrom v f (mergedV ts (leastV (v.take n) ts).1 (leastV (v.take n) ts).2) := by rw [bpeFrom, e, if_neg c]
      rw [e1, e2, ih]
      exact bpeFrom_fuel v _ _ _ (by omega) (by omega)

theorem rd_get (l : List Int) (i : Nat) (h : i < l.length) : rd l (i : Int) = l[i] := by
  unfold rd
  rw [Int.toNat_natCast, List.getD_eq_getElem?_getD, List.getElem?_eq_getElem h]; rfl
theorem rd_drop (l : List Int) (i : Nat) (h : i < l.length) : l.drop i = rd l (i : Int) :: l.drop (i + 1) := by
  rw [rd_get l i h]; exact List.drop_eq_getElem_cons h

theorem adj_drop (ts : List Int) (i : Nat) (h : i + 1 < ts.length) : (adj ts).drop i = (rd ts (i : Int), rd ts ((i : Int) + 1)) :: (adj ts).drop (i + 1) := by
  have hl : i < (adj ts).length := by rw [adj_length]; omega
  have e1 : (i : Int) + 1 = ((i + 1 : Nat) : Int) := by omega
  rw [List.drop_eq_getElem_cons hl, adj_get ts i h, rd_get ts i (by omega), e1, rd_get ts (i + 1) h]
theorem adj_end (ts : List Int) (i : Nat) (h : ¬ i + 1 < ts.length) : (adj ts).drop i = [] := List.drop_eq_nil_of_le (by rw [adj_length]; omega)

abbrev PI := S113
def prs (l : List PI) : List (Int × Int) := l.map fun p => (p.f0, p.f1)
theorem rdI_drop (l : List PI) (i : Nat) (h : i < l.length) : l.drop i = rd_T113 l (i : Int) :: l.drop (i + 1) := by
  unfold rd_T113
  rw [Int.toNat_natCast, List.getD_eq_getElem?_getD, List.getElem?_eq_getElem h]
  exact List.drop_eq_getElem_cons h
theorem prs_length (l : List PI) : (prs l).length = l.length := by simp [prs]

theorem impl_Pair_l0 (l : List PI) (a b : Int) (hl : l.length ≤ 1048576) (d : Nat) : ∀ (i : Nat), i + d = l.length → Ev (fun k => impl_Pair.l0 k l (l.length : Int) (i : Int) a b) (rankFrom (prs (l.drop i)) a b i) := by
  induction d with
  | zero =>
    intro i hi
    refine Ev.step (fun k => by rw [impl_Pair.l0]) ?_
    rw [List.drop_eq_nil_of_le (by omega)]
    exact Ev.neg (by omega) (Ev.now _)
  | succ d ih =>
    intro i hi
    refine Ev.step (fun k => by rw [impl_Pair.l0]) ?_
    have R := ih (i + 1) (by omega)
    have e1 : ((i + 1 : Nat) : Int) = (i : Int) + 1 := by omega
    rw [e1] at R
    rw [rdI_drop l i (by omega), w64 (by omega) (by omega)]
    generalize rd_T113 l (i : Int) = p
    simp only [prs, List.map_cons, rankFrom]
    refine Ev.pos (by omega) (Ev.pos (by omega) (Ev.pos (by omega) ?_))
    refine Ev.ite ?_ (fun _ => Ev.now _) (fun _ => R)
    rw [Bool.and_eq_true, beq_iff_eq, beq_iff_eq]
    exact ⟨fun h => ⟨h.1.symm, h.2.symm⟩, fun h => ⟨h.1.symm, h.2.symm⟩⟩
theorem impl_rank_ev (l : List PI) (a b : Int) (hl : l.length ≤ 1048576) : Ev (fun k => impl_Vocab_rank.f k l a b) (rankV (prs l) (a, b)) := by
  unfold impl_Vocab_rank.f impl_Pair.f rankV
  exact Ev.bind (impl_Pair_l0 l a b hl l.length 0 (by omega)) (Ev.now _)

theorem impl_least_l0 (l : List PI) (ts : List Int) (ht : ts.length ≤ 1048576) (hl : l.length ≤ 1048576) (d : Nat) : ∀ (i : Nat) (pos best : Int), i + d = ts.length →
    Ev (fun k => impl_least.l0 k ts pos best ((i : Int) + 1) l) (leastFrom (prs l) ((adj ts).drop i) (i : Int) pos best) := by
  induction d with
  | zero =>
    intro i pos best hi
    refine Ev.step (fun k => by rw [impl_least.l0]) ?_
    rw [adj_end ts i (by omega)]
    exact Ev.neg (by omega) (Ev.now _)
  | succ d ih =>
    intro i pos best hi
    refine Ev.step (fun k => by rw [impl_least.l0]) ?_
    by_cases c : i + 1 < ts.length
    · rw [adj_drop ts i c, w64 (x := (i : Int) + 1 - 1) (by omega) (by omega), w64 (x := (i : Int) + 1 + 1) (by omega) (by omega), show (i : Int) + 1 - 1 = (i : Int) by omega, leastFrom]
      refine Ev.pos (by omega) (Ev.pos (by omega) (Ev.pos (by omega) (Ev.pos (by omega) (Ev.bind (impl_rank_ev l _ _ hl) ?_))))
      have R := fun pos best => ih (i + 1) pos best (by omega)
      have e1 : ((i + 1 : Nat) : Int) = (i : Int) + 1 := by omega
      rw [e1] at R
      generalize rankV (prs l) (rd ts (i : Int), rd ts ((i : Int) + 1)) = q
      by_cases c1 : q ≥ 0
      · refine Ev.pos c1 ?_
        by_cases c2 : best < 0
        · rw [if_pos (show 0 ≤ q ∧ (best < 0 ∨ q < best) from ⟨c1, .inl c2⟩)]
          exact Ev.pos c2 (R _ _)
        · refine Ev.neg c2 ?_
          by_cases c3 : q < best
          · rw [if_pos (show 0 ≤ q ∧ (best < 0 ∨ q < best) from ⟨c1, .inr c3⟩)]
            exact Ev.pos c3 (R _ _)
          · rw [if_neg (show ¬ (0 ≤ q ∧ (best < 0 ∨ q < best)) by omega)]
            exact Ev.neg c3 (R _ _)
      · rw [if_neg (show ¬ (0 ≤ q ∧ (best < 0 ∨ q < best)) by omega)]
        exact Ev.neg c1 (R _ _)
    · rw [adj_end ts i c]
      exact Ev.neg (by omega) (Ev.now _)
theorem impl_least_ev (l : List PI) (ts : List Int) (hl : l.length ≤ 1048576) (ht : ts.length ≤ 1048576) : Ev (fun k => impl_least.f k l ts) (leastV (prs l) ts) := by
  unfold impl_least.f leastV
  exact impl_least_l0 l ts ht hl ts.length 0 (-1) (-1) (by omega)

theorem impl_within_eq (a b c : Int) : impl_within.f a b c = some (decide (b ≤ a ∧ a ≤ c)) := by
  unfold impl_within.f
  by_cases h : a ≥ b
  · rw [if_pos h]; simp [show b ≤ a from h]
  · rw [if_neg h]; simp [show ¬ b ≤ a from h]

theorem slices_Index_string_l0 (l : List ByteArray) (x : ByteArray) (hl : l.length ≤ 9223372036854775806) (d : Nat) : ∀ (j : Nat), j + d = l.length →
    ∃ r : Int, Ev (fun k => slices_Index_string_string.l0 k l x (l.length : Int) (j : Int)) r ∧ (0 ≤ r ↔ x ∈ l.drop j) := by
  induction d with
  | zero =>
    intro j hj
    refine ⟨-1, ?_, ?_⟩
    · refine Ev.step (fun k => by rw [slices_Index_string_string.l0]) ?_
      exact Ev.neg (by omega) (Ev.now _)
    · rw [List.drop_eq_nil_of_le (by omega)]; simp
  | succ d ih =>
    intro j hj
    obtain ⟨r, h1, h2⟩ := ih (j + 1) (by omega)
    have e1 : ((j + 1 : Nat) : Int) = (j : Int) + 1 := by omega
    rw [e1] at h1
    by_cases c : x.toList = (rdOf ByteArray.empty l (j : Int)).toList
    · refine ⟨j, ?_, ?_⟩
      · refine Ev.step (fun k => by rw [slices_Index_string_string.l0]) ?_
        exact Ev.pos (by omega) (Ev.pos (by omega) (Ev.pos (by omega) (Ev.pos c (Ev.now _))))
      · rw [rdOf_drop l j (by omega), ← (tl_iff _ _).1 c]; simp
    · refine ⟨r, ?_, ?_⟩
      · refine Ev.step (fun k => by rw [slices_Index_string_string.l0]) ?_
        refine Ev.pos (by omega) (Ev.pos (by omega) (Ev.pos (by omega) (Ev.neg c ?_)))
        rw [w64 (by omega) (by omega)]
        exact h1
      · rw [h2, rdOf_drop l j (by omega), List.mem_cons]
        exact ⟨.inr, fun h => h.elim (fun h => absurd (by rw [h]) c) id⟩
theorem slices_Contains_string_ev (l : List ByteArray) (x : ByteArray) (hl : l.length ≤ 9223372036854775806) : Ev (fun k => slices_Contains_string_string.f k l x) (decide (x ∈ l)) := by
  obtain ⟨r, h1, h2⟩ := slices_Index_string_l0 l x hl l.length 0 (by omega)
  unfold slices_Contains_string_string.f slices_Index_string_string.f
  refine Ev.bind h1 (Ev.val _ _ ?_)
  rw [List.drop_zero] at h2
  rw [Bool.eq_iff_iff, decide_eq_true_iff, decide_eq_true_iff]
  exact h2

theorem impl_bytesIn_eq {out : List ByteArray} {id : Int} (h0 : 0 ≤ id) (h1 : id ≤ 255 + (out.length : Int)) (hl : out.length ≤ 100000) : impl_bytesIn.f out id = some (tokB out id) := by
  unfold impl_bytesIn.f tokB
  by_cases c : id < 256
  · rw [if_pos c, if_pos c]
  · rw [if_neg c, if_neg c, w64 (by omega) (by omega), if_pos (by omega), if_pos (by omega)]
theorem impl_tokens_l0 (l : List PI) (hl : l.length ≤ 60) (d : Nat) : ∀ (out : List ByteArray), out.length + d = l.length → Short out →
    Ev (fun k => impl_tokens.l0 k out l (l.length : Int) (out.length : Int)) (tokLoop (prs (l.drop out.length)) out) := by
  induction d with
  | zero =>
    intro out ho hs
    refine Ev.step (fun k => by rw [impl_tokens.l0]) ?_
    rw [List.drop_eq_nil_of_le (by omega)]
    exact Ev.neg (by omega) (Ev.now _)
  | succ d ih =>
    intro out ho hs
    refine Ev.step (fun k => by rw [impl_tokens.l0]) ?_
    rw [rdI_drop l out.length (by omega)]
    generalize rd_T113 l (out.length : Int) = p
    rw [w64 (by omega) (by omega)]
    refine Ev.pos (by omega) (Ev.pos (by omega) (Ev.pos (by omega) ?_))
    simp only [prs, List.map_cons, tokLoop]
    have bad : ¬ pairOk out.length (p.f0, p.f1) → Ev (fun k => impl_tokens.j1 k out l (l.length : Int) (out.length : Int) true p.f0 p.f1) (out, false) := by
      intro h
      refine Ev.step (fun k => by rw [impl_tokens.j1]) ?_
      exact Ev.pos rfl (Ev.now _)
    by_cases c : pairOk out.length (p.f0, p.f1)
    · rw [if_pos c]
      have s0 : (tokB out p.f0).size ≤ 24 := tokB_size hs c.1.1 c.1.2
      have s1 : (tokB out p.f1).size ≤ 24 := tokB_size hs c.2.1 c.2.2
      refine Ev.bind0 (impl_within_eq _ _ _) (Ev.pos (decide_eq_true c.1) (Ev.bind0 (impl_within_eq _ _ _) ?_))
      rw [decide_eq_true c.2]
      refine Ev.step (fun k => by rw [impl_tokens.j1]) ?_
      refine Ev.neg (by simp) (Ev.bind0 (impl_bytesIn_eq c.1.1 c.1.2 (by omega)) (Ev.bind0 (impl_bytesIn_eq c.2.1 c.2.2 (by omega)) (Ev.pos (by omega) ?_)))
      generalize tokB out p.f0 ++ tokB out p.f1 = t
      by_cases c2 : (t.size : Int) > 24
      · rw [if_pos (.inl (by omega))]
        exact Ev.pos c2 (Ev.now _)
      · refine Ev.neg c2 (Ev.bind (slices_Contains_string_ev out t (by omega)) ?_)
        by_cases c3 : t ∈ out
        · rw [if_pos (.inr c3)]
          exact Ev.pos (decide_eq_true c3) (Ev.now _)
        · rw [if_neg (by rintro (h | h); omega; exact c3 h)]
          refine Ev.neg (by rw [decide_eq_false c3]; simp) (Ev.pos (by omega) ?_)
          have R := ih (out ++ [t]) (by simp; omega) (short_snoc hs (by omega))
          have e1 : ((out ++ [t]).length : Int) = (out.length : Int) + 1 := by simp
          have e2 : (out ++ [t]).length = out.length + 1 := by simp
          rw [e1, e2] at R
          rw [w64 (by omega) (by omega)]
          exact R
    · rw [if_neg c]
      refine Ev.bind0 (impl_within_eq _ _ _) ?_
      by_cases c1 : 0 ≤ p.f0 ∧ p.f0 ≤ 255 + (out.length : Int)
      · refine Ev.pos (decide_eq_true c1) (Ev.bind0 (impl_within_eq _ _ _) ?_)
        rw [decide_eq_false (fun h => c ⟨c1, h⟩)]
        exact bad c
      · exact Ev.neg (by rw [decide_eq_false c1]; simp) (bad c)
theorem impl_tokens_ev (l : List PI) : Ev (fun k => impl_tokens.f k l) (tokV (prs l)) := by
  unfold impl_tokens.f tokV
  refine Ev.bind0 rfl ?_
  rw [prs_length]
  by_cases c : 60 < l.length
  · rw [if_pos c]; exact Ev.pos (by omega) (Ev.now _)
  · rw [if_neg c]
    refine Ev.neg (by omega) ?_
    exact impl_tokens_l0 l (by omega) l.length [] (by simp) short_nil

theorem impl_VocabOk_ev (l : List PI) : Ev (fun k => impl_VocabOk.f k l) (vocabOk (prs l)) := by
  unfold impl_VocabOk.f
  exact Ev.bind (impl_tokens_ev l) (Ev.now _)

theorem impl_isToken_eq (l : List PI) (id : Int) (hl : l.length ≤ 1048576) : impl_Vocab_isToken.f l id = some (decide (0 ≤ id ∧ id ≤ 255 + (l.length : Int))) := by
  unfold impl_Vocab_isToken.f
  rw [w64 (by omega) (by omega), impl_within_eq]; rfl

theorem impl_areToks_l0 (l : List PI) (ts : List Int) (hl : l.length ≤ 1048576) (ht : ts.length ≤ 1048576) (d : Nat) : ∀ (i : Nat), i + d = ts.length →
    Ev (fun k => impl_areToks.l0 k ts ts (ts.length : Int) (i : Int) l) (toksIn l.length (ts.drop i) && (vocabOk (prs l) && decide (ts.length ≤ 1000))) := by
  induction d with
  | zero =>
    intro i hi
    refine Ev.step (fun k => by rw [impl_areToks.l0]) ?_
    rw [List.drop_eq_nil_of_le (by omega)]
    refine Ev.neg (by omega) (Ev.bind (impl_VocabOk_ev l) ?_)
    by_cases c : vocabOk (prs l) = true
    · refine Ev.pos c (Ev.val _ _ ?_)
      rw [c, Bool.true_and, show toksIn l.length [] = true from rfl, Bool.true_and, Bool.eq_iff_iff, decide_eq_true_iff, decide_eq_true_iff]
      omega
    · refine Ev.neg c (Ev.val _ _ ?_)
      rw [Bool.eq_false_iff.2 c]; simp
  | succ d ih =>
    intro i hi
    refine Ev.step (fun k => by rw [impl_areToks.l0]) ?_
    have R := ih (i + 1) (by omega)
    have e1 : ((i + 1 : Nat) : Int) = (i : Int) + 1 := by omega
    rw [e1] at R
    rw [rd_drop ts i (by omega), toksIn_cons, w64 (x := (i : Int) + 1) (by omega) (by omega)]
    generalize rd ts (i : Int) = t
    refine Ev.pos (by omega) (Ev.pos (by omega) (Ev.pos (by omega) (Ev.bind0 (impl_isToken_eq l t hl) ?_)))
    by_cases c : tokIn l.length t
    · rw [decide_eq_true c, Bool.true_and]; exact Ev.pos rfl R
    · rw [decide_eq_false c, Bool.false_and, Bool.false_and]; exact Ev.neg (by simp) (Ev.now _)
theorem impl_areToks_ev (l : List PI) (ts : List Int) (hl : l.length ≤ 1048576) (ht : ts.length ≤ 1048576) : Ev (fun k => impl_areToks.f k l ts) (areToksV (prs l) ts) := by
  unfold impl_areToks.f areToksV
  rw [prs_length]
  simpa using impl_areToks_l0 l ts hl ht ts.length 0 (by omega)

theorem impl_copyInts_eq (ts : List Int) (h : ts.length ≤ 4000000) : impl_copyInts.f ts = some ts := by
  unfold impl_copyInts.f
  rw [if_pos (by simp; omega)]; rfl
theorem impl_merged_eq (ts : List Int) (pos r : Int) (ht : ts.length ≤ 1048576) (h0 : 0 ≤ pos) (h1 : pos + 2 ≤ ts.length) (h2 : 0 ≤ r) (h3 : r ≤ 1048576) : impl_merged.f ts pos r = some (mergedV ts pos r) := by
  unfold impl_merged.f mergedV
  rw [w64 (x := pos + 2) (by omega) (by omega), w64 (x := 256 + r) (by omega) (by omega), impl_copyInts_eq _ (by rw [List.length_take]; omega)]
  simp only [Option.bind_some]
  rw [if_pos h0, if_pos (by omega), if_pos (by simp; omega), if_pos (by omega), if_pos (by omega), if_pos (by simp; omega)]
  have e : (pos + 2).toNat = pos.toNat + 2 := by omega
  rw [e]

def onceV (l : List (Int × Int)) (ts : List Int) : List Int × Bool :=
  if areToksV l ts = true then (if (leastV l ts).1 < 0 then (ts, false) else (mergedV ts (leastV l ts).1 (leastV l ts).2, true)) else ([], false)
theorem onceV_length (l : List (Int × Int)) (ts : List Int) : (onceV l ts).1.length ≤ ts.length := by
  unfold onceV
  split
  · split
    · exact Nat.le_refl _
    · rename_i c
      have h := least_in c
      have := mergedV_length (r := (leastV l ts).2) h.1 h.2.1
      simp only; omega
  · simp
theorem impl_MergeOnce_ev (l : List PI) (ts : List Int) (hl : l.length ≤ 1048576) (ht : ts.length ≤ 1048576) : Ev (fun k => impl_MergeOnce.f k l ts) (onceV (prs l) ts) := by
  unfold impl_MergeOnce.f onceV
  refine Ev.bind (impl_areToks_ev l ts hl ht) (Ev.ite Iff.rfl (fun _ => ?_) (fun _ => Ev.now _))
  refine Ev.bind (impl_least_ev l ts hl ht) (Ev.ite Iff.rfl (fun _ => ?_) (fun c => ?_))
  · exact Ev.bind0 (impl_copyInts_eq ts (by omega)) (Ev.now _)
  · have h := least_in c
    have hr := h.2.2.2
    rw [prs_length] at hr
    exact Ev.bind0 (impl_merged_eq ts _ _ (by omega) h.1 h.2.1 h.2.2.1 (by omega)) (Ev.now _)

theorem onceV_in {v : List (Int × Int)} (hv : vocabOk v = true) {ts : List Int} (ht : toksIn v.length ts = true) (hl : ts.length ≤ 1000) : onceV v ts = if (leastV v ts).1 < 0 then (ts, false) else (mergedV ts (leastV v ts).1 (leastV v ts).2, true) := by
  unfold onceV
  rw [if_pos (show areToksV v ts = true by unfold areToksV; rw [ht, hv, decide_eq_true hl]; rfl)]

theorem impl_bpe_l1 (l : List PI) (hl : l.length ≤ 1048576) (f : Nat) : ∀ (ts : List Int), ts.length ≤ f → ts.length ≤ 1048576 → Ev (fun k => impl_bpe.l1 k ts l) (bpeFrom (prs l) f ts) := by
  induction f with
  | zero =>
    intro ts ht _
    have : ts = [] := List.eq_nil_of_length_eq_zero (by omega)
    subst this
    refine Ev.step (fun k => by rw [impl_bpe.l1]) ?_
    exact Ev.bind (impl_least_ev l [] hl (by simp)) (Ev.pos (by rw [least_nil]; simp) (Ev.now _))
  | succ f ih =>
    intro ts ht ht2
    refine Ev.step (fun k => by rw [impl_bpe.l1]) ?_
    rw [bpeFrom]
    refine Ev.bind (impl_least_ev l ts hl ht2) (Ev.ite Iff.rfl (fun _ => Ev.now _) (fun c => ?_))
    have h := least_in c
    have hr := h.2.2.2
    rw [prs_length] at hr
    have hm := mergedV_length (r := (leastV (prs l) ts).2) h.1 h.2.1
    refine Ev.bind0 (impl_merged_eq ts _ _ (by omega) h.1 h.2.1 h.2.2.1 (by omega)) ?_
    exact ih (mergedV ts (leastV (prs l) ts).1 (leastV (prs l) ts).2) (by omega) (by omega)
theorem impl_bpe_l0 (l : List PI) (hl : l.length ≤ 1048576) (s : ByteArray) (hs : s.size ≤ 1048576) (d : Nat) : ∀ (i : Nat), i + d = s.size →
    Ev (fun k => impl_bpe.l0 k s ((bl s).take i) (i : Int) l) (bpeV (prs l) s) := by
  induction d with
  | zero =>
    intro i hi
    refine Ev.step (fun k => by rw [impl_bpe.l0]) ?_
    rw [List.take_of_length_le (by rw [bl_length]; omega)]
    exact Ev.neg (by omega) (impl_bpe_l1 l hl s.size (bl s) (by rw [bl_length]; omega) (by rw [bl_length]; omega))
  | succ d ih =>
    intro i hi
    refine Ev.step (fun k => by rw [impl_bpe.l0]) ?_
    have := ih (i + 1) (by omega)
    have e1 : ((i + 1 : Nat) : Int) = (i : Int) + 1 := by omega
    rw [e1] at this
    rw [wbt, bl_take_snoc s i (by omega), w64 (by omega) (by omega)]
    exact Ev.pos (by omega) (Ev.pos (by omega) (Ev.pos (by rw [List.length_take]; omega) this))
theorem impl_bpe_ev (l : List PI) (hl : l.length ≤ 1048576) (s : ByteArray) (hs : s.size ≤ 1048576) : Ev (fun k => impl_bpe.f k l s) (bpeV (prs l) s) := by
  unfold impl_bpe.f
  exact impl_bpe_l0 l hl s hs s.size 0 (by omega)

theorem impl_Bpe_ev (l : List PI) (hl : l.length ≤ 1048576) (s : ByteArray) : Ev (fun k => impl_Bpe.f k l s) (bpeOut (prs l) s) := by
  unfold impl_Bpe.f bpeOut
  refine Ev.bind (impl_VocabOk_ev l) (Ev.ite Iff.rfl (fun _ => Ev.ite Iff.rfl (fun _ => Ev.now _) (fun c => ?_)) (fun _ => Ev.now _))
  exact Ev.bind (impl_bpe_ev l hl s (by omega)) (Ev.now _)

theorem spec_l8Place_l1 (l : List PI) (ts : List Int) (ht : ts.length ≤ 1048576) (hl : l.length ≤ 1048576) (r : Nat) (hr : r < l.length) (C : Int × Int) (hC : Ev (fun k => spec_l8Place.l0 k ts ((r : Int) + 1) l) C) (d : Nat) : ∀ (i : Nat), i + d = ts.length →
    Ev (fun k => spec_l8Place.l1 k ts (r : Int) (i : Int) l) (if 0 ≤ rankFrom ((adj ts).drop i) l[r].f0 l[r].f1 i then (rankFrom ((adj ts).drop i) l[r].f0 l[r].f1 i, (r : Int)) else C) := by
  have hg : rd_T113 l (r : Int) = l[r] := by
    unfold rd_T113
    rw [Int.toNat_natCast, List.getD_eq_getElem?_getD, List.getElem?_eq_getElem hr]; rfl
  induction d with
  | zero =>
    intro i hi
    refine Ev.step (fun k => by rw [spec_l8Place.l1]) ?_
    rw [w64 (x := (i : Int) + 1) (by omega) (by omega), adj_end ts i (by omega), w64 (x := (r : Int) + 1) (by omega) (by omega)]
    rw [if_neg (show ¬ 0 ≤ rankFrom [] l[r].f0 l[r].f1 i by simp [rankFrom])]
    exact Ev.neg (by omega) hC
  | succ d ih =>
    intro i hi
    refine Ev.step (fun k => by rw [spec_l8Place.l1]) ?_
    rw [w64 (x := (i : Int) + 1) (by omega) (by omega), w64 (x := (r : Int) + 1) (by omega) (by omega), hg]
    by_cases c : i + 1 < ts.length
    · have R := ih (i + 1) (by omega)
      have e1 : ((i + 1 : Nat) : Int) = (i : Int) + 1 := by omega
      rw [e1] at R
      rw [adj_drop ts i c, rankFrom]
      refine Ev.pos (by omega) (Ev.pos (by omega) (Ev.pos (by omega) (Ev.pos (by omega) (Ev.pos (by omega) ?_))))
      by_cases c1 : rd ts (i : Int) = l[r].f0
      · refine Ev.pos c1 (Ev.pos (by omega) ?_)
        by_cases c2 : rd ts ((i : Int) + 1) = l[r].f1
        · rw [if_pos (show rd ts (i : Int) = l[r].f0 ∧ rd ts ((i : Int) + 1) = l[r].f1 from ⟨c1, c2⟩), if_pos (show (0 : Int) ≤ (i : Int) by omega)]
          exact Ev.pos c2 (Ev.now _)
        · rw [if_neg (show ¬ (rd ts (i : Int) = l[r].f0 ∧ rd ts ((i : Int) + 1) = l[r].f1) from fun h => c2 h.2)]
          exact Ev.neg c2 R
      · rw [if_neg (show ¬ (rd ts (i : Int) = l[r].f0 ∧ rd ts ((i : Int) + 1) = l[r].f1) from fun h => c1 h.1)]
        exact Ev.neg c1 R
    · rw [adj_end ts i c, if_neg (show ¬ 0 ≤ rankFrom [] l[r].f0 l[r].f1 i by simp [rankFrom])]
      exact Ev.neg (by omega) hC
theorem spec_l8Place_l0 (l : List PI) (ts : List Int) (ht : ts.length ≤ 1048576) (hl : l.length ≤ 1048576) (d : Nat) : ∀ (r : Nat), r + d = l.length →
    Ev (fun k => spec_l8Place.l0 k ts (r : Int) l) (placeFrom (adj ts) (prs (l.drop r)) (r : Int)) := by
  induction d with
  | zero =>
    intro r hr
    refine Ev.step (fun k => by rw [spec_l8Place.l0]) ?_
    rw [List.drop_eq_nil_of_le (by omega)]
    exact Ev.neg (by omega) (Ev.now _)
  | succ d ih =>
    intro r hr
    refine Ev.step (fun k => by rw [spec_l8Place.l0]) ?_
    refine Ev.pos (by omega) ?_
    have R := ih (r + 1) (by omega)
    have e1 : ((r + 1 : Nat) : Int) = (r : Int) + 1 := by omega
    rw [e1] at R
    have := spec_l8Place_l1 l ts ht hl r (by omega) _ R ts.length 0 (by omega)
    rw [List.drop_eq_getElem_cons (show r < l.length by omega)]
    simp only [prs, List.map_cons, placeFrom, rankV]
    exact this
theorem spec_l8Place_ev (l : List PI) (ts : List Int) (hl : l.length ≤ 1048576) (ht : ts.length ≤ 1048576) : Ev (fun k => spec_l8Place.f k l ts) (leastV (prs l) ts) := by
  unfold spec_l8Place.f
  rw [← place_least]
  exact spec_l8Place_l0 l ts ht hl l.length 0 (by omega)

theorem spec_l8Merged_eq (ts : List Int) (pos r : Int) (ht : ts.length ≤ 1048576) (h0 : 0 ≤ pos) (h1 : pos + 2 ≤ ts.length) (h2 : 0 ≤ r) (h3 : r ≤ 1048576) : spec_l8Merged.f ts pos r = some (mergedV ts pos r) := by
  unfold spec_l8Merged.f mergedV
  rw [w64 (x := pos + 2) (by omega) (by omega), w64 (x := 256 + r) (by omega) (by omega)]
  simp only [Option.bind_some]
  rw [if_pos h0, if_pos (by omega), if_pos (by simp; omega), if_pos (by simp; omega), if_pos (by omega), if_pos (by omega), if_pos (by simp; omega)]
  have e : (pos + 2).toNat = pos.toNat + 2 := by omega
  rw [e]; simp

theorem spec_l8Bpe_l1 (l : List PI) (hl : l.length ≤ 1048576) (s : ByteArray) (hs : s.size ≤ 1048576) (f : Nat) : ∀ (i : Nat) (ts : List Int), i + f = s.size → ts.length ≤ f →
    Ev (fun k => spec_l8Bpe.l1 k s ts (i : Int) l) (bpeFrom (prs l) f ts) := by
  induction f with
  | zero =>
    intro i ts hi ht
    refine Ev.step (fun k => by rw [spec_l8Bpe.l1]) ?_
    exact Ev.neg (by omega) (Ev.now _)
  | succ f ih =>
    intro i ts hi ht
    refine Ev.step (fun k => by rw [spec_l8Bpe.l1]) ?_
    rw [bpeFrom]
    refine Ev.pos (by omega) (Ev.bind (spec_l8Place_ev l ts hl (by omega)) (Ev.ite Iff.rfl (fun _ => Ev.now _) (fun c => ?_)))
    have h := least_in c
    have hr := h.2.2.2
    rw [prs_length] at hr
    have hm := mergedV_length (r := (leastV (prs l) ts).2) h.1 h.2.1
    refine Ev.bind0 (spec_l8Merged_eq ts _ _ (by omega) h.1 h.2.1 h.2.2.1 (by omega)) ?_
    rw [w64 (by omega) (by omega)]
    have := ih (i + 1) (mergedV ts (leastV (prs l) ts).1 (leastV (prs l) ts).2) (by omega) (by omega)
    have e1 : ((i + 1 : Nat) : Int) = (i : Int) + 1 := by omega
    rw [e1] at this
    exact this
theorem spec_l8Bpe_l0 (l : List PI) (hl : l.length ≤ 1048576) (s : ByteArray) (hs : s.size ≤ 1048576) (d : Nat) : ∀ (i : Nat), i + d = s.size →
    Ev (fun k => spec_l8Bpe.l0 k s ((bl s).take i) (i : Int) l) (bpeV (prs l) s) := by
  induction d with
  | zero =>
    intro i hi
    refine Ev.step (fun k => by rw [spec_l8Bpe.l0]) ?_
    rw [List.take_of_length_le (by rw [bl_length]; omega)]
    exact Ev.neg (by omega) (spec_l8Bpe_l1 l hl s hs s.size 0 (bl s) (by omega) (by rw [bl_length]; omega))
  | succ d ih =>
    intro i hi
    refine Ev.step (fun k => by rw [spec_l8Bpe.l0]) ?_
    have := ih (i + 1) (by omega)
    have e1 : ((i + 1 : Nat) : Int) = (i : Int) + 1 := by omega
    rw [e1] at this
    rw [wbt, bl_take_snoc s i (by omega), w64 (by omega) (by omega)]
    exact Ev.pos (by omega) (Ev.pos (by omega) (Ev.pos (by rw [List.length_take]; omega) this))
theorem spec_l8Bpe_ev (l : List PI) (hl : l.length ≤ 1048576) (s : ByteArray) (hs : s.size ≤ 1048576) : Ev (fun k => spec_l8Bpe.f k l s) (bpeV (prs l) s) := by
  unfold spec_l8Bpe.f
  exact spec_l8Bpe_l0 l hl s hs s.size 0 (by omega)

theorem spec_l1In_eq (a b c : Int) : spec_l1In.f a b c = some (decide (b ≤ a ∧ a ≤ c)) := by
  unfold spec_l1In.f
  by_cases h : a ≥ b
  · rw [if_pos h]; simp [show b ≤ a from h]
  · rw [if_neg h]; simp [show ¬ b ≤ a from h]

theorem spec_l7Bytes_eq {out : List ByteArray} {id : Int} (h0 : 0 ≤ id) (h1 : id ≤ 255 + (out.length : Int)) (hl : out.length ≤ 100000) : spec_l7Bytes.f out id = some (tokB out id) := by
  unfold spec_l7Bytes.f tokB
  by_cases c : id < 256
  · rw [if_pos c, if_pos c]
  · rw [if_neg c, if_neg c, w64 (by omega) (by omega), if_pos (by omega), if_pos (by omega)]
theorem spec_l7Table_l1 (l : List PI) (out : List ByteArray) (t : ByteArray) (R : List ByteArray × Bool) (ho : out.length ≤ 1000) (d : Nat) : ∀ (j : Nat), j + d = out.length →
    Ev (fun k => spec_l7Table.l0 k (out ++ [t]) ((out.length : Int) + 1) l) R → Ev (fun k => spec_l7Table.l1 k out (out.length : Int) t (j : Int) l) (if t ∈ out.drop j then (out, false) else R) := by
  induction d with
  | zero =>
    intro j hj h
    refine Ev.step (fun k => by rw [spec_l7Table.l1]) ?_
    rw [List.drop_eq_nil_of_le (by omega), if_neg (by simp)]
    refine Ev.neg (by omega) (Ev.pos (by omega) ?_)
    rw [w64 (by omega) (by omega)]
    exact h
  | succ d ih =>
    intro j hj h
    refine Ev.step (fun k => by rw [spec_l7Table.l1]) ?_
    refine Ev.pos (by omega) (Ev.pos (by omega) (Ev.pos (by omega) ?_))
    rw [rdOf_drop out j (by omega)]
    by_cases c : (rdOf ByteArray.empty out (j : Int)).toList = t.toList
    · refine Ev.pos c ?_
      rw [if_pos (by rw [(tl_iff _ _).1 c]; simp)]
      exact Ev.now _
    · refine Ev.neg c ?_
      have e : (t ∈ rdOf ByteArray.empty out (j : Int) :: out.drop (j + 1)) ↔ t ∈ out.drop (j + 1) := by
        rw [List.mem_cons]
        exact ⟨fun h => h.elim (fun h => absurd (by rw [h]) c) id, .inr⟩
      simp only [e]
      have := ih (j + 1) (by omega) h
      have e1 : ((j + 1 : Nat) : Int) = (j : Int) + 1 := by omega
      rw [e1] at this
      rw [w64 (by omega) (by omega)]
      exact this
theorem spec_l7Table_l0 (l : List PI) (hl : l.length ≤ 60) (d : Nat) : ∀ (out : List ByteArray), out.length + d = l.length → Short out →
    Ev (fun k => spec_l7Table.l0 k out (out.length : Int) l) (tokLoop (prs (l.drop out.length)) out) := by
  induction d with
  | zero =>
    intro out ho hs
    refine Ev.step (fun k => by rw [spec_l7Table.l0]) ?_
    rw [List.drop_eq_nil_of_le (by omega)]
    exact Ev.neg (by omega) (Ev.now _)
  | succ d ih =>
    intro out ho hs
    refine Ev.step (fun k => by rw [spec_l7Table.l0]) ?_
    rw [rdI_drop l out.length (by omega)]
    generalize rd_T113 l (out.length : Int) = p
    rw [w64 (by omega) (by omega)]
    refine Ev.pos (by omega) (Ev.pos (by omega) ?_)
    simp only [prs, List.map_cons, tokLoop]
    have bad : ¬ pairOk out.length (p.f0, p.f1) → Ev (fun k => spec_l7Table.j1 k out (out.length : Int) true l p.f0 p.f1) (out, false) := by
      intro h
      refine Ev.step (fun k => by rw [spec_l7Table.j1]) ?_
      exact Ev.pos rfl (Ev.now _)
    by_cases c : pairOk out.length (p.f0, p.f1)
    · rw [if_pos c]
      have s0 : (tokB out p.f0).size ≤ 24 := tokB_size hs c.1.1 c.1.2
      have s1 : (tokB out p.f1).size ≤ 24 := tokB_size hs c.2.1 c.2.2
      refine Ev.bind0 (spec_l1In_eq _ _ _) (Ev.pos (decide_eq_true c.1) (Ev.bind0 (spec_l1In_eq _ _ _) ?_))
      rw [decide_eq_true c.2]
      refine Ev.step (fun k => by rw [spec_l7Table.j1]) ?_
      refine Ev.neg (by simp) (Ev.bind0 (spec_l7Bytes_eq c.1.1 c.1.2 (by omega)) (Ev.bind0 (spec_l7Bytes_eq c.2.1 c.2.2 (by omega)) (Ev.pos (by omega) ?_)))
      generalize tokB out p.f0 ++ tokB out p.f1 = t
      by_cases c2 : (t.size : Int) > 24
      · rw [if_pos (.inl (by omega))]
        exact Ev.pos c2 (Ev.now _)
      · refine Ev.neg c2 ?_
        have R := ih (out ++ [t]) (by simp; omega) (short_snoc hs (by omega))
        have e1 : ((out ++ [t]).length : Int) = (out.length : Int) + 1 := by simp
        have e2 : (out ++ [t]).length = out.length + 1 := by simp
        rw [e1, e2] at R
        have := spec_l7Table_l1 l out t _ (by omega) out.length 0 (by omega) R
        rw [List.drop_zero] at this
        have e3 : (24 < t.size ∨ t ∈ out) ↔ t ∈ out := ⟨fun h => h.elim (fun h => by omega) id, .inr⟩
        simp only [e3]
        exact this
    · rw [if_neg c]
      refine Ev.bind0 (spec_l1In_eq _ _ _) ?_
      by_cases c1 : 0 ≤ p.f0 ∧ p.f0 ≤ 255 + (out.length : Int)
      · refine Ev.pos (decide_eq_true c1) (Ev.bind0 (spec_l1In_eq _ _ _) ?_)
        rw [decide_eq_false (fun h => c ⟨c1, h⟩)]
        exact bad c
      · exact Ev.neg (by rw [decide_eq_false c1]; simp) (bad c)
theorem spec_l7Table_ev (l : List PI) : Ev (fun k => spec_l7Table.f k l) (tokV (prs l)) := by
  unfold spec_l7Table.f tokV
  refine Ev.bind0 rfl ?_
  rw [prs_length]
  by_cases c : 60 < l.length
  · rw [if_pos c]; exact Ev.pos (by omega) (Ev.now _)
  · rw [if_neg c]
    refine Ev.neg (by omega) ?_
    exact spec_l7Table_l0 l (by omega) l.length [] (by simp) short_nil

theorem spec_VocabOk_ev (l : List PI) : Ev (fun k => spec_VocabOk.f k l) (vocabOk (prs l)) := by
  unfold spec_VocabOk.f
  exact Ev.bind (spec_l7Table_ev l) (Ev.now _)

theorem spec_Bpe_ev (l : List PI) (hl : l.length ≤ 1048576) (s : ByteArray) : Ev (fun k => spec_Bpe.f k l s) (bpeOut (prs l) s) := by
  unfold spec_Bpe.f bpeOut
  refine Ev.bind (spec_VocabOk_ev l) (Ev.ite Iff.rfl (fun _ => Ev.ite Iff.rfl (fun _ => Ev.now _) (fun c => ?_)) (fun _ => Ev.now _))
  exact Ev.bind (spec_l8Bpe_ev l hl s (by omega)) (Ev.now _)

theorem spec_l1New_ex (l : List Int) : ∃ h, Ev (fun k => spec_l1New.f k l) (l, 0, h) := by
  have key : ∀ (d i : Nat) (h : Int), i + d = 4000 → ∃ h', Ev (fun k => spec_l1New.l0 k l h (i : Int)) (l, 0, h') := by
    intro d
    induction d with
    | zero =>
      intro i h hi
      by_cases c : (i : Int) < (l.length : Int)
      · exact ⟨h, Ev.step (fun k => by rw [spec_l1New.l0]) (Ev.pos c (Ev.neg (by omega) (Ev.now _)))⟩
      · exact ⟨h, Ev.step (fun k => by rw [spec_l1New.l0]) (Ev.neg c (Ev.now _))⟩
    | succ d ih =>
      intro i h hi
      by_cases c : (i : Int) < (l.length : Int)
      · obtain ⟨h', e⟩ := ih (i + 1) (Go.bits .and .i64 (wrap64 ((wrap64 ((wrap64 (h * 131)) + (wrap64 (rd l (i : Int))))) + 7)) 1073741823) (by omega)
        have e1 : ((i + 1 : Nat) : Int) = (i : Int) + 1 := by omega
        rw [e1] at e
        refine ⟨h', Ev.step (fun k => by rw [spec_l1New.l0]) (Ev.pos c (Ev.pos (by omega) (Ev.pos (by omega) ?_)))⟩
        rw [w64 (x := (i : Int) + 1) (by omega) (by omega)]
        exact e
      · exact ⟨h, Ev.step (fun k => by rw [spec_l1New.l0]) (Ev.neg c (Ev.now _))⟩
  unfold spec_l1New.f
  exact key 4000 0 _ (by omega)

theorem and255_range (x : Int) : 0 ≤ Go.bits .and .i64 x 255 ∧ Go.bits .and .i64 x 255 ≤ 255 := by
  have h : ((BitVec.ofInt IntKind.i64.bits x &&& BitVec.ofInt IntKind.i64.bits 255).toNat : Int) ≤ 255 := by
    have e : (BitVec.ofInt IntKind.i64.bits (255 : Int)).toNat = 255 := by decide
    rw [BitVec.toNat_and, e]
    have := @Nat.and_le_right (BitVec.ofInt IntKind.i64.bits x).toNat 255
    omega
  simp only [Go.bits]
  rw [wraps_i64 _ (Int.natCast_nonneg _) (by omega)]
  exact ⟨Int.natCast_nonneg _, h⟩
/-- a place in what a draw reads -/
abbrev curP (b : List Int) (i : Int) : Prop := 0 ≤ i ∧ i ≤ b.length
theorem spec_l1Byte_ex (b : List Int) (hb : b.length ≤ 4000000) (i h : Int) (hi : curP b i) : ∃ x i' h', spec_l1Byte.f b i h = some (x, i', h') ∧ (0 ≤ x ∧ x ≤ 255) ∧ curP b i' := by
  unfold spec_l1Byte.f
  by_cases c : i < (b.length : Int)
  · rw [if_pos c, if_pos hi.1]
    exact ⟨_, _, _, rfl, and255_range _, by rw [w64 (by omega) (by omega)]; exact ⟨by omega, by omega⟩⟩
  · rw [if_neg c]
    exact ⟨_, _, _, rfl, and255_range _, hi⟩

theorem spec_l1Below_ex (b : List Int) (hb : b.length ≤ 4000000) (i h : Int) (hi : curP b i) (n : Int) : ∃ x i' h', spec_l1Below.f b i h n = some (x, i', h') ∧ (0 ≤ x ∧ (n ≤ 0 → x = 0) ∧ (0 < n → x < n)) ∧ curP b i' := by
  unfold spec_l1Below.f
  by_cases c : n ≤ 0
  · rw [if_pos c]; exact ⟨0, i, h, rfl, ⟨by omega, fun _ => rfl, fun e => by omega⟩, hi⟩
  · rw [if_neg c]
    by_cases c2 : n ≤ 256
    · rw [if_pos c2]
      obtain ⟨x, i', h', e, hx, hi'⟩ := spec_l1Byte_ex b hb i h hi
      rw [e]
      simp only [Option.bind_some]
      rw [if_neg (show ¬ n = 0 by omega)]
      refine ⟨_, _, _, rfl, ?_, hi'⟩
      rw [tmod_nn hx.1]
      have h1 := Int.emod_nonneg x (show n ≠ 0 by omega)
      have h2 := Int.emod_lt_of_pos x (show 0 < n by omega)
      exact ⟨h1, fun e => by omega, fun _ => h2⟩
    · rw [if_neg c2]
      obtain ⟨x, i1, h1, e1, hx, hi1⟩ := spec_l1Byte_ex b hb i h hi
      obtain ⟨y, i2, h2, e2, hy, hi2⟩ := spec_l1Byte_ex b hb i1 h1 hi1
      obtain ⟨z, i3, h3, e3, hz, hi3⟩ := spec_l1Byte_ex b hb i2 h2 hi2
      obtain ⟨w, i4, h4, e4, hw, hi4⟩ := spec_l1Byte_ex b hb i3 h3 hi3
      simp only [e1, e2, e3, e4, Option.bind_some]
      rw [if_neg (show ¬ n = 0 by omega)]
      refine ⟨_, _, _, rfl, ?_, hi4⟩
      rw [w64 (x := x * 16777216) (by omega) (by omega), w64 (x := y * 65536) (by omega) (by omega), w64 (x := z * 256) (by omega) (by omega), w64 (x := x * 16777216 + y * 65536) (by omega) (by omega), w64 (x := x * 16777216 + y * 65536 + z * 256) (by omega) (by omega), w64 (x := x * 16777216 + y * 65536 + z * 256 + w) (by omega) (by omega), tmod_nn (by omega)]
      have g1 := Int.emod_nonneg (x * 16777216 + y * 65536 + z * 256 + w) (show n ≠ 0 by omega)
      have g2 := Int.emod_lt_of_pos (x * 16777216 + y * 65536 + z * 256 + w) (show 0 < n by omega)
      exact ⟨g1, fun e => by omega, fun _ => g2⟩

theorem spec_l1PickInt_ex (b : List Int) (hb : b.length ≤ 4000000) (i h : Int) (hi : curP b i) (l : List Int) (hl : 0 < l.length) : ∃ x i' h', spec_l1PickInt.f b i h l = some (x, i', h') ∧ x ∈ l ∧ curP b i' := by
  obtain ⟨x, i1, h1, e, hx, hi1⟩ := spec_l1Below_ex b hb i h hi (l.length : Int)
  have hx2 := hx.2.2 (by omega)
  obtain ⟨n, rfl⟩ := Int.eq_ofNat_of_zero_le hx.1
  refine ⟨rd l (n : Int), i1, h1, ?_, ?_, hi1⟩
  · unfold spec_l1PickInt.f
    rw [e]
    simp only [Option.bind_some]
    rw [if_pos hx.1, if_pos hx2]
  · rw [rd_get l n (by omega)]; exact List.getElem_mem _

theorem spec_l1Once_ex (b : List Int) (hb : b.length ≤ 4000000) (i h : Int) (hi : curP b i) (n : Int) : ∃ x i' h', spec_l1Once.f b i h n = some (x, i', h') ∧ curP b i' := by
  obtain ⟨x, i1, h1, e, hx, hi1⟩ := spec_l1Below_ex b hb i h hi n
  refine ⟨x == 0, i1, h1, ?_, hi1⟩
  unfold spec_l1Once.f; rw [e]; rfl

abbrev drawV (g : Nat → Option (List PI × Int × Int)) (b : List Int) (m : Nat) : Prop := ∃ v' i' h', Ev g (v', i', h') ∧ v'.length ≤ m ∧ curP b i'
theorem spec_l7Draw_l0 (b : List Int) (hb : b.length ≤ 4000000) (d : Nat) : ∀ (v : List PI) (i h : Int), curP b i → v.length + d ≤ 1000 → drawV (fun k => spec_l7Draw.l0 k (d : Int) b i h v) b (v.length + d) := by
  induction d with
  | zero =>
    intro v i h hi hv
    exact ⟨v, i, h, Ev.step (fun k => by rw [spec_l7Draw.l0]) (Ev.neg (by omega) (Ev.now _)), by omega, hi⟩
  | succ d ih =>
    intro v i h hi hv
    have ed : wrap64 (((d + 1 : Nat) : Int) - 1) = (d : Int) := by rw [w64 (by omega) (by omega)]; omega
    have fin (x y i h : Int) (hi : curP b i) : ∃ r : List PI × Int × Int, (∀ G : Nat → Option (List PI × Int × Int), True) ∧ Ev (fun k => (some ([] : List PI)).bind fun y193 => (if y193.length + v.length < 8796093022208 then ((some (y193 ++ v : List PI)).bind fun y196 => (if y196.length < 8796093022208 then ((some (y196 ++ [(⟨x, y⟩ : PI)] : List PI)).bind fun y199 => ((spec_VocabOk.f k y199).bind fun t203 => (if t203 = true then (spec_l7Draw.l0 k (wrap64 (((d + 1 : Nat) : Int) - 1)) b i h y199) else (spec_l7Draw.l0 k (wrap64 (((d + 1 : Nat) : Int) - 1)) b i h v)))) else none)) else none)) r ∧ r.1.length ≤ v.length + (d + 1) ∧ curP b r.2.1 := by
      rw [ed]
      have key : ∃ r : List PI × Int × Int, Ev (fun k => (spec_VocabOk.f k (v ++ [(⟨x, y⟩ : PI)])).bind fun t203 => (if t203 = true then (spec_l7Draw.l0 k (d : Int) b i h (v ++ [(⟨x, y⟩ : PI)])) else (spec_l7Draw.l0 k (d : Int) b i h v))) r ∧ r.1.length ≤ v.length + (d + 1) ∧ curP b r.2.1 := by
        have e := spec_VocabOk_ev (v ++ [(⟨x, y⟩ : PI)])
        cases c : vocabOk (prs (v ++ [(⟨x, y⟩ : PI)])) with
        | true =>
          rw [c] at e
          obtain ⟨v', i', h', e2, l2, c2⟩ := ih (v ++ [(⟨x, y⟩ : PI)]) i h hi (by simp; omega)
          rw [List.length_append, List.length_singleton] at l2
          exact ⟨(v', i', h'), Ev.bind e (Ev.pos rfl e2), by simp only; omega, c2⟩
        | false =>
          rw [c] at e
          obtain ⟨v', i', h', e2, l2, c2⟩ := ih v i h hi (by omega)
          exact ⟨(v', i', h'), Ev.bind e (Ev.neg (by simp) e2), by simp only; omega, c2⟩
      obtain ⟨r, e, g⟩ := key
      refine ⟨r, fun _ => trivial, ?_, g⟩
      refine Ev.bind0 (a := ([] : List PI)) rfl (Ev.pos (show 0 + v.length < 8796093022208 by omega) (Ev.bind0 (a := v) rfl (Ev.pos (show v.length < 8796093022208 by omega) (Ev.bind0 (a := v ++ [(⟨x, y⟩ : PI)]) rfl e))))
    have J4 (x y : Int) (o : Bool) (i h : Int) (hi : curP b i) : drawV (fun k => spec_l7Draw.j4 k ((d + 1 : Nat) : Int) x y o b i h v) b (v.length + (d + 1)) := by
      cases o with
      | true =>
        obtain ⟨z, i1, h1, e1, hz, hi1⟩ := spec_l1Below_ex b hb i h hi (v.length : Int)
        obtain ⟨⟨v', i', h'⟩, _, e, l2, c2⟩ := fin x (wrap64 (256 + z)) i1 h1 hi1
        exact ⟨v', i', h', Ev.step (fun k => by rw [spec_l7Draw.j4]) (Ev.pos rfl (Ev.bind0 e1 e)), l2, c2⟩
      | false =>
        obtain ⟨⟨v', i', h'⟩, _, e, l2, c2⟩ := fin x y i h hi
        exact ⟨v', i', h', Ev.step (fun k => by rw [spec_l7Draw.j4]) (Ev.neg (by simp) e), l2, c2⟩
    have J3 (x y : Int) (i h : Int) (hi : curP b i) : drawV (fun k => spec_l7Draw.j3 k ((d + 1 : Nat) : Int) x y b i h v) b (v.length + (d + 1)) := by
      by_cases c : (v.length : Int) > 0
      · obtain ⟨o, i1, h1, e1, hi1⟩ := spec_l1Once_ex b hb i h hi 3
        obtain ⟨v', i', h', e, l2, c2⟩ := J4 x y o i1 h1 hi1
        exact ⟨v', i', h', Ev.step (fun k => by rw [spec_l7Draw.j3]) (Ev.pos c (Ev.bind0 e1 e)), l2, c2⟩
      · obtain ⟨v', i', h', e, l2, c2⟩ := J4 x y false i h hi
        exact ⟨v', i', h', Ev.step (fun k => by rw [spec_l7Draw.j3]) (Ev.neg c e), l2, c2⟩
    have J2 (x y : Int) (o : Bool) (i h : Int) (hi : curP b i) : drawV (fun k => spec_l7Draw.j2 k ((d + 1 : Nat) : Int) x y o b i h v) b (v.length + (d + 1)) := by
      cases o with
      | true =>
        obtain ⟨z, i1, h1, e1, hz, hi1⟩ := spec_l1Below_ex b hb i h hi (v.length : Int)
        obtain ⟨v', i', h', e, l2, c2⟩ := J3 (wrap64 (256 + z)) y i1 h1 hi1
        exact ⟨v', i', h', Ev.step (fun k => by rw [spec_l7Draw.j2]) (Ev.pos rfl (Ev.bind0 e1 e)), l2, c2⟩
      | false =>
        obtain ⟨v', i', h', e, l2, c2⟩ := J3 x y i h hi
        exact ⟨v', i', h', Ev.step (fun k => by rw [spec_l7Draw.j2]) (Ev.neg (by simp) e), l2, c2⟩
    have J1 (x y : Int) (i h : Int) (hi : curP b i) : drawV (fun k => spec_l7Draw.j1 k ((d + 1 : Nat) : Int) x y b i h v) b (v.length + (d + 1)) := by
      by_cases c : (v.length : Int) > 0
      · obtain ⟨o, i1, h1, e1, hi1⟩ := spec_l1Once_ex b hb i h hi 2
        obtain ⟨v', i', h', e, l2, c2⟩ := J2 x y o i1 h1 hi1
        exact ⟨v', i', h', Ev.step (fun k => by rw [spec_l7Draw.j1]) (Ev.pos c (Ev.bind0 e1 e)), l2, c2⟩
      · obtain ⟨v', i', h', e, l2, c2⟩ := J2 x y false i h hi
        exact ⟨v', i', h', Ev.step (fun k => by rw [spec_l7Draw.j1]) (Ev.neg c e), l2, c2⟩
    obtain ⟨x1, i1, h1, e1, _, hi1⟩ := spec_l1Below_ex b hb i h hi 3
    obtain ⟨x2, i2, h2, e2, _, hi2⟩ := spec_l1Below_ex b hb i1 h1 hi1 3
    obtain ⟨o, i3, h3, e3, hi3⟩ := spec_l1Once_ex b hb i2 h2 hi2 6
    cases o with
    | true =>
      obtain ⟨x4, i4, h4, e4, _, hi4⟩ := spec_l1PickInt_ex b hb i3 h3 hi3 [32, 48, 200, 0, 255] (by decide)
      obtain ⟨v', i', h', e, l2, c2⟩ := J1 x4 (wrap64 (97 + x2)) i4 h4 hi4
      exact ⟨v', i', h', Ev.step (fun k => by rw [spec_l7Draw.l0]) (Ev.pos (by omega) (Ev.bind0 e1 (Ev.bind0 e2 (Ev.bind0 e3 (Ev.pos rfl (Ev.bind0 e4 e)))))), l2, c2⟩
    | false =>
      obtain ⟨v', i', h', e, l2, c2⟩ := J1 (wrap64 (97 + x1)) (wrap64 (97 + x2)) i3 h3 hi3
      exact ⟨v', i', h', Ev.step (fun k => by rw [spec_l7Draw.l0]) (Ev.pos (by omega) (Ev.bind0 e1 (Ev.bind0 e2 (Ev.bind0 e3 (Ev.neg (show ¬ (false = true) by simp) e))))), l2, c2⟩
theorem spec_l7Draw_ex (b : List Int) (hb : b.length ≤ 4000000) (i h : Int) (hi : curP b i) (n : Int) (h0 : 0 ≤ n) (hn : n ≤ 900) : drawV (fun k => spec_l7Draw.f k b i h n) b 900 := by
  obtain ⟨x, i1, h1, e1, hx, hi1⟩ := spec_l1Below_ex b hb i h hi (wrap64 (n + 1))
  rw [w64 (x := n + 1) (by omega) (by omega)] at hx
  have hx2 := hx.2.2 (by omega)
  obtain ⟨m, rfl⟩ := Int.eq_ofNat_of_zero_le hx.1
  obtain ⟨v', i', h', e, l2, c2⟩ := spec_l7Draw_l0 b hb m [] i1 h1 hi1 (by simp only [List.length_nil]; omega)
  rw [List.length_nil] at l2
  refine ⟨v', i', h', ?_, by omega, c2⟩
  unfold spec_l7Draw.f
  exact Ev.bind0 e1 e

theorem spec_l7Any_l0 (b : List Int) (d : Nat) : ∀ (v : List PI) (i h : Int) (j : Nat), j + d = 6 → curP b i → v.length ≤ 900 + j → drawV (fun k => spec_l7Any.l0 k (j : Int) b i h v) b 906 := by
  induction d with
  | zero =>
    intro v i h j hj hi hv
    exact ⟨v, i, h, Ev.step (fun k => by rw [spec_l7Any.l0]) (Ev.neg (by omega) (Ev.now _)), by omega, hi⟩
  | succ d ih =>
    intro v i h j hj hi hv
    have ed : wrap64 ((j : Int) + 1) = ((j + 1 : Nat) : Int) := by rw [w64 (by omega) (by omega)]; omega
    by_cases c : (v.length : Int) > 0
    · obtain ⟨v', i', h', e, l2, c2⟩ := ih (v ++ [(⟨wrap64 (255 + (v.length : Int)), wrap64 (255 + (v.length : Int))⟩ : PI)]) i h (j + 1) (by omega) hi (by simp; omega)
      exact ⟨v', i', h', Ev.step (fun k => by rw [spec_l7Any.l0]) (Ev.pos (by omega) (Ev.pos c (Ev.pos (by omega) (by rw [ed]; exact e)))), l2, c2⟩
    · obtain ⟨v', i', h', e, l2, c2⟩ := ih (v ++ [(⟨97, 97⟩ : PI)]) i h (j + 1) (by omega) hi (by simp; omega)
      exact ⟨v', i', h', Ev.step (fun k => by rw [spec_l7Any.l0]) (Ev.pos (by omega) (Ev.neg c (Ev.pos (by omega) (by rw [ed]; exact e)))), l2, c2⟩
theorem spec_l7Any_l1 (b : List Int) (n : Nat) (hn : n ≤ 900) (d : Nat) : ∀ (v : List PI) (i h : Int) (j : Nat), j + d = n → curP b i → v.length ≤ j → drawV (fun k => spec_l7Any.l1 k (n : Int) (j : Int) b i h v) b 906 := by
  induction d with
  | zero =>
    intro v i h j hj hi hv
    exact ⟨v, i, h, Ev.step (fun k => by rw [spec_l7Any.l1]) (Ev.neg (by omega) (Ev.now _)), by omega, hi⟩
  | succ d ih =>
    intro v i h j hj hi hv
    have ed : wrap64 ((j : Int) + 1) = ((j + 1 : Nat) : Int) := by rw [w64 (by omega) (by omega)]; omega
    obtain ⟨v', i', h', e, l2, c2⟩ := ih (v ++ [(⟨(j : Int), 200⟩ : PI)]) i h (j + 1) (by omega) hi (by simp; omega)
    exact ⟨v', i', h', Ev.step (fun k => by rw [spec_l7Any.l1]) (Ev.pos (by omega) (Ev.pos (by omega) (by rw [ed]; exact e))), l2, c2⟩
theorem spec_l7Any_ex (b : List Int) (hb : b.length ≤ 4000000) (i h : Int) (hi : curP b i) (n : Int) (h0 : 0 ≤ n) (hn : n ≤ 900) : drawV (fun k => spec_l7Any.f k b i h n) b 906 := by
  obtain ⟨v, i1, h1, e1, hv, hi1⟩ := spec_l7Draw_ex b hb i h hi n h0 hn
  obtain ⟨o, i2, h2, e2, hi2⟩ := spec_l1Once_ex b hb i1 h1 hi1 8
  unfold spec_l7Any.f
  cases o with
  | false => exact ⟨v, i2, h2, Ev.bind e1 (Ev.bind0 e2 (Ev.neg (by simp) (Ev.now _))), by omega, hi2⟩
  | true =>
    obtain ⟨x, i3, h3, e3, hx, hi3⟩ := spec_l1Below_ex b hb i2 h2 hi2 4
    by_cases c0 : x = 0
    · obtain ⟨y, i4, h4, e4, _, hi4⟩ := spec_l1PickInt_ex b hb i3 h3 hi3 [(-1), wrap64 (256 + (v.length : Int)), 97] (by simp)
      exact ⟨_, i4, h4, Ev.bind e1 (Ev.bind0 e2 (Ev.pos rfl (Ev.bind0 e3 (Ev.pos c0 (Ev.bind0 e4 (Ev.pos (show v.length < 8796093022208 by omega) (Ev.now _))))))), by simp only [List.length_append, List.length_singleton]; omega, hi4⟩
    · by_cases c1 : x = 1
      · by_cases c2 : (v.length : Int) > 0
        · obtain ⟨y, i4, h4, e4, hy, hi4⟩ := spec_l1Below_ex b hb i3 h3 hi3 (v.length : Int)
          have hy2 := hy.2.2 (by omega)
          exact ⟨_, i4, h4, Ev.bind e1 (Ev.bind0 e2 (Ev.pos rfl (Ev.bind0 e3 (Ev.neg c0 (Ev.pos c1 (Ev.pos c2 (Ev.bind0 e4 (Ev.pos hy.1 (Ev.pos hy2 (Ev.pos (show v.length < 8796093022208 by omega) (Ev.now _))))))))))), by simp; omega, hi4⟩
        · exact ⟨v, i3, h3, Ev.bind e1 (Ev.bind0 e2 (Ev.pos rfl (Ev.bind0 e3 (Ev.neg c0 (Ev.pos c1 (Ev.neg c2 (Ev.now _))))))), by omega, hi3⟩
      · by_cases c2 : x = 2
        · obtain ⟨v', i', h', e, l2, c3⟩ := spec_l7Any_l0 b 6 v i3 h3 0 rfl hi3 (by omega)
          exact ⟨v', i', h', Ev.bind e1 (Ev.bind0 e2 (Ev.pos rfl (Ev.bind0 e3 (Ev.neg c0 (Ev.neg c1 (Ev.pos c2 e)))))), l2, c3⟩
        · obtain ⟨y, i4, h4, e4, hy, hi4⟩ := spec_l1Below_ex b hb i3 h3 hi3 2
          have hy2 := hy.2.2 (by omega)
          obtain ⟨m, rfl⟩ := Int.eq_ofNat_of_zero_le hy.1
          have hm : 60 + m ≤ 900 := by omega
          have ed : wrap64 (60 + (m : Int)) = ((60 + m : Nat) : Int) := by rw [w64 (by omega) (by omega)]; omega
          obtain ⟨v', i', h', e, l2, c3⟩ := spec_l7Any_l1 b (60 + m) hm (60 + m) [] i4 h4 0 (Nat.zero_add _) hi4 (by simp)
          have e5 : Ev (fun k => spec_l7Any.l1 k (wrap64 (60 + (m : Int))) 0 b i4 h4 ([] : List PI)) (v', i', h') := by rw [ed]; exact e
          exact ⟨v', i', h', Ev.bind e1 (Ev.bind0 e2 (Ev.pos rfl (Ev.bind0 e3 (Ev.neg c0 (Ev.neg c1 (Ev.neg c2 (Ev.bind0 e4 e5))))))), l2, c3⟩

theorem spec_l1Size_ex (b : List Int) (hb : b.length ≤ 4000000) (m : Int) (h0 : 0 ≤ m) : ∃ n, spec_l1Size.f b m = some n ∧ 0 ≤ n ∧ n ≤ m := by
  unfold spec_l1Size.f
  rw [w64 (x := (b.length : Int) / 20) (by omega) (by omega), w64 (by omega) (by omega)]
  by_cases c : 2 + (b.length : Int) / 20 > m
  · rw [if_pos c]; exact ⟨_, rfl, h0, Int.le_refl _⟩
  · rw [if_neg c]; exact ⟨_, rfl, by omega, by omega⟩

theorem spec_l1Pick_ex (b : List Int) (hb : b.length ≤ 4000000) (i h : Int) (hi : curP b i) (l : List ByteArray) (hl : 0 < l.length) : ∃ x i' h', spec_l1Pick.f b i h l = some (x, i', h') ∧ x ∈ l ∧ curP b i' := by
  obtain ⟨x, i1, h1, e, hx, hi1⟩ := spec_l1Below_ex b hb i h hi (l.length : Int)
  have hx2 := hx.2.2 (by omega)
  obtain ⟨n, rfl⟩ := Int.eq_ofNat_of_zero_le hx.1
  refine ⟨rdOf ByteArray.empty l (n : Int), i1, h1, ?_, ?_, hi1⟩
  · unfold spec_l1Pick.f
    rw [e]
    simp only [Option.bind_some]
    rw [if_pos hx.1, if_pos hx2]
  · rw [rdOf_get l n (by omega)]; exact List.getElem_mem _
abbrev drawS (g : Nat → Option (ByteArray × Int × Int)) (b : List Int) (m : Nat) : Prop := ∃ s' i' h', Ev g (s', i', h') ∧ s'.size ≤ m ∧ curP b i'
theorem spec_l8Word_l0 (b : List Int) (hb : b.length ≤ 4000000) (T : List ByteArray) (hT : Short T) (d : Nat) : ∀ (s : ByteArray) (i h : Int), curP b i → s.size + 24 * d ≤ 1000000 → drawS (fun k => spec_l8Word.l0 k s T (d : Int) b i h) b (s.size + 24 * d) := by
  induction d with
  | zero =>
    intro s i h hi hs
    exact ⟨s, i, h, Ev.step (fun k => by rw [spec_l8Word.l0]) (Ev.neg (by omega) (Ev.now _)), by omega, hi⟩
  | succ d ih =>
    intro s i h hi hs
    have ed : wrap64 (((d + 1 : Nat) : Int) - 1) = (d : Int) := by rw [w64 (by omega) (by omega)]; omega
    have next (x : ByteArray) (hx : x.size ≤ 24) (i h : Int) (hi : curP b i) : drawS (fun k => spec_l8Word.l0 k (s ++ x) T (wrap64 (((d + 1 : Nat) : Int) - 1)) b i h) b (s.size + 24 * (d + 1)) := by
      have hz : (s ++ x).size = s.size + x.size := ByteArray.size_append
      obtain ⟨s', i', h', e, l2, c2⟩ := ih (s ++ x) i h hi (by omega)
      rw [ed]
      exact ⟨s', i', h', e, by omega, c2⟩
    have J1 (o : Bool) (ho : o = true → 0 < T.length) (i h : Int) (hi : curP b i) : drawS (fun k => spec_l8Word.j1 k s T ((d + 1 : Nat) : Int) o b i h) b (s.size + 24 * (d + 1)) := by
      cases o with
      | true =>
        have hl := ho rfl
        obtain ⟨x, i1, h1, e1, hx, hi1⟩ := spec_l1Below_ex b hb i h hi (T.length : Int)
        have hx2 := hx.2.2 (by omega)
        have hsz := hT _ (rdOf_mem hx.1 hx2)
        obtain ⟨s', i', h', e, l2, c2⟩ := next _ hsz i1 h1 hi1
        exact ⟨s', i', h', Ev.step (fun k => by rw [spec_l8Word.j1]) (Ev.pos rfl (Ev.bind0 e1 (Ev.pos hx.1 (Ev.pos hx2 (Ev.pos (show s.size + (rdOf ByteArray.empty T x).size ≤ 9223372036854775807 by omega) e))))), l2, c2⟩
      | false =>
        obtain ⟨x, i1, h1, e1, hx, hi1⟩ := spec_l1Pick_ex b hb i h hi [(⟨#[97]⟩ : ByteArray), (⟨#[98]⟩ : ByteArray), (⟨#[99]⟩ : ByteArray), (⟨#[97, 98]⟩ : ByteArray), (⟨#[97, 97]⟩ : ByteArray), (⟨#[122]⟩ : ByteArray), (⟨#[255]⟩ : ByteArray)] (by simp)
        have hsz : x.size ≤ 24 := by
          simp only [List.mem_cons, List.not_mem_nil, or_false] at hx
          rcases hx with rfl | rfl | rfl | rfl | rfl | rfl | rfl <;> decide
        obtain ⟨s', i', h', e, l2, c2⟩ := next _ hsz i1 h1 hi1
        exact ⟨s', i', h', Ev.step (fun k => by rw [spec_l8Word.j1]) (Ev.neg (by simp) (Ev.bind0 e1 (Ev.pos (show s.size + x.size ≤ 9223372036854775807 by omega) e))), l2, c2⟩
    by_cases c : (T.length : Int) > 0
    · obtain ⟨o, i1, h1, e1, hi1⟩ := spec_l1Once_ex b hb i h hi 2
      obtain ⟨s', i', h', e, l2, c2⟩ := J1 o (fun _ => by omega) i1 h1 hi1
      exact ⟨s', i', h', Ev.step (fun k => by rw [spec_l8Word.l0]) (Ev.pos (by omega) (Ev.pos c (Ev.bind0 e1 e))), l2, c2⟩
    · obtain ⟨s', i', h', e, l2, c2⟩ := J1 false (fun h => by cases h) i h hi
      exact ⟨s', i', h', Ev.step (fun k => by rw [spec_l8Word.l0]) (Ev.pos (by omega) (Ev.neg c e)), l2, c2⟩
theorem spec_l8Word_ex (b : List Int) (hb : b.length ≤ 4000000) (i h : Int) (hi : curP b i) (v : List PI) (n : Int) (h0 : 0 ≤ n) (hn : n ≤ 900) : drawS (fun k => spec_l8Word.f k b i h v n) b 30000 := by
  obtain ⟨x, i1, h1, e1, hx, hi1⟩ := spec_l1Below_ex b hb i h hi (wrap64 (n + 1))
  rw [w64 (x := n + 1) (by omega) (by omega)] at hx
  have hx2 := hx.2.2 (by omega)
  obtain ⟨m, rfl⟩ := Int.eq_ofNat_of_zero_le hx.1
  obtain ⟨s', i', h', e, l2, c2⟩ := spec_l8Word_l0 b hb _ (tokV_short (prs v)) m (⟨#[]⟩ : ByteArray) i1 h1 hi1 (by have : (⟨#[]⟩ : ByteArray).size = 0 := rfl; omega)
  have hz : (⟨#[]⟩ : ByteArray).size = 0 := rfl
  refine ⟨s', i', h', ?_, by omega, c2⟩
  unfold spec_l8Word.f
  exact Ev.bind (spec_l7Table_ev v) (Ev.bind0 e1 e)

theorem spec_DrawBpe_l0 (b : List Int) (hb : b.length ≤ 4000000) (v : List PI) (n : Nat) (hn : n ≤ 1000) (d : Nat) : ∀ (s : ByteArray) (i h : Int), curP b i → s.size ≤ 1000 → n ≤ s.size + d → ∃ s', Ev (fun k => spec_DrawBpe.l0 k s (n : Int) b i h v) (v, s') ∧ s'.size ≤ 2000 := by
  induction d with
  | zero =>
    intro s i h hi hs hd
    exact ⟨s, Ev.step (fun k => by rw [spec_DrawBpe.l0]) (Ev.neg (by omega) (Ev.now _)), by omega⟩
  | succ d ih =>
    intro s i h hi hs hd
    by_cases c : (s.size : Int) < (n : Int)
    · obtain ⟨x, i1, h1, e1, hx, hi1⟩ := spec_l1Pick_ex b hb i h hi [(⟨#[97]⟩ : ByteArray), (⟨#[98]⟩ : ByteArray)] (by simp)
      have hsz : x.size = 1 := by
        simp only [List.mem_cons, List.not_mem_nil, or_false] at hx
        rcases hx with rfl | rfl <;> decide
      have hz : (s ++ x).size = s.size + x.size := ByteArray.size_append
      obtain ⟨s', e, l2⟩ := ih (s ++ x) i1 h1 hi1 (by omega) (by omega)
      exact ⟨s', Ev.step (fun k => by rw [spec_DrawBpe.l0]) (Ev.pos c (Ev.bind0 e1 (Ev.pos (show s.size + x.size ≤ 9223372036854775807 by omega) e))), l2⟩
    · exact ⟨s, Ev.step (fun k => by rw [spec_DrawBpe.l0]) (Ev.neg c (Ev.now _)), by omega⟩
theorem spec_DrawBpe_ex (l : List Int) (hl : l.length ≤ 4000000) : ∃ v s, Ev (fun k => spec_DrawBpe.f k l) (v, s) ∧ v.length ≤ 906 ∧ s.size ≤ 30000 := by
  obtain ⟨h, e0⟩ := spec_l1New_ex l
  obtain ⟨n, en, hn0, hn⟩ := spec_l1Size_ex l hl 20 (by omega)
  obtain ⟨v, i1, h1, e1, hv, hi1⟩ := spec_l7Any_ex l hl 0 h ⟨by omega, by omega⟩ n hn0 (by omega)
  obtain ⟨s, i2, h2, e2, hs, hi2⟩ := spec_l8Word_ex l hl i1 h1 hi1 v n hn0 (by omega)
  obtain ⟨o, i3, h3, e3, hi3⟩ := spec_l1Once_ex l hl i2 h2 hi2 20
  unfold spec_DrawBpe.f
  cases o with
  | false => exact ⟨v, s, Ev.bind e0 (Ev.bind0 en (Ev.bind e1 (Ev.bind0 en (Ev.bind e2 (Ev.bind0 e3 (Ev.neg (by simp) (Ev.now _))))))), hv, hs⟩
  | true =>
    obtain ⟨x, i4, h4, e4, hx, hi4⟩ := spec_l1Below_ex l hl i3 h3 hi3 2
    have hx2 := hx.2.2 (by omega)
    obtain ⟨m, rfl⟩ := Int.eq_ofNat_of_zero_le hx.1
    have hm : 64 + m ≤ 1000 := by omega
    have ed : wrap64 (64 + (m : Int)) = ((64 + m : Nat) : Int) := by rw [w64 (by omega) (by omega)]; omega
    have hz : (⟨#[]⟩ : ByteArray).size = 0 := rfl
    obtain ⟨s', e, l2⟩ := spec_DrawBpe_l0 l hl v (64 + m) hm (64 + m) (⟨#[]⟩ : ByteArray) i4 h4 hi4 (by rw [hz]; exact Nat.zero_le _) (by rw [hz]; exact Nat.le_of_eq (Nat.zero_add _).symm)
    have e5 : Ev (fun k => spec_DrawBpe.l0 k (⟨#[]⟩ : ByteArray) (wrap64 (64 + (m : Int))) l i4 h4 v) (v, s') := by rw [ed]; exact e
    exact ⟨v, s', Ev.bind e0 (Ev.bind0 en (Ev.bind e1 (Ev.bind0 en (Ev.bind e2 (Ev.bind0 e3 (Ev.pos rfl (Ev.bind0 e4 e5))))))), hv, by omega⟩

theorem laws_sameInts_l0 (a : List Int) (ha : a.length ≤ 1048576) (d : Nat) : ∀ (i : Nat), i + d = a.length → Ev (fun k => laws_sameInts.l0 k a a (i : Int)) true := by
  induction d with
  | zero =>
    intro i hi
    refine Ev.step (fun k => by rw [laws_sameInts.l0]) ?_
    exact Ev.neg (by omega) (Ev.now _)
  | succ d ih =>
    intro i hi
    refine Ev.step (fun k => by rw [laws_sameInts.l0]) ?_
    refine Ev.pos (by omega) (Ev.pos (by omega) (Ev.pos (by omega) (Ev.pos rfl ?_)))
    have := ih (i + 1) (by omega)
    have e1 : ((i + 1 : Nat) : Int) = (i : Int) + 1 := by omega
    rw [e1] at this
    rw [w64 (by omega) (by omega)]
    exact this
theorem laws_sameInts_ev (a : List Int) (ha : a.length ≤ 1048576) : Ev (fun k => laws_sameInts.f k a a) true := by
  unfold laws_sameInts.f
  exact Ev.pos rfl (laws_sameInts_l0 a ha a.length 0 (by omega))

theorem laws_big_eq (l : List Int) : laws_big.f l = some (decide ((l.length : Int) > 1048576)) := rfl

theorem place_l0 (xs ys zs : List Int) (a c : Int) (hne : c ≠ a) (hl : xs.length ≤ 100000) (d : Nat) : ∀ (i : Nat), i + d = xs.length →
    Ev (fun k => laws_place.l0 k (xs ++ c :: ys) (xs ++ a :: zs) (i : Int)) (xs.length : Int) := by
  induction d with
  | zero =>
    intro i hi
    have e : i = xs.length := by omega
    subst e
    refine Ev.step (fun k => by rw [laws_place.l0]) ?_
    have g1 : (xs ++ c :: ys).length = xs.length + (ys.length + 1) := by simp
    have g2 : (xs ++ a :: zs).length = xs.length + (zs.length + 1) := by simp
    rw [rd_get _ xs.length (by omega), rd_get _ xs.length (by omega)]
    refine Ev.pos (by omega) (Ev.neg (by omega) (Ev.pos (by omega) (Ev.pos (by omega) (Ev.neg ?_ (Ev.now _)))))
    simpa using hne
  | succ d ih =>
    intro i hi
    refine Ev.step (fun k => by rw [laws_place.l0]) ?_
    have g1 : (xs ++ c :: ys).length = xs.length + (ys.length + 1) := by simp
    have g2 : (xs ++ a :: zs).length = xs.length + (zs.length + 1) := by simp
    have R := ih (i + 1) (by omega)
    have e1 : ((i + 1 : Nat) : Int) = (i : Int) + 1 := by omega
    rw [e1] at R
    rw [rd_get _ i (by omega), rd_get _ i (by omega), w64 (by omega) (by omega)]
    refine Ev.pos (by omega) (Ev.neg (by omega) (Ev.pos (by omega) (Ev.pos (by omega) (Ev.pos ?_ R))))
    rw [List.getElem_append_left (by omega), List.getElem_append_left (by omega)]
theorem prs_take (v : List PI) (n : Nat) : prs (v.take n) = (prs v).take n := by simp [prs, List.map_take]
theorem onemore_j2 (v sh : List PI) (hv : v.length ≤ 1000) (hs : sh.length ≤ 1000) (s : ByteArray) (ho : vocabOk (prs v) = true) (ho2 : vocabOk (prs sh) = true) (hz : s.size ≤ 64) (hle : (bpeV (prs v) s).length ≤ (bpeV (prs sh) s).length) :
    Ev (fun k => laws_FnOneMore.j2 k s (bpeV (prs v) s) v sh) true := by
  have hb := bpeV_length (prs v) s
  have e : bpeOut (prs v) s = bpeV (prs v) s := by unfold bpeOut; rw [if_pos ho, if_neg (by omega)]
  have e2 : bpeOut (prs sh) s = bpeV (prs sh) s := by unfold bpeOut; rw [if_pos ho2, if_neg (by omega)]
  have h1 := impl_Bpe_ev v (by omega) s
  have h2 := spec_Bpe_ev v (by omega) s
  have h3 := spec_Bpe_ev sh (by omega) s
  have hq := laws_sameInts_ev (bpeV (prs v) s) (by omega)
  rw [e] at h1 h2
  rw [e2] at h3
  refine Ev.step (fun k => by rw [laws_FnOneMore.j2]) ?_
  exact Ev.bind h1 (Ev.bind hq (Ev.pos rfl (Ev.bind h2 (Ev.bind hq (Ev.pos rfl (Ev.bind h3 (Ev.val _ _ (decide_eq_true (by omega)))))))))
theorem onemore_l0 (v : List PI) (hv : v.length ≤ 1000) (n : Nat) (hn : v.length = n + 1) (s : ByteArray) (ho : vocabOk (prs v) = true) (hz : s.size ≤ 64) (d : Nat) : ∀ (i : Nat) (ts : List Int), i + d = s.size → ts.length ≤ 64 → toksIn (prs v).length ts = true →
    (leastV ((prs v).take n) ts).1 < 0 → bpeFrom (prs v) d ts = bpeV (prs v) s → ts.length ≤ (bpeV (prs (v.take n)) s).length →
    Ev (fun k => laws_FnOneMore.l0 k s (n : Int) ts (i : Int) v (v.take n)) true := by
  have ho2 : vocabOk (prs (v.take n)) = true := by rw [prs_take]; exact vocabOk_take ho n
  have hn2 : (prs v).length = n + 1 := by rw [prs_length]; exact hn
  induction d with
  | zero =>
    intro i ts hi ht hin hst hb hle
    rw [bpeFrom] at hb
    subst hb
    refine Ev.step (fun k => by rw [laws_FnOneMore.l0]) ?_
    exact Ev.neg (by omega) (onemore_j2 v (v.take n) hv (by rw [List.length_take]; omega) s ho ho2 hz hle)
  | succ d ih =>
    intro i ts hi ht hin hst hb hle
    have hm := impl_MergeOnce_ev v ts (by omega) (by omega)
    rw [onceV_in ho hin (by omega)] at hm
    refine Ev.step (fun k => by rw [laws_FnOneMore.l0]) ?_
    refine Ev.pos (by omega) ?_
    rw [bpeFrom] at hb
    by_cases c : (leastV (prs v) ts).1 < 0
    · rw [if_pos c] at hm hb
      subst hb
      exact Ev.bind hm (Ev.neg (show ¬ (false = true) by simp) (onemore_j2 v (v.take n) hv (by rw [List.length_take]; omega) s ho ho2 hz hle))
    · rw [if_neg c] at hm hb
      have hk := merged_keeps ho c
      have hms := merge_stable ho hn2 hst c
      have hl := least_last hn2 hst c
      have R := ih (i + 1) (mergedV ts (leastV (prs v) ts).1 (leastV (prs v) ts).2) (by omega) (by omega) (hk.2.1 hin) hms hb (by omega)
      have hlen := hk.2.2
      obtain ⟨xs, a, b, ys, r, hr, es, el, ev, em⟩ := least_split c
      rw [el] at hl
      simp only at hl
      have er : r = n := by omega
      subst er
      have hp := (tokV_spec ho r hr).1
      rw [ev] at hp
      unfold pairOk at hp
      simp only at hp
      rw [em] at hm R hlen
      have hx : xs.length + 2 ≤ ts.length := by rw [es]; simp
      have pl := place_l0 xs ys (b :: ys) a (256 + (r : Int)) (by omega) (by omega) xs.length 0 (by omega)
      rw [← es] at pl
      have e1 : ((i + 1 : Nat) : Int) = (i : Int) + 1 := by omega
      rw [e1] at R
      refine Ev.bind hm (Ev.pos rfl (Ev.bind (a := (xs.length : Int)) ?_ ?_))
      · unfold laws_place.f; exact pl
      · have g1 : (xs ++ (256 + (r : Int)) :: ys).length = xs.length + (ys.length + 1) := by simp
        simp only
        rw [rd_get _ xs.length (by omega), w64 (x := 256 + (r : Int)) (by omega) (by omega), w64 (x := (i : Int) + 1) (by omega) (by omega)]
        exact Ev.pos (by omega) (Ev.pos (by omega) (Ev.pos (by simp) R))
theorem FnOneMore : laws_FnOneMore.Pure := by
  intro l hl
  refine Ev.rounds (g := fun k => laws_FnOneMore.f k l) ?_
  unfold laws_FnOneMore.f
  refine Ev.bind0 (laws_big_eq l) ?_
  by_cases c : (l.length : Int) > 1048576
  · exact Ev.pos (decide_eq_true c) (Ev.now _)
  · refine Ev.neg (by simpa using c) ?_
    obtain ⟨v, s, e, hv, hs⟩ := spec_DrawBpe_ex l (by omega)
    refine Ev.bind e (Ev.bind (spec_VocabOk_ev v) ?_)
    have jt : Ev (fun k => laws_FnOneMore.j0 k s true v) true := by
      refine Ev.step (fun k => by rw [laws_FnOneMore.j0]) ?_
      exact Ev.pos rfl (Ev.now _)
    by_cases c1 : vocabOk (prs v) = true
    · refine Ev.pos c1 ?_
      by_cases c0 : (v.length : Int) = 0
      · exact Ev.pos c0 jt
      · refine Ev.neg c0 ?_
        by_cases c2 : (s.size : Int) > 64
        · simp only [decide_eq_true c2]; exact jt
        · simp only [decide_eq_false c2]
          obtain ⟨n, hn⟩ : ∃ n, v.length = n + 1 := ⟨v.length - 1, by omega⟩
          have e1 : wrap64 ((v.length : Int) - 1) = (n : Int) := by rw [w64 (by omega) (by omega)]; omega
          have hb := impl_Bpe_ev (v.take n) (by rw [List.length_take]; omega) s
          have ho2 : vocabOk (prs (v.take n)) = true := by rw [prs_take]; exact vocabOk_take c1 n
          have eo : bpeOut (prs (v.take n)) s = bpeV (prs (v.take n)) s := by unfold bpeOut; rw [if_pos ho2, if_neg c2]
          rw [eo] at hb
          have hz := bpeV_length (prs (v.take n)) s
          have hkp := bpeV_keeps ho2 s
          have two := bpeFrom_two (prs v) n s.size (bl s) (by rw [bl_length]; omega)
          have R := onemore_l0 v (by omega) n hn s c1 (by omega) s.size 0 (bpeV (prs (v.take n)) s) (by omega) (by omega) ?_ (by rw [← prs_take]; exact hkp.2.2) (by rw [prs_take]; exact two.symm) (Nat.le_refl _)
          · refine Ev.step (fun k => by rw [laws_FnOneMore.j0]) ?_
            rw [e1, Int.toNat_natCast]
            refine Ev.neg (show ¬ (false = true) by simp) (Ev.bind0 rfl (Ev.pos (Int.natCast_nonneg _) (Ev.pos (by omega) (Ev.bind0 rfl (Ev.pos ?_ (Ev.bind0 rfl (Ev.bind hb R)))))))
            show 0 + (v.take n).length < 8796093022208
            rw [List.length_take]; omega
          · have h1 := hkp.2.1
            unfold toksIn at h1 ⊢
            rw [List.all_eq_true] at h1 ⊢
            intro t ht
            have := h1 t ht
            rw [decide_eq_true_iff] at this ⊢
            rw [prs_length, List.length_take] at this
            rw [prs_length]
            exact ⟨this.1, by have := this.2; omega⟩
    · exact Ev.neg c1 jt

end Go.Proofs.Ytopnfbnfmaghaaa.Pure
