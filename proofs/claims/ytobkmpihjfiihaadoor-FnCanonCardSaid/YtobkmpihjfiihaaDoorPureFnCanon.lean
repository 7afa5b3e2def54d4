/- The pure statement of the law FnCanon is proved: for all arguments within the stated bounds the printed function answers true. Conditions: none beyond those bounds. -/
import Derived.Test.YtobkmpihjfiihaaDoorPFnCanonx17
import Derived.Laws.BitsLemmas
import Derived.Lib.Strings
namespace Go.Proofs.YtobkmpihjfiihaaDoor.Pure
open Go Go.RowKit Go.Proofs.YtobkmpihjfiihaaDoor.PFnCanon Go.Proofs.YtobkmpihjfiihaaDoorW.PrintWords Go.Proofs.YtobkmpihjfiihaaDoorW.PrintLast Go.Proofs.YtobkmpihjfiihaaDoorW.PrintMore
set_option linter.unusedVariables false
set_option linter.unusedSimpArgs false

/-! ### Base: rounds, whole numbers, bits, byte strings (no program in sight) -/
theorem Ev.pos {α : Type} {c : Prop} [Decidable c] {g f : Nat → Option α} {r : α} (h : c) (e : Ev g r) : Ev (fun k => if c then g k else f k) r := by
 simpa only [if_pos h] using e
theorem Ev.neg {α : Type} {c : Prop} [Decidable c] {g f : Nat → Option α} {r : α} (h : ¬ c) (e : Ev f r) : Ev (fun k => if c then g k else f k) r := by
 simpa only [if_neg h] using e
theorem Ev.val {α : Type} (r s : α) (h : r = s) : Ev (fun _ => some r) s := by subst h; exact Ev.now _
theorem Ev.bind0 {α β : Type} {o : Option α} {f : Nat → α → Option β} {a : α} {r : β} (h : o = some a) (k : Ev (fun n => f n a) r) : Ev (fun n => o.bind (f n)) r := by
 subst h; simpa only [Option.bind_some] using k
theorem Ev.and {α β : Type} {g : Nat → Option α} {f : Nat → Option β} {r : α} {s : β} (h : Ev g r) (k : Ev f s) : ∃ K, ∀ n, K ≤ n → g n = some r ∧ f n = some s := by
 obtain ⟨K, h⟩ := h
 obtain ⟨L, k⟩ := k
 exact ⟨max K L, fun n hn => ⟨h n (by omega), k n (by omega)⟩⟩

theorem Ev.ite {α : Type} {c d : Prop} [Decidable c] [Decidable d] {g f : Nat → Option α} {a b : α} (h : c ↔ d) (e : d → Ev g a) (e' : ¬ d → Ev f b) : Ev (fun k => if c then g k else f k) (if d then a else b) := by
 by_cases x : d
 ·rw [if_pos x]; exact Ev.pos (h.2 x) (e x)
 ·rw [if_neg x]; exact Ev.neg (fun y => x (h.1 y)) (e' x)
theorem w64 {x : Int} (h0 : -9223372036854775808 ≤ x) (h1 : x ≤ 9223372036854775807) : wrap64 x = x := by unfold wrap64; omega
theorem tdiv_nn {x y : Int} (h : 0 ≤ x) : Int.tdiv x y = x / y := Int.tdiv_eq_ediv_of_nonneg h
theorem tmod_nn {x y : Int} (h : 0 ≤ x) : Int.tmod x y = x % y := Int.tmod_eq_emod_of_nonneg h

theorem wraps_i64 (n : Int) (h₀ : 0 ≤ n) (h₁ : n < 2 ^ 63) : IntKind.i64.wrap n = n := by rw [IntKind.wrap_i64]; omega
theorem and_mask (i : Nat) (hi : i ≤ 63) (x : Int) (h0 : 0 ≤ x) (h1 : x < 9223372036854775808) : Go.bits .and .i64 x (2 ^ i - 1) = x % 2 ^ i :=
 bits_mask .i64 63 (by decide) wraps_i64 i hi x h0 h1
theorem and127 {x : Int} (h0 : 0 ≤ x) (h1 : x < 9223372036854775808) : Go.bits .and .i64 x 127 = x % 128 := and_mask 7 (by decide) x h0 h1
theorem and255 {x : Int} (h0 : 0 ≤ x) (h1 : x < 9223372036854775808) : Go.bits .and .i64 x 255 = x % 256 := and_mask 8 (by decide) x h0 h1
theorem or_join (i : Nat) (x y : Int) (hx : 0 ≤ x) (hm : x % 2 ^ i = 0) (hx1 : x < 9223372036854775808) (hy : 0 ≤ y) (hy1 : y < 2 ^ i) (hy2 : y < 9223372036854775808) : Go.bits .or .i64 x y = x + y :=
 bits_join .i64 63 (by decide) wraps_i64 i x y hx hm hx1 hy hy1 hy2
theorem bits_or_comm (k : IntKind) (x y : Int) : Go.bits .or k x y = Go.bits .or k y x := by simp only [Go.bits, BitVec.or_comm]
theorem or_join' (i : Nat) (x y : Int) (hx : 0 ≤ x) (hm : x % 2 ^ i = 0) (hx1 : x < 9223372036854775808) (hy : 0 ≤ y) (hy1 : y < 2 ^ i) (hy2 : y < 9223372036854775808) : Go.bits .or .i64 y x = x + y := by
 rw [bits_or_comm]; exact or_join i x y hx hm hx1 hy hy1 hy2
theorem u8_and127 {x : Int} (h0 : 0 ≤ x) (h1 : x < 256) : Go.bits .and .u8 x 127 = x % 128 := bits_mask .u8 8 (by decide) wraps_u8 7 (by decide) x h0 h1
theorem wbt (s : ByteArray) (i : Int) : wrap64 (bt s i) = bt s i := by have := bt_range s i; exact w64 (by omega) (by omega)
theorem strOf_append (xs ys : List Int) : strOfNums xs ++ strOfNums ys = strOfNums (xs ++ ys) := by
 apply ByteArray.ext
 rw [ByteArray.data_append]
 simp [strOfNums]
theorem strOf_size (xs : List Int) : (strOfNums xs).size = xs.length := by simp [strOfNums, ByteArray.size]
theorem strOf_nil : (⟨#[]⟩ : ByteArray) = strOfNums [] := rfl
theorem cast_pow256 (d : Nat) : ((256 ^ d : Nat) : Int) = (256 : Int) ^ d := Int.natCast_pow 256 d
theorem lt_pow256 (m d : Nat) : ((m : Int) < 256 ^ d) = (m < 256 ^ d) := by
 rw [← cast_pow256]; exact propext Int.ofNat_lt
/-! ### Str: a byte string as the list of its numbers -/
def IsB (xs : List Int) : Prop := ∀ x ∈ xs, 0 ≤ x ∧ x ≤ 255
def bl (s : ByteArray) : List Int := s.data.toList.map fun b => (b.toNat : Int)
theorem bl_length (s : ByteArray) : (bl s).length = s.size := by unfold bl; rw [List.length_map]; rfl
theorem strOf_bl (s : ByteArray) : strOfNums (bl s) = s := by
 apply ByteArray.ext
 apply Array.ext'
 unfold strOfNums bl
 rw [List.map_map]
 have : ((fun n : Int => UInt8.ofNat n.toNat) ∘ fun b : UInt8 => (b.toNat : Int)) = id := by
  funext b
  simp only [Function.comp_apply, Int.toNat_natCast, UInt8.ofNat_toNat, id]
 rw [this, List.map_id]
theorem bl_strOf {xs : List Int} (h : IsB xs) : bl (strOfNums xs) = xs := by
 induction xs with
 | nil => rfl
 | cons a l ih =>
  have ha := h a (by simp)
  have hl := ih (fun x hx => h x (by simp [hx]))
  simp only [bl, strOfNums, List.map_cons, List.toList_toArray] at hl ⊢
  rw [hl]
  congr 1
  simp only [UInt8.toNat_ofNat']
  omega
theorem bl_append (s t : ByteArray) : bl (s ++ t) = bl s ++ bl t := by simp [bl, ByteArray.data_append]
theorem bl_extract (s : ByteArray) (a b : Nat) : bl (s.extract a b) = ((bl s).drop a).take (b - a) := by
 simp [bl, ByteArray.data_extract, List.extract_eq_take_drop, List.map_take, List.map_drop]
theorem bl_inj {s t : ByteArray} (h : bl s = bl t) : s = t := by rw [← strOf_bl s, ← strOf_bl t, h]
theorem tl_iff (s t : ByteArray) : s.toList = t.toList ↔ s = t := by
 constructor
 ·intro h
  rw [Go.Lib.toList_data, Go.Lib.toList_data] at h
  exact ByteArray.ext (Array.ext' h)
 ·intro h; rw [h]
theorem bt_bl (s : ByteArray) (i : Int) : bt s i = rd (bl s) i := by
 unfold bt rd bl
 split
 ·rename_i h
  have h' : i.toNat < s.data.toList.length := h
  rw [List.getD_eq_getElem?_getD, List.getElem?_map, List.getElem?_eq_getElem h']
  simp only [Option.map_some, Option.getD_some]
  rfl
 ·rename_i h
  have h' : ¬ i.toNat < s.data.toList.length := h
  rw [List.getD_eq_getElem?_getD, List.getElem?_map, List.getElem?_eq_none (by omega)]
  rfl
theorem bt_nat (s : ByteArray) (i : Nat) (h : i < s.size) : bt s (i : Int) = (bl s)[i]'(by rw [bl_length]; exact h) := by
 rw [bt_bl]
 unfold rd
 rw [Int.toNat_natCast, List.getD_eq_getElem?_getD, List.getElem?_eq_getElem (by rw [bl_length]; exact h)]
 rfl
theorem isB_nil : IsB [] := fun _ h => by cases h
theorem isB_append {xs ys : List Int} (h : IsB xs) (k : IsB ys) : IsB (xs ++ ys) := fun x hx => (List.mem_append.1 hx).elim (h x) (k x)
theorem isB_cons {x : Int} {ys : List Int} (h : 0 ≤ x ∧ x ≤ 255) (k : IsB ys) : IsB (x :: ys) := by
 intro y hy
 rcases List.mem_cons.1 hy with e | e
 ·subst e; exact h
 ·exact k y e
instance instDecEqBytes : DecidableEq ByteArray := fun a b => decidable_of_iff (a.toList = b.toList) (tl_iff a b)
instance instDecMemBytes (x : ByteArray) : (l : List ByteArray) → Decidable (x ∈ l)
 | [] => .isFalse (by simp)
 | y :: l => if h : x = y then .isTrue (by simp [h]) else (match instDecMemBytes x l with
  | .isTrue k => .isTrue (by simp [k])
  | .isFalse k => .isFalse (by simp [h, k]))

/-! ### vocabularies: the tokens that merges make -/
def tokB (out : List ByteArray) (id : Int) : ByteArray := if id < 256 then strOfNums [id % 256] else rdOf ByteArray.empty out (id - 256)
abbrev pairOk (i : Nat) (p : Int × Int) : Prop := (0 ≤ p.1 ∧ p.1 ≤ 255 + (i : Int)) ∧ (0 ≤ p.2 ∧ p.2 ≤ 255 + (i : Int))
def tokLoop : List (Int × Int) → List ByteArray → List ByteArray × Bool
 | [], out => (out, true)
 | p :: l, out => if pairOk out.length p then (if 24 < (tokB out p.1 ++ tokB out p.2).size ∨ (tokB out p.1 ++ tokB out p.2) ∈ out then (out, false) else tokLoop l (out ++ [tokB out p.1 ++ tokB out p.2])) else (out, false)
def tokV (l : List (Int × Int)) : List ByteArray × Bool := if 60 < l.length then ([], false) else tokLoop l []
def vocabOk (l : List (Int × Int)) : Bool := (tokV l).2
def Short (out : List ByteArray) : Prop := ∀ s ∈ out, s.size ≤ 24
theorem rdOf_mem {out : List ByteArray} {i : Int} (h0 : 0 ≤ i) (h1 : i < out.length) : rdOf ByteArray.empty out i ∈ out := by
 have h : i.toNat < out.length := by omega
 unfold rdOf
 rw [List.getD_eq_getElem?_getD, List.getElem?_eq_getElem h]
 exact List.getElem_mem h
theorem tokB_size {out : List ByteArray} (hs : Short out) {id : Int} (h0 : 0 ≤ id) (h1 : id ≤ 255 + (out.length : Int)) : (tokB out id).size ≤ 24 := by
 unfold tokB
 split
 ·rw [strOf_size]; simp
 ·exact hs _ (rdOf_mem (by omega) (by omega))
theorem short_snoc {out : List ByteArray} (hs : Short out) {t : ByteArray} (ht : t.size ≤ 24) : Short (out ++ [t]) := by
 intro s h
 rcases List.mem_append.1 h with h | h
 ·exact hs s h
 ·rw [List.mem_singleton.1 h]; exact ht
theorem short_nil : Short [] := fun _ h => by cases h
theorem rdOf_drop (out : List ByteArray) (j : Nat) (h : j < out.length) : out.drop j = rdOf ByteArray.empty out (j : Int) :: out.drop (j + 1) := by
 unfold rdOf
 rw [Int.toNat_natCast, List.getD_eq_getElem?_getD, List.getElem?_eq_getElem h]
 exact List.drop_eq_getElem_cons h
theorem tokV_60 {l : List (Int × Int)} (h : vocabOk l = true) : l.length ≤ 60 := by
 unfold vocabOk tokV at h
 split at h
 ·cases h
 ·omega
/-! ### what Var makes -/
def varL (n : Nat) : List Int := if n < 128 then [(n : Int)] else ((n % 128 + 128 : Nat) : Int) :: varL (n / 128)
termination_by n
decreasing_by omega

theorem varL_small {n : Nat} (h : n < 128) : varL n = [(n : Int)] := by rw [varL, if_pos h]
theorem varL_big {n : Nat} (h : ¬ n < 128) : varL n = ((n % 128 + 128 : Nat) : Int) :: varL (n / 128) := by rw [varL, if_neg h]
theorem varL_isB (n : Nat) : IsB (varL n) := by
 induction n using Nat.strongRecOn with
 | ind n ih =>
 by_cases c : n < 128
 ·rw [varL_small c]; exact isB_cons (by omega) isB_nil
 ·rw [varL_big c]; exact isB_cons (by omega) (ih _ (by omega))
theorem varL_pos (n : Nat) : 0 < (varL n).length := by
 rw [varL]; split <;> simp
/-- All bytes but the last are 128 or more; the last is less. -/
theorem varL_shape (n : Nat) : ∀ (j : Nat) (h : j < (varL n).length), (j + 1 = (varL n).length → (varL n)[j] < 128) ∧ (j + 1 < (varL n).length → 128 ≤ (varL n)[j]) := by
 induction n using Nat.strongRecOn with
 | ind n ih =>
 intro j h
 by_cases c : n < 128
 ·have e := varL_small c
  simp only [e, List.length_singleton] at h ⊢
  obtain rfl : j = 0 := by omega
  simp
  omega
 ·have e := varL_big c
  simp only [e, List.length_cons] at h ⊢
  cases j with
  | zero =>
   have := varL_pos (n / 128)
   simp only [List.getElem_cons_zero]
   exact ⟨fun k => by omega, fun _ => by omega⟩
  | succ j =>
   simp only [List.getElem_cons_succ]
   have := ih (n / 128) (by omega) j (by omega)
   exact ⟨fun k => this.1 (by omega), fun k => this.2 (by omega)⟩
/-- A beginning of a text that is a Var: where the bytes are less than 128. -/
theorem var_at {s : ByteArray} {n k : Nat} (hk : k ≤ s.size) (h : (strOfNums (varL n)).toList = (s.extract 0 k).toList) :
  0 < k ∧ ∀ j, j < k → (j + 1 = k → bt s (j : Int) < 128) ∧ (j + 1 < k → 128 ≤ bt s (j : Int)) := by
 have e := (tl_iff _ _).1 h
 have e2 : varL n = (bl s).take k := by
  have := congrArg bl e
  rw [bl_strOf (varL_isB n), bl_extract] at this
  simpa using this
 have hl : (varL n).length = k := by rw [e2, List.length_take, bl_length]; omega
 refine ⟨by have := varL_pos n; omega, fun j hj => ?_⟩
 have hs := varL_shape n j (by omega)
 have hb : bt s (j : Int) = (varL n)[j]'(by omega) := by
  rw [bt_nat s j (by omega)]
  simp only [e2, List.getElem_take]
 rw [hb]
 exact ⟨fun h => hs.1 (by omega), fun h => hs.2 (by omega)⟩

theorem varL_le7 {n : Nat} (h : n ≤ 562949953421311) : (varL n).length ≤ 7 := by
 have : ∀ (k n : Nat), n < 128 ^ (k + 1) → (varL n).length ≤ k + 1 := by
  intro k
  induction k with
  | zero => intro n h; rw [varL_small (by simpa using h)]; simp
  | succ k ih =>
   intro n h
   by_cases c : n < 128
   ·rw [varL_small c]; simp
   ·rw [varL_big c]
    have := ih (n / 128) (by rw [Nat.pow_succ] at h; omega)
    simpa using this
 exact this 6 n (by omega)

/-! ### the canonical text -/
theorem tokLoop_pairs : ∀ (l : List (Int × Int)) (out : List ByteArray), (tokLoop l out).2 = true → out.length + l.length ≤ 60 → ∀ p ∈ l, 0 ≤ p.1 ∧ p.1 ≤ 315 ∧ 0 ≤ p.2 ∧ p.2 ≤ 315
 | [], _, _, _, p, hp => by cases hp
 | q :: l, out, h, hl, p, hp => by
  rw [tokLoop] at h
  split at h
  ·rename_i c
   split at h
   ·cases h
   ·simp only [List.length_cons] at hl
    rcases List.mem_cons.1 hp with e | hp
    ·subst e; unfold pairOk at c; omega
    ·exact tokLoop_pairs l _ h (by simp; omega) p hp
  ·cases h
theorem vocab_pairs {l : List (Int × Int)} (h : vocabOk l = true) : ∀ p ∈ l, 0 ≤ p.1 ∧ p.1 ≤ 315 ∧ 0 ≤ p.2 ∧ p.2 ≤ 315 := by
 have h60 := tokV_60 h
 unfold vocabOk tokV at h
 rw [if_neg (by omega)] at h
 exact tokLoop_pairs l [] h (by simpa using h60)
def pairsL : List (Int × Int) → List Int
 | [] => []
 | p :: l => varL p.1.toNat ++ varL p.2.toNat ++ pairsL l
def canonL (l : List (Int × Int)) : List Int := [98, 112, 101] ++ varL l.length ++ pairsL l
def canonV (l : List (Int × Int)) : ByteArray := if vocabOk l = true then strOfNums (canonL l) else strOfNums []

/-! ### what Fixed makes, and what ReadFixed reads -/
def fixL : Nat → Nat → List Int
 | 0, _ => []
 | w + 1, n => fixL w (n / 256) ++ [((n % 256 : Nat) : Int)]
theorem fixL_length : ∀ (w n : Nat), (fixL w n).length = w
 | 0, _ => rfl
 | w + 1, n => by simp [fixL, fixL_length w]
theorem set_replicate (i : Nat) (v : Int) (xs : List Int) : (List.replicate (i + 1) 0 ++ xs).set i v = List.replicate i 0 ++ (v :: xs) := by
 rw [List.replicate_succ', List.append_assoc, List.set_append_right _ _ (by simp)]
 simp
/-- What Fixed(n, w) is. -/
def fixedV (n w : Int) : List Int := if 1 ≤ w ∧ w ≤ 7 ∧ 0 ≤ n ∧ n < 256 ^ w.toNat then fixL w.toNat n.toNat else []
/-! ### Sha: what both sides make of a text (shaB, wds, wds2, rnds, addsV, rotV: the walk's own words) -/
theorem int_toNat_nat (i : Nat) : (i : Int).toNat = i := Int.toNat_natCast i
theorem rd_nat (l : List Int) (i : Nat) : rd l (i : Int) = l.getD i 0 := by unfold rd; rw [Int.toNat_natCast]
/-- n blocks of a text from place i on. -/
def blkV (p : ByteArray) : Nat → Nat → List Int → List Int
 | 0, _, s => s
 | n + 1, i, s => blkV p n (i + 64) (shaB s (p.extract i (i + 64)))
theorem blkV_add (p : ByteArray) (n : Nat) : ∀ (m i : Nat) (s : List Int), blkV p (n + m) i s = blkV p m (i + 64 * n) (blkV p n i s) := by
 induction n with
 | zero => intro m i s; simp [blkV]
 | succ n ih => intro m i s; rw [show n + 1 + m = (n + m) + 1 by omega]; simp only [blkV]; rw [ih, show i + 64 + 64 * n = i + 64 * (n + 1) by omega]
def U32s (s : List Int) : Prop := s.length = 8 ∧ ∀ x ∈ s, 0 ≤ x ∧ x < 4294967296
theorem shaInit_u : U32s shaInit := by
 refine ⟨rfl, fun x hx => ?_⟩
 simp only [shaInit, List.mem_cons, List.not_mem_nil, or_false] at hx
 omega
def addL (s v : List Int) : Nat → List Int
 | 0 => []
 | n + 1 => addL s v n ++ [(s.getD n 0 + v.getD n 0) % 4294967296]
theorem addL_length (s v : List Int) (n : Nat) : (addL s v n).length = n := by
 induction n with
 | zero => rfl
 | succ n ih => simp [addL, ih]
theorem addL_u (s v : List Int) (n : Nat) : ∀ x ∈ addL s v n, 0 ≤ x ∧ x < 4294967296 := by
 induction n with
 | zero => intro x hx; cases hx
 | succ n ih =>
  intro x hx
  simp only [addL, List.mem_append, List.mem_singleton] at hx
  rcases hx with hx | rfl
  ·exact ih x hx
  ·omega
theorem addsV_addL (s v : List Int) (h : s.length = 8) : addsV s v 8 = addL s v 8 := by
 obtain ⟨s0, s1, s2, s3, s4, s5, s6, s7, rfl⟩ := eight s h
 rfl
theorem shaB_u (s : List Int) (b : ByteArray) (h : s.length = 8) : U32s (shaB s b) := by
 unfold shaB
 rw [addsV_addL _ _ h]
 exact ⟨addL_length _ _ _, addL_u _ _ _⟩
theorem blkV_u (p : ByteArray) (n : Nat) : ∀ (i : Nat) (s : List Int), U32s s → U32s (blkV p n i s) := by
 induction n with
 | zero => intro i s h; exact h
 | succ n ih => intro i s h; exact ih _ _ (shaB_u _ _ h.1)
theorem blkV_congr (p q : ByteArray) (n : Nat) : ∀ (i j : Nat) (s : List Int), (∀ d, d < n → p.extract (i + 64 * d) (i + 64 * d + 64) = q.extract (j + 64 * d) (j + 64 * d + 64)) → blkV p n i s = blkV q n j s := by
 induction n with
 | zero => intro i j s h; rfl
 | succ n ih =>
  intro i j s h
  simp only [blkV]
  have h0 := h 0 (by omega)
  simp only [Nat.mul_zero, Nat.add_zero] at h0
  rw [h0]
  exact ih _ _ _ fun d hd => by
   have := h (d + 1) (by omega)
   rwa [show i + 64 * (d + 1) = i + 64 + 64 * d by omega, show j + 64 * (d + 1) = j + 64 + 64 * d by omega] at this
/-- The words of a state as a text. -/
def outL : List Int → List Int
 | [] => []
 | x :: r => fixedV x 4 ++ outL r
theorem fixedV_len (n w : Int) : (fixedV n w).length ≤ 7 := by
 unfold fixedV
 split
 ·rw [fixL_length]; omega
 ·simp
/-- What stands behind a text of n bytes. -/
def zerosV (n : Nat) : Nat := (64 - (n + 9) % 64) % 64
def tailL (n : Nat) : List Int := 128 :: (List.replicate (zerosV n + 1) 0 ++ fixedV (8 * (n : Int)) 7)
def padV (a : ByteArray) : ByteArray := a ++ strOfNums (tailL a.size)
def shaV (a : ByteArray) : ByteArray := strOfNums (outL (blkV (padV a) ((padV a).size / 64) 0 shaInit))
theorem fixedV7_len (n : Nat) (h : n ≤ 140737488351232) : (fixedV (8 * (n : Int)) 7).length = 7 := by
 unfold fixedV
 rw [if_pos (by refine ⟨by omega, by omega, by omega, ?_⟩; have e : (256 : Int) ^ (7 : Int).toNat = 72057594037927936 := (by decide); rw [e]; omega), fixL_length]
 rfl
theorem tailL_len (n : Nat) (h : n ≤ 140737488351232) : (tailL n).length = zerosV n + 9 := by
 unfold tailL
 rw [List.length_cons, List.length_append, List.length_replicate, fixedV7_len n h]
theorem padV_size (a : ByteArray) (h : a.size ≤ 140737488351232) : (padV a).size = a.size + zerosV a.size + 9 := by
 unfold padV
 rw [ByteArray.size_append, strOf_size, tailL_len _ h]
 omega
theorem zerosV_mod (n : Nat) : (n + zerosV n + 9) % 64 = 0 ∧ zerosV n < 64 := by unfold zerosV; omega

theorem pairsL_len14 : ∀ (l : List (Int × Int)), (∀ p ∈ l, 0 ≤ p.1 ∧ p.1 ≤ 315 ∧ 0 ≤ p.2 ∧ p.2 ≤ 315) → (pairsL l).length ≤ 14 * l.length
 | [], _ => by simp [pairsL]
 | p :: l, h => by
  have h0 := h p (by simp)
  have ih := pairsL_len14 l (fun q hq => h q (by simp [hq]))
  have v1 := varL_le7 (n := p.1.toNat) (by omega)
  have v2 := varL_le7 (n := p.2.toNat) (by omega)
  simp only [pairsL, List.length_append, List.length_cons]
  omega
theorem canonV_size (l : List (Int × Int)) : (canonV l).size ≤ 1000 := by
 unfold canonV
 split
 ·rename_i c
  have h60 := tokV_60 c
  have hp := pairsL_len14 l (vocab_pairs c)
  have v := varL_le7 (n := l.length) (by omega)
  rw [strOf_size]
  unfold canonL
  simp only [List.length_append, List.length_cons, List.length_nil]
  omega
 ·rw [strOf_size]; simp
def digestV (l : List (Int × Int)) : ByteArray := if vocabOk l = true then shaV (canonV l) else ⟨#[]⟩

abbrev PI := S76
def prs (l : List PI) : List (Int × Int) := l.map fun p => (p.f0, p.f1)
theorem rdI_drop (l : List PI) (i : Nat) (h : i < l.length) : l.drop i = rd_T76 l (i : Int) :: l.drop (i + 1) := by
 unfold rd_T76
 rw [Int.toNat_natCast, List.getD_eq_getElem?_getD, List.getElem?_eq_getElem h]
 exact List.drop_eq_getElem_cons h
theorem prs_length (l : List PI) : (prs l).length = l.length := by simp [prs]

theorem impl_within_eq (a b c : Int) : impl_within.f a b c = some (decide (b ≤ a ∧ a ≤ c)) := by
 unfold impl_within.f
 by_cases h : a ≥ b
 ·rw [if_pos h]; simp [show b ≤ a from h]
 ·rw [if_neg h]; simp [show ¬ b ≤ a from h]

theorem slices_Index_string_l0 (l : List ByteArray) (x : ByteArray) (hl : l.length ≤ 9223372036854775806) (d : Nat) : ∀ (j : Nat), j + d = l.length →
  ∃ r : Int, Ev (fun k => slices_Index_string_string.l0 k l x (l.length : Int) (j : Int)) r ∧ (0 ≤ r ↔ x ∈ l.drop j) := by
 induction d with
 | zero =>
  intro j hj
  refine ⟨-1, ?_, ?_⟩
  ·refine Ev.step (fun k => by rw [slices_Index_string_string.l0]) ?_
   exact Ev.neg (by omega) (Ev.now _)
  ·rw [List.drop_eq_nil_of_le (by omega)]; simp
 | succ d ih =>
  intro j hj
  obtain ⟨r, h1, h2⟩ := ih (j + 1) (by omega)
  have e1 : ((j + 1 : Nat) : Int) = (j : Int) + 1 := by omega
  rw [e1] at h1
  by_cases c : x.toList = (rdOf ByteArray.empty l (j : Int)).toList
  ·refine ⟨j, ?_, ?_⟩
   ·refine Ev.step (fun k => by rw [slices_Index_string_string.l0]) ?_
    exact Ev.pos (by omega) (Ev.pos (by omega) (Ev.pos (by omega) (Ev.pos c (Ev.now _))))
   ·rw [rdOf_drop l j (by omega), ← (tl_iff _ _).1 c]; simp
  ·refine ⟨r, ?_, ?_⟩
   ·refine Ev.step (fun k => by rw [slices_Index_string_string.l0]) ?_
    refine Ev.pos (by omega) (Ev.pos (by omega) (Ev.pos (by omega) (Ev.neg c ?_)))
    rw [w64 (by omega) (by omega)]
    exact h1
   ·rw [h2, rdOf_drop l j (by omega), List.mem_cons]
    exact ⟨.inr, fun h => h.elim (fun h => absurd (by rw [h]) c) id⟩
theorem slices_Contains_string_ev (l : List ByteArray) (x : ByteArray) (hl : l.length ≤ 9223372036854775806) : Ev (fun k => slices_Contains_string_string.f k l x) (decide (x ∈ l)) := by
 obtain ⟨r, h1, h2⟩ := slices_Index_string_l0 l x hl l.length 0 (by omega)
 unfold slices_Contains_string_string.f slices_Index_string_string.f
 refine Ev.bind h1 (Ev.val _ _ ?_)
 rw [List.drop_zero] at h2
 rw [Bool.eq_iff_iff, decide_eq_true_iff, decide_eq_true_iff]
 exact h2

theorem impl_bytesIn_eq {out : List ByteArray} {id : Int} (h0 : 0 ≤ id) (h1 : id ≤ 255 + (out.length : Int)) (hl : out.length ≤ 100000) : impl_bytesIn.f out id = some (tokB out id) := by
 unfold impl_bytesIn.f tokB
 by_cases c : id < 256
 ·rw [if_pos c, if_pos c]
 ·rw [if_neg c, if_neg c, w64 (by omega) (by omega), if_pos (by omega), if_pos (by omega)]
theorem impl_tokens_l0 (l : List PI) (hl : l.length ≤ 60) (d : Nat) : ∀ (out : List ByteArray), out.length + d = l.length → Short out →
  Ev (fun k => impl_tokens.l0 k out l (l.length : Int) (out.length : Int)) (tokLoop (prs (l.drop out.length)) out) := by
 induction d with
 | zero =>
  intro out ho hs
  refine Ev.step (fun k => by rw [impl_tokens.l0]) ?_
  rw [List.drop_eq_nil_of_le (by omega)]
  exact Ev.neg (by omega) (Ev.now _)
 | succ d ih =>
  intro out ho hs
  refine Ev.step (fun k => by rw [impl_tokens.l0]) ?_
  rw [rdI_drop l out.length (by omega)]
  generalize rd_T76 l (out.length : Int) = p
  rw [w64 (by omega) (by omega)]
  refine Ev.pos (by omega) (Ev.pos (by omega) (Ev.pos (by omega) ?_))
  simp only [prs, List.map_cons, tokLoop]
  have bad : ¬ pairOk out.length (p.f0, p.f1) → Ev (fun k => impl_tokens.j1 k out l (l.length : Int) (out.length : Int) true p.f0 p.f1) (out, false) := by
   intro h
   refine Ev.step (fun k => by rw [impl_tokens.j1]) ?_
   exact Ev.pos rfl (Ev.now _)
  by_cases c : pairOk out.length (p.f0, p.f1)
  ·rw [if_pos c]
   have s0 : (tokB out p.f0).size ≤ 24 := tokB_size hs c.1.1 c.1.2
   have s1 : (tokB out p.f1).size ≤ 24 := tokB_size hs c.2.1 c.2.2
   refine Ev.bind0 (impl_within_eq _ _ _) (Ev.pos (decide_eq_true c.1) (Ev.bind0 (impl_within_eq _ _ _) ?_))
   rw [decide_eq_true c.2]
   refine Ev.step (fun k => by rw [impl_tokens.j1]) ?_
   refine Ev.neg (by simp) (Ev.bind0 (impl_bytesIn_eq c.1.1 c.1.2 (by omega)) (Ev.bind0 (impl_bytesIn_eq c.2.1 c.2.2 (by omega)) (Ev.pos (by omega) ?_)))
   generalize tokB out p.f0 ++ tokB out p.f1 = t
   by_cases c2 : (t.size : Int) > 24
   ·rw [if_pos (.inl (by omega))]
    exact Ev.pos c2 (Ev.now _)
   ·refine Ev.neg c2 (Ev.bind (slices_Contains_string_ev out t (by omega)) ?_)
    by_cases c3 : t ∈ out
    ·rw [if_pos (.inr c3)]
     exact Ev.pos (decide_eq_true c3) (Ev.now _)
    ·rw [if_neg (by rintro (h | h); omega; exact c3 h)]
     refine Ev.neg (by rw [decide_eq_false c3]; simp) (Ev.pos (by omega) ?_)
     have R := ih (out ++ [t]) (by simp; omega) (short_snoc hs (by omega))
     have e1 : ((out ++ [t]).length : Int) = (out.length : Int) + 1 := by simp
     have e2 : (out ++ [t]).length = out.length + 1 := by simp
     rw [e1, e2] at R
     rw [w64 (by omega) (by omega)]
     exact R
  ·rw [if_neg c]
   refine Ev.bind0 (impl_within_eq _ _ _) ?_
   by_cases c1 : 0 ≤ p.f0 ∧ p.f0 ≤ 255 + (out.length : Int)
   ·refine Ev.pos (decide_eq_true c1) (Ev.bind0 (impl_within_eq _ _ _) ?_)
    rw [decide_eq_false (fun h => c ⟨c1, h⟩)]
    exact bad c
   ·exact Ev.neg (by rw [decide_eq_false c1]; simp) (bad c)
theorem impl_tokens_ev (l : List PI) : Ev (fun k => impl_tokens.f k l) (tokV (prs l)) := by
 unfold impl_tokens.f tokV
 refine Ev.bind0 rfl ?_
 rw [prs_length]
 by_cases c : 60 < l.length
 ·rw [if_pos c]; exact Ev.pos (by omega) (Ev.now _)
 ·rw [if_neg c]
  refine Ev.neg (by omega) ?_
  exact impl_tokens_l0 l (by omega) l.length [] (by simp) short_nil

theorem impl_VocabOk_ev (l : List PI) : Ev (fun k => impl_VocabOk.f k l) (vocabOk (prs l)) := by
 unfold impl_VocabOk.f
 exact Ev.bind (impl_tokens_ev l) (Ev.now _)

theorem impl_Var_l0 (n : Nat) : ∀ (xs : List Int), xs.length + n / 128 < 140737488355328 → n < 9223372036854775808 →
  Ev (fun k => impl_Var.l0 k (n : Int) xs) (strOfNums (xs ++ varL n)) := by
 induction n using Nat.strongRecOn with
 | ind n ih =>
 intro xs h1 h2
 refine Ev.step (fun k => by rw [impl_Var.l0]) ?_
 rw [varL]
 by_cases c : n < 128
 ·rw [if_pos c]
  refine Ev.neg (by omega) (Ev.pos (by omega) (Ev.val _ _ ?_))
  rw [Int.emod_eq_of_lt (by omega) (by omega)]
 ·rw [if_neg c]
  refine Ev.pos (by omega) (Ev.pos (by omega) ?_)
  have e1 : ((n : Int) / 128) = ((n / 128 : Nat) : Int) := by omega
  have e2 : (Go.bits .or .i64 (Go.bits .and .i64 (n : Int) 127) 128) % 256 = ((n % 128 + 128 : Nat) : Int) := by
   rw [and127 (by omega) (by omega), or_join' 7 128 _ (by omega) (by omega) (by omega) (by omega) (by omega) (by omega)]; omega
  rw [e1, e2]
  have := ih (n / 128) (by omega) (xs ++ [((n % 128 + 128 : Nat) : Int)]) (by simp; omega) (by omega)
  simpa [List.append_assoc] using this
theorem impl_Var_in (n : Nat) (h : n ≤ 562949953421311) : Ev (fun k => impl_Var.f k (n : Int)) (strOfNums (varL n)) := by
 unfold impl_Var.f
 refine Ev.bind0 (impl_within_eq _ _ _) (Ev.pos (by simp; omega) ?_)
 simpa using impl_Var_l0 n [] (by simp; omega) (by omega)
theorem impl_Canon_l0 (l : List PI) (hl : l.length ≤ 60) (hp : ∀ p ∈ prs l, 0 ≤ p.1 ∧ p.1 ≤ 315 ∧ 0 ≤ p.2 ∧ p.2 ≤ 315) (d : Nat) : ∀ (i : Nat) (xs : List Int), i + d = l.length → xs.length ≤ 100 + 14 * i →
  Ev (fun k => impl_Canon.l0 k (strOfNums xs) l (l.length : Int) (i : Int)) (strOfNums (xs ++ pairsL (prs (l.drop i)))) := by
 induction d with
 | zero =>
  intro i xs hi hx
  refine Ev.step (fun k => by rw [impl_Canon.l0]) ?_
  rw [List.drop_eq_nil_of_le (by omega)]
  exact Ev.neg (by omega) (Ev.val _ _ (by simp [prs, pairsL]))
 | succ d ih =>
  intro i xs hi hx
  have hm : rd_T76 l (i : Int) ∈ l := by
   have := rdI_drop l i (by omega)
   exact List.mem_of_mem_drop (i := i) (by rw [this]; exact List.mem_cons_self)
  refine Ev.step (fun k => by rw [impl_Canon.l0]) ?_
  rw [rdI_drop l i (by omega)]
  generalize rd_T76 l (i : Int) = p at hm
  obtain ⟨h0, h1, h2, h3⟩ := hp (p.f0, p.f1) (List.mem_map.2 ⟨p, hm, rfl⟩)
  obtain ⟨n, hn⟩ := Int.eq_ofNat_of_zero_le h0
  obtain ⟨m, hmm⟩ := Int.eq_ofNat_of_zero_le h2
  simp only at hn hmm h1 h3
  have l1 := varL_le7 (n := n) (by omega)
  have l2 := varL_le7 (n := m) (by omega)
  refine Ev.pos (by omega) (Ev.pos (by omega) (Ev.pos (by omega) ?_))
  rw [hn, hmm]
  refine Ev.bind (impl_Var_in n (by omega)) (Ev.pos (by rw [strOf_size, strOf_size]; omega) ?_)
  refine Ev.bind (impl_Var_in m (by omega)) ?_
  rw [strOf_append]
  refine Ev.pos (by rw [strOf_size, strOf_size, List.length_append]; omega) ?_
  rw [strOf_append, w64 (by omega) (by omega)]
  have := ih (i + 1) (xs ++ varL n ++ varL m) (by omega) (by simp only [List.length_append]; omega)
  have e1 : ((i + 1 : Nat) : Int) = (i : Int) + 1 := by omega
  rw [e1] at this
  have e2 : xs ++ pairsL (prs (p :: l.drop (i + 1))) = xs ++ varL n ++ varL m ++ pairsL (prs (l.drop (i + 1))) := by
   simp only [prs, List.map_cons, pairsL, hn, hmm, Int.toNat_natCast, List.append_assoc]
  rw [e2]
  exact this
theorem impl_Canon_ev (l : List PI) : Ev (fun k => impl_Canon.f k l) (canonV (prs l)) := by
 unfold impl_Canon.f canonV
 refine Ev.bind (impl_VocabOk_ev l) ?_
 refine Ev.ite Iff.rfl (fun c => ?_) (fun _ => Ev.now _)
 have h60 := tokV_60 c
 rw [prs_length] at h60
 have l1 := varL_le7 (n := l.length) (by omega)
 refine Ev.bind (impl_Var_in l.length (by omega)) (Ev.pos (by rw [strOf_size]; omega) ?_)
 have e : (⟨#[98, 112, 101]⟩ : ByteArray) = strOfNums [98, 112, 101] := rfl
 rw [e, strOf_append]
 have := impl_Canon_l0 l h60 (vocab_pairs c) l.length 0 ([98, 112, 101] ++ varL l.length) (by omega) (by simp; omega)
 unfold canonL
 rw [prs_length]
 exact this

theorem impl_Fixed_l0 (d : Nat) : ∀ (n : Nat) (xs : List Int), d ≤ 7 → n < 9223372036854775808 →
  Ev (fun k => impl_Fixed.l0 k (n : Int) (List.replicate d 0 ++ xs) ((d : Int) - 1)) (strOfNums (fixL d n ++ xs)) := by
 induction d with
 | zero =>
  intro n xs hd hn
  refine Ev.step (fun k => by rw [impl_Fixed.l0]) ?_
  exact Ev.neg (by omega) (Ev.val _ _ (by simp [fixL]))
 | succ d ih =>
  intro n xs hd hn
  refine Ev.step (fun k => by rw [impl_Fixed.l0]) ?_
  refine Ev.pos (by omega) (Ev.pos (by omega) (Ev.pos (by simp; omega) ?_))
  have e1 : (Go.bits .and .i64 (n : Int) 255) % 256 = ((n % 256 : Nat) : Int) := by rw [and255 (by omega) (by omega)]; omega
  have e2 : (n : Int) / 256 = ((n / 256 : Nat) : Int) := by omega
  have e3 : ((d + 1 : Nat) : Int) - 1 = (d : Int) := by omega
  rw [e1, e2, e3, w64 (by omega) (by omega), Int.toNat_natCast, set_replicate]
  have := ih (n / 256) (((n % 256 : Nat) : Int) :: xs) (by omega) (by omega)
  simpa [fixL, List.append_assoc] using this
theorem impl_Fixed_ev (n w : Int) (hn : n ≤ 9223372036854775807) : Ev (fun k => impl_Fixed.f k n w) (strOfNums (fixedV n w)) := by
 unfold impl_Fixed.f fixedV
 refine Ev.bind0 (impl_within_eq _ _ _) ?_
 by_cases c : 1 ≤ w ∧ w ≤ 7
 ·refine Ev.pos (by simp; omega) ?_
  by_cases c2 : n < 0
  ·refine Ev.pos c2 ?_
   refine Ev.step (fun k => by rw [impl_Fixed.j0]) ?_
   refine Ev.pos rfl (Ev.val _ _ ?_)
   rw [if_neg (by omega)]; rfl
  ·obtain ⟨m, rfl⟩ := Int.eq_ofNat_of_zero_le (show 0 ≤ n by omega)
   obtain ⟨d, rfl⟩ := Int.eq_ofNat_of_zero_le (show 0 ≤ w by omega)
   have e1 : wrap64 (8 * (d : Int)) = ((8 * d : Nat) : Int) := by rw [w64 (by omega) (by omega)]; omega
   have e2 : shl .i64 1 ((8 * d : Nat) : Int) = ((256 ^ d : Nat) : Int) := by
    obtain rfl | rfl | rfl | rfl | rfl | rfl | rfl : d = 1 ∨ d = 2 ∨ d = 3 ∨ d = 4 ∨ d = 5 ∨ d = 6 ∨ d = 7 := by omega
    all_goals decide
   rw [e1, e2]
   refine Ev.neg c2 (Ev.pos (by omega) ?_)
   refine Ev.step (fun k => by rw [impl_Fixed.j0]) ?_
   have e3 : ((m : Int) < 256 ^ (d : Int).toNat) = (m < 256 ^ d) := by rw [Int.toNat_natCast, lt_pow256]
   by_cases c3 : m < 256 ^ d
   ·refine Ev.neg (by simp only [decide_eq_true_eq]; omega) (Ev.pos (by omega) (Ev.pos (by simp; omega) ?_))
    rw [if_pos (by rw [e3]; exact ⟨by omega, by omega, by omega, c3⟩), w64 (by omega) (by omega), Int.toNat_natCast, Int.toNat_natCast]
    simpa using impl_Fixed_l0 d m [] (by omega) (by omega)
   ·refine Ev.pos (by simp only [decide_eq_true_eq]; omega) (Ev.val _ _ ?_)
    rw [if_neg (by rw [e3]; omega)]; rfl
 ·refine Ev.neg (by simp; omega) ?_
  refine Ev.step (fun k => by rw [impl_Fixed.j0]) ?_
  refine Ev.pos rfl (Ev.val _ _ ?_)
  rw [if_neg (by omega)]; rfl

theorem impl_Sha_pre_ev (a : ByteArray) (h : a.size ≤ 140737488351232) : Ev (fun k => impl_Sha.pre k a) (padV a) := by
 unfold impl_Sha.pre
 have e1 : wrap64 ((a.size : Int) + 9) = ((a.size + 9 : Nat) : Int) := by rw [w64 (by omega) (by omega)]; omega
 have e2 : Int.tmod ((a.size + 9 : Nat) : Int) 64 = (((a.size + 9) % 64 : Nat) : Int) := by rw [tmod_nn (by omega)]; omega
 have e3 : wrap64 (64 - (((a.size + 9) % 64 : Nat) : Int)) = ((64 - (a.size + 9) % 64 : Nat) : Int) := by rw [w64 (by omega) (by omega)]; omega
 have e4 : Int.tmod ((64 - (a.size + 9) % 64 : Nat) : Int) 64 = ((zerosV a.size : Nat) : Int) := by rw [tmod_nn (by omega)]; unfold zerosV; omega
 have hz := zerosV_mod a.size
 have e5 : wrap64 (((zerosV a.size : Nat) : Int) + 1) = ((zerosV a.size + 1 : Nat) : Int) := by rw [w64 (by omega) (by omega)]; omega
 simp only [e1, e2, e3, e4, e5]
 have e6 : wrap64 (8 * (a.size : Int)) = 8 * (a.size : Int) := w64 (by omega) (by omega)
 rw [e6, int_toNat_nat]
 have hs : (⟨#[128]⟩ : ByteArray).size = 1 := rfl
 refine Ev.pos (by omega) (Ev.pos (by omega) (Ev.pos (by omega) (Ev.bind0 rfl (Ev.pos ?_ (Ev.bind (impl_Fixed_ev _ _ (by omega)) (Ev.pos ?_ (Ev.val _ _ ?_)))))))
 ·rw [ByteArray.size_append, strOf_size, List.length_replicate, hs]; omega
 ·have := fixedV_len (8 * (a.size : Int)) 7
  rw [ByteArray.size_append, ByteArray.size_append, strOf_size, strOf_size, List.length_replicate, hs]; omega
 ·unfold padV tailL
  rw [show (⟨#[128]⟩ : ByteArray) = strOfNums [128] from rfl]
  simp only [ByteArray.append_assoc, strOf_append]
  rfl
theorem impl_Sha_l0_ev (p : ByteArray) (n : Nat) : ∀ (i : Nat) (s : List Int), p.size = i + 64 * n → Ev (fun k => impl_Sha.l0 k s p i) (blkV p n i s) := by
 induction n with
 | zero =>
  intro i s h
  refine Ev.step (fun k => by rw [impl_Sha.l0]) ?_
  exact Ev.neg (by omega) (Ev.now _)
 | succ n ih =>
  intro i s h
  refine Ev.step (fun k => by rw [impl_Sha.l0]) ?_
  exact Ev.pos (by omega) (Ev.pos (by omega) (ih _ _ (by omega)))
theorem impl_Sha_l1_ev (s : List Int) (h8 : s.length = 8) (hs : ∀ x ∈ s, 0 ≤ x ∧ x < 4294967296) (n : Nat) : ∀ (i : Nat) (o : List Int), s.length = i + n → o.length ≤ 7 * i → i ≤ 8 → n ≤ 8 →
  Ev (fun k => impl_Sha.l1 k s n i (strOfNums o)) (strOfNums (o ++ outL (s.drop i))) := by
 induction n with
 | zero =>
  intro i o h ho hi hn
  refine Ev.val _ _ ?_
  rw [List.drop_of_length_le (by omega)]
  simp [outL]
 | succ n ih =>
  intro i o h ho hi hn
  have hl : i < s.length := by omega
  have hx := hs _ (List.getElem_mem hl)
  have e : s.getD i 0 = s[i] := by simp [List.getElem?_eq_getElem hl]
  have hd : s.drop i = s[i] :: s.drop (i + 1) := List.drop_eq_getElem_cons hl
  have h4 := fixedV_len (s[i]) 4
  simp only [impl_Sha.l1]
  rw [e]
  have hf := impl_Fixed_ev s[i] 4 (by omega)
  have hz : (strOfNums o).size + (strOfNums (fixedV s[i] 4)).size ≤ 9223372036854775807 := by
   rw [strOf_size, strOf_size]
   omega
  refine Ev.bind hf (Ev.pos hz ?_)
  rw [strOf_append]
  have := ih (i + 1) (o ++ fixedV s[i] 4) (by omega) (by rw [List.length_append]; omega) (by omega) (by omega)
  rw [hd]
  simpa [outL, List.append_assoc] using this
theorem impl_Sha_ev (a : ByteArray) (h : a.size ≤ 140737488351232) : Ev (fun k => impl_Sha.f k a) (shaV a) := by
 unfold impl_Sha.f
 have hp := padV_size a h
 have hz := zerosV_mod a.size
 have hu := blkV_u (padV a) ((padV a).size / 64) 0 shaInit shaInit_u
 refine Ev.bind (impl_Sha_pre_ev a h) (Ev.bind (impl_Sha_l0_ev (padV a) ((padV a).size / 64) 0 shaInit (by omega)) (Ev.pos ⟨hu.1, hu.2, by omega⟩ ?_))
 have := impl_Sha_l1_ev _ hu.1 hu.2 8 0 [] (by rw [hu.1]) (by simp) (by omega) (by omega)
 rw [List.drop_zero, List.nil_append] at this
 exact this

theorem impl_Digest_ev (l : List PI) : Ev (fun k => impl_Digest.f k l) (digestV (prs l)) := by
 unfold impl_Digest.f digestV
 have hs := canonV_size (prs l)
 exact Ev.bind (impl_VocabOk_ev l) (Ev.ite Iff.rfl (fun _ => Ev.bind (impl_Canon_ev l) (Ev.bind (impl_Sha_ev _ (by omega)) (Ev.now _))) (fun _ => Ev.now _))

theorem turn_eq (x m : Int) (hm : m ∈ [7, 18, 17, 19, 6, 11, 25, 2, 13, 22]) : spec_l2Turn.f x m = some (rotV x (-m)) := by
 have hb : 0 ≤ m ∧ m ≤ 32 := by
  simp only [List.mem_cons, List.not_mem_nil, or_false] at hm
  omega
 have hw : ∀ n : Int, 0 ≤ n → n ≤ 32 → IntKind.u64.wrap n = n := fun n h0 h1 => by
  have e : IntKind.u64.wrap n = n % 18446744073709551616 := by simp [IntKind.wrap, IntKind.bits, IntKind.signed]
  rw [e]; omega
 unfold spec_l2Turn.f rotV
 rw [w64 (x := 32 - m) (by omega) (by omega), hw m hb.1 hb.2, hw (32 - m) (by omega) (by omega), if_pos (by omega), if_pos (by omega), Int.neg_neg, show 32 + -m = 32 - m by omega, bits_or_comm]
theorem l2_l3 (h v : List Int) (hh : h.length = 8) (hv : v.length = 8) (d : Nat) : ∀ (i : Nat), i + d = 8 → Ev (fun k => spec_l2Block.l3 k h v (addL h v i) (i : Int)) (addL h v 8) := by
 induction d with
 | zero =>
  intro i hi
  refine Ev.step (fun k => by rw [spec_l2Block.l3]) ?_
  obtain rfl : i = 8 := by omega
  exact Ev.neg (by omega) (Ev.now _)
 | succ d ih =>
  intro i hi
  refine Ev.step (fun k => by rw [spec_l2Block.l3]) ?_
  have hl := addL_length h v i
  refine Ev.pos (by omega) (Ev.pos (by omega) (Ev.pos (by omega) (Ev.pos (by omega) (Ev.pos (by omega) ?_))))
  rw [rd_nat, rd_nat, w64 (by omega) (by omega)]
  exact ih (i + 1) (by omega)
theorem l2_l2 (t h x : List Int) (hh : h.length = 8) (ht : t.length = 64) (hx : x.length = 64) (d : Nat) : ∀ (i : Nat), i + d = 64 → Ev (fun k => spec_l2Block.l2 k h t x (rnds t x h i) (i : Int)) (addL h (rnds t x h 64) 8) := by
 induction d with
 | zero =>
  intro i hi
  refine Ev.step (fun k => by rw [spec_l2Block.l2]) ?_
  obtain rfl : i = 64 := by omega
  exact Ev.neg (by omega) (l2_l3 h _ hh (rnds_len _ _ _ hh 64) 8 0 (by omega))
 | succ d ih =>
  intro i hi
  refine Ev.step (fun k => by rw [spec_l2Block.l2]) ?_
  have hs : rnds t x h (i + 1) = rndV (t.getD i 0) (x.getD i 0) (rnds t x h i) := rfl
  obtain ⟨v0, v1, v2, v3, v4, v5, v6, v7, ev⟩ := eight _ (rnds_len t x h hh i)
  have g := ih (i + 1) (by omega)
  rw [hs, ev] at g
  rw [ev]
  have r0 : rd [v0, v1, v2, v3, v4, v5, v6, v7] 0 = v0 := rfl
  have r1 : rd [v0, v1, v2, v3, v4, v5, v6, v7] 1 = v1 := rfl
  have r2 : rd [v0, v1, v2, v3, v4, v5, v6, v7] 2 = v2 := rfl
  have r3 : rd [v0, v1, v2, v3, v4, v5, v6, v7] 3 = v3 := rfl
  have r4 : rd [v0, v1, v2, v3, v4, v5, v6, v7] 4 = v4 := rfl
  have r5 : rd [v0, v1, v2, v3, v4, v5, v6, v7] 5 = v5 := rfl
  have r6 : rd [v0, v1, v2, v3, v4, v5, v6, v7] 6 = v6 := rfl
  have r7 : rd [v0, v1, v2, v3, v4, v5, v6, v7] 7 = v7 := rfl
  simp only [r0, r1, r2, r3, r4, r5, r6, r7, rd_nat, List.length_cons, List.length_nil]
  rw [w64 (x := (i : Int) + 1) (by omega) (by omega)]
  refine Ev.pos (by omega) (Ev.pos (by decide) (Ev.bind0 (turn_eq _ _ (by decide)) (Ev.bind0 (turn_eq _ _ (by decide)) (Ev.bind0 (turn_eq _ _ (by decide)) (Ev.pos (by decide) (Ev.pos (by decide) (Ev.pos (by decide) (Ev.pos (by omega) (Ev.pos (by omega) (Ev.pos (by omega) (Ev.pos (by decide)
   (Ev.bind0 (turn_eq _ _ (by decide)) (Ev.bind0 (turn_eq _ _ (by decide)) (Ev.bind0 (turn_eq _ _ (by decide)) (Ev.pos (by decide) (Ev.pos (by decide) (Ev.pos (by decide) ?_)))))))))))))))))
  have e : rndV (t.getD i 0) (x.getD i 0) [v0, v1, v2, v3, v4, v5, v6, v7] = [(rndT (t.getD i 0) (x.getD i 0) v0 v1 v2 v3 v4 v5 v6 v7 + rndY v0 v1 v2 + rndM v0 v1 v2) % 4294967296, v0, v1, v2, (v3 + rndT (t.getD i 0) (x.getD i 0) v0 v1 v2 v3 v4 v5 v6 v7) % 4294967296, v4, v5, v6] := rfl
  rw [e] at g
  simp only [rndT, rndY, rndM] at g
  simp only [Int.emod_add_emod, Int.add_emod_emod] at g ⊢
  simp only [← Int.add_assoc] at g ⊢
  exact g
theorem l2_l1 (b : ByteArray) (t h : List Int) (hh : h.length = 8) (ht : t.length = 64) (d : Nat) : ∀ (i : Nat), i + d = 48 → Ev (fun k => spec_l2Block.l1 k h t (wds2 b i) ((16 + i : Nat) : Int)) (addL h (rnds t (wds2 b 48) h 64) 8) := by
 induction d with
 | zero =>
  intro i hi
  refine Ev.step (fun k => by rw [spec_l2Block.l1]) ?_
  obtain rfl : i = 48 := by omega
  have hl := wds2_len b 48
  obtain ⟨x, hx⟩ : ∃ x, wds2 b 48 = x := ⟨_, rfl⟩
  rw [hx] at hl ⊢
  refine Ev.neg (by omega) ?_
  refine Ev.bind0 rfl ?_
  refine Ev.pos (by rw [List.length_nil]; omega) ?_
  rw [List.nil_append]
  exact l2_l2 t h x hh ht hl 64 0 (by omega)
 | succ d ih =>
  intro i hi
  refine Ev.step (fun k => by rw [spec_l2Block.l1]) ?_
  have hl := wds2_len b i
  have e15 : wrap64 (((16 + i : Nat) : Int) - 15) = ((16 + i - 15 : Nat) : Int) := by rw [w64 (by omega) (by omega)]; omega
  have e2 : wrap64 (((16 + i : Nat) : Int) - 2) = ((16 + i - 2 : Nat) : Int) := by rw [w64 (by omega) (by omega)]; omega
  have e16 : wrap64 (((16 + i : Nat) : Int) - 16) = ((16 + i - 16 : Nat) : Int) := by rw [w64 (by omega) (by omega)]; omega
  have e7 : wrap64 (((16 + i : Nat) : Int) - 7) = ((16 + i - 7 : Nat) : Int) := by rw [w64 (by omega) (by omega)]; omega
  have e1 : wrap64 (((16 + i : Nat) : Int) + 1) = ((16 + (i + 1) : Nat) : Int) := by rw [w64 (by omega) (by omega)]; omega
  simp only [e15, e2, e16, e7, e1, rd_nat]
  clear e15 e2 e16 e7 e1
  refine Ev.pos (by omega) (Ev.pos (by omega) (Ev.pos (by omega) (Ev.bind0 (turn_eq _ _ (by decide)) (Ev.bind0 (turn_eq _ _ (by decide)) (Ev.pos (by omega) (Ev.pos (by omega) (Ev.bind0 (turn_eq _ _ (by decide)) (Ev.bind0 (turn_eq _ _ (by decide)) (Ev.pos (by omega) (Ev.pos (by omega) (Ev.pos (by omega) (Ev.pos (by omega) (Ev.pos (by omega) ?_)))))))))))))
  have g := ih (i + 1) (by omega)
  have e : wds2 b (i + 1) = wds2 b i ++ [nextW (wds2 b i)] := rfl
  rw [e, nextW_eq hl rfl rfl rfl rfl] at g
  simp only [Int.emod_add_emod, Int.add_emod_emod] at g ⊢
  exact g
theorem l2_l0 (b : ByteArray) (hb : b.size = 64) (t h : List Int) (hh : h.length = 8) (ht : t.length = 64) (d : Nat) : ∀ (i : Nat), i + d = 16 → Ev (fun k => spec_l2Block.l0 k h t b (wds b i) (i : Int)) (addL h (rnds t (wds2 b 48) h 64) 8) := by
 induction d with
 | zero =>
  intro i hi
  refine Ev.step (fun k => by rw [spec_l2Block.l0]) ?_
  obtain rfl : i = 16 := by omega
  exact Ev.neg (by omega) (l2_l1 b t h hh ht 48 0 (by omega))
 | succ d ih =>
  intro i hi
  refine Ev.step (fun k => by rw [spec_l2Block.l0]) ?_
  have hl := wds_len b i
  have e0 : wrap64 (4 * (i : Int)) = 4 * (i : Int) := w64 (by omega) (by omega)
  have e1 : wrap64 (4 * (i : Int) + 1) = 4 * (i : Int) + 1 := w64 (by omega) (by omega)
  have e2 : wrap64 (4 * (i : Int) + 2) = 4 * (i : Int) + 2 := w64 (by omega) (by omega)
  have e3 : wrap64 (4 * (i : Int) + 3) = 4 * (i : Int) + 3 := w64 (by omega) (by omega)
  simp only [e0, e1, e2, e3]
  clear e0 e1 e2 e3
  rw [w64 (x := (i : Int) + 1) (by omega) (by omega)]
  refine Ev.pos (by omega) (Ev.pos (by omega) (Ev.pos (by omega) (Ev.pos (by omega) (Ev.pos (by omega) (Ev.pos (by omega) (Ev.pos (by omega) (Ev.pos (by omega) (Ev.pos (by omega) (Ev.pos (by omega) ?_)))))))))
  exact ih (i + 1) (by omega)
theorem spec_l2Block_ev (h : List Int) (b : ByteArray) (hh : h.length = 8) (hb : b.size = 64) : Ev (fun k => spec_l2Block.f k h shaTab b) (shaB h b) := by
 unfold spec_l2Block.f shaB
 rw [addsV_addL _ _ hh]
 exact l2_l0 b hb shaTab h hh rfl 16 0 (by omega)

theorem spec_l1In_eq (a b c : Int) : spec_l1In.f a b c = some (decide (b ≤ a ∧ a ≤ c)) := by
 unfold spec_l1In.f
 by_cases h : a ≥ b
 ·rw [if_pos h]; simp [show b ≤ a from h]
 ·rw [if_neg h]; simp [show ¬ b ≤ a from h]

theorem spec_Fixed_l0 (d : Nat) : ∀ (n : Nat) (w i : Int) (xs : List Int), 0 ≤ i → w - i = d → w ≤ 7 → xs.length ≤ i → n < 9223372036854775808 →
  Ev (fun k => spec_Fixed.l0 k (n : Int) w (strOfNums xs) i) (strOfNums (if n < 256 ^ d then fixL d n ++ xs else [])) := by
 induction d with
 | zero =>
  intro n w i xs hi hd hw hx hn
  refine Ev.step (fun k => by rw [spec_Fixed.l0]) ?_
  refine Ev.neg (by omega) ?_
  by_cases c : n = 0
  ·subst c
   exact Ev.neg (by omega) (Ev.val _ _ (by simp [fixL]))
  ·refine Ev.pos (by omega) (Ev.val _ _ ?_)
   rw [if_neg (by simp; omega)]; rfl
 | succ d ih =>
  intro n w i xs hi hd hw hx hn
  refine Ev.step (fun k => by rw [spec_Fixed.l0]) ?_
  refine Ev.pos (by omega) (Ev.bind (Ev.now _) (Ev.pos (by rw [strOf_size, strOf_size]; simp; omega) ?_))
  have e1 : (Int.tmod (n : Int) 256) % 256 = ((n % 256 : Nat) : Int) := by rw [tmod_nn (by omega)]; omega
  have e2 : wrap64 (Int.tdiv (n : Int) 256) = ((n / 256 : Nat) : Int) := by rw [tdiv_nn (by omega), w64 (by omega) (by omega)]; omega
  rw [e1, e2, w64 (by omega) (by omega), strOf_append]
  have := ih (n / 256) w (i + 1) ([((n % 256 : Nat) : Int)] ++ xs) (by omega) (by omega) hw (by simp; omega) (by omega)
  have e3 : (n / 256 < 256 ^ d) = (n < 256 ^ (d + 1)) := by
   rw [Nat.pow_succ, Nat.div_lt_iff_lt_mul (by decide)]
  simp only [e3] at this
  simpa [fixL, List.append_assoc] using this
theorem spec_Fixed_ev (n w : Int) (hn : n ≤ 9223372036854775807) : Ev (fun k => spec_Fixed.f k n w) (strOfNums (fixedV n w)) := by
 unfold spec_Fixed.f fixedV
 refine Ev.bind0 (spec_l1In_eq _ _ _) ?_
 by_cases c : 1 ≤ w ∧ w ≤ 7
 ·refine Ev.pos (by simp; omega) ?_
  refine Ev.step (fun k => by rw [spec_Fixed.j0]) ?_
  by_cases c2 : n < 0
  ·refine Ev.pos (by simpa using c2) (Ev.val _ _ ?_)
   rw [if_neg (by omega)]; rfl
  ·obtain ⟨m, rfl⟩ := Int.eq_ofNat_of_zero_le (show 0 ≤ n by omega)
   obtain ⟨d, rfl⟩ := Int.eq_ofNat_of_zero_le (show 0 ≤ w by omega)
   refine Ev.neg (by simp) ?_
   rw [strOf_nil]
   have := spec_Fixed_l0 d m (d : Int) 0 [] (by omega) (by omega) (by omega) (by simp) (by omega)
   have e : (m < 256 ^ d) = (1 ≤ (d : Int) ∧ (d : Int) ≤ 7 ∧ 0 ≤ (m : Int) ∧ (m : Int) < 256 ^ (d : Int).toNat) := by
    rw [Int.toNat_natCast, lt_pow256]; apply propext; omega
   simp only [e] at this
   simpa using this
 ·refine Ev.neg (by simp; omega) ?_
  refine Ev.step (fun k => by rw [spec_Fixed.j0]) ?_
  refine Ev.pos rfl (Ev.val _ _ ?_)
  rw [if_neg (by omega)]; rfl

theorem spec_Sha_l3_ev (s : List Int) (h8 : s.length = 8) (hs : ∀ x ∈ s, 0 ≤ x ∧ x < 4294967296) (n : Nat) : ∀ (i : Nat) (o : List Int), s.length = i + n → o.length ≤ 7 * i →
  Ev (fun k => spec_Sha.l3 k s (strOfNums o) (i : Int)) (strOfNums (o ++ outL (s.drop i))) := by
 induction n with
 | zero =>
  intro i o h ho
  refine Ev.step (fun k => by rw [spec_Sha.l3]) ?_
  refine Ev.neg (by omega) (Ev.val _ _ ?_)
  rw [List.drop_of_length_le (by omega)]
  simp [outL]
 | succ n ih =>
  intro i o h ho
  have hl : i < s.length := by omega
  have hx := hs _ (List.getElem_mem hl)
  have e : s.getD i 0 = s[i] := by simp [List.getElem?_eq_getElem hl]
  have hd : s.drop i = s[i] :: s.drop (i + 1) := List.drop_eq_getElem_cons hl
  have h4 := fixedV_len (s[i]) 4
  have hf := spec_Fixed_ev s[i] 4 (by omega)
  have hz : (strOfNums o).size + (strOfNums (fixedV s[i] 4)).size ≤ 9223372036854775807 := by
   rw [strOf_size, strOf_size]
   omega
  refine Ev.step (fun k => by rw [spec_Sha.l3]) ?_
  rw [rd_nat, e, w64 (x := s[i]) (by omega) (by omega), w64 (x := (i : Int) + 1) (by omega) (by omega)]
  refine Ev.pos (by omega) (Ev.pos (by omega) (Ev.pos (by omega) (Ev.bind hf (Ev.pos hz ?_))))
  rw [strOf_append]
  have := ih (i + 1) (o ++ fixedV s[i] 4) (by omega) (by rw [List.length_append]; omega)
  rw [hd]
  simpa [outL, List.append_assoc] using this
theorem spec_Sha_l2_ev (p : ByteArray) (hp : p.size ≤ 281474976710656) (n : Nat) : ∀ (i : Nat) (s : List Int), U32s s → p.size = i + 64 * n → Ev (fun k => spec_Sha.l2 k s shaTab p (i : Int)) (strOfNums (outL (blkV p n i s))) := by
 induction n with
 | zero =>
  intro i s hs h
  refine Ev.step (fun k => by rw [spec_Sha.l2]) ?_
  rw [w64 (by omega) (by omega)]
  refine Ev.neg (by omega) ?_
  have := spec_Sha_l3_ev s hs.1 hs.2 8 0 [] (by rw [hs.1]) (by simp)
  rw [List.drop_zero, List.nil_append] at this
  exact this
 | succ n ih =>
  intro i s hs h
  refine Ev.step (fun k => by rw [spec_Sha.l2]) ?_
  rw [w64 (by omega) (by omega)]
  have e1 : ((i : Int) + 64).toNat = i + 64 := by omega
  rw [e1, int_toNat_nat]
  refine Ev.pos (by omega) (Ev.pos (by omega) (Ev.pos (by omega) (Ev.bind (spec_l2Block_ev s _ hs.1 (by simp; omega)) ?_)))
  exact ih (i + 64) _ (shaB_u _ _ hs.1) (by omega)
theorem spec_Sha_l1_ev (a tl : ByteArray) (at_ : Nat) (r : ByteArray) (n : Nat) (hat : at_ ≤ a.size) (ha : a.size ≤ 140737488351232) (ht : tl.size ≤ 140737488351232) :
  ∀ (i : Nat) (s : List Int), U32s s → at_ = i + 64 * n → Ev (fun k => spec_Sha.l2 k (blkV a n i s) shaTab (a.extract at_ a.size ++ tl) 0) r → Ev (fun k => spec_Sha.l1 k a s shaTab tl (at_ : Int) (i : Int)) r := by
 induction n with
 | zero =>
  intro i s hs h hr
  refine Ev.step (fun k => by rw [spec_Sha.l1]) ?_
  rw [int_toNat_nat]
  refine Ev.neg (by omega) (Ev.pos (by omega) (Ev.pos (by omega) (Ev.pos (by simp; omega) hr)))
 | succ n ih =>
  intro i s hs h hr
  refine Ev.step (fun k => by rw [spec_Sha.l1]) ?_
  rw [w64 (by omega) (by omega)]
  have e1 : ((i : Int) + 64).toNat = i + 64 := by omega
  rw [e1, int_toNat_nat]
  refine Ev.pos (by omega) (Ev.pos (by omega) (Ev.pos (by omega) (Ev.pos (by omega) (Ev.bind (spec_l2Block_ev s _ hs.1 (by simp; omega)) ?_))))
  exact ih (i + 64) _ (shaB_u _ _ hs.1) (by omega) hr
theorem spec_Sha_l0_ev (a : ByteArray) (ha : a.size ≤ 140737488351232) (r : ByteArray) (hr : Ev (fun k => spec_Sha.l1 k a shaInit shaTab (strOfNums (tailL a.size)) ((a.size / 64 * 64 : Nat) : Int) 0) r) (d : Nat) :
  ∀ (j : Nat), j + d = zerosV a.size → Ev (fun k => spec_Sha.l0 k a shaInit shaTab (128 :: List.replicate j 0)) r := by
 have hz := zerosV_mod a.size
 induction d with
 | zero =>
  intro j hj
  refine Ev.step (fun k => by rw [spec_Sha.l0]) ?_
  have e1 : wrap64 ((a.size : Int) + ((128 :: List.replicate j (0 : Int)).length : Int)) = ((a.size + 1 + j : Nat) : Int) := by rw [List.length_cons, List.length_replicate, w64 (by omega) (by omega)]; omega
  have e2 : wrap64 (8 * (a.size : Int)) = 8 * (a.size : Int) := w64 (by omega) (by omega)
  have e3 : wrap64 ((wrap64 ((a.size : Int) / 64)) * 64) = ((a.size / 64 * 64 : Nat) : Int) := by
   rw [w64 (x := (a.size : Int) / 64) (by omega) (by omega), w64 (by omega) (by omega)]; omega
  rw [e1, e2, e3, tmod_nn (by omega)]
  clear e1 e2 e3
  have h7 := fixedV_len (8 * (a.size : Int)) 7
  refine Ev.pos (by omega) (Ev.bind0 rfl (Ev.pos ?_ (Ev.bind (spec_Fixed_ev _ _ (by omega)) (Ev.pos ?_ ?_))))
  ·rw [strOf_size, strOf_size, List.length_cons, List.length_replicate]; simp; omega
  ·rw [strOf_append, strOf_size, strOf_size, List.length_append, List.length_cons, List.length_replicate]; simp; omega
  ·rw [strOf_append, strOf_append]
   have e : 128 :: List.replicate j (0 : Int) ++ [0] ++ fixedV (8 * (a.size : Int)) 7 = tailL a.size := by
    obtain rfl : j = zerosV a.size := by omega
    unfold tailL
    rw [List.replicate_succ']
    simp
   rw [e]
   exact hr
 | succ d ih =>
  intro j hj
  refine Ev.step (fun k => by rw [spec_Sha.l0]) ?_
  have e1 : wrap64 ((a.size : Int) + ((128 :: List.replicate j (0 : Int)).length : Int)) = ((a.size + 1 + j : Nat) : Int) := by rw [List.length_cons, List.length_replicate, w64 (by omega) (by omega)]; omega
  rw [e1, tmod_nn (by omega)]
  clear e1
  refine Ev.neg (by omega) (Ev.pos (by rw [List.length_cons, List.length_replicate]; omega) ?_)
  have e : 128 :: List.replicate j (0 : Int) ++ [0] = 128 :: List.replicate (j + 1) 0 := by rw [List.replicate_succ']; simp
  rw [e]
  exact ih (j + 1) (by omega)
theorem ext_left (a t : ByteArray) (i j : Nat) (h : j ≤ a.size) : (a ++ t).extract i j = a.extract i j := by
 apply bl_inj
 rw [bl_extract, bl_extract, bl_append]
 have hl := bl_length a
 apply List.ext_getElem?
 intro q
 simp only [List.getElem?_take, List.getElem?_drop]
 by_cases c : q < j - i
 ·rw [if_pos c, if_pos c, List.getElem?_append_left (by omega)]
 ·rw [if_neg c, if_neg c]
theorem ext_right (a t : ByteArray) (z i j : Nat) (hz : z ≤ a.size) : (a.extract z a.size ++ t).extract i j = (a ++ t).extract (z + i) (z + j) := by
 apply bl_inj
 rw [bl_extract, bl_extract, bl_append, bl_append, bl_extract]
 have hl := bl_length a
 have e : ((bl a).drop z).take (a.size - z) = (bl a).drop z := List.take_of_length_le (by rw [List.length_drop]; omega)
 rw [e, ← List.drop_append_of_le_length (by omega), List.drop_drop, show z + j - (z + i) = j - i by omega]
theorem spec_Sha_ev (a : ByteArray) (h : a.size ≤ 140737488351232) : Ev (fun k => spec_Sha.f k a) (shaV a) := by
 unfold spec_Sha.f
 refine Ev.bind0 (a := shaInit) rfl (Ev.bind0 (a := shaTab) rfl ?_)
 have hp := padV_size a h
 have hz := zerosV_mod a.size
 have htl := tailL_len a.size h
 refine spec_Sha_l0_ev a h _ ?_ (zerosV a.size) 0 (by omega)
 have hu := blkV_u a (a.size / 64) 0 shaInit shaInit_u
 have ht : (strOfNums (tailL a.size)).size = zerosV a.size + 9 := by rw [strOf_size, htl]
 refine spec_Sha_l1_ev a _ (a.size / 64 * 64) _ (a.size / 64) (by omega) h (by omega) 0 shaInit shaInit_u (by omega) ?_
 have hr : (a.extract (a.size / 64 * 64) a.size ++ strOfNums (tailL a.size)).size = (padV a).size - a.size / 64 * 64 := by
  rw [ByteArray.size_append, ByteArray.size_extract, ht]; omega
 have g := spec_Sha_l2_ev (a.extract (a.size / 64 * 64) a.size ++ strOfNums (tailL a.size)) (by omega) ((padV a).size / 64 - a.size / 64) 0 _ hu (by omega)
 have e1 : blkV a (a.size / 64) 0 shaInit = blkV (padV a) (a.size / 64) 0 shaInit := blkV_congr _ _ _ _ _ _ fun d hd => (ext_left a _ _ _ (by omega)).symm
 have e2 : ∀ s, blkV (a.extract (a.size / 64 * 64) a.size ++ strOfNums (tailL a.size)) ((padV a).size / 64 - a.size / 64) 0 s = blkV (padV a) ((padV a).size / 64 - a.size / 64) (0 + 64 * (a.size / 64)) s := fun s =>
  blkV_congr _ _ _ _ _ _ fun d hd => by
   rw [ext_right _ _ _ _ _ (by omega)]
   unfold padV
   congr 1 <;> omega
 have e3 : (padV a).size / 64 = a.size / 64 + ((padV a).size / 64 - a.size / 64) := by omega
 unfold shaV
 rw [e3, blkV_add, ← e1, ← e2]
 exact g

theorem spec_l1New_ex (l : List Int) : ∃ h, Ev (fun k => spec_l1New.f k l) (l, 0, h) := by
 have key : ∀ (d i : Nat) (h : Int), i + d = 4000 → ∃ h', Ev (fun k => spec_l1New.l0 k l h (i : Int)) (l, 0, h') := by
  intro d
  induction d with
  | zero =>
   intro i h hi
   by_cases c : (i : Int) < (l.length : Int)
   ·exact ⟨h, Ev.step (fun k => by rw [spec_l1New.l0]) (Ev.pos c (Ev.neg (by omega) (Ev.now _)))⟩
   ·exact ⟨h, Ev.step (fun k => by rw [spec_l1New.l0]) (Ev.neg c (Ev.now _))⟩
  | succ d ih =>
   intro i h hi
   by_cases c : (i : Int) < (l.length : Int)
   ·obtain ⟨h', e⟩ := ih (i + 1) (Go.bits .and .i64 (wrap64 ((wrap64 ((wrap64 (h * 131)) + (wrap64 (rd l (i : Int))))) + 7)) 1073741823) (by omega)
    have e1 : ((i + 1 : Nat) : Int) = (i : Int) + 1 := by omega
    rw [e1] at e
    refine ⟨h', Ev.step (fun k => by rw [spec_l1New.l0]) (Ev.pos c (Ev.pos (by omega) (Ev.pos (by omega) ?_)))⟩
    rw [w64 (x := (i : Int) + 1) (by omega) (by omega)]
    exact e
   ·exact ⟨h, Ev.step (fun k => by rw [spec_l1New.l0]) (Ev.neg c (Ev.now _))⟩
 unfold spec_l1New.f
 exact key 4000 0 _ (by omega)

theorem and255_range (x : Int) : 0 ≤ Go.bits .and .i64 x 255 ∧ Go.bits .and .i64 x 255 ≤ 255 := by
 have h : ((BitVec.ofInt IntKind.i64.bits x &&& BitVec.ofInt IntKind.i64.bits 255).toNat : Int) ≤ 255 := by
  have e : (BitVec.ofInt IntKind.i64.bits (255 : Int)).toNat = 255 := by decide
  rw [BitVec.toNat_and, e]
  have := @Nat.and_le_right (BitVec.ofInt IntKind.i64.bits x).toNat 255
  omega
 simp only [Go.bits]
 rw [wraps_i64 _ (Int.natCast_nonneg _) (by omega)]
 exact ⟨Int.natCast_nonneg _, h⟩
/-- a place in what a draw reads -/
abbrev curP (b : List Int) (i : Int) : Prop := 0 ≤ i ∧ i ≤ b.length
theorem spec_l1Byte_ex (b : List Int) (hb : b.length ≤ 4000000) (i h : Int) (hi : curP b i) : ∃ x i' h', spec_l1Byte.f b i h = some (x, i', h') ∧ (0 ≤ x ∧ x ≤ 255) ∧ curP b i' := by
 unfold spec_l1Byte.f
 by_cases c : i < (b.length : Int)
 ·rw [if_pos c, if_pos hi.1]
  exact ⟨_, _, _, rfl, and255_range _, by rw [w64 (by omega) (by omega)]; exact ⟨by omega, by omega⟩⟩
 ·rw [if_neg c]
  exact ⟨_, _, _, rfl, and255_range _, hi⟩

theorem spec_l1Below_ex (b : List Int) (hb : b.length ≤ 4000000) (i h : Int) (hi : curP b i) (n : Int) : ∃ x i' h', spec_l1Below.f b i h n = some (x, i', h') ∧ (0 ≤ x ∧ (n ≤ 0 → x = 0) ∧ (0 < n → x < n)) ∧ curP b i' := by
 unfold spec_l1Below.f
 by_cases c : n ≤ 0
 ·rw [if_pos c]; exact ⟨0, i, h, rfl, ⟨by omega, fun _ => rfl, fun e => by omega⟩, hi⟩
 ·rw [if_neg c]
  by_cases c2 : n ≤ 256
  ·rw [if_pos c2]
   obtain ⟨x, i', h', e, hx, hi'⟩ := spec_l1Byte_ex b hb i h hi
   rw [e]
   simp only [Option.bind_some]
   rw [if_neg (show ¬ n = 0 by omega)]
   refine ⟨_, _, _, rfl, ?_, hi'⟩
   rw [tmod_nn hx.1]
   have h1 := Int.emod_nonneg x (show n ≠ 0 by omega)
   have h2 := Int.emod_lt_of_pos x (show 0 < n by omega)
   exact ⟨h1, fun e => by omega, fun _ => h2⟩
  ·rw [if_neg c2]
   obtain ⟨x, i1, h1, e1, hx, hi1⟩ := spec_l1Byte_ex b hb i h hi
   obtain ⟨y, i2, h2, e2, hy, hi2⟩ := spec_l1Byte_ex b hb i1 h1 hi1
   obtain ⟨z, i3, h3, e3, hz, hi3⟩ := spec_l1Byte_ex b hb i2 h2 hi2
   obtain ⟨w, i4, h4, e4, hw, hi4⟩ := spec_l1Byte_ex b hb i3 h3 hi3
   simp only [e1, e2, e3, e4, Option.bind_some]
   rw [if_neg (show ¬ n = 0 by omega)]
   refine ⟨_, _, _, rfl, ?_, hi4⟩
   rw [w64 (x := x * 16777216) (by omega) (by omega), w64 (x := y * 65536) (by omega) (by omega), w64 (x := z * 256) (by omega) (by omega), w64 (x := x * 16777216 + y * 65536) (by omega) (by omega), w64 (x := x * 16777216 + y * 65536 + z * 256) (by omega) (by omega), w64 (x := x * 16777216 + y * 65536 + z * 256 + w) (by omega) (by omega), tmod_nn (by omega)]
   have g1 := Int.emod_nonneg (x * 16777216 + y * 65536 + z * 256 + w) (show n ≠ 0 by omega)
   have g2 := Int.emod_lt_of_pos (x * 16777216 + y * 65536 + z * 256 + w) (show 0 < n by omega)
   exact ⟨g1, fun e => by omega, fun _ => g2⟩

theorem rd_get (l : List Int) (i : Nat) (h : i < l.length) : rd l (i : Int) = l[i] := by
 unfold rd
 rw [Int.toNat_natCast, List.getD_eq_getElem?_getD, List.getElem?_eq_getElem h]; rfl
theorem spec_l1PickInt_ex (b : List Int) (hb : b.length ≤ 4000000) (i h : Int) (hi : curP b i) (l : List Int) (hl : 0 < l.length) : ∃ x i' h', spec_l1PickInt.f b i h l = some (x, i', h') ∧ x ∈ l ∧ curP b i' := by
 obtain ⟨x, i1, h1, e, hx, hi1⟩ := spec_l1Below_ex b hb i h hi (l.length : Int)
 have hx2 := hx.2.2 (by omega)
 obtain ⟨n, rfl⟩ := Int.eq_ofNat_of_zero_le hx.1
 refine ⟨rd l (n : Int), i1, h1, ?_, ?_, hi1⟩
 ·unfold spec_l1PickInt.f
  rw [e]
  simp only [Option.bind_some]
  rw [if_pos hx.1, if_pos hx2]
 ·rw [rd_get l n (by omega)]; exact List.getElem_mem _

theorem spec_l1Once_ex (b : List Int) (hb : b.length ≤ 4000000) (i h : Int) (hi : curP b i) (n : Int) : ∃ x i' h', spec_l1Once.f b i h n = some (x, i', h') ∧ curP b i' := by
 obtain ⟨x, i1, h1, e, hx, hi1⟩ := spec_l1Below_ex b hb i h hi n
 refine ⟨x == 0, i1, h1, ?_, hi1⟩
 unfold spec_l1Once.f; rw [e]; rfl

theorem spec_l7Bytes_eq {out : List ByteArray} {id : Int} (h0 : 0 ≤ id) (h1 : id ≤ 255 + (out.length : Int)) (hl : out.length ≤ 100000) : spec_l7Bytes.f out id = some (tokB out id) := by
 unfold spec_l7Bytes.f tokB
 by_cases c : id < 256
 ·rw [if_pos c, if_pos c]
 ·rw [if_neg c, if_neg c, w64 (by omega) (by omega), if_pos (by omega), if_pos (by omega)]
theorem spec_l7Table_l1 (l : List PI) (out : List ByteArray) (t : ByteArray) (R : List ByteArray × Bool) (ho : out.length ≤ 1000) (d : Nat) : ∀ (j : Nat), j + d = out.length →
  Ev (fun k => spec_l7Table.l0 k (out ++ [t]) ((out.length : Int) + 1) l) R → Ev (fun k => spec_l7Table.l1 k out (out.length : Int) t (j : Int) l) (if t ∈ out.drop j then (out, false) else R) := by
 induction d with
 | zero =>
  intro j hj h
  refine Ev.step (fun k => by rw [spec_l7Table.l1]) ?_
  rw [List.drop_eq_nil_of_le (by omega), if_neg (by simp)]
  refine Ev.neg (by omega) (Ev.pos (by omega) ?_)
  rw [w64 (by omega) (by omega)]
  exact h
 | succ d ih =>
  intro j hj h
  refine Ev.step (fun k => by rw [spec_l7Table.l1]) ?_
  refine Ev.pos (by omega) (Ev.pos (by omega) (Ev.pos (by omega) ?_))
  rw [rdOf_drop out j (by omega)]
  by_cases c : (rdOf ByteArray.empty out (j : Int)).toList = t.toList
  ·refine Ev.pos c ?_
   rw [if_pos (by rw [(tl_iff _ _).1 c]; simp)]
   exact Ev.now _
  ·refine Ev.neg c ?_
   have e : (t ∈ rdOf ByteArray.empty out (j : Int) :: out.drop (j + 1)) ↔ t ∈ out.drop (j + 1) := by
    rw [List.mem_cons]
    exact ⟨fun h => h.elim (fun h => absurd (by rw [h]) c) id, .inr⟩
   simp only [e]
   have := ih (j + 1) (by omega) h
   have e1 : ((j + 1 : Nat) : Int) = (j : Int) + 1 := by omega
   rw [e1] at this
   rw [w64 (by omega) (by omega)]
   exact this
theorem spec_l7Table_l0 (l : List PI) (hl : l.length ≤ 60) (d : Nat) : ∀ (out : List ByteArray), out.length + d = l.length → Short out →
  Ev (fun k => spec_l7Table.l0 k out (out.length : Int) l) (tokLoop (prs (l.drop out.length)) out) := by
 induction d with
 | zero =>
  intro out ho hs
  refine Ev.step (fun k => by rw [spec_l7Table.l0]) ?_
  rw [List.drop_eq_nil_of_le (by omega)]
  exact Ev.neg (by omega) (Ev.now _)
 | succ d ih =>
  intro out ho hs
  refine Ev.step (fun k => by rw [spec_l7Table.l0]) ?_
  rw [rdI_drop l out.length (by omega)]
  generalize rd_T76 l (out.length : Int) = p
  rw [w64 (by omega) (by omega)]
  refine Ev.pos (by omega) (Ev.pos (by omega) ?_)
  simp only [prs, List.map_cons, tokLoop]
  have bad : ¬ pairOk out.length (p.f0, p.f1) → Ev (fun k => spec_l7Table.j1 k out (out.length : Int) true l p.f0 p.f1) (out, false) := by
   intro h
   refine Ev.step (fun k => by rw [spec_l7Table.j1]) ?_
   exact Ev.pos rfl (Ev.now _)
  by_cases c : pairOk out.length (p.f0, p.f1)
  ·rw [if_pos c]
   have s0 : (tokB out p.f0).size ≤ 24 := tokB_size hs c.1.1 c.1.2
   have s1 : (tokB out p.f1).size ≤ 24 := tokB_size hs c.2.1 c.2.2
   refine Ev.bind0 (spec_l1In_eq _ _ _) (Ev.pos (decide_eq_true c.1) (Ev.bind0 (spec_l1In_eq _ _ _) ?_))
   rw [decide_eq_true c.2]
   refine Ev.step (fun k => by rw [spec_l7Table.j1]) ?_
   refine Ev.neg (by simp) (Ev.bind0 (spec_l7Bytes_eq c.1.1 c.1.2 (by omega)) (Ev.bind0 (spec_l7Bytes_eq c.2.1 c.2.2 (by omega)) (Ev.pos (by omega) ?_)))
   generalize tokB out p.f0 ++ tokB out p.f1 = t
   by_cases c2 : (t.size : Int) > 24
   ·rw [if_pos (.inl (by omega))]
    exact Ev.pos c2 (Ev.now _)
   ·refine Ev.neg c2 ?_
    have R := ih (out ++ [t]) (by simp; omega) (short_snoc hs (by omega))
    have e1 : ((out ++ [t]).length : Int) = (out.length : Int) + 1 := by simp
    have e2 : (out ++ [t]).length = out.length + 1 := by simp
    rw [e1, e2] at R
    have := spec_l7Table_l1 l out t _ (by omega) out.length 0 (by omega) R
    rw [List.drop_zero] at this
    have e3 : (24 < t.size ∨ t ∈ out) ↔ t ∈ out := ⟨fun h => h.elim (fun h => by omega) id, .inr⟩
    simp only [e3]
    exact this
  ·rw [if_neg c]
   refine Ev.bind0 (spec_l1In_eq _ _ _) ?_
   by_cases c1 : 0 ≤ p.f0 ∧ p.f0 ≤ 255 + (out.length : Int)
   ·refine Ev.pos (decide_eq_true c1) (Ev.bind0 (spec_l1In_eq _ _ _) ?_)
    rw [decide_eq_false (fun h => c ⟨c1, h⟩)]
    exact bad c
   ·exact Ev.neg (by rw [decide_eq_false c1]; simp) (bad c)
theorem spec_l7Table_ev (l : List PI) : Ev (fun k => spec_l7Table.f k l) (tokV (prs l)) := by
 unfold spec_l7Table.f tokV
 refine Ev.bind0 rfl ?_
 rw [prs_length]
 by_cases c : 60 < l.length
 ·rw [if_pos c]; exact Ev.pos (by omega) (Ev.now _)
 ·rw [if_neg c]
  refine Ev.neg (by omega) ?_
  exact spec_l7Table_l0 l (by omega) l.length [] (by simp) short_nil

theorem spec_VocabOk_ev (l : List PI) : Ev (fun k => spec_VocabOk.f k l) (vocabOk (prs l)) := by
 unfold spec_VocabOk.f
 exact Ev.bind (spec_l7Table_ev l) (Ev.now _)

abbrev drawV (g : Nat → Option (List PI × Int × Int)) (b : List Int) (m : Nat) : Prop := ∃ v' i' h', Ev g (v', i', h') ∧ v'.length ≤ m ∧ curP b i'
theorem spec_l7Draw_l0 (b : List Int) (hb : b.length ≤ 4000000) (d : Nat) : ∀ (v : List PI) (i h : Int), curP b i → v.length + d ≤ 1000 → drawV (fun k => spec_l7Draw.l0 k (d : Int) b i h v) b (v.length + d) := by
 induction d with
 | zero =>
  intro v i h hi hv
  exact ⟨v, i, h, Ev.step (fun k => by rw [spec_l7Draw.l0]) (Ev.neg (by omega) (Ev.now _)), by omega, hi⟩
 | succ d ih =>
  intro v i h hi hv
  have ed : wrap64 (((d + 1 : Nat) : Int) - 1) = (d : Int) := by rw [w64 (by omega) (by omega)]; omega
  have fin (x y i h : Int) (hi : curP b i) : ∃ r : List PI × Int × Int, (∀ G : Nat → Option (List PI × Int × Int), True) ∧ Ev (fun k => (some ([] : List PI)).bind fun y193 => (if y193.length + v.length < 8796093022208 then ((some (y193 ++ v : List PI)).bind fun y196 => (if y196.length < 8796093022208 then ((some (y196 ++ [(⟨x, y⟩ : PI)] : List PI)).bind fun y199 => ((spec_VocabOk.f k y199).bind fun t203 => (if t203 = true then (spec_l7Draw.l0 k (wrap64 (((d + 1 : Nat) : Int) - 1)) b i h y199) else (spec_l7Draw.l0 k (wrap64 (((d + 1 : Nat) : Int) - 1)) b i h v)))) else none)) else none)) r ∧ r.1.length ≤ v.length + (d + 1) ∧ curP b r.2.1 := by
   rw [ed]
   have key : ∃ r : List PI × Int × Int, Ev (fun k => (spec_VocabOk.f k (v ++ [(⟨x, y⟩ : PI)])).bind fun t203 => (if t203 = true then (spec_l7Draw.l0 k (d : Int) b i h (v ++ [(⟨x, y⟩ : PI)])) else (spec_l7Draw.l0 k (d : Int) b i h v))) r ∧ r.1.length ≤ v.length + (d + 1) ∧ curP b r.2.1 := by
    have e := spec_VocabOk_ev (v ++ [(⟨x, y⟩ : PI)])
    cases c : vocabOk (prs (v ++ [(⟨x, y⟩ : PI)])) with
    | true =>
     rw [c] at e
     obtain ⟨v', i', h', e2, l2, c2⟩ := ih (v ++ [(⟨x, y⟩ : PI)]) i h hi (by simp; omega)
     rw [List.length_append, List.length_singleton] at l2
     exact ⟨(v', i', h'), Ev.bind e (Ev.pos rfl e2), by simp only; omega, c2⟩
    | false =>
     rw [c] at e
     obtain ⟨v', i', h', e2, l2, c2⟩ := ih v i h hi (by omega)
     exact ⟨(v', i', h'), Ev.bind e (Ev.neg (by simp) e2), by simp only; omega, c2⟩
   obtain ⟨r, e, g⟩ := key
   refine ⟨r, fun _ => trivial, ?_, g⟩
   refine Ev.bind0 (a := ([] : List PI)) rfl (Ev.pos (show 0 + v.length < 8796093022208 by omega) (Ev.bind0 (a := v) rfl (Ev.pos (show v.length < 8796093022208 by omega) (Ev.bind0 (a := v ++ [(⟨x, y⟩ : PI)]) rfl e))))
  have J4 (x y : Int) (o : Bool) (i h : Int) (hi : curP b i) : drawV (fun k => spec_l7Draw.j4 k ((d + 1 : Nat) : Int) x y o b i h v) b (v.length + (d + 1)) := by
   cases o with
   | true =>
    obtain ⟨z, i1, h1, e1, hz, hi1⟩ := spec_l1Below_ex b hb i h hi (v.length : Int)
    obtain ⟨⟨v', i', h'⟩, _, e, l2, c2⟩ := fin x (wrap64 (256 + z)) i1 h1 hi1
    exact ⟨v', i', h', Ev.step (fun k => by rw [spec_l7Draw.j4]) (Ev.pos rfl (Ev.bind0 e1 e)), l2, c2⟩
   | false =>
    obtain ⟨⟨v', i', h'⟩, _, e, l2, c2⟩ := fin x y i h hi
    exact ⟨v', i', h', Ev.step (fun k => by rw [spec_l7Draw.j4]) (Ev.neg (by simp) e), l2, c2⟩
  have J3 (x y : Int) (i h : Int) (hi : curP b i) : drawV (fun k => spec_l7Draw.j3 k ((d + 1 : Nat) : Int) x y b i h v) b (v.length + (d + 1)) := by
   by_cases c : (v.length : Int) > 0
   ·obtain ⟨o, i1, h1, e1, hi1⟩ := spec_l1Once_ex b hb i h hi 3
    obtain ⟨v', i', h', e, l2, c2⟩ := J4 x y o i1 h1 hi1
    exact ⟨v', i', h', Ev.step (fun k => by rw [spec_l7Draw.j3]) (Ev.pos c (Ev.bind0 e1 e)), l2, c2⟩
   ·obtain ⟨v', i', h', e, l2, c2⟩ := J4 x y false i h hi
    exact ⟨v', i', h', Ev.step (fun k => by rw [spec_l7Draw.j3]) (Ev.neg c e), l2, c2⟩
  have J2 (x y : Int) (o : Bool) (i h : Int) (hi : curP b i) : drawV (fun k => spec_l7Draw.j2 k ((d + 1 : Nat) : Int) x y o b i h v) b (v.length + (d + 1)) := by
   cases o with
   | true =>
    obtain ⟨z, i1, h1, e1, hz, hi1⟩ := spec_l1Below_ex b hb i h hi (v.length : Int)
    obtain ⟨v', i', h', e, l2, c2⟩ := J3 (wrap64 (256 + z)) y i1 h1 hi1
    exact ⟨v', i', h', Ev.step (fun k => by rw [spec_l7Draw.j2]) (Ev.pos rfl (Ev.bind0 e1 e)), l2, c2⟩
   | false =>
    obtain ⟨v', i', h', e, l2, c2⟩ := J3 x y i h hi
    exact ⟨v', i', h', Ev.step (fun k => by rw [spec_l7Draw.j2]) (Ev.neg (by simp) e), l2, c2⟩
  have J1 (x y : Int) (i h : Int) (hi : curP b i) : drawV (fun k => spec_l7Draw.j1 k ((d + 1 : Nat) : Int) x y b i h v) b (v.length + (d + 1)) := by
   by_cases c : (v.length : Int) > 0
   ·obtain ⟨o, i1, h1, e1, hi1⟩ := spec_l1Once_ex b hb i h hi 2
    obtain ⟨v', i', h', e, l2, c2⟩ := J2 x y o i1 h1 hi1
    exact ⟨v', i', h', Ev.step (fun k => by rw [spec_l7Draw.j1]) (Ev.pos c (Ev.bind0 e1 e)), l2, c2⟩
   ·obtain ⟨v', i', h', e, l2, c2⟩ := J2 x y false i h hi
    exact ⟨v', i', h', Ev.step (fun k => by rw [spec_l7Draw.j1]) (Ev.neg c e), l2, c2⟩
  obtain ⟨x1, i1, h1, e1, _, hi1⟩ := spec_l1Below_ex b hb i h hi 3
  obtain ⟨x2, i2, h2, e2, _, hi2⟩ := spec_l1Below_ex b hb i1 h1 hi1 3
  obtain ⟨o, i3, h3, e3, hi3⟩ := spec_l1Once_ex b hb i2 h2 hi2 6
  cases o with
  | true =>
   obtain ⟨x4, i4, h4, e4, _, hi4⟩ := spec_l1PickInt_ex b hb i3 h3 hi3 [32, 48, 200, 0, 255] (by decide)
   obtain ⟨v', i', h', e, l2, c2⟩ := J1 x4 (wrap64 (97 + x2)) i4 h4 hi4
   exact ⟨v', i', h', Ev.step (fun k => by rw [spec_l7Draw.l0]) (Ev.pos (by omega) (Ev.bind0 e1 (Ev.bind0 e2 (Ev.bind0 e3 (Ev.pos rfl (Ev.bind0 e4 e)))))), l2, c2⟩
  | false =>
   obtain ⟨v', i', h', e, l2, c2⟩ := J1 (wrap64 (97 + x1)) (wrap64 (97 + x2)) i3 h3 hi3
   exact ⟨v', i', h', Ev.step (fun k => by rw [spec_l7Draw.l0]) (Ev.pos (by omega) (Ev.bind0 e1 (Ev.bind0 e2 (Ev.bind0 e3 (Ev.neg (show ¬ (false = true) by simp) e))))), l2, c2⟩
theorem spec_l7Draw_ex (b : List Int) (hb : b.length ≤ 4000000) (i h : Int) (hi : curP b i) (n : Int) (h0 : 0 ≤ n) (hn : n ≤ 900) : drawV (fun k => spec_l7Draw.f k b i h n) b 900 := by
 obtain ⟨x, i1, h1, e1, hx, hi1⟩ := spec_l1Below_ex b hb i h hi (wrap64 (n + 1))
 rw [w64 (x := n + 1) (by omega) (by omega)] at hx
 have hx2 := hx.2.2 (by omega)
 obtain ⟨m, rfl⟩ := Int.eq_ofNat_of_zero_le hx.1
 obtain ⟨v', i', h', e, l2, c2⟩ := spec_l7Draw_l0 b hb m [] i1 h1 hi1 (by simp only [List.length_nil]; omega)
 rw [List.length_nil] at l2
 refine ⟨v', i', h', ?_, by omega, c2⟩
 unfold spec_l7Draw.f
 exact Ev.bind0 e1 e

theorem spec_l7Any_l0 (b : List Int) (d : Nat) : ∀ (v : List PI) (i h : Int) (j : Nat), j + d = 6 → curP b i → v.length ≤ 900 + j → drawV (fun k => spec_l7Any.l0 k (j : Int) b i h v) b 906 := by
 induction d with
 | zero =>
  intro v i h j hj hi hv
  exact ⟨v, i, h, Ev.step (fun k => by rw [spec_l7Any.l0]) (Ev.neg (by omega) (Ev.now _)), by omega, hi⟩
 | succ d ih =>
  intro v i h j hj hi hv
  have ed : wrap64 ((j : Int) + 1) = ((j + 1 : Nat) : Int) := by rw [w64 (by omega) (by omega)]; omega
  by_cases c : (v.length : Int) > 0
  ·obtain ⟨v', i', h', e, l2, c2⟩ := ih (v ++ [(⟨wrap64 (255 + (v.length : Int)), wrap64 (255 + (v.length : Int))⟩ : PI)]) i h (j + 1) (by omega) hi (by simp; omega)
   exact ⟨v', i', h', Ev.step (fun k => by rw [spec_l7Any.l0]) (Ev.pos (by omega) (Ev.pos c (Ev.pos (by omega) (by rw [ed]; exact e)))), l2, c2⟩
  ·obtain ⟨v', i', h', e, l2, c2⟩ := ih (v ++ [(⟨97, 97⟩ : PI)]) i h (j + 1) (by omega) hi (by simp; omega)
   exact ⟨v', i', h', Ev.step (fun k => by rw [spec_l7Any.l0]) (Ev.pos (by omega) (Ev.neg c (Ev.pos (by omega) (by rw [ed]; exact e)))), l2, c2⟩
theorem spec_l7Any_l1 (b : List Int) (n : Nat) (hn : n ≤ 900) (d : Nat) : ∀ (v : List PI) (i h : Int) (j : Nat), j + d = n → curP b i → v.length ≤ j → drawV (fun k => spec_l7Any.l1 k (n : Int) (j : Int) b i h v) b 906 := by
 induction d with
 | zero =>
  intro v i h j hj hi hv
  exact ⟨v, i, h, Ev.step (fun k => by rw [spec_l7Any.l1]) (Ev.neg (by omega) (Ev.now _)), by omega, hi⟩
 | succ d ih =>
  intro v i h j hj hi hv
  have ed : wrap64 ((j : Int) + 1) = ((j + 1 : Nat) : Int) := by rw [w64 (by omega) (by omega)]; omega
  obtain ⟨v', i', h', e, l2, c2⟩ := ih (v ++ [(⟨(j : Int), 200⟩ : PI)]) i h (j + 1) (by omega) hi (by simp; omega)
  exact ⟨v', i', h', Ev.step (fun k => by rw [spec_l7Any.l1]) (Ev.pos (by omega) (Ev.pos (by omega) (by rw [ed]; exact e))), l2, c2⟩
theorem spec_l7Any_ex (b : List Int) (hb : b.length ≤ 4000000) (i h : Int) (hi : curP b i) (n : Int) (h0 : 0 ≤ n) (hn : n ≤ 900) : drawV (fun k => spec_l7Any.f k b i h n) b 906 := by
 obtain ⟨v, i1, h1, e1, hv, hi1⟩ := spec_l7Draw_ex b hb i h hi n h0 hn
 obtain ⟨o, i2, h2, e2, hi2⟩ := spec_l1Once_ex b hb i1 h1 hi1 8
 unfold spec_l7Any.f
 cases o with
 | false => exact ⟨v, i2, h2, Ev.bind e1 (Ev.bind0 e2 (Ev.neg (by simp) (Ev.now _))), by omega, hi2⟩
 | true =>
  obtain ⟨x, i3, h3, e3, hx, hi3⟩ := spec_l1Below_ex b hb i2 h2 hi2 4
  by_cases c0 : x = 0
  ·obtain ⟨y, i4, h4, e4, _, hi4⟩ := spec_l1PickInt_ex b hb i3 h3 hi3 [(-1), wrap64 (256 + (v.length : Int)), 97] (by simp)
   exact ⟨_, i4, h4, Ev.bind e1 (Ev.bind0 e2 (Ev.pos rfl (Ev.bind0 e3 (Ev.pos c0 (Ev.bind0 e4 (Ev.pos (show v.length < 8796093022208 by omega) (Ev.now _))))))), by simp only [List.length_append, List.length_singleton]; omega, hi4⟩
  ·by_cases c1 : x = 1
   ·by_cases c2 : (v.length : Int) > 0
    ·obtain ⟨y, i4, h4, e4, hy, hi4⟩ := spec_l1Below_ex b hb i3 h3 hi3 (v.length : Int)
     have hy2 := hy.2.2 (by omega)
     exact ⟨_, i4, h4, Ev.bind e1 (Ev.bind0 e2 (Ev.pos rfl (Ev.bind0 e3 (Ev.neg c0 (Ev.pos c1 (Ev.pos c2 (Ev.bind0 e4 (Ev.pos hy.1 (Ev.pos hy2 (Ev.pos (show v.length < 8796093022208 by omega) (Ev.now _))))))))))), by simp; omega, hi4⟩
    ·exact ⟨v, i3, h3, Ev.bind e1 (Ev.bind0 e2 (Ev.pos rfl (Ev.bind0 e3 (Ev.neg c0 (Ev.pos c1 (Ev.neg c2 (Ev.now _))))))), by omega, hi3⟩
   ·by_cases c2 : x = 2
    ·obtain ⟨v', i', h', e, l2, c3⟩ := spec_l7Any_l0 b 6 v i3 h3 0 rfl hi3 (by omega)
     exact ⟨v', i', h', Ev.bind e1 (Ev.bind0 e2 (Ev.pos rfl (Ev.bind0 e3 (Ev.neg c0 (Ev.neg c1 (Ev.pos c2 e)))))), l2, c3⟩
    ·obtain ⟨y, i4, h4, e4, hy, hi4⟩ := spec_l1Below_ex b hb i3 h3 hi3 2
     have hy2 := hy.2.2 (by omega)
     obtain ⟨m, rfl⟩ := Int.eq_ofNat_of_zero_le hy.1
     have hm : 60 + m ≤ 900 := by omega
     have ed : wrap64 (60 + (m : Int)) = ((60 + m : Nat) : Int) := by rw [w64 (by omega) (by omega)]; omega
     obtain ⟨v', i', h', e, l2, c3⟩ := spec_l7Any_l1 b (60 + m) hm (60 + m) [] i4 h4 0 (Nat.zero_add _) hi4 (by simp)
     have e5 : Ev (fun k => spec_l7Any.l1 k (wrap64 (60 + (m : Int))) 0 b i4 h4 ([] : List PI)) (v', i', h') := by rw [ed]; exact e
     exact ⟨v', i', h', Ev.bind e1 (Ev.bind0 e2 (Ev.pos rfl (Ev.bind0 e3 (Ev.neg c0 (Ev.neg c1 (Ev.neg c2 (Ev.bind0 e4 e5))))))), l2, c3⟩

theorem spec_l1Size_ex (b : List Int) (hb : b.length ≤ 4000000) (m : Int) (h0 : 0 ≤ m) : ∃ n, spec_l1Size.f b m = some n ∧ 0 ≤ n ∧ n ≤ m := by
 unfold spec_l1Size.f
 rw [w64 (x := (b.length : Int) / 20) (by omega) (by omega), w64 (by omega) (by omega)]
 by_cases c : 2 + (b.length : Int) / 20 > m
 ·rw [if_pos c]; exact ⟨_, rfl, h0, Int.le_refl _⟩
 ·rw [if_neg c]; exact ⟨_, rfl, by omega, by omega⟩

theorem spec_DrawCanon_ex (l : List Int) (hl : l.length ≤ 4000000) : ∃ v, Ev (fun k => spec_DrawCanon.f k l) v ∧ v.length ≤ 906 := by
 obtain ⟨h, e0⟩ := spec_l1New_ex l
 obtain ⟨n, en, hn0, hn⟩ := spec_l1Size_ex l hl 20 (by omega)
 obtain ⟨v, i1, h1, e1, hv, hi1⟩ := spec_l7Any_ex l hl 0 h ⟨by omega, by omega⟩ n hn0 (by omega)
 refine ⟨v, ?_, hv⟩
 unfold spec_DrawCanon.f
 exact Ev.bind e0 (Ev.bind0 en (Ev.bind e1 (Ev.now _)))

theorem spec_l1Text_l0 (b : List Int) (hb : b.length ≤ 4000000) (md : Int) (d : Nat) : ∀ (xs : List Int) (i h : Int), curP b i → xs.length + d ≤ 1048576 →
  ∃ s i' h', Ev (fun k => spec_l1Text.l0 k xs md (d : Int) b i h) (s, i', h') ∧ s.size = xs.length + d ∧ curP b i' := by
 induction d with
 | zero =>
  intro xs i h hi _
  exact ⟨_, _, _, Ev.step (fun k => by rw [spec_l1Text.l0]) (Ev.neg (by omega) (Ev.now _)), by rw [strOf_size]; rfl, hi⟩
 | succ d ih =>
  intro xs i h hi hx
  obtain ⟨x, i', h', e, hr, hi'⟩ := spec_l1Byte_ex b hb i h hi
  have ed : wrap64 (((d + 1 : Nat) : Int) - 1) = (d : Int) := by rw [w64 (by omega) (by omega)]; omega
  have go (v : Int) := ih (xs ++ [v]) i' h' hi' (by simp; omega)
  have hlen (v : Int) : (xs ++ [v]).length + d = xs.length + (d + 1) := by simp; omega
  by_cases c1 : md = 1
  ·by_cases c2 : md = 2
   ·omega
   ·obtain ⟨s, i2, h2, e2, hs, hi2⟩ := go ((Int.tmod x 2) % 256)
    refine ⟨s, i2, h2, Ev.step (fun k => by rw [spec_l1Text.l0]) (Ev.pos (by omega) (Ev.bind0 e (Ev.pos c1 (Ev.neg c2 (Ev.pos (show xs.length < 140737488355328 by omega) ?_))))), by rw [hs]; exact hlen _, hi2⟩
    rw [ed]; exact e2
  ·by_cases c2 : md = 2
   ·obtain ⟨s, i2, h2, e2, hs, hi2⟩ := go ((wrap64 (97 + (Int.tmod x 4))) % 256)
    refine ⟨s, i2, h2, Ev.step (fun k => by rw [spec_l1Text.l0]) (Ev.pos (by omega) (Ev.bind0 e (Ev.neg c1 (Ev.pos c2 (Ev.pos (show xs.length < 140737488355328 by omega) ?_))))), by rw [hs]; exact hlen _, hi2⟩
    rw [ed]; exact e2
   ·obtain ⟨s, i2, h2, e2, hs, hi2⟩ := go (x % 256)
    refine ⟨s, i2, h2, Ev.step (fun k => by rw [spec_l1Text.l0]) (Ev.pos (by omega) (Ev.bind0 e (Ev.neg c1 (Ev.neg c2 (Ev.pos (show xs.length < 140737488355328 by omega) ?_))))), by rw [hs]; exact hlen _, hi2⟩
    rw [ed]; exact e2
theorem spec_l1Text_ex (b : List Int) (hb : b.length ≤ 4000000) (i h : Int) (hi : curP b i) (n : Int) (h0 : 0 ≤ n) (hn : n ≤ 1000000) :
  ∃ s i' h', Ev (fun k => spec_l1Text.f k b i h n) (s, i', h') ∧ (s.size : Int) ≤ n ∧ curP b i' := by
 obtain ⟨x, i1, h1, e1, _, hi1⟩ := spec_l1Below_ex b hb i h hi 4
 obtain ⟨y, i2, h2, e2, hy, hi2⟩ := spec_l1Below_ex b hb i1 h1 hi1 (n + 1)
 obtain ⟨m, rfl⟩ := Int.eq_ofNat_of_zero_le hy.1
 have hm := hy.2.2 (by omega)
 obtain ⟨s, i3, h3, e3, hs, hi3⟩ := spec_l1Text_l0 b hb x m [] i2 h2 hi2 (by simp; omega)
 refine ⟨s, i3, h3, ?_, by rw [hs]; simp; omega, hi3⟩
 unfold spec_l1Text.f
 rw [w64 (by omega) (by omega)]
 exact Ev.bind0 e1 (Ev.bind0 e2 e3)

theorem spec_l1Spoil_ex (b : List Int) (hb : b.length ≤ 4000000) (i h : Int) (hi : curP b i) (s : ByteArray) (hs : s.size ≤ 4000000) :
  ∃ t i' h', Ev (fun k => spec_l1Spoil.f k b i h s) (t, i', h') ∧ t.size ≤ s.size + 3 ∧ curP b i' := by
 by_cases c : (s.size : Int) = 0
 ·obtain ⟨t, i1, h1, e, ht, hi1⟩ := spec_l1Text_ex b hb i h hi 3 (by omega) (by omega)
  refine ⟨t, i1, h1, ?_, by omega, hi1⟩
  simp only [spec_l1Spoil.f, if_pos c]
  exact Ev.bind e (Ev.now _)
 ·obtain ⟨x, i1, h1, e1, hx, hi1⟩ := spec_l1Below_ex b hb i h hi (s.size : Int)
  obtain ⟨y, i2, h2, e2, hy, hi2⟩ := spec_l1Below_ex b hb i1 h1 hi1 4
  have hx2 := hx.2.2 (by omega)
  obtain ⟨n, rfl⟩ := Int.eq_ofNat_of_zero_le hx.1
  have hn : n < s.size := by omega
  clear hx hx2
  have z1 : (s.extract 0 n).size = n := by rw [ByteArray.size_extract]; omega
  have z2 : (s.extract (n + 1) s.size).size = s.size - (n + 1) := by rw [ByteArray.size_extract]; omega
  have z3 : (s.extract n s.size).size = s.size - n := by rw [ByteArray.size_extract]; omega
  have z4 (v : Int) : (strOfNums [v]).size = 1 := by rw [strOf_size]; rfl
  have z5 (v : Int) : (s.extract 0 n ++ strOfNums [v]).size = n + 1 := by rw [ByteArray.size_append, z1, z4]
  have z6 : (s.extract 0 n ++ s.extract (n + 1) s.size).size = n + (s.size - (n + 1)) := by rw [ByteArray.size_append, z1, z2]
  have z7 (v : Int) : (s.extract 0 n ++ strOfNums [v] ++ s.extract n s.size).size = n + 1 + (s.size - n) := by rw [ByteArray.size_append, z5, z3]
  have z8 (v : Int) : (s.extract 0 n ++ strOfNums [v] ++ s.extract (n + 1) s.size).size = n + 1 + (s.size - (n + 1)) := by rw [ByteArray.size_append, z5, z2]
  have p1 : (0 : Int) ≤ (n : Int) := by omega
  have p2 : (n : Int) ≤ (s.size : Int) := by omega
  have p2' : (n : Int) < (s.size : Int) := by omega
  have p3 : (0 : Int) ≤ ((n + 1 : Nat) : Int) := by omega
  have p4 : ((n + 1 : Nat) : Int) ≤ (s.size : Int) := by omega
  have p5 : (s.extract 0 n).size + (s.extract (n + 1) s.size).size ≤ 9223372036854775807 := by rw [z1, z2]; omega
  have p6 (v : Int) : (s.extract 0 n).size + (strOfNums [v]).size ≤ 9223372036854775807 := by rw [z1, z4]; omega
  have p7 (v : Int) : (s.extract 0 n ++ strOfNums [v]).size + (s.extract n s.size).size ≤ 9223372036854775807 := by rw [z5, z3]; omega
  have p8 (v : Int) : (s.extract 0 n ++ strOfNums [v]).size + (s.extract (n + 1) s.size).size ≤ 9223372036854775807 := by rw [z5, z2]; omega
  have q6 : (s.extract 0 n ++ s.extract (n + 1) s.size).size ≤ s.size + 3 := by rw [z6]; omega
  have q7 (v : Int) : (s.extract 0 n ++ strOfNums [v] ++ s.extract n s.size).size ≤ s.size + 3 := by rw [z7]; omega
  have q8 (v : Int) : (s.extract 0 n ++ strOfNums [v] ++ s.extract (n + 1) s.size).size ≤ s.size + 3 := by rw [z8]; omega
  have q1 : (s.extract 0 n).size ≤ s.size + 3 := by rw [z1]; omega
  have k1 : wrap64 ((n : Int) + 1) = ((n + 1 : Nat) : Int) := by rw [w64 (by omega) (by omega)]; rfl
  by_cases c0 : y = 0
  ·refine ⟨s.extract 0 n ++ s.extract (n + 1) s.size, i2, h2, ?_, q6, hi2⟩
   simp only [spec_l1Spoil.f, if_neg c, e1, e2, Option.bind_some, if_pos c0, k1, Int.toNat_natCast, if_pos p1, if_pos p2, if_pos p3, if_pos p4, if_pos p5]
   exact Ev.now _
  ·by_cases c1 : y = 1
   ·obtain ⟨z, i3, h3, e3, hz, hi3⟩ := spec_l1Byte_ex b hb i2 h2 hi2
    refine ⟨s.extract 0 n ++ strOfNums [z % 256] ++ s.extract n s.size, i3, h3, ?_, q7 _, hi3⟩
    simp only [spec_l1Spoil.f, if_neg c, e1, e2, e3, Option.bind_some, if_neg c0, if_pos c1, k1, Int.toNat_natCast, if_pos p1, if_pos p2, if_pos (p6 _), if_pos (p7 _)]
    exact Ev.now _
   ·by_cases c2 : y = 2
    ·refine ⟨s.extract 0 n, i2, h2, ?_, q1, hi2⟩
     simp only [spec_l1Spoil.f, if_neg c, e1, e2, Option.bind_some, if_neg c0, if_neg c1, if_pos c2, k1, Int.toNat_natCast, if_pos p1, if_pos p2]
     exact Ev.now _
    ·obtain ⟨z, i3, h3, e3, hz, hi3⟩ := spec_l1Below_ex b hb i2 h2 hi2 255
     refine ⟨s.extract 0 n ++ strOfNums [(Go.bits .xor .i64 (wrap64 (bt s (n : Int))) (wrap64 (1 + z))) % 256] ++ s.extract (n + 1) s.size, i3, h3, ?_, q8 _, hi3⟩
     simp only [spec_l1Spoil.f, if_neg c, e1, e2, e3, Option.bind_some, if_neg c0, if_neg c1, if_neg c2, k1, Int.toNat_natCast, if_pos p1, if_pos p2, if_pos p2', if_pos p3, if_pos p4, if_pos (p6 _), if_pos (p8 _)]
     exact Ev.now _

/-! ### what ReadVar tells -/
def lev (s : ByteArray) : Nat → Nat
 | 0 => 0
 | k + 1 => lev s k + ((bt s (k : Int)).toNat % 128) * 128 ^ k
theorem lev_lt (s : ByteArray) : ∀ k, lev s k < 128 ^ k
 | 0 => by simp [lev]
 | k + 1 => by
  have h := lev_lt s k
  have h2 : (bt s (k : Int)).toNat % 128 ≤ 127 := by omega
  have h3 : ((bt s (k : Int)).toNat % 128) * 128 ^ k ≤ 127 * 128 ^ k := Nat.mul_le_mul_right _ h2
  rw [lev, Nat.pow_succ]
  omega
theorem lev_le {s : ByteArray} {k : Nat} (h : k ≤ 7) : lev s k ≤ 562949953421311 := by
 have h1 := lev_lt s k
 have h2 : 128 ^ k ≤ 128 ^ 7 := Nat.pow_le_pow_right (by decide) h
 have h3 : (128 : Nat) ^ 7 = 562949953421312 := by decide
 omega
def isVarAt (s : ByteArray) (k : Nat) : Prop := (strOfNums (varL (lev s k))).toList = (s.extract 0 k).toList
instance (s : ByteArray) (k : Nat) : Decidable (isVarAt s k) := inferInstanceAs (Decidable (_ = _))
/-- The first byte below 128 ends it. -/
def rvFrom (s : ByteArray) : Nat → Nat → Int × Int
 | 0, _ => (0, 0)
 | d + 1, i => if i < s.size then (if bt s (i : Int) < 128 then (if isVarAt s (i + 1) then ((lev s (i + 1) : Nat), ((i + 1 : Nat) : Int)) else (0, 0)) else rvFrom s d (i + 1)) else (0, 0)
/-- What ReadVar(s) is. -/
def readVarV (s : ByteArray) : Int × Int := rvFrom s 7 0
/-- Each beginning is tried. -/
def rvTry (s : ByteArray) : Nat → Nat → Int × Int
 | 0, _ => (0, 0)
 | d + 1, i => if i < s.size then (if isVarAt s (i + 1) then ((lev s (i + 1) : Nat), ((i + 1 : Nat) : Int)) else rvTry s d (i + 1)) else (0, 0)
theorem rvTry_none (s : ByteArray) (j : Nat) (hj : bt s (j : Int) < 128) : ∀ (d i : Nat), j < i → rvTry s d i = (0, 0)
 | 0, _, _ => rfl
 | d + 1, i, h => by
  rw [rvTry]
  split
  ·rename_i hi
   rw [if_neg ?_]
   ·exact rvTry_none s j hj d (i + 1) (by omega)
   ·intro hv
    have := ((var_at (by omega) hv).2 j (by omega)).2 (by omega)
    omega
  ·rfl
theorem rv_same (s : ByteArray) : ∀ (d i : Nat), rvTry s d i = rvFrom s d i
 | 0, _ => rfl
 | d + 1, i => by
  rw [rvTry, rvFrom]
  split
  ·rename_i hi
   by_cases c : bt s (i : Int) < 128
   ·rw [if_pos c]
    split
    ·rfl
    ·exact rvTry_none s i c d (i + 1) (by omega)
   ·rw [if_neg c, if_neg ?_]
    ·exact rv_same s d (i + 1)
    ·intro hv
     have := ((var_at (by omega) hv).2 i (by omega)).1 rfl
     omega
  ·rfl

/-! a number's bytes are read as it -/
def levL : List Int → Nat
 | [] => 0
 | b :: l => b.toNat % 128 + 128 * levL l
theorem levL_snoc (l : List Int) (b : Int) : levL (l ++ [b]) = levL l + (b.toNat % 128) * 128 ^ l.length := by
 induction l with
 | nil => simp [levL]
 | cons a l ih =>
  simp only [List.cons_append, levL, ih, List.length_cons, Nat.pow_succ]
  rw [Nat.mul_add, Nat.mul_comm 128 (b.toNat % 128 * 128 ^ l.length), Nat.mul_assoc, Nat.add_assoc]
theorem lev_list (s : ByteArray) : ∀ (k : Nat), k ≤ s.size → lev s k = levL ((bl s).take k)
 | 0, _ => by simp [lev, levL]
 | k + 1, h => by
  have hk : k < (bl s).length := by rw [bl_length]; omega
  rw [lev, lev_list s k (by omega), List.take_succ_eq_append_getElem hk, levL_snoc, List.length_take, Nat.min_eq_left (by omega), bt_nat s k (by omega)]
theorem levL_varL (n : Nat) : levL (varL n) = n := by
 induction n using Nat.strongRecOn with
 | ind n ih =>
  by_cases c : n < 128
  ·rw [varL_small c]; simp only [levL]; omega
  ·rw [varL_big c]; simp only [levL]; rw [ih (n / 128) (by omega)]; omega
theorem rv_varL {s : ByteArray} {n : Nat} (hn : n ≤ 562949953421311) {xs : List Int} (e : bl s = varL n ++ xs) : readVarV s = ((n : Int), (((varL n).length : Nat) : Int)) := by
 have h7 := varL_le7 hn
 have hp := varL_pos n
 have hs : s.size = (varL n).length + xs.length := by rw [← bl_length, e, List.length_append]
 have et : (bl s).take (varL n).length = varL n := by rw [e, List.take_left' rfl]
 have hl : lev s (varL n).length = n := by rw [lev_list s _ (by omega), et, levL_varL]
 have hv : isVarAt s (varL n).length := by
  unfold isVarAt
  rw [hl]
  have : strOfNums (varL n) = s.extract 0 (varL n).length := by
   apply bl_inj
   rw [bl_strOf (varL_isB n), bl_extract, List.drop_zero, Nat.sub_zero, et]
  rw [this]
 have hb : ∀ j (h : j < (varL n).length), bt s (j : Int) = (varL n)[j] := by
  intro j h
  have hj : j < s.size := by omega
  rw [bt_nat s j hj]
  simp only [e]
  rw [List.getElem_append_left h]
 have key : ∀ d i, i + d = (varL n).length → 0 < d → ∀ f, d ≤ f → rvFrom s f i = ((n : Int), (((varL n).length : Nat) : Int)) := by
  intro d
  induction d with
  | zero => intro i _ h; omega
  | succ d ih =>
   intro i hi _ f hf
   obtain ⟨f, rfl⟩ : ∃ g, f = g + 1 := ⟨f - 1, by omega⟩
   have sh := varL_shape n i (by omega)
   rw [rvFrom, if_pos (by omega), hb i (by omega)]
   by_cases c : i + 1 = (varL n).length
   ·rw [if_pos (sh.1 c), c, if_pos hv, hl]
   ·have := sh.2 (by omega)
    rw [if_neg (by omega)]
    exact ih (i + 1) (by omega) (by omega) f (by omega)
 exact key (varL n).length 0 (by omega) hp 7 h7
theorem rv_cases (s : ByteArray) : ∀ (d i : Nat), i + d ≤ 7 → (rvFrom s d i).2 = 0 ∨ ∃ k, k ≤ 7 ∧ k ≤ s.size ∧ rvFrom s d i = (((lev s k : Nat) : Int), (k : Int)) ∧ isVarAt s k
 | 0, _, _ => .inl rfl
 | d + 1, i, h => by
  rw [rvFrom]
  split
  ·split
   ·split
    ·rename_i c
     exact .inr ⟨i + 1, by omega, by omega, rfl, c⟩
    ·exact .inl rfl
   ·exact rv_cases s d (i + 1) (by omega)
  ·exact .inl rfl

/-! ### what is left of a text -/
abbrev tl (s : ByteArray) (a : Nat) : ByteArray := s.extract a s.size
theorem tl_bl (s : ByteArray) (a : Nat) : bl (tl s a) = (bl s).drop a := by
 rw [bl_extract, List.take_of_length_le (by rw [List.length_drop, bl_length]; omega)]
theorem tl_size (s : ByteArray) (a : Nat) : (tl s a).size = s.size - a := by
 rw [← bl_length, tl_bl, List.length_drop, bl_length]
theorem tl_tl (s : ByteArray) (a b : Nat) : tl (tl s a) b = tl s (a + b) := by
 apply bl_inj
 rw [tl_bl, tl_bl, tl_bl, List.drop_drop]
theorem rv_range (s : ByteArray) : 0 ≤ (readVarV s).2 ∧ (readVarV s).2 ≤ s.size ∧ (readVarV s).2 ≤ 7 ∧ ((readVarV s).2 ≠ 0 → 0 ≤ (readVarV s).1 ∧ (readVarV s).1 ≤ 562949953421311) := by
 rcases rv_cases s 7 0 (by omega) with h | ⟨k, h7, hs, e, _⟩
 ·have h' : (readVarV s).2 = 0 := h
  rw [h']; exact ⟨by omega, by omega, by omega, fun h => absurd rfl h⟩
 ·have e' : readVarV s = (((lev s k : Nat) : Int), (k : Int)) := e
  rw [e']
  have := lev_le (s := s) h7
  exact ⟨by simp only; omega, by simp only; omega, by simp only; omega, fun _ => ⟨by simp only; omega, by simp only; omega⟩⟩

theorem varL_le2 {n : Nat} (h : n < 16384) : (varL n).length ≤ 2 := by
 by_cases c : n < 128
 ·rw [varL_small c]; simp
 ·rw [varL_big c, varL_small (by omega)]; simp
theorem pairsL_len : ∀ (l : List (Int × Int)), (∀ p ∈ l, 0 ≤ p.1 ∧ p.1 ≤ 315 ∧ 0 ≤ p.2 ∧ p.2 ≤ 315) → (pairsL l).length ≤ 4 * l.length
 | [], _ => Nat.le_refl _
 | p :: l, h => by
  have hp := h p (by simp)
  have := pairsL_len l (fun q hq => h q (by simp [hq]))
  have h1 := varL_le2 (n := p.1.toNat) (by omega)
  have h2 := varL_le2 (n := p.2.toNat) (by omega)
  unfold pairsL
  simp only [List.length_append, List.length_cons]
  omega
theorem canon_bl {l : List (Int × Int)} (hv : vocabOk l = true) {s : ByteArray} (h : canonV l = s) : bl s = [98, 112, 101, (l.length : Int)] ++ pairsL l := by
 have h60 := tokV_60 hv
 subst h
 unfold canonV
 rw [if_pos hv]
 have hb : IsB (canonL l) := by
  unfold canonL
  refine isB_append (isB_append (isB_cons (by omega) (isB_cons (by omega) (isB_cons (by omega) isB_nil))) (varL_isB _)) ?_
  have : ∀ l : List (Int × Int), IsB (pairsL l) := by
   intro l
   induction l with
   | nil => exact isB_nil
   | cons p l ih => exact isB_append (isB_append (varL_isB _) (varL_isB _)) ih
  exact this l
 rw [bl_strOf hb]
 unfold canonL
 rw [varL_small (by omega)]
 rfl
theorem canon_size {l : List (Int × Int)} (hv : vocabOk l = true) {s : ByteArray} (h : canonV l = s) : 4 ≤ s.size ∧ s.size ≤ 250 := by
 have h60 := tokV_60 hv
 have hp := pairsL_len l (vocab_pairs hv)
 have hb := congrArg List.length (canon_bl hv h)
 rw [bl_length, List.length_append] at hb
 simp only [List.length_cons, List.length_nil] at hb
 omega
def isCanon (s : ByteArray) : Prop := ∃ l : List PI, vocabOk (prs l) = true ∧ canonV (prs l) = s
abbrev CanT := List PI × Bool
def goodC (s : ByteArray) (R : CanT) : Prop := R = ([], false) ∨ (s.size ≠ 0 ∧ ∃ v, R = (v, true) ∧ canonV (prs v) = s)
theorem goodC_no {s : ByteArray} {R : CanT} (h : goodC s R) (hn : ¬ isCanon s) : R = ([], false) := by
 rcases h with h | ⟨h0, v, rfl, hv⟩
 ·exact h
 ·by_cases c : vocabOk (prs v) = true
  ·exact absurd ⟨v, c, hv⟩ hn
  ·unfold canonV at hv
   rw [if_neg c] at hv
   subst hv
   exact absurd (by rw [strOf_size]; rfl) h0
/-- one pair, read -/
theorem pair_read {s : ByteArray} {i : Nat} {l : List PI} (hlt : i < l.length) (hp : ∀ p ∈ prs l, 0 ≤ p.1 ∧ p.1 ≤ 315 ∧ 0 ≤ p.2 ∧ p.2 ≤ 315) {n : Nat} (hn : n ≤ s.size) (h : (bl s).drop n = pairsL (prs (l.drop i))) :
  ∃ a b : Nat, readVarV (tl s n) = (l[i].f0, (a : Int)) ∧ readVarV (tl s (n + a)) = (l[i].f1, (b : Int)) ∧ 1 ≤ a ∧ 1 ≤ b ∧ n + a + b ≤ s.size ∧ (bl s).drop (n + a + b) = pairsL (prs (l.drop (i + 1))) := by
 have hm : (l[i].f0, l[i].f1) ∈ prs l := by
  unfold prs
  exact List.mem_map.2 ⟨l[i], List.getElem_mem hlt, rfl⟩
 have hq := hp _ hm
 simp only at hq
 obtain ⟨x, hx⟩ := Int.eq_ofNat_of_zero_le hq.1
 obtain ⟨y, hy⟩ := Int.eq_ofNat_of_zero_le hq.2.2.1
 rw [List.drop_eq_getElem_cons hlt] at h
 simp only [prs, List.map_cons, pairsL] at h
 rw [hx, hy, Int.toNat_natCast, Int.toNat_natCast, List.append_assoc] at h
 have r1 := rv_varL (s := tl s n) (n := x) (by omega) (xs := varL y ++ pairsL (prs (l.drop (i + 1)))) (by rw [tl_bl, h]; rfl)
 have h2 : (bl s).drop (n + (varL x).length) = varL y ++ pairsL (prs (l.drop (i + 1))) := by
  rw [← List.drop_drop, h, List.drop_left' rfl]; rfl
 have r2 := rv_varL (s := tl s (n + (varL x).length)) (n := y) (by omega) (xs := pairsL (prs (l.drop (i + 1)))) (by rw [tl_bl, h2])
 have hl := congrArg List.length h
 rw [List.length_drop, bl_length, List.length_append, List.length_append] at hl
 refine ⟨(varL x).length, (varL y).length, by rw [r1, hx], by rw [r2, hy], varL_pos x, varL_pos y, by omega, ?_⟩
 rw [← List.drop_drop, h2, List.drop_left' rfl]

theorem spec_Var_l0 (n : Nat) : ∀ (xs : List Int), xs.length + n / 128 < 140737488355328 → n < 9223372036854775808 →
  Ev (fun k => spec_Var.l0 k (n : Int) xs) (strOfNums (xs ++ varL n)) := by
 induction n using Nat.strongRecOn with
 | ind n ih =>
 intro xs h1 h2
 refine Ev.step (fun k => by rw [spec_Var.l0]) ?_
 rw [varL]
 by_cases c : n < 128
 ·rw [if_pos c]
  refine Ev.neg (by omega) (Ev.pos (by omega) (Ev.val _ _ ?_))
  rw [Int.emod_eq_of_lt (by omega) (by omega)]
 ·rw [if_neg c]
  refine Ev.pos (by omega) (Ev.pos (by omega) ?_)
  have e1 : wrap64 (Int.tdiv (n : Int) 128) = ((n / 128 : Nat) : Int) := by rw [tdiv_nn (by omega), w64 (by omega) (by omega)]; omega
  have e2 : (wrap64 (128 + Int.tmod (n : Int) 128)) % 256 = ((n % 128 + 128 : Nat) : Int) := by rw [tmod_nn (by omega), w64 (by omega) (by omega)]; omega
  rw [e1, e2]
  have := ih (n / 128) (by omega) (xs ++ [((n % 128 + 128 : Nat) : Int)]) (by simp; omega) (by omega)
  simpa [List.append_assoc] using this
theorem spec_Var_in (n : Nat) (h : n ≤ 562949953421311) : Ev (fun k => spec_Var.f k (n : Int)) (strOfNums (varL n)) := by
 unfold spec_Var.f
 refine Ev.bind0 (spec_l1In_eq _ _ _) (Ev.pos (by simp; omega) ?_)
 simpa using spec_Var_l0 n [] (by simp; omega) (by omega)
theorem spec_ReadVar_l1 (s : ByteArray) (x4 : Int) (r : Int × Int) (m : Nat) : ∀ (n e : Nat), n < 128 ^ e → e + m ≤ 7 → m ≤ s.size →
  Ev (fun k => spec_ReadVar.l1 k s x4 ((n * 128 ^ m + lev s m : Nat) : Int) (-1)) r → Ev (fun k => spec_ReadVar.l1 k s x4 (n : Int) ((m : Int) - 1)) r := by
 induction m with
 | zero =>
  intro n e hn he hm h
  simpa [lev] using h
 | succ m ih =>
  intro n e hn he hm h
  have hb := bt_range s (m : Int)
  have h7 : 128 ^ e ≤ 128 ^ 6 := Nat.pow_le_pow_right (by decide) (by omega)
  have h6 : (128 : Nat) ^ 6 = 4398046511104 := by decide
  refine Ev.step (fun k => by rw [spec_ReadVar.l1]) ?_
  have e0 : ((m + 1 : Nat) : Int) - 1 = (m : Int) := by omega
  rw [e0]
  refine Ev.pos (by omega) (Ev.pos (by omega) (Ev.pos (by omega) ?_))
  have e1 : wrap64 (wrap64 ((n : Int) * 128) + Int.tmod (wrap64 (bt s (m : Int))) 128) = ((n * 128 + (bt s (m : Int)).toNat % 128 : Nat) : Int) := by
   rw [wbt, tmod_nn (by omega), w64 (x := (n : Int) * 128) (by omega) (by omega), w64 (by omega) (by omega)]
   omega
  rw [e1, w64 (by omega) (by omega)]
  refine ih _ (e + 1) (by rw [Nat.pow_succ]; omega) (by omega) (by omega) ?_
  have e2 : (n * 128 + (bt s (m : Int)).toNat % 128) * 128 ^ m + lev s m = n * 128 ^ (m + 1) + lev s (m + 1) := by
   rw [lev, Nat.pow_succ, Nat.add_mul, Nat.mul_assoc, Nat.mul_comm 128 (128 ^ m)]
   omega
  rw [e2]
  exact h
theorem spec_ReadVar_l0 (s : ByteArray) (hs : s.size ≤ 140737488351232) (d : Nat) : ∀ (i : Nat), i + d = 7 → Ev (fun k => spec_ReadVar.l0 k s ((i + 1 : Nat) : Int)) (rvTry s d i) := by
 induction d with
 | zero =>
  intro i hi
  refine Ev.step (fun k => by rw [spec_ReadVar.l0]) ?_
  refine Ev.neg (by omega) ?_
  refine Ev.step (fun k => by rw [spec_ReadVar.j1]) ?_
  exact Ev.neg (by simp) (Ev.now _)
 | succ d ih =>
  intro i hi
  refine Ev.step (fun k => by rw [spec_ReadVar.l0]) ?_
  refine Ev.pos (by omega) ?_
  refine Ev.step (fun k => by rw [spec_ReadVar.j1]) ?_
  rw [rvTry]
  by_cases c : i < s.size
  ·rw [if_pos c]
   refine Ev.pos (by simp; omega) ?_
   rw [w64 (x := ((i + 1 : Nat) : Int) - 1) (by omega) (by omega)]
   refine spec_ReadVar_l1 s _ _ (i + 1) 0 0 (by simp) (by omega) (by omega) ?_
   rw [Nat.zero_mul, Nat.zero_add]
   refine Ev.step (fun k => by rw [spec_ReadVar.l1]) ?_
   refine Ev.neg (by omega) (Ev.bind (spec_Var_in _ (lev_le (by omega))) (Ev.pos (by omega) (Ev.pos (by omega) ?_)))
   rw [Int.toNat_natCast]
   by_cases v : isVarAt s (i + 1)
   ·rw [if_pos v]
    exact Ev.pos v (Ev.now _)
   ·rw [if_neg v]
    refine Ev.neg v ?_
    rw [w64 (by omega) (by omega)]
    exact ih (i + 1) (by omega)
  ·rw [if_neg c]
   exact Ev.neg (by simp; omega) (Ev.now _)
theorem spec_ReadVar_ev (s : ByteArray) (hs : s.size ≤ 140737488351232) : Ev (fun k => spec_ReadVar.f k s) (readVarV s) := by
 unfold spec_ReadVar.f readVarV
 rw [← rv_same]
 exact spec_ReadVar_l0 s hs 7 0 rfl

theorem spec_Canon_l0 (l : List PI) (hl : l.length ≤ 60) (hp : ∀ p ∈ prs l, 0 ≤ p.1 ∧ p.1 ≤ 315 ∧ 0 ≤ p.2 ∧ p.2 ≤ 315) (d : Nat) : ∀ (i : Nat) (xs : List Int), i + d = l.length → xs.length ≤ 100 + 14 * i →
  Ev (fun k => spec_Canon.l0 k (strOfNums xs) (i : Int) l) (strOfNums (xs ++ pairsL (prs (l.drop i)))) := by
 induction d with
 | zero =>
  intro i xs hi hx
  refine Ev.step (fun k => by rw [spec_Canon.l0]) ?_
  rw [List.drop_eq_nil_of_le (by omega)]
  exact Ev.neg (by omega) (Ev.val _ _ (by simp [prs, pairsL]))
 | succ d ih =>
  intro i xs hi hx
  have hm : rd_T76 l (i : Int) ∈ l := by
   have := rdI_drop l i (by omega)
   exact List.mem_of_mem_drop (i := i) (by rw [this]; exact List.mem_cons_self)
  refine Ev.step (fun k => by rw [spec_Canon.l0]) ?_
  rw [rdI_drop l i (by omega)]
  generalize rd_T76 l (i : Int) = p at hm
  obtain ⟨h0, h1, h2, h3⟩ := hp (p.f0, p.f1) (List.mem_map.2 ⟨p, hm, rfl⟩)
  obtain ⟨n, hn⟩ := Int.eq_ofNat_of_zero_le h0
  obtain ⟨m, hmm⟩ := Int.eq_ofNat_of_zero_le h2
  simp only at hn hmm h1 h3
  have l1 := varL_le7 (n := n) (by omega)
  have l2 := varL_le7 (n := m) (by omega)
  refine Ev.pos (by omega) (Ev.pos (by omega) ?_)
  rw [hn, hmm]
  refine Ev.bind (spec_Var_in n (by omega)) (Ev.pos (by rw [strOf_size, strOf_size]; omega) ?_)
  refine Ev.bind (spec_Var_in m (by omega)) ?_
  rw [strOf_append]
  refine Ev.pos (by rw [strOf_size, strOf_size, List.length_append]; omega) ?_
  rw [strOf_append, w64 (by omega) (by omega)]
  have := ih (i + 1) (xs ++ varL n ++ varL m) (by omega) (by simp only [List.length_append]; omega)
  have e1 : ((i + 1 : Nat) : Int) = (i : Int) + 1 := by omega
  rw [e1] at this
  have e2 : xs ++ pairsL (prs (p :: l.drop (i + 1))) = xs ++ varL n ++ varL m ++ pairsL (prs (l.drop (i + 1))) := by
   simp only [prs, List.map_cons, pairsL, hn, hmm, Int.toNat_natCast, List.append_assoc]
  rw [e2]
  exact this
theorem spec_Canon_ev (l : List PI) : Ev (fun k => spec_Canon.f k l) (canonV (prs l)) := by
 unfold spec_Canon.f canonV
 refine Ev.bind (spec_VocabOk_ev l) ?_
 refine Ev.ite Iff.rfl (fun c => ?_) (fun _ => Ev.now _)
 have h60 := tokV_60 c
 rw [prs_length] at h60
 have l1 := varL_le7 (n := l.length) (by omega)
 refine Ev.bind (spec_Var_in l.length (by omega)) (Ev.pos (by rw [strOf_size]; omega) ?_)
 have e : (⟨#[98, 112, 101]⟩ : ByteArray) = strOfNums [98, 112, 101] := rfl
 rw [e, strOf_append]
 have := spec_Canon_l0 l h60 (vocab_pairs c) l.length 0 ([98, 112, 101] ++ varL l.length) (by omega) (by simp; omega)
 unfold canonL
 rw [prs_length]
 exact this

theorem spec_rc_end (s : ByteArray) (h0 : s.size ≠ 0) (n : Nat) (hn : ¬ n < s.size) (v : List PI) : ∃ R, Ev (fun k => spec_ReadCanon.l0 k s (n : Int) v) R ∧ goodC s R ∧ (canonV (prs v) = s → R = (v, true)) := by
 by_cases c : canonV (prs v) = s
 ·refine ⟨(v, true), ?_, .inr ⟨h0, v, rfl, c⟩, fun _ => rfl⟩
  refine Ev.step (fun k => by rw [spec_ReadCanon.l0]) ?_
  exact Ev.neg (by omega) (Ev.bind (spec_Canon_ev v) (Ev.pos ((tl_iff _ _).2 c) (Ev.now _)))
 ·refine ⟨([], false), ?_, .inl rfl, fun e => absurd e c⟩
  refine Ev.step (fun k => by rw [spec_ReadCanon.l0]) ?_
  exact Ev.neg (by omega) (Ev.bind (spec_Canon_ev v) (Ev.neg (fun e => c ((tl_iff _ _).1 e)) (Ev.now _)))
theorem spec_rc_step (s : ByteArray) (hs : s.size ≤ 250) (n : Nat) (hn : n < s.size) (v : List PI) (hv : v.length ≤ n) (R : CanT) :
  ((readVarV (tl s n)).2 = 0 ∨ (readVarV (tl s (n + (readVarV (tl s n)).2.toNat))).2 = 0 → R = ([], false)) →
  (¬ (readVarV (tl s n)).2 = 0 → ¬ (readVarV (tl s (n + (readVarV (tl s n)).2.toNat))).2 = 0 → Ev (fun k => spec_ReadCanon.l0 k s ((n + (readVarV (tl s n)).2.toNat + (readVarV (tl s (n + (readVarV (tl s n)).2.toNat))).2.toNat : Nat) : Int) (v ++ [⟨(readVarV (tl s n)).1, (readVarV (tl s (n + (readVarV (tl s n)).2.toNat))).1⟩])) R) →
  Ev (fun k => spec_ReadCanon.l0 k s (n : Int) v) R := by
 intro hz hgo
 have r1 := rv_range (tl s n)
 have e1 := spec_ReadVar_ev (tl s n) (by rw [tl_size]; omega)
 have r2 := rv_range (tl s (n + (readVarV (tl s n)).2.toNat))
 have e2 := spec_ReadVar_ev (tl s (n + (readVarV (tl s n)).2.toNat)) (by rw [tl_size]; omega)
 rw [tl_size] at r1 r2
 generalize readVarV (tl s n) = p at *
 generalize readVarV (tl s (n + p.2.toNat)) = q at *
 refine Ev.step (fun k => by rw [spec_ReadCanon.l0]) ?_
 have a1 : wrap64 ((n : Int) + p.2) = ((n + p.2.toNat : Nat) : Int) := by rw [w64 (by omega) (by omega)]; omega
 have a2 : wrap64 (((n + p.2.toNat : Nat) : Int) + q.2) = ((n + p.2.toNat + q.2.toNat : Nat) : Int) := by rw [w64 (by omega) (by omega)]; omega
 refine Ev.pos (by omega) (Ev.pos (by omega) (Ev.pos (by omega) ?_))
 rw [Int.toNat_natCast]
 refine Ev.bind e1 ?_
 rw [a1, Int.toNat_natCast]
 refine Ev.pos (Int.natCast_nonneg _) (Ev.pos (by clear a1 a2; omega) (Ev.bind e2 ?_))
 rw [a2]
 clear a1 a2
 by_cases c1 : p.2 = 0
 ·rw [hz (.inl c1)]; exact Ev.pos c1 (Ev.now _)
 ·by_cases c2 : q.2 = 0
  ·rw [hz (.inr c2)]; exact Ev.neg c1 (Ev.pos c2 (Ev.now _))
  ·exact Ev.neg c1 (Ev.neg c2 (Ev.pos (by omega) (hgo c1 c2)))
theorem spec_rc_any (s : ByteArray) (h0 : s.size ≠ 0) (hs : s.size ≤ 250) (d : Nat) : ∀ (n : Nat) (v : List PI), s.size ≤ n + d → v.length ≤ n → ∃ R, Ev (fun k => spec_ReadCanon.l0 k s (n : Int) v) R ∧ goodC s R := by
 induction d with
 | zero =>
  intro n v hn hv
  obtain ⟨R, e, g, _⟩ := spec_rc_end s h0 n (by omega) v
  exact ⟨R, e, g⟩
 | succ d ih =>
  intro n v hn hv
  by_cases c : n < s.size
  ·by_cases c1 : (readVarV (tl s n)).2 = 0
   ·exact ⟨([], false), spec_rc_step s hs n c v hv _ (fun _ => rfl) (fun h => absurd c1 h), .inl rfl⟩
   ·by_cases c2 : (readVarV (tl s (n + (readVarV (tl s n)).2.toNat))).2 = 0
    ·exact ⟨([], false), spec_rc_step s hs n c v hv _ (fun _ => rfl) (fun _ h => absurd c2 h), .inl rfl⟩
    ·have r1 := rv_range (tl s n)
     obtain ⟨R, e, g⟩ := ih (n + (readVarV (tl s n)).2.toNat + (readVarV (tl s (n + (readVarV (tl s n)).2.toNat))).2.toNat) (v ++ [⟨(readVarV (tl s n)).1, (readVarV (tl s (n + (readVarV (tl s n)).2.toNat))).1⟩]) (by omega) (by rw [List.length_append, List.length_singleton]; omega)
     exact ⟨R, spec_rc_step s hs n c v hv _ (fun h => h.elim (fun h => absurd h c1) (fun h => absurd h c2)) (fun _ _ => e), g⟩
  ·obtain ⟨R, e, g, _⟩ := spec_rc_end s h0 n c v
   exact ⟨R, e, g⟩
theorem spec_rc_canon (s : ByteArray) (l : List PI) (hv : vocabOk (prs l) = true) (hc : canonV (prs l) = s) (d : Nat) : ∀ (i n : Nat), i + d = l.length → n ≤ s.size → i ≤ n → (bl s).drop n = pairsL (prs (l.drop i)) →
  Ev (fun k => spec_ReadCanon.l0 k s (n : Int) (l.take i)) (l, true) := by
 have hz := canon_size hv hc
 induction d with
 | zero =>
  intro i n hi hn hin h
  have e0 : l.drop i = [] := List.drop_eq_nil_of_le (by omega)
  rw [e0] at h
  have hl := congrArg List.length h
  rw [List.length_drop, bl_length] at hl
  have hl' : s.size - n = 0 := hl
  rw [List.take_of_length_le (by omega)]
  obtain ⟨R, e, _, g⟩ := spec_rc_end s (by omega) n (by omega) l
  rw [g hc] at e
  exact e
 | succ d ih =>
  intro i n hi hn hin h
  obtain ⟨a, b, ha, hb, a1, b1, hnb, hd⟩ := pair_read (by omega : i < l.length) (vocab_pairs hv) hn h
  have R := ih (i + 1) (n + a + b) (by omega) hnb (by omega) hd
  rw [List.take_succ_eq_append_getElem (by omega : i < l.length)] at R
  refine spec_rc_step s hz.2 n (by omega) (l.take i) (by rw [List.length_take]; omega) _ ?_ ?_
  ·rw [ha]; simp only [Int.toNat_natCast]; rw [hb]
   simp only
   intro h; omega
  ·rw [ha]; simp only [Int.toNat_natCast]; rw [hb]
   simp only [Int.toNat_natCast]
   intro _ _
   exact R
theorem spec_ReadCanon_yes (s : ByteArray) (l : List PI) (hv : vocabOk (prs l) = true) (hc : canonV (prs l) = s) : Ev (fun k => spec_ReadCanon.f k s) (l, true) := by
 have hz := canon_size hv hc
 have hb := canon_bl hv hc
 unfold spec_ReadCanon.f
 refine Ev.neg (by omega) ?_
 rw [decide_eq_false (by omega)]
 refine Ev.step (fun k => by rw [spec_ReadCanon.j0]) ?_
 refine Ev.neg (by simp) ?_
 have := spec_rc_canon s l hv hc l.length 0 4 (by omega) (by omega) (by omega) (by rw [hb, List.drop_zero]; rfl)
 exact this
theorem spec_ReadCanon_no (s : ByteArray) (hn : ¬ isCanon s) : Ev (fun k => spec_ReadCanon.f k s) ([], false) := by
 have jt : Ev (fun k => spec_ReadCanon.j0 k s true) ([], false) := by
  refine Ev.step (fun k => by rw [spec_ReadCanon.j0]) ?_
  exact Ev.pos rfl (Ev.now _)
 unfold spec_ReadCanon.f
 by_cases c0 : (s.size : Int) < 4
 ·exact Ev.pos c0 jt
 ·refine Ev.neg c0 ?_
  by_cases c1 : (s.size : Int) > 250
  ·rw [decide_eq_true c1]; exact jt
  ·rw [decide_eq_false c1]
   refine Ev.step (fun k => by rw [spec_ReadCanon.j0]) ?_
   refine Ev.neg (by simp) ?_
   obtain ⟨R, e, g⟩ := spec_rc_any s (by omega) (by omega) s.size 4 [] (by omega) (by simp)
   rw [goodC_no g hn] at e
   exact e

theorem readVar_or (n b i : Nat) (hi : i ≤ 6) (hn : n < 128 ^ i) (hb : b < 128) :
  Go.bits .or .i64 (n : Int) (shl .i64 (b : Int) (wrap64 (7 * (i : Int)))) = ((n + b * 128 ^ i : Nat) : Int) := by
 have hp : (2 : Nat) ^ (7 * i) = 128 ^ i := by rw [Nat.pow_mul]
 have h7 : 128 ^ i ≤ 128 ^ 6 := Nat.pow_le_pow_right (by decide) hi
 have h6 : (128 : Nat) ^ 6 = 4398046511104 := by decide
 have hm : b * 128 ^ i ≤ 127 * 128 ^ i := Nat.mul_le_mul_right _ (by omega)
 have e1 : shl .i64 (b : Int) (wrap64 (7 * (i : Int))) = ((b * 128 ^ i : Nat) : Int) := by
  rw [w64 (by omega) (by omega)]
  unfold shl
  have : min (7 * (i : Int)).toNat IntKind.i64.bits = 7 * i := by
   have : IntKind.i64.bits = 64 := rfl
   omega
  rw [this]
  have e : (b : Int) * 2 ^ (7 * i) = ((b * 128 ^ i : Nat) : Int) := by
   rw [← hp]; simp
  rw [e]
  exact wraps_i64 _ (by omega) (by omega)
 rw [e1, or_join' (7 * i) ((b * 128 ^ i : Nat) : Int) (n : Int) (by omega) ?_ (by omega) (by omega) ?_ (by omega)]
 ·omega
 ·have e : (2 : Int) ^ (7 * i) = ((128 ^ i : Nat) : Int) := by rw [← hp]; simp
  rw [e, ← Int.natCast_emod, Nat.mul_mod_left]; rfl
 ·have e : (2 : Int) ^ (7 * i) = ((128 ^ i : Nat) : Int) := by rw [← hp]; simp
  rw [e]; omega
theorem impl_ReadVar_l0 (s : ByteArray) (hs : s.size ≤ 140737488351232) (d : Nat) : ∀ (i : Nat), i + d = 7 → Ev (fun k => impl_ReadVar.l0 k s ((lev s i : Nat) : Int) (i : Int)) (rvFrom s d i) := by
 induction d with
 | zero =>
  intro i hi
  refine Ev.step (fun k => by rw [impl_ReadVar.l0]) ?_
  have fin : Ev (fun k => impl_ReadVar.j1 k s ((lev s i : Nat) : Int) (i : Int) false) (rvFrom s 0 i) := by
   refine Ev.step (fun k => by rw [impl_ReadVar.j1]) ?_
   exact Ev.neg (by simp) (Ev.now _)
  by_cases c : (i : Int) < (s.size : Int)
  ·refine Ev.pos c ?_
   rw [show decide ((i : Int) < 7) = false by simp; omega]
   exact fin
  ·exact Ev.neg c fin
 | succ d ih =>
  intro i hi
  have hb := bt_range s (i : Int)
  refine Ev.step (fun k => by rw [impl_ReadVar.l0]) ?_
  rw [rvFrom]
  by_cases c : i < s.size
  ·rw [if_pos c]
   refine Ev.pos (by omega) ?_
   refine Ev.step (fun k => by rw [impl_ReadVar.j1]) ?_
   have eb : wrap64 (Go.bits .and .u8 (bt s (i : Int)) 127) = (((bt s (i : Int)).toNat % 128 : Nat) : Int) := by
    rw [u8_and127 hb.1 (by omega), w64 (by omega) (by omega)]; omega
   have ev : Go.bits .or .i64 ((lev s i : Nat) : Int) (shl .i64 (wrap64 (Go.bits .and .u8 (bt s (i : Int)) 127)) (wrap64 (7 * (i : Int)))) = ((lev s (i + 1) : Nat) : Int) := by
    rw [eb, readVar_or _ _ i (by omega) (lev_lt s i) (by omega)]
    rfl
   rw [ev, w64 (x := (i : Int) + 1) (by omega) (by omega), w64 (x := 7 * (i : Int)) (by omega) (by omega)]
   have e1 : (i : Int) + 1 = ((i + 1 : Nat) : Int) := by omega
   rw [e1, Int.toNat_natCast]
   refine Ev.pos (by simp; omega) (Ev.pos (by omega) (Ev.pos (by omega) (Ev.pos (by omega) ?_)))
   by_cases l : bt s (i : Int) < 128
   ·rw [if_pos l]
    refine Ev.pos l (Ev.bind (impl_Var_in _ (lev_le (by omega))) (Ev.pos (by omega) (Ev.pos (by omega) ?_)))
    by_cases v : isVarAt s (i + 1)
    ·rw [if_pos v]
     exact Ev.pos v (Ev.now _)
    ·rw [if_neg v]
     exact Ev.neg v (Ev.now _)
   ·rw [if_neg l]
    refine Ev.neg l ?_
    exact ih (i + 1) (by omega)
  ·rw [if_neg c]
   refine Ev.neg (by omega) ?_
   refine Ev.step (fun k => by rw [impl_ReadVar.j1]) ?_
   exact Ev.neg (by simp) (Ev.now _)
theorem impl_ReadVar_ev (s : ByteArray) (hs : s.size ≤ 140737488351232) : Ev (fun k => impl_ReadVar.f k s) (readVarV s) := by
 unfold impl_ReadVar.f readVarV
 exact impl_ReadVar_l0 s hs 7 0 rfl

theorem size_zero (s : ByteArray) : s.size = 0 ↔ s = ⟨#[]⟩ := by
 constructor
 ·intro h
  apply bl_inj
  have : (bl s).length = 0 := by rw [bl_length]; exact h
  rw [List.eq_nil_of_length_eq_zero this]; rfl
 ·intro h; subst h; rfl
theorem tl_nil' (s : ByteArray) : (s.toList = ([] : List UInt8)) = (s.size = 0) := by
 have e : ([] : List UInt8) = (⟨#[]⟩ : ByteArray).toList := by rw [Go.Lib.toList_data]
 rw [e, tl_iff, size_zero]

def numV (s : ByteArray) (bad : Bool) : Int × ByteArray × Bool := if bad = true then (0, s, true) else if (readVarV s).2 = 0 then (0, s, true) else ((readVarV s).1, tl s (readVarV s).2.toNat, bad)
theorem impl_scan_num_ev (s : ByteArray) (bad : Bool) (hs : s.size ≤ 140737488351232) : Ev (fun k => impl_scan_num.f k s bad) (numV s bad) := by
 have hr := rv_range s
 unfold impl_scan_num.f numV
 refine Ev.bind (impl_ReadVar_ev s hs) (Ev.ite Iff.rfl (fun _ => Ev.now _) (fun _ => Ev.ite Iff.rfl (fun _ => Ev.now _) (fun _ => ?_)))
 exact Ev.pos hr.1 (Ev.pos hr.2.1 (Ev.now _))
theorem numV_size (s : ByteArray) (bad : Bool) : (numV s bad).2.1.size ≤ s.size := by
 unfold numV
 split
 ·exact Nat.le_refl _
 ·split
  ·exact Nat.le_refl _
  ·show (tl s _).size ≤ s.size
   rw [tl_size]; omega
theorem impl_scan_cut_eq (s : ByteArray) (n : Int) (h0 : 0 ≤ n) (h1 : n ≤ s.size) : impl_scan_cut.f s false n = some (s.extract 0 n.toNat, tl s n.toNat, false) := by
 unfold impl_scan_cut.f
 rw [if_neg (by simp), impl_within_eq]
 simp only [Option.bind_some]
 rw [decide_eq_true (show 0 ≤ n ∧ n ≤ (s.size : Int) from ⟨h0, h1⟩), if_pos rfl, if_pos h0, if_pos h1]
theorem impl_scan_cut_no (s : ByteArray) (n : Int) (h1 : ¬ n ≤ s.size) : impl_scan_cut.f s false n = some (⟨#[]⟩, s, true) := by
 unfold impl_scan_cut.f
 rw [if_neg (by simp), impl_within_eq]
 simp only [Option.bind_some]
 rw [decide_eq_false (show ¬ (0 ≤ n ∧ n ≤ (s.size : Int)) from fun h => h1 h.2), if_neg (by simp)]

theorem impl_rc_end (s : ByteArray) (n : Nat) (t : ByteArray) (bad : Bool) (v : List PI) : ∃ R, Ev (fun k => impl_ReadCanon.l0 k s (n : Int) (n : Int) t bad v) R ∧ goodC s R ∧ (bad = false → s.size ≠ 0 → canonV (prs v) = s → R = (v, true)) := by
 cases bad with
 | true =>
  refine ⟨([], false), ?_, .inl rfl, fun h => by cases h⟩
  refine Ev.step (fun k => by rw [impl_ReadCanon.l0]) ?_
  exact Ev.neg (by omega) (Ev.pos rfl (Ev.now _))
 | false =>
  by_cases c0 : s.size = 0
  ·refine ⟨([], false), ?_, .inl rfl, fun _ h => absurd c0 h⟩
   refine Ev.step (fun k => by rw [impl_ReadCanon.l0]) ?_
   exact Ev.neg (by omega) (Ev.neg (by simp) (Ev.pos (by rw [tl_nil']; exact c0) (Ev.now _)))
  ·by_cases c : canonV (prs v) = s
   ·refine ⟨(v, true), ?_, .inr ⟨c0, v, rfl, c⟩, fun _ _ _ => rfl⟩
    refine Ev.step (fun k => by rw [impl_ReadCanon.l0]) ?_
    exact Ev.neg (by omega) (Ev.neg (by simp) (Ev.neg (by rw [tl_nil']; exact c0) (Ev.bind (impl_Canon_ev v) (Ev.pos ((tl_iff _ _).2 c) (Ev.now _)))))
   ·refine ⟨([], false), ?_, .inl rfl, fun _ _ e => absurd e c⟩
    refine Ev.step (fun k => by rw [impl_ReadCanon.l0]) ?_
    exact Ev.neg (by omega) (Ev.neg (by simp) (Ev.neg (by rw [tl_nil']; exact c0) (Ev.bind (impl_Canon_ev v) (Ev.neg (fun e => c ((tl_iff _ _).1 e)) (Ev.now _)))))
theorem impl_rc_any (s : ByteArray) (m : Nat) (hm : m ≤ 60) (d : Nat) : ∀ (i : Nat) (t : ByteArray) (bad : Bool) (v : List PI), i + d = m → t.size ≤ 1048576 → v.length ≤ i → ∃ R, Ev (fun k => impl_ReadCanon.l0 k s (m : Int) (i : Int) t bad v) R ∧ goodC s R := by
 induction d with
 | zero =>
  intro i t bad v hi ht hv
  have : i = m := by omega
  subst this
  obtain ⟨R, e, g, _⟩ := impl_rc_end s i t bad v
  exact ⟨R, e, g⟩
 | succ d ih =>
  intro i t bad v hi ht hv
  have e1 := impl_scan_num_ev t bad (by omega)
  have z1 := numV_size t bad
  generalize numV t bad = p at *
  have e2 := impl_scan_num_ev p.2.1 p.2.2 (by omega)
  have z2 := numV_size p.2.1 p.2.2
  generalize numV p.2.1 p.2.2 = q at *
  obtain ⟨R, e, g⟩ := ih (i + 1) q.2.1 q.2.2 (v ++ [⟨p.1, q.1⟩]) (by omega) (by omega) (by rw [List.length_append, List.length_singleton]; omega)
  refine ⟨R, ?_, g⟩
  have e3 : ((i + 1 : Nat) : Int) = (i : Int) + 1 := by omega
  rw [e3] at e
  refine Ev.step (fun k => by rw [impl_ReadCanon.l0]) ?_
  rw [w64 (x := (i : Int) + 1) (by omega) (by omega)]
  exact Ev.pos (by omega) (Ev.bind e1 (Ev.bind e2 (Ev.pos (by omega) e)))
theorem impl_rc_canon (s : ByteArray) (l : List PI) (hv : vocabOk (prs l) = true) (hc : canonV (prs l) = s) (d : Nat) : ∀ (i n : Nat), i + d = l.length → n ≤ s.size → (bl s).drop n = pairsL (prs (l.drop i)) →
  Ev (fun k => impl_ReadCanon.l0 k s (l.length : Int) (i : Int) (tl s n) false (l.take i)) (l, true) := by
 have hz := canon_size hv hc
 have h60 := tokV_60 hv
 rw [prs_length] at h60
 induction d with
 | zero =>
  intro i n hi hn h
  have : i = l.length := by omega
  subst this
  rw [List.take_of_length_le (Nat.le_refl _)]
  obtain ⟨R, e, _, g⟩ := impl_rc_end s l.length (tl s n) false l
  rw [g rfl (by omega) hc] at e
  exact e
 | succ d ih =>
  intro i n hi hn h
  obtain ⟨a, b, ha, hb, a1, b1, hnb, hd⟩ := pair_read (by omega : i < l.length) (vocab_pairs hv) hn h
  have R := ih (i + 1) (n + a + b) (by omega) hnb hd
  rw [List.take_succ_eq_append_getElem (by omega : i < l.length)] at R
  have e1 := impl_scan_num_ev (tl s n) false (by rw [tl_size]; omega)
  have e2 := impl_scan_num_ev (tl s (n + a)) false (by rw [tl_size]; omega)
  have v1 : numV (tl s n) false = (l[i].f0, tl s (n + a), false) := by
   unfold numV
   rw [if_neg (by simp), ha, if_neg (by simp only; omega)]
   simp only [Int.toNat_natCast]
   rw [tl_tl]
  have v2 : numV (tl s (n + a)) false = (l[i].f1, tl s (n + a + b), false) := by
   unfold numV
   rw [if_neg (by simp), hb, if_neg (by simp only; omega)]
   simp only [Int.toNat_natCast]
   rw [tl_tl]
  rw [v1] at e1
  rw [v2] at e2
  have e3 : ((i + 1 : Nat) : Int) = (i : Int) + 1 := by omega
  rw [e3] at R
  refine Ev.step (fun k => by rw [impl_ReadCanon.l0]) ?_
  rw [w64 (x := (i : Int) + 1) (by omega) (by omega)]
  exact Ev.pos (by omega) (Ev.bind e1 (Ev.bind e2 (Ev.pos (by rw [List.length_take]; omega) R)))
theorem impl_many_ev (t : ByteArray) (bad : Bool) (ht : t.size ≤ 1048576) : Ev (fun k => impl_scan_many.f k t bad 60) (if (numV t bad).1 > 60 then (0, (numV t bad).2.1, true) else if (numV t bad).2.2 = true then (0, (numV t bad).2.1, (numV t bad).2.2) else ((numV t bad).1, (numV t bad).2.1, (numV t bad).2.2)) := by
 unfold impl_scan_many.f
 exact Ev.bind (impl_scan_num_ev t bad (by omega)) (Ev.ite Iff.rfl (fun _ => Ev.now _) (fun _ => Ev.ite Iff.rfl (fun _ => Ev.now _) (fun _ => Ev.now _)))
theorem numV_pos (t : ByteArray) (bad : Bool) : 0 ≤ (numV t bad).1 := by
 have hr := rv_range t
 unfold numV
 split
 ·exact Int.le_refl _
 ·split
  ·exact Int.le_refl _
  ·rename_i c; exact (hr.2.2.2 c).1
theorem impl_ReadCanon_ex (s : ByteArray) (hs : s.size ≤ 1048576) : ∃ R, Ev (fun k => impl_ReadCanon.f k s) R ∧ goodC s R := by
 have key (t : ByteArray) (bad : Bool) (ht : t.size ≤ 1048576) : ∃ R, Ev (fun k => (impl_scan_many.f k t bad 60).bind fun bt205 => (impl_ReadCanon.l0 k s bt205.1 0 bt205.2.1 bt205.2.2 ([] : List PI))) R ∧ goodC s R := by
  have e := impl_many_ev t bad ht
  have hp := numV_pos t bad
  have hz := numV_size t bad
  generalize numV t bad = p at *
  have go (m : Int) (h0 : 0 ≤ m) (h1 : m ≤ 60) (b : Bool) : ∃ R, Ev (fun k => impl_ReadCanon.l0 k s m 0 p.2.1 b ([] : List PI)) R ∧ goodC s R := by
   obtain ⟨n, rfl⟩ := Int.eq_ofNat_of_zero_le h0
   exact impl_rc_any s n (by omega) n 0 p.2.1 b [] (by omega) (by omega) (by simp)
  by_cases c : p.1 > 60
  ·rw [if_pos c] at e
   obtain ⟨R, e2, g⟩ := go 0 (by omega) (by omega) true
   exact ⟨R, Ev.bind e e2, g⟩
  ·rw [if_neg c] at e
   by_cases c2 : p.2.2 = true
   ·rw [if_pos c2] at e
    obtain ⟨R, e2, g⟩ := go 0 (by omega) (by omega) p.2.2
    exact ⟨R, Ev.bind e e2, g⟩
   ·rw [if_neg c2] at e
    obtain ⟨R, e2, g⟩ := go p.1 hp (by omega) p.2.2
    exact ⟨R, Ev.bind e e2, g⟩
 unfold impl_ReadCanon.f
 by_cases c : (3 : Int) ≤ s.size
 ·obtain ⟨R, e, g⟩ := key (tl s (3 : Int).toNat) false (by rw [tl_size]; omega)
  exact ⟨R, Ev.bind0 (impl_scan_cut_eq s 3 (by omega) c) e, g⟩
 ·obtain ⟨R, e, g⟩ := key s true hs
  exact ⟨R, Ev.bind0 (impl_scan_cut_no s 3 c) e, g⟩
theorem impl_ReadCanon_no (s : ByteArray) (hs : s.size ≤ 1048576) (hn : ¬ isCanon s) : Ev (fun k => impl_ReadCanon.f k s) ([], false) := by
 obtain ⟨R, e, g⟩ := impl_ReadCanon_ex s hs
 rw [goodC_no g hn] at e
 exact e
theorem impl_ReadCanon_yes (s : ByteArray) (l : List PI) (hv : vocabOk (prs l) = true) (hc : canonV (prs l) = s) : Ev (fun k => impl_ReadCanon.f k s) (l, true) := by
 have hz := canon_size hv hc
 have hb := canon_bl hv hc
 have h60 := tokV_60 hv
 rw [prs_length] at h60 hb
 have rd3 := rv_varL (s := tl s 3) (n := l.length) (by omega) (xs := pairsL (prs l)) (by rw [tl_bl, hb, varL_small (by omega)]; rfl)
 rw [varL_small (by omega)] at rd3
 have v1 : numV (tl s 3) false = ((l.length : Int), tl s 4, false) := by
  unfold numV
  rw [if_neg (by simp), rd3, if_neg (by simp)]
  simp only [List.length_singleton, Int.toNat_natCast]
  rw [tl_tl]
 have e := impl_many_ev (tl s 3) false (by rw [tl_size]; omega)
 rw [v1] at e
 simp only at e
 rw [if_neg (by omega), if_neg (by simp)] at e
 unfold impl_ReadCanon.f
 refine Ev.bind0 (impl_scan_cut_eq s 3 (by omega) (by omega)) (Ev.bind e ?_)
 exact impl_rc_canon s l hv hc l.length 0 4 (by omega) (by omega) (by rw [hb, List.drop_zero]; rfl)

theorem laws_samePairs_l0 (a : List PI) (ha : a.length ≤ 1048576) (d : Nat) : ∀ (i : Nat), i + d = a.length → Ev (fun k => laws_samePairs.l0 k a a (i : Int)) true := by
 induction d with
 | zero =>
  intro i hi
  refine Ev.step (fun k => by rw [laws_samePairs.l0]) ?_
  exact Ev.neg (by omega) (Ev.now _)
 | succ d ih =>
  intro i hi
  refine Ev.step (fun k => by rw [laws_samePairs.l0]) ?_
  rw [w64 (x := (i : Int) + 1) (by omega) (by omega)]
  exact Ev.pos (by omega) (Ev.pos (by omega) (Ev.pos (by omega) (Ev.neg (by simp) (ih (i + 1) (by omega)))))
theorem laws_samePairs_ev (a : List PI) (ha : a.length ≤ 1048576) : Ev (fun k => laws_samePairs.f k a a) true := by
 unfold laws_samePairs.f
 exact Ev.pos rfl (laws_samePairs_l0 a ha a.length 0 (by omega))
theorem spec_DrawReadCanon_ex (l : List Int) (hl : l.length ≤ 4000000) : ∃ t, Ev (fun k => spec_DrawReadCanon.f k l) t ∧ t.size ≤ 1003 := by
 obtain ⟨h, e0⟩ := spec_l1New_ex l
 obtain ⟨n, en, hn0, hn⟩ := spec_l1Size_ex l hl 20 (by omega)
 obtain ⟨v, i1, h1, e1, hv, hi1⟩ := spec_l7Draw_ex l hl 0 h ⟨by omega, by omega⟩ n hn0 (by omega)
 obtain ⟨o, i2, h2, e2, hi2⟩ := spec_l1Once_ex l hl i1 h1 hi1 3
 have hs := canonV_size (prs v)
 unfold spec_DrawReadCanon.f
 cases o with
 | true =>
  obtain ⟨t, i3, h3, e3, ht, _⟩ := spec_l1Spoil_ex l hl i2 h2 hi2 (canonV (prs v)) (by omega)
  exact ⟨t, Ev.bind e0 (Ev.bind0 en (Ev.bind e1 (Ev.bind (spec_Canon_ev v) (Ev.bind0 e2 (Ev.pos rfl (Ev.bind e3 (Ev.now _))))))), by omega⟩
 | false =>
  exact ⟨_, Ev.bind e0 (Ev.bind0 en (Ev.bind e1 (Ev.bind (spec_Canon_ev v) (Ev.bind0 e2 (Ev.neg (by simp) (Ev.now _)))))), by omega⟩
theorem readCanon_both (s : ByteArray) (hs : s.size ≤ 1048576) : ∃ R : CanT, Ev (fun k => spec_ReadCanon.f k s) R ∧ Ev (fun k => impl_ReadCanon.f k s) R ∧ (R = ([], false) ∨ ∃ v, R = (v, true) ∧ vocabOk (prs v) = true ∧ canonV (prs v) = s) := by
 by_cases h : isCanon s
 ·obtain ⟨l, hv, hc⟩ := h
  exact ⟨(l, true), spec_ReadCanon_yes s l hv hc, impl_ReadCanon_yes s l hv hc, .inr ⟨l, rfl, hv, hc⟩⟩
 ·exact ⟨([], false), spec_ReadCanon_no s h, impl_ReadCanon_no s hs h, .inl rfl⟩
theorem FnCanon : laws_FnCanon.Pure := by
 intro l hl
 refine Ev.rounds (g := fun k => laws_FnCanon.f k l) ?_
 unfold laws_FnCanon.f laws_big.f
 refine Ev.bind0 rfl ?_
 by_cases c : (l.length : Int) > 1048576
 ·exact Ev.pos (decide_eq_true c) (Ev.now _)
 refine Ev.neg (by rw [decide_eq_false c]; simp) ?_
 obtain ⟨v, ev, hv⟩ := spec_DrawCanon_ex l (by omega)
 have hs := canonV_size (prs v)
 have hj : Ev (fun k => laws_FnCanon.j0 k l false) true := by
  refine Ev.step (fun k => by rw [laws_FnCanon.j0]) ?_
  obtain ⟨t, et, ht⟩ := spec_DrawReadCanon_ex l (by omega)
  obtain ⟨R, e1, e2, h⟩ := readCanon_both t (by omega)
  refine Ev.neg (by simp) (Ev.bind et (Ev.bind e2 (Ev.bind e1 (Ev.pos (by simp) ?_))))
  rcases h with rfl | ⟨w, rfl, hw, hc⟩
  ·exact Ev.neg (by simp) (Ev.now _)
  ·refine Ev.pos rfl (Ev.bind (impl_Canon_ev w) (Ev.pos (by rw [hc]) (Ev.bind (impl_VocabOk_ev w) (Ev.val _ _ hw))))
 refine Ev.bind ev (Ev.bind (impl_Canon_ev v) ?_)
 by_cases ok : vocabOk (prs v) = true
 ·refine Ev.bind (impl_ReadCanon_yes _ v ok rfl) (Ev.bind (spec_VocabOk_ev v) ?_)
  rw [ok]
  refine Ev.neg (by simp) (Ev.pos rfl (Ev.bind (laws_samePairs_ev v (by omega)) (Ev.pos rfl (Ev.bind (impl_Digest_ev v) (Ev.bind (spec_Sha_ev _ (by omega)) ?_)))))
  have e : digestV (prs v) = shaV (canonV (prs v)) := by unfold digestV; rw [if_pos ok]
  rw [e]
  simp only [bne_self_eq_false]
  exact hj
 ·have hn : ¬ isCanon (canonV (prs v)) := by
   rintro ⟨w, hw, hc⟩
   have h4 := (canon_size hw hc).1
   have e : canonV (prs v) = strOfNums [] := by unfold canonV; rw [if_neg ok]
   rw [e, strOf_size] at h4
   simp at h4
  have okf : vocabOk (prs v) = false := by simpa using ok
  refine Ev.bind (impl_ReadCanon_no _ (by omega) hn) (Ev.bind (spec_VocabOk_ev v) ?_)
  rw [okf]
  exact Ev.neg (by simp) (Ev.neg (by simp) hj)

end Go.Proofs.YtobkmpihjfiihaaDoor.Pure
