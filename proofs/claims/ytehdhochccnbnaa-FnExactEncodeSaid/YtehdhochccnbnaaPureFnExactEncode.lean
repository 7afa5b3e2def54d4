/- The pure statement of the law FnExactEncode is proved: for all arguments within the stated bounds the printed function answers true. Conditions: none beyond those bounds. -/
import Derived.Test.YtehdhochccnbnaaPFnExactEncodex11
import Derived.Laws.BitsLemmas
import Derived.Lib.Strings
namespace Go.Proofs.Ytehdhochccnbnaa.Pure
open Go Go.RowKit Go.Proofs.Ytehdhochccnbnaa.PFnExactEncode Go.Proofs.YtehdhochccnbnaaW.PrintWords Go.Proofs.YtehdhochccnbnaaW.PrintLast Go.Proofs.YtehdhochccnbnaaW.PrintMore
set_option linter.unusedVariables false
set_option linter.unusedSimpArgs false

/-! ### Base: rounds, whole numbers, bits, byte strings (no program in sight) -/
theorem Ev.pos {α : Type} {c : Prop} [Decidable c] {g f : Nat → Option α} {r : α} (h : c) (e : Ev g r) : Ev (fun k => if c then g k else f k) r := by
  simpa only [if_pos h] using e
theorem Ev.neg {α : Type} {c : Prop} [Decidable c] {g f : Nat → Option α} {r : α} (h : ¬ c) (e : Ev f r) : Ev (fun k => if c then g k else f k) r := by
  simpa only [if_neg h] using e
theorem Ev.val {α : Type} (r s : α) (h : r = s) : Ev (fun _ => some r) s := by subst h; exact Ev.now _
theorem Ev.val0 {α : Type} {o : Option α} {s : α} (h : o = some s) : Ev (fun _ => o) s := by subst h; exact Ev.now _
theorem Ev.bind0 {α β : Type} {o : Option α} {f : Nat → α → Option β} {a : α} {r : β} (h : o = some a) (k : Ev (fun n => f n a) r) : Ev (fun n => o.bind (f n)) r := by
  subst h; simpa only [Option.bind_some] using k
theorem Ev.and {α β : Type} {g : Nat → Option α} {f : Nat → Option β} {r : α} {s : β} (h : Ev g r) (k : Ev f s) : ∃ K, ∀ n, K ≤ n → g n = some r ∧ f n = some s := by
  obtain ⟨K, h⟩ := h
  obtain ⟨L, k⟩ := k
  exact ⟨max K L, fun n hn => ⟨h n (by omega), k n (by omega)⟩⟩

theorem Ev.ite {α : Type} {c d : Prop} [Decidable c] [Decidable d] {g f : Nat → Option α} {a b : α} (h : c ↔ d) (e : d → Ev g a) (e' : ¬ d → Ev f b) : Ev (fun k => if c then g k else f k) (if d then a else b) := by
  by_cases x : d
  · rw [if_pos x]; exact Ev.pos (h.2 x) (e x)
  · rw [if_neg x]; exact Ev.neg (fun y => x (h.1 y)) (e' x)
theorem w64 {x : Int} (h0 : -9223372036854775808 ≤ x) (h1 : x ≤ 9223372036854775807) : wrap64 x = x := by unfold wrap64; omega
theorem wf64 {x : Int} (h : (Lit.int .i64 x).wf = true) : -9223372036854775808 ≤ x ∧ x ≤ 9223372036854775807 := by
  simp [Lit.wf, IntKind.min, IntKind.max, IntKind.signed, IntKind.bits] at h
  omega
theorem tdiv_nn {x y : Int} (h : 0 ≤ x) : Int.tdiv x y = x / y := Int.tdiv_eq_ediv_of_nonneg h
theorem tmod_nn {x y : Int} (h : 0 ≤ x) : Int.tmod x y = x % y := Int.tmod_eq_emod_of_nonneg h

theorem wraps_i64 (n : Int) (h₀ : 0 ≤ n) (h₁ : n < 2 ^ 63) : IntKind.i64.wrap n = n := by rw [IntKind.wrap_i64]; omega
theorem and_mask (i : Nat) (hi : i ≤ 63) (x : Int) (h0 : 0 ≤ x) (h1 : x < 9223372036854775808) : Go.bits .and .i64 x (2 ^ i - 1) = x % 2 ^ i :=
  bits_mask .i64 63 (by decide) wraps_i64 i hi x h0 h1
theorem and127 {x : Int} (h0 : 0 ≤ x) (h1 : x < 9223372036854775808) : Go.bits .and .i64 x 127 = x % 128 := and_mask 7 (by decide) x h0 h1
theorem and255 {x : Int} (h0 : 0 ≤ x) (h1 : x < 9223372036854775808) : Go.bits .and .i64 x 255 = x % 256 := and_mask 8 (by decide) x h0 h1
theorem and1 {x : Int} (h0 : 0 ≤ x) (h1 : x < 9223372036854775808) : Go.bits .and .i64 x 1 = x % 2 := and_mask 1 (by decide) x h0 h1
theorem or_join (i : Nat) (x y : Int) (hx : 0 ≤ x) (hm : x % 2 ^ i = 0) (hx1 : x < 9223372036854775808) (hy : 0 ≤ y) (hy1 : y < 2 ^ i) (hy2 : y < 9223372036854775808) : Go.bits .or .i64 x y = x + y :=
  bits_join .i64 63 (by decide) wraps_i64 i x y hx hm hx1 hy hy1 hy2
theorem bits_or_comm (k : IntKind) (x y : Int) : Go.bits .or k x y = Go.bits .or k y x := by simp only [Go.bits, BitVec.or_comm]
theorem or_join' (i : Nat) (x y : Int) (hx : 0 ≤ x) (hm : x % 2 ^ i = 0) (hx1 : x < 9223372036854775808) (hy : 0 ≤ y) (hy1 : y < 2 ^ i) (hy2 : y < 9223372036854775808) : Go.bits .or .i64 y x = x + y := by
  rw [bits_or_comm]; exact or_join i x y hx hm hx1 hy hy1 hy2
theorem u8_and127 {x : Int} (h0 : 0 ≤ x) (h1 : x < 256) : Go.bits .and .u8 x 127 = x % 128 := bits_mask .u8 8 (by decide) wraps_u8 7 (by decide) x h0 h1
theorem bits_xor_nat (a b : Nat) (ha : a < 2 ^ 63) (hb : b < 2 ^ 63) : Go.bits .xor .i64 a b = ((a ^^^ b : Nat) : Int) := by
  have hp : 2 ^ 63 ≤ 2 ^ IntKind.i64.bits := Nat.pow_le_pow_right (by decide) (by decide)
  have ha' : a % 2 ^ IntKind.i64.bits = a := Nat.mod_eq_of_lt (Nat.lt_of_lt_of_le ha hp)
  have hb' : b % 2 ^ IntKind.i64.bits = b := Nat.mod_eq_of_lt (Nat.lt_of_lt_of_le hb hp)
  simp only [Go.bits, BitVec.ofInt_natCast, BitVec.toNat_xor, BitVec.toNat_ofNat, ha', hb']
  exact wraps_i64 _ (Int.natCast_nonneg _) (by exact_mod_cast Nat.xor_lt_two_pow ha hb)

theorem wbt (s : ByteArray) (i : Int) : wrap64 (bt s i) = bt s i := by have := bt_range s i; exact w64 (by omega) (by omega)
theorem toList_eq {s t : ByteArray} (h : s = t) : s.toList = t.toList := by rw [h]
theorem strOf_append (xs ys : List Int) : strOfNums xs ++ strOfNums ys = strOfNums (xs ++ ys) := by
  apply ByteArray.ext
  rw [ByteArray.data_append]
  simp [strOfNums]
theorem strOf_size (xs : List Int) : (strOfNums xs).size = xs.length := by simp [strOfNums, ByteArray.size]
theorem strOf_nil : (⟨#[]⟩ : ByteArray) = strOfNums [] := rfl
theorem cast_pow256 (d : Nat) : ((256 ^ d : Nat) : Int) = (256 : Int) ^ d := Int.natCast_pow 256 d
theorem lt_pow256 (m d : Nat) : ((m : Int) < 256 ^ d) = (m < 256 ^ d) := by
  rw [← cast_pow256]; exact propext Int.ofNat_lt
theorem pow256_six (i : Int) (h0 : 0 ≤ i) (h1 : i ≤ 6) : (256 : Int) ^ i.toNat ≤ 281474976710656 := by
  obtain rfl | rfl | rfl | rfl | rfl | rfl | rfl : i = 0 ∨ i = 1 ∨ i = 2 ∨ i = 3 ∨ i = 4 ∨ i = 5 ∨ i = 6 := by omega
  all_goals decide

/-! ### Str: a byte string as the list of its numbers -/
def IsB (xs : List Int) : Prop := ∀ x ∈ xs, 0 ≤ x ∧ x ≤ 255
def bl (s : ByteArray) : List Int := s.data.toList.map fun b => (b.toNat : Int)
theorem bl_isB (s : ByteArray) : IsB (bl s) := by
  intro x hx
  simp only [bl, List.mem_map] at hx
  obtain ⟨b, _, rfl⟩ := hx
  have := b.toNat_lt
  omega
theorem bl_length (s : ByteArray) : (bl s).length = s.size := by unfold bl; rw [List.length_map]; rfl
theorem strOf_bl (s : ByteArray) : strOfNums (bl s) = s := by
  apply ByteArray.ext
  apply Array.ext'
  unfold strOfNums bl
  rw [List.map_map]
  have : ((fun n : Int => UInt8.ofNat n.toNat) ∘ fun b : UInt8 => (b.toNat : Int)) = id := by
    funext b
    simp only [Function.comp_apply, Int.toNat_natCast, UInt8.ofNat_toNat, id]
  rw [this, List.map_id]
theorem bl_strOf {xs : List Int} (h : IsB xs) : bl (strOfNums xs) = xs := by
  induction xs with
  | nil => rfl
  | cons a l ih =>
    have ha := h a (by simp)
    have hl := ih (fun x hx => h x (by simp [hx]))
    simp only [bl, strOfNums, List.map_cons, List.toList_toArray] at hl ⊢
    rw [hl]
    congr 1
    simp only [UInt8.toNat_ofNat']
    omega
theorem bl_append (s t : ByteArray) : bl (s ++ t) = bl s ++ bl t := by simp [bl, ByteArray.data_append]
theorem bl_extract (s : ByteArray) (a b : Nat) : bl (s.extract a b) = ((bl s).drop a).take (b - a) := by
  simp [bl, ByteArray.data_extract, List.extract_eq_take_drop, List.map_take, List.map_drop]
theorem bl_inj {s t : ByteArray} (h : bl s = bl t) : s = t := by rw [← strOf_bl s, ← strOf_bl t, h]
theorem tl_iff (s t : ByteArray) : s.toList = t.toList ↔ s = t := by
  constructor
  · intro h
    rw [Go.Lib.toList_data, Go.Lib.toList_data] at h
    exact ByteArray.ext (Array.ext' h)
  · intro h; rw [h]
theorem bt_bl (s : ByteArray) (i : Int) : bt s i = rd (bl s) i := by
  unfold bt rd bl
  split
  · rename_i h
    have h' : i.toNat < s.data.toList.length := h
    rw [List.getD_eq_getElem?_getD, List.getElem?_map, List.getElem?_eq_getElem h']
    simp only [Option.map_some, Option.getD_some]
    rfl
  · rename_i h
    have h' : ¬ i.toNat < s.data.toList.length := h
    rw [List.getD_eq_getElem?_getD, List.getElem?_map, List.getElem?_eq_none (by omega)]
    rfl
theorem bt_nat (s : ByteArray) (i : Nat) (h : i < s.size) : bt s (i : Int) = (bl s)[i]'(by rw [bl_length]; exact h) := by
  rw [bt_bl]
  unfold rd
  rw [Int.toNat_natCast, List.getD_eq_getElem?_getD, List.getElem?_eq_getElem (by rw [bl_length]; exact h)]
  rfl
theorem isB_nil : IsB [] := fun _ h => by cases h
theorem isB_append {xs ys : List Int} (h : IsB xs) (k : IsB ys) : IsB (xs ++ ys) := fun x hx => (List.mem_append.1 hx).elim (h x) (k x)
theorem isB_cons {x : Int} {ys : List Int} (h : 0 ≤ x ∧ x ≤ 255) (k : IsB ys) : IsB (x :: ys) := by
  intro y hy
  rcases List.mem_cons.1 hy with e | e
  · subst e; exact h
  · exact k y e
theorem strOf_inj {xs ys : List Int} (h : IsB xs) (k : IsB ys) (e : strOfNums xs = strOfNums ys) : xs = ys := by
  rw [← bl_strOf h, ← bl_strOf k, e]
instance instDecEqBytes : DecidableEq ByteArray := fun a b => decidable_of_iff (a.toList = b.toList) (tl_iff a b)
instance instDecMemBytes (x : ByteArray) : (l : List ByteArray) → Decidable (x ∈ l)
  | [] => .isFalse (by simp)
  | y :: l => if h : x = y then .isTrue (by simp [h]) else (match instDecMemBytes x l with
    | .isTrue k => .isTrue (by simp [k])
    | .isFalse k => .isFalse (by simp [h, k]))

theorem rd_get (l : List Int) (i : Nat) (h : i < l.length) : rd l (i : Int) = l[i] := by
  unfold rd
  rw [Int.toNat_natCast, List.getD_eq_getElem?_getD, List.getElem?_eq_getElem h]; rfl
theorem rd_drop (l : List Int) (i : Nat) (h : i < l.length) : l.drop i = rd l (i : Int) :: l.drop (i + 1) := by
  rw [rd_get l i h]; exact List.drop_eq_getElem_cons h

def classV (b : Int) : Int :=
  if ¬ (0 ≤ b ∧ b ≤ 255) then 0
  else if (97 ≤ b ∧ b ≤ 122) ∨ (65 ≤ b ∧ b ≤ 90) ∨ 128 ≤ b then 1
  else if 48 ≤ b ∧ b ≤ 57 then 2
  else if b = 9 ∨ b = 10 ∨ b = 13 ∨ b = 32 then 3 else 4

/-! ### MCut: a text cut into words -/
def runN (c : Int) : List Int → Nat
  | [] => 0
  | b :: l => if classV b = c then runN c l + 1 else 0
theorem runN_le (c : Int) : ∀ (l : List Int), runN c l ≤ l.length
  | [] => Nat.le_refl _
  | b :: l => by
    have := runN_le c l
    unfold runN
    split <;> simp only [List.length_cons] <;> omega
theorem rd_zero (b : Int) (l : List Int) : rd (b :: l) 0 = b := rfl
theorem rd_at_drop (l : List Int) (a : Nat) (i : Int) (h : 0 ≤ i) : rd (l.drop a) i = rd l ((a : Int) + i) := by
  obtain ⟨n, rfl⟩ := Int.eq_ofNat_of_zero_le h
  unfold rd
  have : ((a : Int) + (n : Int)).toNat = a + n := by omega
  rw [this, Int.toNat_natCast, List.getD_eq_getElem?_getD, List.getD_eq_getElem?_getD, List.getElem?_drop]
theorem runN_pos {l : List Int} (h : 0 < l.length) : 1 ≤ runN (classV (rd l 0)) l := by
  cases l with
  | nil => simp at h
  | cons b l => rw [rd_zero]; unfold runN; rw [if_pos rfl]; omega
def midN (l : List Int) (c : Int) (n : Nat) : Nat :=
  if c = 2 then min n 3
  else if c = 3 then (if n < l.length ∧ classV (rd l n) ≠ 2 ∧ rd l ((n : Int) - 1) = 32 then (if n = 1 then 1 + runN (classV (rd l 1)) (l.drop 1) else n - 1) else n)
  else n
def nextN (l : List Int) : Nat := min (midN l (classV (rd l 0)) (runN (classV (rd l 0)) l)) 64
theorem nextN_pos {l : List Int} (h : 0 < l.length) : 1 ≤ nextN l := by
  have := runN_pos h
  unfold nextN midN
  repeat' split
  all_goals omega
theorem nextN_le (l : List Int) : nextN l ≤ l.length := by
  have h := runN_le (classV (rd l 0)) l
  have h2 := runN_le (classV (rd l 1)) (l.drop 1)
  rw [List.length_drop] at h2
  unfold nextN midN
  repeat' split
  all_goals omega
theorem nextN_64 (l : List Int) : nextN l ≤ 64 := by unfold nextN; omega
def cutF : Nat → List Int → List ByteArray
  | 0, _ => []
  | d + 1, l => if l.length = 0 then [] else strOfNums (l.take (nextN l)) :: cutF d (l.drop (nextN l))
theorem cutF_length : ∀ (d : Nat) (l : List Int), (cutF d l).length ≤ d
  | 0, _ => Nat.le_refl _
  | d + 1, l => by
    unfold cutF
    split
    · simp
    · have := cutF_length d (l.drop (nextN l)); rw [List.length_cons]; omega
theorem cutF_sizes : ∀ (d : Nat) (l : List Int), IsB l → ∀ x ∈ cutF d l, x.size ≤ 64
  | 0, _, _ => by simp [cutF]
  | d + 1, l, hb => by
    unfold cutF
    split
    · simp
    · intro x hx
      rcases List.mem_cons.1 hx with e | e
      · subst e; rw [strOf_size, List.length_take]; have := nextN_64 l; omega
      · exact cutF_sizes d (l.drop (nextN l)) (fun y hy => hb y (List.mem_of_mem_drop hy)) x e
def cutV (s : ByteArray) : List ByteArray := if (s.size : Int) > 1000 then [] else cutF s.size (bl s)
theorem cutV_length (s : ByteArray) : (cutV s).length ≤ 1000 := by
  unfold cutV
  split
  · simp
  · have := cutF_length s.size (bl s); omega
theorem cutV_sizes (s : ByteArray) : ∀ x ∈ cutV s, x.size ≤ 64 := by
  unfold cutV
  split
  · simp
  · exact cutF_sizes _ _ (bl_isB s)
theorem bl_drop_at (s : ByteArray) (i : Nat) (h : i < s.size) : (bl s).drop i = bt s (i : Int) :: (bl s).drop (i + 1) := by
  rw [bt_bl]; exact rd_drop _ _ (by rw [bl_length]; exact h)
theorem bl_tail (s : ByteArray) (a : Nat) : bl (s.extract a s.size) = (bl s).drop a := by
  rw [bl_extract, List.take_of_length_le (by rw [List.length_drop, bl_length]; omega)]
theorem ext_size (s : ByteArray) (a : Nat) : (s.extract a s.size).size = s.size - a := by
  rw [← bl_length, bl_tail, List.length_drop, bl_length]

theorem spec_l1In_eq (a b c : Int) : spec_l1In.f a b c = some (decide (b ≤ a ∧ a ≤ c)) := by
  unfold spec_l1In.f
  by_cases h : a ≥ b
  · rw [if_pos h]; simp [show b ≤ a from h]
  · rw [if_neg h]; simp [show ¬ b ≤ a from h]

theorem spec_Class_j1 (k : Nat) (b : Int) (t : Bool) : spec_Class.j1 (k + 1) b t = some (if t = true then 2 else if b = 9 ∨ b = 10 ∨ b = 13 ∨ b = 32 then 3 else 4) := by
  rw [spec_Class.j1]
  repeat' split
  all_goals first | rfl | (exfalso; simp_all; done) | simp_all
theorem spec_Class_j0 (k : Nat) (b : Int) (t : Bool) : spec_Class.j0 (k + 2) b t = some (if t = true then 1 else if 48 ≤ b ∧ b ≤ 57 then 2 else if b = 9 ∨ b = 10 ∨ b = 13 ∨ b = 32 then 3 else 4) := by
  rw [spec_Class.j0, spec_Class_j1, spec_Class_j1]
  by_cases h : t = true
  · rw [if_pos h, if_pos h]
  · rw [if_neg h, if_neg h]
    by_cases h2 : 48 ≤ b
    · by_cases h3 : b ≤ 57
      · rw [if_pos h2, if_pos (by simpa using h3), if_pos ⟨h2, h3⟩]
      · rw [if_pos h2, if_neg (by simpa using h3), if_neg (show ¬ (48 ≤ b ∧ b ≤ 57) from fun e => h3 e.2)]
    · rw [if_neg h2, if_neg (by simp), if_neg (show ¬ (48 ≤ b ∧ b ≤ 57) from fun e => h2 e.1)]
theorem spec_Class_ev (b : Int) : Ev (fun k => spec_Class.f k b) (classV b) := by
  refine ⟨2, fun n hn => ?_⟩
  obtain ⟨k, rfl⟩ : ∃ m, n = m + 2 := ⟨n - 2, by omega⟩
  unfold spec_Class.f classV
  rw [spec_l1In_eq]
  simp only [Option.bind_some, spec_Class_j0]
  by_cases h : 0 ≤ b ∧ b ≤ 255
  · rw [if_pos (by simpa using h), if_neg (show ¬ ¬ (0 ≤ b ∧ b ≤ 255) from fun e => e h)]
    repeat' split
    all_goals first | rfl | (simp_all; done) | (simp_all; omega) | (exfalso; simp only [decide_eq_true_eq, Bool.true_eq_false, Bool.false_eq_true] at *; omega)
  · rw [if_neg (by simpa using h), if_pos h]

theorem spec_l9Run_l0 (s : ByteArray) (hs : s.size ≤ 1048576) (h0 : 0 < s.size) (d : Nat) : ∀ (i : Nat), i + d = s.size →
    Ev (fun k => spec_l9Run.l0 k s (i : Int)) (((i + runN (classV (bt s 0)) ((bl s).drop i) : Nat) : Int)) := by
  induction d with
  | zero =>
    intro i hi
    refine Ev.step (fun k => by rw [spec_l9Run.l0]) ?_
    refine Ev.neg (by omega) (Ev.val _ _ ?_)
    rw [List.drop_eq_nil_of_le (by rw [bl_length]; omega)]
    simp [runN]
  | succ d ih =>
    intro i hi
    refine Ev.step (fun k => by rw [spec_l9Run.l0]) ?_
    refine Ev.pos (by omega) (Ev.pos (by omega) (Ev.bind (spec_Class_ev _) (Ev.pos (by omega) (Ev.bind (spec_Class_ev _) ?_))))
    rw [wbt, wbt, bl_drop_at s i (by omega)]
    unfold runN
    by_cases c : classV (bt s (i : Int)) = classV (bt s 0)
    · refine Ev.pos c ?_
      rw [if_pos c, w64 (by omega) (by omega)]
      have := ih (i + 1) (by omega)
      have e1 : ((i + 1 : Nat) : Int) = (i : Int) + 1 := by omega
      rw [e1] at this
      rw [show i + (runN (classV (bt s 0)) ((bl s).drop (i + 1)) + 1) = i + 1 + runN (classV (bt s 0)) ((bl s).drop (i + 1)) by omega]
      exact this
    · refine Ev.neg c ?_
      rw [if_neg c]
      exact Ev.now _
theorem spec_l9Run_ev (s : ByteArray) (hs : s.size ≤ 1048576) (h0 : 0 < s.size) : Ev (fun k => spec_l9Run.f k s) ((runN (classV (bt s 0)) (bl s) : Nat) : Int) := by
  unfold spec_l9Run.f
  have := spec_l9Run_l0 s hs h0 s.size 0 (by omega)
  rw [List.drop_zero, Nat.zero_add] at this
  exact this
theorem spec_l9Next_j0 (s : ByteArray) (hs : s.size ≤ 1048576) (n : Nat) (h1 : 1 ≤ n) (hn : n ≤ s.size) (t : Bool) (ht : t = true → n < s.size) :
    Ev (fun k => spec_l9Next.j0 k s (n : Int) t) ((min (if t = true then (if n = 1 then 1 + runN (classV (rd (bl s) 1)) ((bl s).drop 1) else n - 1) else n) 64 : Nat) : Int) := by
  refine Ev.step (fun k => by rw [spec_l9Next.j0]) ?_
  by_cases c : t = true
  · have hlt := ht c
    refine Ev.pos c ?_
    rw [if_pos c]
    by_cases c1 : n = 1
    · rw [if_pos c1]
      have g := spec_l9Run_ev (s.extract 1 s.size) (by rw [ext_size]; omega) (by rw [ext_size]; omega)
      rw [bl_tail, bt_bl, bl_tail, rd_at_drop _ _ _ (by omega)] at g
      have hr := runN_le (classV (rd (bl s) (((1 : Nat) : Int) + 0))) ((bl s).drop 1)
      rw [List.length_drop, bl_length] at hr
      rw [show ((1 : Nat) : Int) + 0 = 1 from rfl] at g hr
      refine Ev.pos (by omega) (Ev.pos (by omega) (Ev.bind g ?_))
      rw [w64 (by omega) (by omega)]
      by_cases c2 : 1 + (runN (classV (rd (bl s) 1)) ((bl s).drop 1) : Int) > 64
      · exact Ev.pos c2 (Ev.val _ _ (by omega))
      · exact Ev.neg c2 (Ev.val _ _ (by omega))
    · rw [if_neg c1]
      refine Ev.neg (by omega) ?_
      rw [w64 (by omega) (by omega)]
      by_cases c2 : (n : Int) - 1 > 64
      · exact Ev.pos c2 (Ev.val _ _ (by omega))
      · exact Ev.neg c2 (Ev.val _ _ (by omega))
  · refine Ev.neg c ?_
    rw [if_neg c]
    by_cases c2 : (n : Int) > 64
    · exact Ev.pos c2 (Ev.val _ _ (by omega))
    · exact Ev.neg c2 (Ev.val _ _ (by omega))
theorem spec_l9Next_ev (s : ByteArray) (hs : s.size ≤ 1048576) (h0 : 0 < s.size) : Ev (fun k => spec_l9Next.f k s) ((nextN (bl s) : Nat) : Int) := by
  have hl : 0 < (bl s).length := by rw [bl_length]; exact h0
  have n1 := runN_pos hl
  have n2 := runN_le (classV (rd (bl s) 0)) (bl s)
  rw [bl_length] at n2
  have g := spec_l9Run_ev s hs h0
  have gc := spec_Class_ev (wrap64 (bt s 0))
  rw [wbt] at gc
  rw [bt_bl] at g gc
  unfold spec_l9Next.f nextN
  refine Ev.bind g (Ev.pos (by omega) (Ev.bind (by rw [wbt, bt_bl]; exact gc) ?_))
  generalize classV (rd (bl s) 0) = c at *
  generalize runN c (bl s) = n at *
  unfold midN
  by_cases c2 : c = 2
  · refine Ev.pos c2 ?_
    rw [if_pos c2]
    by_cases c3 : (n : Int) > 3
    · exact Ev.pos c3 (Ev.neg (by omega) (Ev.val _ _ (by omega)))
    · exact Ev.neg c3 (Ev.neg (by omega) (Ev.val _ _ (by omega)))
  · refine Ev.neg c2 ?_
    rw [if_neg c2]
    by_cases c3 : c = 3
    · refine Ev.pos c3 ?_
      rw [if_pos c3, bl_length]
      by_cases c4 : n < s.size
      · refine Ev.pos (by omega) (Ev.pos (by omega) (Ev.bind (spec_Class_ev _) ?_))
        rw [wbt, bt_bl]
        by_cases c5 : classV (rd (bl s) (n : Int)) = 2
        · refine Ev.pos c5 ?_
          rw [if_neg (show ¬ (n < s.size ∧ classV (rd (bl s) (n : Int)) ≠ 2 ∧ rd (bl s) ((n : Int) - 1) = 32) from fun e => e.2.1 c5)]
          have := spec_l9Next_j0 s hs n n1 n2 false (by simp)
          rw [if_neg (by simp)] at this
          exact this
        · refine Ev.neg c5 (Ev.pos (by rw [w64 (by omega) (by omega)]; omega) (Ev.pos (by rw [w64 (by omega) (by omega)]; omega) ?_))
          rw [w64 (by omega) (by omega), bt_bl]
          have := spec_l9Next_j0 s hs n n1 n2 (rd (bl s) ((n : Int) - 1) == 32) (fun _ => c4)
          by_cases c6 : rd (bl s) ((n : Int) - 1) = 32
          · rw [if_pos (show (n < s.size ∧ classV (rd (bl s) (n : Int)) ≠ 2 ∧ rd (bl s) ((n : Int) - 1) = 32) from ⟨c4, c5, c6⟩)]
            rw [if_pos (show (rd (bl s) ((n : Int) - 1) == 32) = true from by simpa using c6)] at this
            exact this
          · rw [if_neg (show ¬ (n < s.size ∧ classV (rd (bl s) (n : Int)) ≠ 2 ∧ rd (bl s) ((n : Int) - 1) = 32) from fun e => c6 e.2.2)]
            rw [if_neg (show ¬ (rd (bl s) ((n : Int) - 1) == 32) = true from by simpa using c6)] at this
            exact this
      · refine Ev.neg (by omega) ?_
        rw [if_neg (show ¬ (n < s.size ∧ classV (rd (bl s) (n : Int)) ≠ 2 ∧ rd (bl s) ((n : Int) - 1) = 32) from fun e => c4 e.1)]
        have := spec_l9Next_j0 s hs n n1 n2 false (by simp)
        rw [if_neg (by simp)] at this
        exact this
    · refine Ev.neg c3 ?_
      rw [if_neg c3]
      by_cases c4 : (n : Int) > 64
      · exact Ev.pos c4 (Ev.val _ _ (by omega))
      · exact Ev.neg c4 (Ev.val _ _ (by omega))
theorem spec_Cut_l0 (d : Nat) : ∀ (s : ByteArray) (acc : List ByteArray), s.size ≤ d → d ≤ 1048576 → acc.length + d ≤ 1048576 →
    Ev (fun k => spec_Cut.l0 k s acc) (acc ++ cutF d (bl s)) := by
  induction d with
  | zero =>
    intro s acc hs _ _
    refine Ev.step (fun k => by rw [spec_Cut.l0]) ?_
    exact Ev.neg (by omega) (Ev.val _ _ (by simp [cutF]))
  | succ d ih =>
    intro s acc hs hd hc
    refine Ev.step (fun k => by rw [spec_Cut.l0]) ?_
    unfold cutF
    rw [bl_length]
    by_cases c : s.size = 0
    · rw [if_pos c, List.append_nil]
      exact Ev.neg (by omega) (Ev.now _)
    · have h1 := nextN_pos (l := bl s) (by rw [bl_length]; omega)
      have h2 := nextN_le (bl s)
      rw [bl_length] at h2
      rw [if_neg c]
      refine Ev.pos (by omega) (Ev.bind (spec_l9Next_ev s (by omega) (by omega)) (Ev.pos (by omega) (Ev.pos (by omega) (Ev.pos (by omega) ?_))))
      rw [Int.toNat_natCast]
      have g := ih (s.extract (nextN (bl s)) s.size) (acc ++ [s.extract 0 (nextN (bl s))]) (by rw [ext_size]; omega) (by omega) (by simp; omega)
      rw [bl_tail] at g
      have e : s.extract 0 (nextN (bl s)) = strOfNums ((bl s).take (nextN (bl s))) := by
        apply bl_inj
        rw [bl_extract, bl_strOf (fun x hx => bl_isB s x (List.mem_of_mem_take hx))]
        simp
      rw [e] at g ⊢
      rw [show acc ++ strOfNums ((bl s).take (nextN (bl s))) :: cutF d ((bl s).drop (nextN (bl s))) = (acc ++ [strOfNums ((bl s).take (nextN (bl s)))]) ++ cutF d ((bl s).drop (nextN (bl s))) by simp]
      exact g
theorem spec_Cut_ev (s : ByteArray) : Ev (fun k => spec_Cut.f k s) (cutV s) := by
  unfold spec_Cut.f cutV
  refine Ev.bind0 rfl ?_
  refine Ev.ite Iff.rfl (fun _ => Ev.now _) (fun c => ?_)
  have := spec_Cut_l0 s.size s [] (Nat.le_refl _) (by omega) (by simp; omega)
  rwa [List.nil_append] at this

theorem impl_within_eq (a b c : Int) : impl_within.f a b c = some (decide (b ≤ a ∧ a ≤ c)) := by
  unfold impl_within.f
  by_cases h : a ≥ b
  · rw [if_pos h]; simp [show b ≤ a from h]
  · rw [if_neg h]; simp [show ¬ b ≤ a from h]

theorem impl_Class_j0 (k : Nat) (b : Int) (t : Bool) : impl_Class.j0 (k + 1) b t = some (if t = true then 1 else if 48 ≤ b ∧ b ≤ 57 then 2 else if b = 9 ∨ b = 10 ∨ b = 13 ∨ b = 32 then 3 else 4) := by
  rw [impl_Class.j0, impl_within_eq]
  simp only [Option.bind_some]
  by_cases h : t = true
  · rw [if_pos h, if_pos h]
  · rw [if_neg h, if_neg h]
    by_cases h2 : 48 ≤ b ∧ b ≤ 57
    · rw [if_pos h2, if_pos (by simpa using h2)]
    · rw [if_neg h2, if_neg (by simpa using h2)]
      repeat' split
      all_goals first | rfl | (exfalso; simp_all; done) | simp_all
theorem impl_Class_ev (b : Int) : Ev (fun k => impl_Class.f k b) (classV b) := by
  refine ⟨1, fun n hn => ?_⟩
  obtain ⟨k, rfl⟩ : ∃ m, n = m + 1 := ⟨n - 1, by omega⟩
  unfold impl_Class.f classV
  simp only [impl_within_eq, Option.bind_some, impl_Class_j0]
  by_cases h : 0 ≤ b ∧ b ≤ 255
  · rw [if_pos (by simpa using h), if_neg (show ¬ ¬ (0 ≤ b ∧ b ≤ 255) from fun e => e h)]
    repeat' split
    all_goals first | rfl | (simp_all; done) | (simp_all; omega) | (exfalso; simp only [decide_eq_true_eq, Bool.true_eq_false, Bool.false_eq_true] at *; omega)
  · rw [if_neg (by simpa using h), if_pos h]

theorem mn_eq (a b : Int) : mn a b = min a b := by unfold mn; omega
theorem impl_runOf_l0 (s : ByteArray) (hs : s.size ≤ 1048576) (a : Nat) (h0 : a < s.size) (d : Nat) : ∀ (i : Nat), i + d = s.size →
    Ev (fun k => impl_runOf.l0 k s (a : Int) (i : Int)) (((i + runN (classV (rd (bl s) (a : Int))) ((bl s).drop i) : Nat) : Int)) := by
  induction d with
  | zero =>
    intro i hi
    refine Ev.step (fun k => by rw [impl_runOf.l0]) ?_
    refine Ev.neg (by omega) (Ev.val _ _ ?_)
    rw [List.drop_eq_nil_of_le (by rw [bl_length]; omega)]
    simp [runN]
  | succ d ih =>
    intro i hi
    refine Ev.step (fun k => by rw [impl_runOf.l0]) ?_
    refine Ev.pos (by omega) (Ev.pos (by omega) (Ev.bind (impl_Class_ev _) (Ev.pos (by omega) (Ev.pos (by omega) (Ev.bind (impl_Class_ev _) ?_)))))
    rw [wbt, wbt, bl_drop_at s i (by omega), ← bt_bl s (a : Int)]
    unfold runN
    by_cases c : classV (bt s (i : Int)) = classV (bt s (a : Int))
    · refine Ev.pos c ?_
      rw [if_pos c, w64 (by omega) (by omega)]
      have := ih (i + 1) (by omega)
      have e1 : ((i + 1 : Nat) : Int) = (i : Int) + 1 := by omega
      rw [e1, ← bt_bl] at this
      rw [show i + (runN (classV (bt s (a : Int))) ((bl s).drop (i + 1)) + 1) = i + 1 + runN (classV (bt s (a : Int))) ((bl s).drop (i + 1)) by omega]
      exact this
    · refine Ev.neg c ?_
      rw [if_neg c]
      exact Ev.now _
theorem impl_runOf_ev (s : ByteArray) (hs : s.size ≤ 1048576) (a : Nat) (h0 : a < s.size) : Ev (fun k => impl_runOf.f k s (a : Int)) (((a + runN (classV (rd (bl s) (a : Int))) ((bl s).drop a) : Nat) : Int)) := by
  unfold impl_runOf.f
  exact impl_runOf_l0 s hs a h0 (s.size - a) a (by omega)
theorem impl_wordOf_j0 (s : ByteArray) (hs : s.size ≤ 1048576) (a n : Nat) (h1 : 1 ≤ n) (hn : a + n ≤ s.size) (t : Bool) (ht : t = false → a + n < s.size) :
    Ev (fun k => impl_wordOf.j0 k s (a : Int) ((a + n : Nat) : Int) t) (((a + min (if t = true then n else (if n = 1 then 1 + runN (classV (rd ((bl s).drop a) 1)) (((bl s).drop a).drop 1) else n - 1)) 64 : Nat) : Int)) := by
  refine Ev.step (fun k => by rw [impl_wordOf.j0]) ?_
  by_cases c : t = true
  · refine Ev.pos c ?_
    rw [if_pos c, mn_eq, w64 (by omega) (by omega)]
    exact Ev.val _ _ (by omega)
  · have hlt := ht (by simpa using c)
    refine Ev.neg c ?_
    rw [if_neg c, w64 (x := (a : Int) + 1) (by omega) (by omega)]
    by_cases c1 : n = 1
    · rw [if_pos c1]
      subst c1
      have g := impl_runOf_ev s hs (a + 1) (by omega)
      refine Ev.pos (by omega) (Ev.bind g ?_)
      rw [mn_eq, w64 (by omega) (by omega), rd_at_drop _ _ _ (by omega), List.drop_drop]
      rw [show (((a + 1 : Nat) : Int)) = (a : Int) + 1 by omega]
      exact Ev.val _ _ (by omega)
    · rw [if_neg c1]
      refine Ev.neg (by omega) ?_
      rw [mn_eq, w64 (by omega) (by omega), w64 (by omega) (by omega)]
      exact Ev.val _ _ (by omega)
theorem impl_wordOf_ev (s : ByteArray) (hs : s.size ≤ 1048576) (a : Nat) (h0 : a < s.size) : Ev (fun k => impl_wordOf.f k s (a : Int)) (((a + nextN ((bl s).drop a) : Nat) : Int)) := by
  have hl : 0 < ((bl s).drop a).length := by rw [List.length_drop, bl_length]; omega
  have n1 := runN_pos hl
  have n2 := runN_le (classV (rd ((bl s).drop a) 0)) ((bl s).drop a)
  rw [List.length_drop, bl_length] at n2
  have g := impl_runOf_ev s hs a h0
  have gc := impl_Class_ev (wrap64 (bt s (a : Int)))
  have e0 : rd ((bl s).drop a) 0 = rd (bl s) (a : Int) := by rw [rd_at_drop _ _ _ (by omega), Int.add_zero]
  have e1 : classV (wrap64 (bt s (a : Int))) = classV (rd ((bl s).drop a) 0) := by rw [wbt, bt_bl, e0]
  rw [e1] at gc
  rw [← e0] at g
  unfold impl_wordOf.f nextN
  refine Ev.bind g (Ev.pos (by omega) (Ev.pos (by omega) (Ev.bind gc ?_)))
  clear e0 e1 g gc
  generalize classV (rd ((bl s).drop a) 0) = c at *
  generalize runN c ((bl s).drop a) = n at *
  unfold midN
  by_cases c2 : c = 2
  · refine Ev.pos c2 ?_
    rw [if_pos c2, mn_eq, mn_eq, w64 (by omega) (by omega), w64 (by omega) (by omega)]
    exact Ev.val _ _ (by omega)
  · refine Ev.neg c2 ?_
    rw [if_neg c2]
    by_cases c3 : c = 3
    · refine Ev.pos c3 ?_
      have er (i : Int) (hi : 0 ≤ i) : rd ((bl s).drop a) i = rd (bl s) ((a : Int) + i) := rd_at_drop _ _ _ hi
      have el : ((bl s).drop a).length = s.size - a := by rw [List.length_drop, bl_length]
      rw [if_pos c3, el]
      have jt := impl_wordOf_j0 s hs a n n1 (by omega) true (by simp)
      rw [if_pos rfl] at jt
      by_cases c4 : ((a + n : Nat) : Int) = (s.size : Int)
      · refine Ev.pos c4 ?_
        rw [if_neg (show ¬ (n < s.size - a ∧ classV (rd ((bl s).drop a) (n : Int)) ≠ 2 ∧ rd ((bl s).drop a) ((n : Int) - 1) = 32) from fun e => by omega)]
        exact jt
      · refine Ev.neg c4 (Ev.pos (by omega) (Ev.pos (by omega) (Ev.bind (impl_Class_ev _) ?_)))
        rw [wbt, bt_bl, show (((a + n : Nat) : Int)) = (a : Int) + (n : Int) by omega, ← er (n : Int) (by omega)]
        by_cases c5 : classV (rd ((bl s).drop a) (n : Int)) = 2
        · refine Ev.pos c5 ?_
          rw [if_neg (show ¬ (n < s.size - a ∧ classV (rd ((bl s).drop a) (n : Int)) ≠ 2 ∧ rd ((bl s).drop a) ((n : Int) - 1) = 32) from fun e => e.2.1 c5)]
          rw [show (((a + n : Nat) : Int)) = (a : Int) + (n : Int) by omega] at jt
          exact jt
        · refine Ev.neg c5 (Ev.pos (by rw [w64 (by omega) (by omega)]; omega) (Ev.pos (by rw [w64 (by omega) (by omega)]; omega) ?_))
          rw [w64 (by omega) (by omega), bt_bl, show (a : Int) + (n : Int) - 1 = (a : Int) + ((n : Int) - 1) by omega, ← er ((n : Int) - 1) (by omega)]
          have j := impl_wordOf_j0 s hs a n n1 (by omega) (rd ((bl s).drop a) ((n : Int) - 1) != 32) (fun _ => by omega)
          rw [show (((a + n : Nat) : Int)) = (a : Int) + (n : Int) by omega] at j
          by_cases c6 : rd ((bl s).drop a) ((n : Int) - 1) = 32
          · rw [if_pos (show (n < s.size - a ∧ classV (rd ((bl s).drop a) (n : Int)) ≠ 2 ∧ rd ((bl s).drop a) ((n : Int) - 1) = 32) from ⟨by omega, c5, c6⟩)]
            rw [if_neg (show ¬ (rd ((bl s).drop a) ((n : Int) - 1) != 32) = true from by simpa using c6)] at j
            exact j
          · rw [if_neg (show ¬ (n < s.size - a ∧ classV (rd ((bl s).drop a) (n : Int)) ≠ 2 ∧ rd ((bl s).drop a) ((n : Int) - 1) = 32) from fun e => c6 e.2.2)]
            rw [if_pos (show (rd ((bl s).drop a) ((n : Int) - 1) != 32) = true from by simpa using c6)] at j
            exact j
    · refine Ev.neg c3 ?_
      rw [if_neg c3, mn_eq, w64 (by omega) (by omega)]
      exact Ev.val _ _ (by omega)
theorem impl_Cut_l0 (s : ByteArray) (hs : s.size ≤ 1048576) (d : Nat) : ∀ (a : Nat) (acc : List ByteArray), a ≤ s.size → s.size - a ≤ d → acc.length + d ≤ 1048576 →
    Ev (fun k => impl_Cut.l0 k s acc (a : Int)) (acc ++ cutF d ((bl s).drop a)) := by
  induction d with
  | zero =>
    intro a acc ha hd hc
    refine Ev.step (fun k => by rw [impl_Cut.l0]) ?_
    exact Ev.neg (by omega) (Ev.val _ _ (by simp [cutF]))
  | succ d ih =>
    intro a acc ha hd hc
    refine Ev.step (fun k => by rw [impl_Cut.l0]) ?_
    have el : ((bl s).drop a).length = s.size - a := by rw [List.length_drop, bl_length]
    unfold cutF
    rw [el]
    by_cases c : s.size - a = 0
    · rw [if_pos c, List.append_nil]
      exact Ev.neg (by omega) (Ev.now _)
    · have h1 := nextN_pos (l := (bl s).drop a) (by omega)
      have h2 := nextN_le ((bl s).drop a)
      rw [if_neg c]
      refine Ev.pos (by omega) (Ev.bind (impl_wordOf_ev s hs a (by omega)) (Ev.pos (by omega) (Ev.pos (by omega) (Ev.pos (by omega) (Ev.pos (by omega) ?_)))))
      rw [Int.toNat_natCast, Int.toNat_natCast]
      have g := ih (a + nextN ((bl s).drop a)) (acc ++ [s.extract a (a + nextN ((bl s).drop a))]) (by omega) (by omega) (by simp; omega)
      rw [← List.drop_drop] at g
      have e : s.extract a (a + nextN ((bl s).drop a)) = strOfNums (((bl s).drop a).take (nextN ((bl s).drop a))) := by
        apply bl_inj
        rw [bl_extract, bl_strOf (fun x hx => bl_isB s x (List.mem_of_mem_drop (List.mem_of_mem_take hx)))]
        rw [Nat.add_sub_cancel_left]
      rw [e] at g ⊢
      rw [show acc ++ strOfNums (((bl s).drop a).take (nextN ((bl s).drop a))) :: cutF d (((bl s).drop a).drop (nextN ((bl s).drop a))) = (acc ++ [strOfNums (((bl s).drop a).take (nextN ((bl s).drop a)))]) ++ cutF d (((bl s).drop a).drop (nextN ((bl s).drop a))) by simp]
      exact g
theorem impl_Cut_ev (s : ByteArray) : Ev (fun k => impl_Cut.f k s) (cutV s) := by
  unfold impl_Cut.f cutV
  refine Ev.bind0 rfl ?_
  refine Ev.ite Iff.rfl (fun _ => Ev.now _) (fun c => ?_)
  have := impl_Cut_l0 s (by omega) s.size 0 [] (by omega) (by omega) (by simp; omega)
  rw [List.nil_append, List.drop_zero] at this
  exact this

/-! ### vocabularies: the tokens that merges make -/
def tokB (out : List ByteArray) (id : Int) : ByteArray := if id < 256 then strOfNums [id % 256] else rdOf ByteArray.empty out (id - 256)
abbrev pairOk (i : Nat) (p : Int × Int) : Prop := (0 ≤ p.1 ∧ p.1 ≤ 255 + (i : Int)) ∧ (0 ≤ p.2 ∧ p.2 ≤ 255 + (i : Int))
def tokLoop : List (Int × Int) → List ByteArray → List ByteArray × Bool
  | [], out => (out, true)
  | p :: l, out => if pairOk out.length p then (if 24 < (tokB out p.1 ++ tokB out p.2).size ∨ (tokB out p.1 ++ tokB out p.2) ∈ out then (out, false) else tokLoop l (out ++ [tokB out p.1 ++ tokB out p.2])) else (out, false)
def tokV (l : List (Int × Int)) : List ByteArray × Bool := if 60 < l.length then ([], false) else tokLoop l []
def vocabOk (l : List (Int × Int)) : Bool := (tokV l).2
def Short (out : List ByteArray) : Prop := ∀ s ∈ out, s.size ≤ 24
theorem rdOf_mem {out : List ByteArray} {i : Int} (h0 : 0 ≤ i) (h1 : i < out.length) : rdOf ByteArray.empty out i ∈ out := by
  have h : i.toNat < out.length := by omega
  unfold rdOf
  rw [List.getD_eq_getElem?_getD, List.getElem?_eq_getElem h]
  exact List.getElem_mem h
theorem tokB_size {out : List ByteArray} (hs : Short out) {id : Int} (h0 : 0 ≤ id) (h1 : id ≤ 255 + (out.length : Int)) : (tokB out id).size ≤ 24 := by
  unfold tokB
  split
  · rw [strOf_size]; simp
  · exact hs _ (rdOf_mem (by omega) (by omega))
theorem short_snoc {out : List ByteArray} (hs : Short out) {t : ByteArray} (ht : t.size ≤ 24) : Short (out ++ [t]) := by
  intro s h
  rcases List.mem_append.1 h with h | h
  · exact hs s h
  · rw [List.mem_singleton.1 h]; exact ht
theorem short_nil : Short [] := fun _ h => by cases h
theorem rdOf_drop (out : List ByteArray) (j : Nat) (h : j < out.length) : out.drop j = rdOf ByteArray.empty out (j : Int) :: out.drop (j + 1) := by
  unfold rdOf
  rw [Int.toNat_natCast, List.getD_eq_getElem?_getD, List.getElem?_eq_getElem h]
  exact List.drop_eq_getElem_cons h
theorem bsize_append (a b : ByteArray) : (a ++ b).size = a.size + b.size := ByteArray.size_append

/-! ### the number of a merge -/
def rankFrom : List (Int × Int) → Int → Int → Int → Int
  | [], _, _, _ => -1
  | p :: l, a, b, i => if p.1 = a ∧ p.2 = b then i else rankFrom l a b (i + 1)
def rankV (l : List (Int × Int)) (q : Int × Int) : Int := rankFrom l q.1 q.2 0

/-! ### which neighbours merge first -/
theorem rankFrom_spec : ∀ (v : List (Int × Int)) (q : Int × Int) (s : Int), (rankFrom v q.1 q.2 s = -1 ∧ q ∉ v) ∨ ∃ r, ∃ h : r < v.length, rankFrom v q.1 q.2 s = s + r ∧ v[r] = q ∧ ∀ r' (h' : r' < r), v[r']'(by omega) ≠ q
  | [], q, s => .inl ⟨rfl, by simp⟩
  | p :: v, q, s => by
    rw [rankFrom]
    by_cases c : p.1 = q.1 ∧ p.2 = q.2
    · rw [if_pos c]
      exact .inr ⟨0, by simp, by simp, by simp only [List.getElem_cons_zero]; exact Prod.ext c.1 c.2, fun r' h' => by omega⟩
    · rw [if_neg c]
      have hp : p ≠ q := fun e => c (by subst e; exact ⟨rfl, rfl⟩)
      rcases rankFrom_spec v q (s + 1) with ⟨h1, h2⟩ | ⟨r, h, h1, h2, h3⟩
      · exact .inl ⟨h1, by simp [h2]; exact fun e => hp e.symm⟩
      · refine .inr ⟨r + 1, by simp; omega, by rw [h1]; omega, by simpa using h2, fun r' h' => ?_⟩
        cases r' with
        | zero => simpa using hp
        | succ r' => simpa using h3 r' (by omega)
theorem rankV_spec (v : List (Int × Int)) (q : Int × Int) : (rankV v q = -1 ∧ q ∉ v) ∨ ∃ r, ∃ h : r < v.length, rankV v q = (r : Int) ∧ v[r] = q ∧ ∀ r' (h' : r' < r), v[r']'(by omega) ≠ q := by
  rcases rankFrom_spec v q 0 with h | ⟨r, h, h1, h2, h3⟩
  · exact .inl h
  · exact .inr ⟨r, h, by unfold rankV; rw [h1]; omega, h2, h3⟩
theorem rankV_range (v : List (Int × Int)) (q : Int × Int) : -1 ≤ rankV v q ∧ rankV v q < v.length := by
  rcases rankV_spec v q with h | ⟨r, h, h1, _⟩ <;> omega
/-- neighbours -/
def adj : List Int → List (Int × Int)
  | [] => []
  | [_] => []
  | a :: b :: l => (a, b) :: adj (b :: l)
theorem adj_length : ∀ l : List Int, (adj l).length = l.length - 1
  | [] => rfl
  | [_] => rfl
  | a :: b :: l => by rw [adj, List.length_cons, adj_length (b :: l)]; simp
theorem adj_get : ∀ (l : List Int) (i : Nat) (h : i + 1 < l.length), (adj l)[i]'(by rw [adj_length]; omega) = (l[i], l[i + 1])
  | [], i, h => by simp at h
  | [_], i, h => by simp at h
  | a :: b :: l, i, h => by
    cases i with
    | zero => simp [adj]
    | succ i =>
      have := adj_get (b :: l) i (by simpa using h)
      simp only [adj, List.getElem_cons_succ] at this ⊢
      exact this
/-- the first place of the least merge, and its number -/
def IsLeast (v : List (Int × Int)) (A : List (Int × Int)) (R : Int × Int) : Prop :=
  (R = (-1, -1) ∧ ∀ q ∈ A, rankV v q < 0) ∨
  ∃ i, ∃ h : i < A.length, R = ((i : Int), rankV v A[i]) ∧ 0 ≤ rankV v A[i] ∧ (∀ q ∈ A, rankV v q < 0 ∨ rankV v A[i] ≤ rankV v q) ∧ ∀ j (hj : j < i), rankV v (A[j]'(by omega)) ≠ rankV v A[i]
theorem isLeast_unique {v A : List (Int × Int)} {R Q : Int × Int} (h : IsLeast v A R) (k : IsLeast v A Q) : R = Q := by
  rcases h with ⟨rfl, h⟩ | ⟨i, hi, rfl, h0, h1, h2⟩
  · rcases k with ⟨rfl, _⟩ | ⟨j, hj, rfl, k0, _⟩
    · rfl
    · have := h _ (List.getElem_mem hj); omega
  · rcases k with ⟨rfl, k⟩ | ⟨j, hj, rfl, k0, k1, k2⟩
    · have := k _ (List.getElem_mem hi); omega
    · have a := h1 _ (List.getElem_mem hj)
      have b := k1 _ (List.getElem_mem hi)
      have e : rankV v A[i] = rankV v A[j] := by omega
      have hij : i = j := by
        rcases Nat.lt_trichotomy i j with h | h | h
        · exact absurd e (k2 i h)
        · exact h
        · exact absurd e.symm (h2 j h)
      subst hij
      rfl
/-- as the program looks: neighbour by neighbour -/
def leastFrom (v : List (Int × Int)) : List (Int × Int) → Int → Int → Int → Int × Int
  | [], _, pos, best => (pos, best)
  | q :: A, i, pos, best => if 0 ≤ rankV v q ∧ (best < 0 ∨ rankV v q < best) then leastFrom v A (i + 1) i (rankV v q) else leastFrom v A (i + 1) pos best
theorem isLeast_snoc {v A : List (Int × Int)} {pos best : Int} (h : IsLeast v A (pos, best)) (q : Int × Int) :
    IsLeast v (A ++ [q]) (if 0 ≤ rankV v q ∧ (best < 0 ∨ rankV v q < best) then ((A.length : Int), rankV v q) else (pos, best)) := by
  rcases h with ⟨e, h⟩ | ⟨i, hi, e, h0, h1, h2⟩
  · obtain ⟨rfl, rfl⟩ := Prod.mk.inj e
    by_cases c : 0 ≤ rankV v q
    · rw [if_pos ⟨c, .inl (by omega)⟩]
      refine .inr ⟨A.length, by simp, by simp, by simpa using c, fun p hp => ?_, fun j hj => ?_⟩
      · rcases List.mem_append.1 hp with hp | hp
        · exact .inl (h p hp)
        · rw [List.mem_singleton.1 hp]; right; simp
      · have := h _ (List.getElem_mem hj)
        rw [List.getElem_append_left hj]
        simp only [List.getElem_concat_length]
        omega
    · rw [if_neg (fun k => c k.1)]
      refine .inl ⟨rfl, fun p hp => ?_⟩
      rcases List.mem_append.1 hp with hp | hp
      · exact h p hp
      · rw [List.mem_singleton.1 hp]; omega
  · obtain ⟨rfl, rfl⟩ := Prod.mk.inj e
    by_cases c : 0 ≤ rankV v q ∧ (rankV v A[i] < 0 ∨ rankV v q < rankV v A[i])
    · rw [if_pos c]
      refine .inr ⟨A.length, by simp, by simp, by simpa using c.1, fun p hp => ?_, fun j hj => ?_⟩
      · simp only [List.getElem_concat_length]
        rcases List.mem_append.1 hp with hp | hp
        · have := h1 p hp; omega
        · rw [List.mem_singleton.1 hp]; omega
      · have := h1 _ (List.getElem_mem hj)
        rw [List.getElem_append_left hj]
        simp only [List.getElem_concat_length]
        omega
    · rw [if_neg c]
      refine .inr ⟨i, by simp; omega, ?_, ?_, fun p hp => ?_, fun j hj => ?_⟩
      · rw [List.getElem_append_left hi]
      · rw [List.getElem_append_left hi]; exact h0
      · rw [List.getElem_append_left hi]
        rcases List.mem_append.1 hp with hp | hp
        · exact h1 p hp
        · rw [List.mem_singleton.1 hp]; omega
      · rw [List.getElem_append_left hi, List.getElem_append_left (by omega)]
        exact h2 j hj
theorem leastFrom_spec (v : List (Int × Int)) : ∀ (B A : List (Int × Int)) (pos best : Int), IsLeast v A (pos, best) → IsLeast v (A ++ B) (leastFrom v B (A.length : Int) pos best)
  | [], A, pos, best, h => by simpa [leastFrom] using h
  | q :: B, A, pos, best, h => by
    have hs := isLeast_snoc h q
    rw [leastFrom]
    have e1 : ((A ++ [q]).length : Int) = (A.length : Int) + 1 := by simp
    have e2 : A ++ q :: B = (A ++ [q]) ++ B := by simp
    rw [e2]
    by_cases c : 0 ≤ rankV v q ∧ (best < 0 ∨ rankV v q < best)
    · rw [if_pos c] at hs ⊢
      have := leastFrom_spec v B (A ++ [q]) _ _ hs
      rw [e1] at this
      exact this
    · rw [if_neg c] at hs ⊢
      have := leastFrom_spec v B (A ++ [q]) _ _ hs
      rw [e1] at this
      exact this
def leastV (v : List (Int × Int)) (ts : List Int) : Int × Int := leastFrom v (adj ts) 0 (-1) (-1)
theorem leastV_spec (v : List (Int × Int)) (ts : List Int) : IsLeast v (adj ts) (leastV v ts) := by
  have := leastFrom_spec v (adj ts) [] (-1) (-1) (.inl ⟨rfl, fun q h => by cases h⟩)
  simpa [leastV] using this
/-- as the reference looks: merge by merge -/
def placeFrom (A : List (Int × Int)) : List (Int × Int) → Int → Int × Int
  | [], _ => (-1, -1)
  | p :: w, r => if 0 ≤ rankV A p then (rankV A p, r) else placeFrom A w (r + 1)
theorem placeFrom_spec (A : List (Int × Int)) : ∀ (w u : List (Int × Int)), (∀ p ∈ u, p ∉ A) → IsLeast (u ++ w) A (placeFrom A w (u.length : Int))
  | [], u, h => by
    refine .inl ⟨rfl, fun q hq => ?_⟩
    rw [List.append_nil]
    rcases rankV_spec u q with ⟨h1, _⟩ | ⟨r, hr, _, h2, _⟩
    · omega
    · exact absurd hq (h q (by rw [← h2]; exact List.getElem_mem hr))
  | p :: w, u, h => by
    rw [placeFrom]
    by_cases c : 0 ≤ rankV A p
    · rw [if_pos c]
      rcases rankV_spec A p with ⟨h1, _⟩ | ⟨i, hi, h1, h2, h3⟩
      · omega
      · have hu : p ∉ u := fun hp => h p hp (by rw [← h2]; exact List.getElem_mem hi)
        have low : ∀ q ∈ A, rankV (u ++ p :: w) q < 0 ∨ (u.length : Int) ≤ rankV (u ++ p :: w) q := by
          intro q hq
          rcases rankV_spec (u ++ p :: w) q with ⟨k1, _⟩ | ⟨r, hr, k1, k2, _⟩
          · left; omega
          · by_cases hlt : r < u.length
            · rw [List.getElem_append_left hlt] at k2
              exact absurd hq (h q (by rw [← k2]; exact List.getElem_mem hlt))
            · right; omega
        have hrk : rankV (u ++ p :: w) p = (u.length : Int) := by
          have hmem : p ∈ u ++ p :: w := by simp
          rcases rankV_spec (u ++ p :: w) p with ⟨_, k⟩ | ⟨r, hr, k1, k2, k3⟩
          · exact absurd hmem k
          · have := low p (by rw [← h2]; exact List.getElem_mem hi)
            by_cases hgt : u.length < r
            · exact absurd (by simp) (k3 u.length hgt)
            · omega
        refine .inr ⟨i, hi, ?_, ?_, ?_, ?_⟩
        · rw [h2, hrk, h1]
        · rw [h2, hrk]; omega
        · intro q hq
          rw [h2, hrk]
          exact low q hq
        · intro j hj e
          rw [h2, hrk] at e
          have hne := h3 j hj
          rcases rankV_spec (u ++ p :: w) (A[j]'(by omega)) with ⟨k1, _⟩ | ⟨r, hr, k1, k2, _⟩
          · omega
          · have hr' : r = u.length := by omega
            subst hr'
            apply hne
            rw [← k2]
            simp
    · rw [if_neg c]
      have hp : p ∉ A := by
        rcases rankV_spec A p with ⟨_, k⟩ | ⟨r, hr, k1, _⟩
        · exact k
        · omega
      have := placeFrom_spec A w (u ++ [p]) (fun q hq => (List.mem_append.1 hq).elim (h q) (fun hq => by rw [List.mem_singleton.1 hq]; exact hp))
      have e1 : ((u ++ [p]).length : Int) = (u.length : Int) + 1 := by simp
      have e2 : u ++ p :: w = (u ++ [p]) ++ w := by simp
      rw [e1] at this
      rw [e2]
      exact this
theorem place_least (v : List (Int × Int)) (ts : List Int) : placeFrom (adj ts) v 0 = leastV v ts := by
  have := placeFrom_spec (adj ts) v [] (fun p hp => by cases hp)
  exact isLeast_unique (by simpa using this) (leastV_spec v ts)

/-! ### merging once, and again and again -/
def mergedV (ts : List Int) (pos r : Int) : List Int := ts.take pos.toNat ++ [256 + r] ++ ts.drop (pos.toNat + 2)
def bpeFrom (v : List (Int × Int)) : Nat → List Int → List Int
  | 0, ts => ts
  | f + 1, ts => if (leastV v ts).1 < 0 then ts else bpeFrom v f (mergedV ts (leastV v ts).1 (leastV v ts).2)
def bpeV (v : List (Int × Int)) (s : ByteArray) : List Int := bpeFrom v s.size (bl s)
theorem least_in {v : List (Int × Int)} {ts : List Int} (h : ¬ (leastV v ts).1 < 0) : 0 ≤ (leastV v ts).1 ∧ (leastV v ts).1 + 2 ≤ ts.length ∧ 0 ≤ (leastV v ts).2 ∧ (leastV v ts).2 < v.length := by
  rcases leastV_spec v ts with ⟨e, _⟩ | ⟨i, hi, e, h0, _⟩
  · rw [e] at h; simp at h
  · have := rankV_range v ((adj ts)[i])
    rw [adj_length] at hi
    rw [e]
    simp only
    omega
theorem mergedV_length {ts : List Int} {pos r : Int} (h0 : 0 ≤ pos) (h1 : pos + 2 ≤ ts.length) : (mergedV ts pos r).length + 1 = ts.length := by
  unfold mergedV
  simp only [List.length_append, List.length_take, List.length_drop, List.length_singleton]
  omega
theorem bpeFrom_length (v : List (Int × Int)) : ∀ (f : Nat) (ts : List Int), (bpeFrom v f ts).length ≤ ts.length
  | 0, ts => Nat.le_refl _
  | f + 1, ts => by
    rw [bpeFrom]
    split
    · exact Nat.le_refl _
    · rename_i c
      have h := least_in c
      have := mergedV_length (r := (leastV v ts).2) h.1 h.2.1
      have := bpeFrom_length v f (mergedV ts (leastV v ts).1 (leastV v ts).2)
      omega
theorem bpeV_length (v : List (Int × Int)) (s : ByteArray) : (bpeV v s).length ≤ s.size := by
  have := bpeFrom_length v s.size (bl s)
  rw [bl_length] at this
  exact this
theorem least_nil (v : List (Int × Int)) : leastV v [] = (-1, -1) := rfl
def bpeOut (v : List (Int × Int)) (s : ByteArray) : List Int := if vocabOk v = true then (if (s.size : Int) > 64 then [] else bpeV v s) else []
theorem bpeOut_length (v : List (Int × Int)) (s : ByteArray) : (bpeOut v s).length ≤ 64 := by
  unfold bpeOut
  split
  · split
    · simp
    · have := bpeV_length v s; omega
  · simp
theorem bl_take_snoc (s : ByteArray) (i : Nat) (h : i < s.size) : (bl s).take i ++ [bt s (i : Int)] = (bl s).take (i + 1) := by
  rw [bt_nat s i h, List.take_succ_eq_append_getElem (by rw [bl_length]; exact h)]

theorem adj_drop (ts : List Int) (i : Nat) (h : i + 1 < ts.length) : (adj ts).drop i = (rd ts (i : Int), rd ts ((i : Int) + 1)) :: (adj ts).drop (i + 1) := by
  have hl : i < (adj ts).length := by rw [adj_length]; omega
  have e1 : (i : Int) + 1 = ((i + 1 : Nat) : Int) := by omega
  rw [List.drop_eq_getElem_cons hl, adj_get ts i h, rd_get ts i (by omega), e1, rd_get ts (i + 1) h]
theorem adj_end (ts : List Int) (i : Nat) (h : ¬ i + 1 < ts.length) : (adj ts).drop i = [] := List.drop_eq_nil_of_le (by rw [adj_length]; omega)

abbrev PI := S131
def prs (l : List PI) : List (Int × Int) := l.map fun p => (p.f0, p.f1)
theorem rdI_drop (l : List PI) (i : Nat) (h : i < l.length) : l.drop i = rd_T131 l (i : Int) :: l.drop (i + 1) := by
  unfold rd_T131
  rw [Int.toNat_natCast, List.getD_eq_getElem?_getD, List.getElem?_eq_getElem h]
  exact List.drop_eq_getElem_cons h
theorem prs_length (l : List PI) : (prs l).length = l.length := by simp [prs]

theorem spec_l8Place_l1 (l : List PI) (ts : List Int) (ht : ts.length ≤ 1048576) (hl : l.length ≤ 1048576) (r : Nat) (hr : r < l.length) (C : Int × Int) (hC : Ev (fun k => spec_l8Place.l0 k ts ((r : Int) + 1) l) C) (d : Nat) : ∀ (i : Nat), i + d = ts.length →
    Ev (fun k => spec_l8Place.l1 k ts (r : Int) (i : Int) l) (if 0 ≤ rankFrom ((adj ts).drop i) l[r].f0 l[r].f1 i then (rankFrom ((adj ts).drop i) l[r].f0 l[r].f1 i, (r : Int)) else C) := by
  have hg : rd_T131 l (r : Int) = l[r] := by
    unfold rd_T131
    rw [Int.toNat_natCast, List.getD_eq_getElem?_getD, List.getElem?_eq_getElem hr]; rfl
  induction d with
  | zero =>
    intro i hi
    refine Ev.step (fun k => by rw [spec_l8Place.l1]) ?_
    rw [w64 (x := (i : Int) + 1) (by omega) (by omega), adj_end ts i (by omega), w64 (x := (r : Int) + 1) (by omega) (by omega)]
    rw [if_neg (show ¬ 0 ≤ rankFrom [] l[r].f0 l[r].f1 i by simp [rankFrom])]
    exact Ev.neg (by omega) hC
  | succ d ih =>
    intro i hi
    refine Ev.step (fun k => by rw [spec_l8Place.l1]) ?_
    rw [w64 (x := (i : Int) + 1) (by omega) (by omega), w64 (x := (r : Int) + 1) (by omega) (by omega), hg]
    by_cases c : i + 1 < ts.length
    · have R := ih (i + 1) (by omega)
      have e1 : ((i + 1 : Nat) : Int) = (i : Int) + 1 := by omega
      rw [e1] at R
      rw [adj_drop ts i c, rankFrom]
      refine Ev.pos (by omega) (Ev.pos (by omega) (Ev.pos (by omega) (Ev.pos (by omega) (Ev.pos (by omega) ?_))))
      by_cases c1 : rd ts (i : Int) = l[r].f0
      · refine Ev.pos c1 (Ev.pos (by omega) ?_)
        by_cases c2 : rd ts ((i : Int) + 1) = l[r].f1
        · rw [if_pos (show rd ts (i : Int) = l[r].f0 ∧ rd ts ((i : Int) + 1) = l[r].f1 from ⟨c1, c2⟩), if_pos (show (0 : Int) ≤ (i : Int) by omega)]
          exact Ev.pos c2 (Ev.now _)
        · rw [if_neg (show ¬ (rd ts (i : Int) = l[r].f0 ∧ rd ts ((i : Int) + 1) = l[r].f1) from fun h => c2 h.2)]
          exact Ev.neg c2 R
      · rw [if_neg (show ¬ (rd ts (i : Int) = l[r].f0 ∧ rd ts ((i : Int) + 1) = l[r].f1) from fun h => c1 h.1)]
        exact Ev.neg c1 R
    · rw [adj_end ts i c, if_neg (show ¬ 0 ≤ rankFrom [] l[r].f0 l[r].f1 i by simp [rankFrom])]
      exact Ev.neg (by omega) hC
theorem spec_l8Place_l0 (l : List PI) (ts : List Int) (ht : ts.length ≤ 1048576) (hl : l.length ≤ 1048576) (d : Nat) : ∀ (r : Nat), r + d = l.length →
    Ev (fun k => spec_l8Place.l0 k ts (r : Int) l) (placeFrom (adj ts) (prs (l.drop r)) (r : Int)) := by
  induction d with
  | zero =>
    intro r hr
    refine Ev.step (fun k => by rw [spec_l8Place.l0]) ?_
    rw [List.drop_eq_nil_of_le (by omega)]
    exact Ev.neg (by omega) (Ev.now _)
  | succ d ih =>
    intro r hr
    refine Ev.step (fun k => by rw [spec_l8Place.l0]) ?_
    refine Ev.pos (by omega) ?_
    have R := ih (r + 1) (by omega)
    have e1 : ((r + 1 : Nat) : Int) = (r : Int) + 1 := by omega
    rw [e1] at R
    have := spec_l8Place_l1 l ts ht hl r (by omega) _ R ts.length 0 (by omega)
    rw [List.drop_eq_getElem_cons (show r < l.length by omega)]
    simp only [prs, List.map_cons, placeFrom, rankV]
    exact this
theorem spec_l8Place_ev (l : List PI) (ts : List Int) (hl : l.length ≤ 1048576) (ht : ts.length ≤ 1048576) : Ev (fun k => spec_l8Place.f k l ts) (leastV (prs l) ts) := by
  unfold spec_l8Place.f
  rw [← place_least]
  exact spec_l8Place_l0 l ts ht hl l.length 0 (by omega)

theorem spec_l8Merged_eq (ts : List Int) (pos r : Int) (ht : ts.length ≤ 1048576) (h0 : 0 ≤ pos) (h1 : pos + 2 ≤ ts.length) (h2 : 0 ≤ r) (h3 : r ≤ 1048576) : spec_l8Merged.f ts pos r = some (mergedV ts pos r) := by
  unfold spec_l8Merged.f mergedV
  rw [w64 (x := pos + 2) (by omega) (by omega), w64 (x := 256 + r) (by omega) (by omega)]
  simp only [Option.bind_some]
  rw [if_pos h0, if_pos (by omega), if_pos (by simp; omega), if_pos (by simp; omega), if_pos (by omega), if_pos (by omega), if_pos (by simp; omega)]
  have e : (pos + 2).toNat = pos.toNat + 2 := by omega
  rw [e]; simp

theorem spec_l8Bpe_l1 (l : List PI) (hl : l.length ≤ 1048576) (s : ByteArray) (hs : s.size ≤ 1048576) (f : Nat) : ∀ (i : Nat) (ts : List Int), i + f = s.size → ts.length ≤ f →
    Ev (fun k => spec_l8Bpe.l1 k s ts (i : Int) l) (bpeFrom (prs l) f ts) := by
  induction f with
  | zero =>
    intro i ts hi ht
    refine Ev.step (fun k => by rw [spec_l8Bpe.l1]) ?_
    exact Ev.neg (by omega) (Ev.now _)
  | succ f ih =>
    intro i ts hi ht
    refine Ev.step (fun k => by rw [spec_l8Bpe.l1]) ?_
    rw [bpeFrom]
    refine Ev.pos (by omega) (Ev.bind (spec_l8Place_ev l ts hl (by omega)) (Ev.ite Iff.rfl (fun _ => Ev.now _) (fun c => ?_)))
    have h := least_in c
    have hr := h.2.2.2
    rw [prs_length] at hr
    have hm := mergedV_length (r := (leastV (prs l) ts).2) h.1 h.2.1
    refine Ev.bind0 (spec_l8Merged_eq ts _ _ (by omega) h.1 h.2.1 h.2.2.1 (by omega)) ?_
    rw [w64 (by omega) (by omega)]
    have := ih (i + 1) (mergedV ts (leastV (prs l) ts).1 (leastV (prs l) ts).2) (by omega) (by omega)
    have e1 : ((i + 1 : Nat) : Int) = (i : Int) + 1 := by omega
    rw [e1] at this
    exact this
theorem spec_l8Bpe_l0 (l : List PI) (hl : l.length ≤ 1048576) (s : ByteArray) (hs : s.size ≤ 1048576) (d : Nat) : ∀ (i : Nat), i + d = s.size →
    Ev (fun k => spec_l8Bpe.l0 k s ((bl s).take i) (i : Int) l) (bpeV (prs l) s) := by
  induction d with
  | zero =>
    intro i hi
    refine Ev.step (fun k => by rw [spec_l8Bpe.l0]) ?_
    rw [List.take_of_length_le (by rw [bl_length]; omega)]
    exact Ev.neg (by omega) (spec_l8Bpe_l1 l hl s hs s.size 0 (bl s) (by omega) (by rw [bl_length]; omega))
  | succ d ih =>
    intro i hi
    refine Ev.step (fun k => by rw [spec_l8Bpe.l0]) ?_
    have := ih (i + 1) (by omega)
    have e1 : ((i + 1 : Nat) : Int) = (i : Int) + 1 := by omega
    rw [e1] at this
    rw [wbt, bl_take_snoc s i (by omega), w64 (by omega) (by omega)]
    exact Ev.pos (by omega) (Ev.pos (by omega) (Ev.pos (by rw [List.length_take]; omega) this))
theorem spec_l8Bpe_ev (l : List PI) (hl : l.length ≤ 1048576) (s : ByteArray) (hs : s.size ≤ 1048576) : Ev (fun k => spec_l8Bpe.f k l s) (bpeV (prs l) s) := by
  unfold spec_l8Bpe.f
  exact spec_l8Bpe_l0 l hl s hs s.size 0 (by omega)

theorem impl_Pair_l0 (l : List PI) (a b : Int) (hl : l.length ≤ 1048576) (d : Nat) : ∀ (i : Nat), i + d = l.length → Ev (fun k => impl_Pair.l0 k l (l.length : Int) (i : Int) a b) (rankFrom (prs (l.drop i)) a b i) := by
  induction d with
  | zero =>
    intro i hi
    refine Ev.step (fun k => by rw [impl_Pair.l0]) ?_
    rw [List.drop_eq_nil_of_le (by omega)]
    exact Ev.neg (by omega) (Ev.now _)
  | succ d ih =>
    intro i hi
    refine Ev.step (fun k => by rw [impl_Pair.l0]) ?_
    have R := ih (i + 1) (by omega)
    have e1 : ((i + 1 : Nat) : Int) = (i : Int) + 1 := by omega
    rw [e1] at R
    rw [rdI_drop l i (by omega), w64 (by omega) (by omega)]
    generalize rd_T131 l (i : Int) = p
    simp only [prs, List.map_cons, rankFrom]
    refine Ev.pos (by omega) (Ev.pos (by omega) (Ev.pos (by omega) ?_))
    refine Ev.ite ?_ (fun _ => Ev.now _) (fun _ => R)
    rw [Bool.and_eq_true, beq_iff_eq, beq_iff_eq]
    exact ⟨fun h => ⟨h.1.symm, h.2.symm⟩, fun h => ⟨h.1.symm, h.2.symm⟩⟩
theorem impl_rank_ev (l : List PI) (a b : Int) (hl : l.length ≤ 1048576) : Ev (fun k => impl_Vocab_rank.f k l a b) (rankV (prs l) (a, b)) := by
  unfold impl_Vocab_rank.f impl_Pair.f rankV
  exact Ev.bind (impl_Pair_l0 l a b hl l.length 0 (by omega)) (Ev.now _)

theorem impl_least_l0 (l : List PI) (ts : List Int) (ht : ts.length ≤ 1048576) (hl : l.length ≤ 1048576) (d : Nat) : ∀ (i : Nat) (pos best : Int), i + d = ts.length →
    Ev (fun k => impl_least.l0 k ts pos best ((i : Int) + 1) l) (leastFrom (prs l) ((adj ts).drop i) (i : Int) pos best) := by
  induction d with
  | zero =>
    intro i pos best hi
    refine Ev.step (fun k => by rw [impl_least.l0]) ?_
    rw [adj_end ts i (by omega)]
    exact Ev.neg (by omega) (Ev.now _)
  | succ d ih =>
    intro i pos best hi
    refine Ev.step (fun k => by rw [impl_least.l0]) ?_
    by_cases c : i + 1 < ts.length
    · rw [adj_drop ts i c, w64 (x := (i : Int) + 1 - 1) (by omega) (by omega), w64 (x := (i : Int) + 1 + 1) (by omega) (by omega), show (i : Int) + 1 - 1 = (i : Int) by omega, leastFrom]
      refine Ev.pos (by omega) (Ev.pos (by omega) (Ev.pos (by omega) (Ev.pos (by omega) (Ev.bind (impl_rank_ev l _ _ hl) ?_))))
      have R := fun pos best => ih (i + 1) pos best (by omega)
      have e1 : ((i + 1 : Nat) : Int) = (i : Int) + 1 := by omega
      rw [e1] at R
      generalize rankV (prs l) (rd ts (i : Int), rd ts ((i : Int) + 1)) = q
      by_cases c1 : q ≥ 0
      · refine Ev.pos c1 ?_
        by_cases c2 : best < 0
        · rw [if_pos (show 0 ≤ q ∧ (best < 0 ∨ q < best) from ⟨c1, .inl c2⟩)]
          exact Ev.pos c2 (R _ _)
        · refine Ev.neg c2 ?_
          by_cases c3 : q < best
          · rw [if_pos (show 0 ≤ q ∧ (best < 0 ∨ q < best) from ⟨c1, .inr c3⟩)]
            exact Ev.pos c3 (R _ _)
          · rw [if_neg (show ¬ (0 ≤ q ∧ (best < 0 ∨ q < best)) by omega)]
            exact Ev.neg c3 (R _ _)
      · rw [if_neg (show ¬ (0 ≤ q ∧ (best < 0 ∨ q < best)) by omega)]
        exact Ev.neg c1 (R _ _)
    · rw [adj_end ts i c]
      exact Ev.neg (by omega) (Ev.now _)
theorem impl_least_ev (l : List PI) (ts : List Int) (hl : l.length ≤ 1048576) (ht : ts.length ≤ 1048576) : Ev (fun k => impl_least.f k l ts) (leastV (prs l) ts) := by
  unfold impl_least.f leastV
  exact impl_least_l0 l ts ht hl ts.length 0 (-1) (-1) (by omega)

theorem impl_copyInts_eq (ts : List Int) (h : ts.length ≤ 4000000) : impl_copyInts.f ts = some ts := by
  unfold impl_copyInts.f
  rw [if_pos (by simp; omega)]; rfl
theorem impl_merged_eq (ts : List Int) (pos r : Int) (ht : ts.length ≤ 1048576) (h0 : 0 ≤ pos) (h1 : pos + 2 ≤ ts.length) (h2 : 0 ≤ r) (h3 : r ≤ 1048576) : impl_merged.f ts pos r = some (mergedV ts pos r) := by
  unfold impl_merged.f mergedV
  rw [w64 (x := pos + 2) (by omega) (by omega), w64 (x := 256 + r) (by omega) (by omega), impl_copyInts_eq _ (by rw [List.length_take]; omega)]
  simp only [Option.bind_some]
  rw [if_pos h0, if_pos (by omega), if_pos (by simp; omega), if_pos (by omega), if_pos (by omega), if_pos (by simp; omega)]
  have e : (pos + 2).toNat = pos.toNat + 2 := by omega
  rw [e]

theorem impl_bpe_l1 (l : List PI) (hl : l.length ≤ 1048576) (f : Nat) : ∀ (ts : List Int), ts.length ≤ f → ts.length ≤ 1048576 → Ev (fun k => impl_bpe.l1 k ts l) (bpeFrom (prs l) f ts) := by
  induction f with
  | zero =>
    intro ts ht _
    have : ts = [] := List.eq_nil_of_length_eq_zero (by omega)
    subst this
    refine Ev.step (fun k => by rw [impl_bpe.l1]) ?_
    exact Ev.bind (impl_least_ev l [] hl (by simp)) (Ev.pos (by rw [least_nil]; simp) (Ev.now _))
  | succ f ih =>
    intro ts ht ht2
    refine Ev.step (fun k => by rw [impl_bpe.l1]) ?_
    rw [bpeFrom]
    refine Ev.bind (impl_least_ev l ts hl ht2) (Ev.ite Iff.rfl (fun _ => Ev.now _) (fun c => ?_))
    have h := least_in c
    have hr := h.2.2.2
    rw [prs_length] at hr
    have hm := mergedV_length (r := (leastV (prs l) ts).2) h.1 h.2.1
    refine Ev.bind0 (impl_merged_eq ts _ _ (by omega) h.1 h.2.1 h.2.2.1 (by omega)) ?_
    exact ih (mergedV ts (leastV (prs l) ts).1 (leastV (prs l) ts).2) (by omega) (by omega)
theorem impl_bpe_l0 (l : List PI) (hl : l.length ≤ 1048576) (s : ByteArray) (hs : s.size ≤ 1048576) (d : Nat) : ∀ (i : Nat), i + d = s.size →
    Ev (fun k => impl_bpe.l0 k s ((bl s).take i) (i : Int) l) (bpeV (prs l) s) := by
  induction d with
  | zero =>
    intro i hi
    refine Ev.step (fun k => by rw [impl_bpe.l0]) ?_
    rw [List.take_of_length_le (by rw [bl_length]; omega)]
    exact Ev.neg (by omega) (impl_bpe_l1 l hl s.size (bl s) (by rw [bl_length]; omega) (by rw [bl_length]; omega))
  | succ d ih =>
    intro i hi
    refine Ev.step (fun k => by rw [impl_bpe.l0]) ?_
    have := ih (i + 1) (by omega)
    have e1 : ((i + 1 : Nat) : Int) = (i : Int) + 1 := by omega
    rw [e1] at this
    rw [wbt, bl_take_snoc s i (by omega), w64 (by omega) (by omega)]
    exact Ev.pos (by omega) (Ev.pos (by omega) (Ev.pos (by rw [List.length_take]; omega) this))
theorem impl_bpe_ev (l : List PI) (hl : l.length ≤ 1048576) (s : ByteArray) (hs : s.size ≤ 1048576) : Ev (fun k => impl_bpe.f k l s) (bpeV (prs l) s) := by
  unfold impl_bpe.f
  exact impl_bpe_l0 l hl s hs s.size 0 (by omega)

theorem spec_l7Bytes_eq {out : List ByteArray} {id : Int} (h0 : 0 ≤ id) (h1 : id ≤ 255 + (out.length : Int)) (hl : out.length ≤ 100000) : spec_l7Bytes.f out id = some (tokB out id) := by
  unfold spec_l7Bytes.f tokB
  by_cases c : id < 256
  · rw [if_pos c, if_pos c]
  · rw [if_neg c, if_neg c, w64 (by omega) (by omega), if_pos (by omega), if_pos (by omega)]
theorem spec_l7Table_l1 (l : List PI) (out : List ByteArray) (t : ByteArray) (R : List ByteArray × Bool) (ho : out.length ≤ 1000) (d : Nat) : ∀ (j : Nat), j + d = out.length →
    Ev (fun k => spec_l7Table.l0 k (out ++ [t]) ((out.length : Int) + 1) l) R → Ev (fun k => spec_l7Table.l1 k out (out.length : Int) t (j : Int) l) (if t ∈ out.drop j then (out, false) else R) := by
  induction d with
  | zero =>
    intro j hj h
    refine Ev.step (fun k => by rw [spec_l7Table.l1]) ?_
    rw [List.drop_eq_nil_of_le (by omega), if_neg (by simp)]
    refine Ev.neg (by omega) (Ev.pos (by omega) ?_)
    rw [w64 (by omega) (by omega)]
    exact h
  | succ d ih =>
    intro j hj h
    refine Ev.step (fun k => by rw [spec_l7Table.l1]) ?_
    refine Ev.pos (by omega) (Ev.pos (by omega) (Ev.pos (by omega) ?_))
    rw [rdOf_drop out j (by omega)]
    by_cases c : (rdOf ByteArray.empty out (j : Int)).toList = t.toList
    · refine Ev.pos c ?_
      rw [if_pos (by rw [(tl_iff _ _).1 c]; simp)]
      exact Ev.now _
    · refine Ev.neg c ?_
      have e : (t ∈ rdOf ByteArray.empty out (j : Int) :: out.drop (j + 1)) ↔ t ∈ out.drop (j + 1) := by
        rw [List.mem_cons]
        exact ⟨fun h => h.elim (fun h => absurd (by rw [h]) c) id, .inr⟩
      simp only [e]
      have := ih (j + 1) (by omega) h
      have e1 : ((j + 1 : Nat) : Int) = (j : Int) + 1 := by omega
      rw [e1] at this
      rw [w64 (by omega) (by omega)]
      exact this
theorem spec_l7Table_l0 (l : List PI) (hl : l.length ≤ 60) (d : Nat) : ∀ (out : List ByteArray), out.length + d = l.length → Short out →
    Ev (fun k => spec_l7Table.l0 k out (out.length : Int) l) (tokLoop (prs (l.drop out.length)) out) := by
  induction d with
  | zero =>
    intro out ho hs
    refine Ev.step (fun k => by rw [spec_l7Table.l0]) ?_
    rw [List.drop_eq_nil_of_le (by omega)]
    exact Ev.neg (by omega) (Ev.now _)
  | succ d ih =>
    intro out ho hs
    refine Ev.step (fun k => by rw [spec_l7Table.l0]) ?_
    rw [rdI_drop l out.length (by omega)]
    generalize rd_T131 l (out.length : Int) = p
    rw [w64 (by omega) (by omega)]
    refine Ev.pos (by omega) (Ev.pos (by omega) ?_)
    simp only [prs, List.map_cons, tokLoop]
    have bad : ¬ pairOk out.length (p.f0, p.f1) → Ev (fun k => spec_l7Table.j1 k out (out.length : Int) true l p.f0 p.f1) (out, false) := by
      intro h
      refine Ev.step (fun k => by rw [spec_l7Table.j1]) ?_
      exact Ev.pos rfl (Ev.now _)
    by_cases c : pairOk out.length (p.f0, p.f1)
    · rw [if_pos c]
      have s0 : (tokB out p.f0).size ≤ 24 := tokB_size hs c.1.1 c.1.2
      have s1 : (tokB out p.f1).size ≤ 24 := tokB_size hs c.2.1 c.2.2
      refine Ev.bind0 (spec_l1In_eq _ _ _) (Ev.pos (decide_eq_true c.1) (Ev.bind0 (spec_l1In_eq _ _ _) ?_))
      rw [decide_eq_true c.2]
      refine Ev.step (fun k => by rw [spec_l7Table.j1]) ?_
      refine Ev.neg (by simp) (Ev.bind0 (spec_l7Bytes_eq c.1.1 c.1.2 (by omega)) (Ev.bind0 (spec_l7Bytes_eq c.2.1 c.2.2 (by omega)) (Ev.pos (by omega) ?_)))
      generalize tokB out p.f0 ++ tokB out p.f1 = t
      by_cases c2 : (t.size : Int) > 24
      · rw [if_pos (.inl (by omega))]
        exact Ev.pos c2 (Ev.now _)
      · refine Ev.neg c2 ?_
        have R := ih (out ++ [t]) (by simp; omega) (short_snoc hs (by omega))
        have e1 : ((out ++ [t]).length : Int) = (out.length : Int) + 1 := by simp
        have e2 : (out ++ [t]).length = out.length + 1 := by simp
        rw [e1, e2] at R
        have := spec_l7Table_l1 l out t _ (by omega) out.length 0 (by omega) R
        rw [List.drop_zero] at this
        have e3 : (24 < t.size ∨ t ∈ out) ↔ t ∈ out := ⟨fun h => h.elim (fun h => by omega) id, .inr⟩
        simp only [e3]
        exact this
    · rw [if_neg c]
      refine Ev.bind0 (spec_l1In_eq _ _ _) ?_
      by_cases c1 : 0 ≤ p.f0 ∧ p.f0 ≤ 255 + (out.length : Int)
      · refine Ev.pos (decide_eq_true c1) (Ev.bind0 (spec_l1In_eq _ _ _) ?_)
        rw [decide_eq_false (fun h => c ⟨c1, h⟩)]
        exact bad c
      · exact Ev.neg (by rw [decide_eq_false c1]; simp) (bad c)
theorem spec_l7Table_ev (l : List PI) : Ev (fun k => spec_l7Table.f k l) (tokV (prs l)) := by
  unfold spec_l7Table.f tokV
  refine Ev.bind0 rfl ?_
  rw [prs_length]
  by_cases c : 60 < l.length
  · rw [if_pos c]; exact Ev.pos (by omega) (Ev.now _)
  · rw [if_neg c]
    refine Ev.neg (by omega) ?_
    exact spec_l7Table_l0 l (by omega) l.length [] (by simp) short_nil

theorem spec_VocabOk_ev (l : List PI) : Ev (fun k => spec_VocabOk.f k l) (vocabOk (prs l)) := by
  unfold spec_VocabOk.f
  exact Ev.bind (spec_l7Table_ev l) (Ev.now _)

theorem slices_Index_string_l0 (l : List ByteArray) (x : ByteArray) (hl : l.length ≤ 9223372036854775806) (d : Nat) : ∀ (j : Nat), j + d = l.length →
    ∃ r : Int, Ev (fun k => slices_Index_string_string.l0 k l x (l.length : Int) (j : Int)) r ∧ (0 ≤ r ↔ x ∈ l.drop j) := by
  induction d with
  | zero =>
    intro j hj
    refine ⟨-1, ?_, ?_⟩
    · refine Ev.step (fun k => by rw [slices_Index_string_string.l0]) ?_
      exact Ev.neg (by omega) (Ev.now _)
    · rw [List.drop_eq_nil_of_le (by omega)]; simp
  | succ d ih =>
    intro j hj
    obtain ⟨r, h1, h2⟩ := ih (j + 1) (by omega)
    have e1 : ((j + 1 : Nat) : Int) = (j : Int) + 1 := by omega
    rw [e1] at h1
    by_cases c : x.toList = (rdOf ByteArray.empty l (j : Int)).toList
    · refine ⟨j, ?_, ?_⟩
      · refine Ev.step (fun k => by rw [slices_Index_string_string.l0]) ?_
        exact Ev.pos (by omega) (Ev.pos (by omega) (Ev.pos (by omega) (Ev.pos c (Ev.now _))))
      · rw [rdOf_drop l j (by omega), ← (tl_iff _ _).1 c]; simp
    · refine ⟨r, ?_, ?_⟩
      · refine Ev.step (fun k => by rw [slices_Index_string_string.l0]) ?_
        refine Ev.pos (by omega) (Ev.pos (by omega) (Ev.pos (by omega) (Ev.neg c ?_)))
        rw [w64 (by omega) (by omega)]
        exact h1
      · rw [h2, rdOf_drop l j (by omega), List.mem_cons]
        exact ⟨.inr, fun h => h.elim (fun h => absurd (by rw [h]) c) id⟩
theorem slices_Contains_string_ev (l : List ByteArray) (x : ByteArray) (hl : l.length ≤ 9223372036854775806) : Ev (fun k => slices_Contains_string_string.f k l x) (decide (x ∈ l)) := by
  obtain ⟨r, h1, h2⟩ := slices_Index_string_l0 l x hl l.length 0 (by omega)
  unfold slices_Contains_string_string.f slices_Index_string_string.f
  refine Ev.bind h1 (Ev.val _ _ ?_)
  rw [List.drop_zero] at h2
  rw [Bool.eq_iff_iff, decide_eq_true_iff, decide_eq_true_iff]
  exact h2

theorem impl_bytesIn_eq {out : List ByteArray} {id : Int} (h0 : 0 ≤ id) (h1 : id ≤ 255 + (out.length : Int)) (hl : out.length ≤ 100000) : impl_bytesIn.f out id = some (tokB out id) := by
  unfold impl_bytesIn.f tokB
  by_cases c : id < 256
  · rw [if_pos c, if_pos c]
  · rw [if_neg c, if_neg c, w64 (by omega) (by omega), if_pos (by omega), if_pos (by omega)]
theorem impl_tokens_l0 (l : List PI) (hl : l.length ≤ 60) (d : Nat) : ∀ (out : List ByteArray), out.length + d = l.length → Short out →
    Ev (fun k => impl_tokens.l0 k out l (l.length : Int) (out.length : Int)) (tokLoop (prs (l.drop out.length)) out) := by
  induction d with
  | zero =>
    intro out ho hs
    refine Ev.step (fun k => by rw [impl_tokens.l0]) ?_
    rw [List.drop_eq_nil_of_le (by omega)]
    exact Ev.neg (by omega) (Ev.now _)
  | succ d ih =>
    intro out ho hs
    refine Ev.step (fun k => by rw [impl_tokens.l0]) ?_
    rw [rdI_drop l out.length (by omega)]
    generalize rd_T131 l (out.length : Int) = p
    rw [w64 (by omega) (by omega)]
    refine Ev.pos (by omega) (Ev.pos (by omega) (Ev.pos (by omega) ?_))
    simp only [prs, List.map_cons, tokLoop]
    have bad : ¬ pairOk out.length (p.f0, p.f1) → Ev (fun k => impl_tokens.j1 k out l (l.length : Int) (out.length : Int) true p.f0 p.f1) (out, false) := by
      intro h
      refine Ev.step (fun k => by rw [impl_tokens.j1]) ?_
      exact Ev.pos rfl (Ev.now _)
    by_cases c : pairOk out.length (p.f0, p.f1)
    · rw [if_pos c]
      have s0 : (tokB out p.f0).size ≤ 24 := tokB_size hs c.1.1 c.1.2
      have s1 : (tokB out p.f1).size ≤ 24 := tokB_size hs c.2.1 c.2.2
      refine Ev.bind0 (impl_within_eq _ _ _) (Ev.pos (decide_eq_true c.1) (Ev.bind0 (impl_within_eq _ _ _) ?_))
      rw [decide_eq_true c.2]
      refine Ev.step (fun k => by rw [impl_tokens.j1]) ?_
      refine Ev.neg (by simp) (Ev.bind0 (impl_bytesIn_eq c.1.1 c.1.2 (by omega)) (Ev.bind0 (impl_bytesIn_eq c.2.1 c.2.2 (by omega)) (Ev.pos (by omega) ?_)))
      generalize tokB out p.f0 ++ tokB out p.f1 = t
      by_cases c2 : (t.size : Int) > 24
      · rw [if_pos (.inl (by omega))]
        exact Ev.pos c2 (Ev.now _)
      · refine Ev.neg c2 (Ev.bind (slices_Contains_string_ev out t (by omega)) ?_)
        by_cases c3 : t ∈ out
        · rw [if_pos (.inr c3)]
          exact Ev.pos (decide_eq_true c3) (Ev.now _)
        · rw [if_neg (by rintro (h | h); omega; exact c3 h)]
          refine Ev.neg (by rw [decide_eq_false c3]; simp) (Ev.pos (by omega) ?_)
          have R := ih (out ++ [t]) (by simp; omega) (short_snoc hs (by omega))
          have e1 : ((out ++ [t]).length : Int) = (out.length : Int) + 1 := by simp
          have e2 : (out ++ [t]).length = out.length + 1 := by simp
          rw [e1, e2] at R
          rw [w64 (by omega) (by omega)]
          exact R
    · rw [if_neg c]
      refine Ev.bind0 (impl_within_eq _ _ _) ?_
      by_cases c1 : 0 ≤ p.f0 ∧ p.f0 ≤ 255 + (out.length : Int)
      · refine Ev.pos (decide_eq_true c1) (Ev.bind0 (impl_within_eq _ _ _) ?_)
        rw [decide_eq_false (fun h => c ⟨c1, h⟩)]
        exact bad c
      · exact Ev.neg (by rw [decide_eq_false c1]; simp) (bad c)
theorem impl_tokens_ev (l : List PI) : Ev (fun k => impl_tokens.f k l) (tokV (prs l)) := by
  unfold impl_tokens.f tokV
  refine Ev.bind0 rfl ?_
  rw [prs_length]
  by_cases c : 60 < l.length
  · rw [if_pos c]; exact Ev.pos (by omega) (Ev.now _)
  · rw [if_neg c]
    refine Ev.neg (by omega) ?_
    exact impl_tokens_l0 l (by omega) l.length [] (by simp) short_nil

theorem impl_VocabOk_ev (l : List PI) : Ev (fun k => impl_VocabOk.f k l) (vocabOk (prs l)) := by
  unfold impl_VocabOk.f
  exact Ev.bind (impl_tokens_ev l) (Ev.now _)

abbrev PL := S133
theorem rdL_drop (l : List PL) (i : Nat) (h : i < l.length) : rd_T133 l (i : Int) = l[i] := by
  unfold rd_T133
  rw [Int.toNat_natCast, List.getD_eq_getElem?_getD, List.getElem?_eq_getElem h]; rfl
theorem rdI_get (l : List PI) (i : Nat) (h : i < l.length) : rd_T131 l (i : Int) = l[i] := by
  unfold rd_T131
  rw [Int.toNat_natCast, List.getD_eq_getElem?_getD, List.getElem?_eq_getElem h]; rfl
/-- a vocabulary of the laws as the program's -/
def toV (l : List PL) : List PI := l.map fun p => ⟨p.f0, p.f1⟩
theorem toV_length (l : List PL) : (toV l).length = l.length := by simp [toV]
theorem laws_szVocab_eq (l : List PL) (hl : l.length ≤ 9223372036854775807) : laws_szVocab.f l 1048576 = some (if 1048576 - (l.length : Int) < 0 then -1 else 1048576 - (l.length : Int)) := by
  unfold laws_szVocab.f laws_szPairS.f
  rw [w64 (by omega) (by omega)]
  by_cases c : 1048576 - (l.length : Int) < 0
  · rw [if_pos c, if_pos c]; rfl
  · rw [if_neg c, if_neg c]
    simp only [Option.bind_some]
    rw [if_neg c]
theorem laws_toPairS_l0 (l : List PL) (hl : l.length ≤ 1048576) (d : Nat) : ∀ (i : Nat) (ys : List PI), i + d = l.length → ys.length = i →
    Ev (fun k => laws_toPairS.l0 k l (ys ++ List.replicate d z131) (i : Int)) (ys ++ toV (l.drop i)) := by
  induction d with
  | zero =>
    intro i ys hi hy
    refine Ev.step (fun k => by rw [laws_toPairS.l0]) ?_
    rw [List.drop_eq_nil_of_le (by omega)]
    exact Ev.neg (by omega) (Ev.now _)
  | succ d ih =>
    intro i ys hi hy
    refine Ev.step (fun k => by rw [laws_toPairS.l0]) ?_
    refine Ev.pos (by omega) (Ev.pos (by omega) ?_)
    rw [rdL_drop l i (by omega)]
    refine Ev.bind0 rfl (Ev.pos (by simp; omega) ?_)
    rw [w64 (by omega) (by omega), Int.toNat_natCast, List.set_append_right _ _ (by omega), hy, Nat.sub_self, List.replicate_succ, List.set_cons_zero]
    have := ih (i + 1) (ys ++ [⟨l[i].f0, l[i].f1⟩]) (by omega) (by simp; omega)
    have e1 : ((i + 1 : Nat) : Int) = (i : Int) + 1 := by omega
    rw [e1] at this
    have e2 : ys ++ toV (l.drop i) = (ys ++ [⟨l[i].f0, l[i].f1⟩]) ++ toV (l.drop (i + 1)) := by
      unfold toV; rw [List.drop_eq_getElem_cons (show i < l.length by omega), List.map_cons, List.append_assoc]; rfl
    have e3 : ys ++ (⟨l[i].f0, l[i].f1⟩ : PI) :: List.replicate d z131 = (ys ++ [⟨l[i].f0, l[i].f1⟩]) ++ List.replicate d z131 := by simp
    rw [e2, e3]
    exact this
theorem laws_toVocab_ev (l : List PL) (hl : l.length ≤ 1048576) : Ev (fun k => laws_toVocab.f k l) (toV l) := by
  unfold laws_toVocab.f laws_toPairS.f
  refine Ev.bind (a := toV l) ?_ (Ev.now _)
  refine Ev.pos (by omega) (Ev.pos (by omega) ?_)
  rw [Int.toNat_natCast]
  simpa using laws_toPairS_l0 l hl l.length 0 [] (by omega) rfl
theorem laws_eqPairS_l0 (a : List PI) (ha : a.length ≤ 1048576) (d : Nat) : ∀ (i : Nat), i + d = a.length → Ev (fun k => laws_eqPairS.l0 k a a (i : Int)) true := by
  induction d with
  | zero =>
    intro i hi
    refine Ev.step (fun k => by rw [laws_eqPairS.l0]) ?_
    exact Ev.neg (by omega) (Ev.now _)
  | succ d ih =>
    intro i hi
    refine Ev.step (fun k => by rw [laws_eqPairS.l0]) ?_
    refine Ev.pos (by omega) (Ev.pos (by omega) (Ev.pos (by omega) ?_))
    refine Ev.bind0 (a := true) (by unfold laws_eqPair.f; rw [if_pos rfl, if_pos rfl]) (Ev.pos rfl ?_)
    have := ih (i + 1) (by omega)
    have e1 : ((i + 1 : Nat) : Int) = (i : Int) + 1 := by omega
    rw [e1] at this
    rw [w64 (by omega) (by omega)]
    exact this
theorem laws_eqVocab_ev (a : List PI) (ha : a.length ≤ 1048576) : Ev (fun k => laws_eqVocab.f k a a) true := by
  unfold laws_eqVocab.f laws_eqPairS.f
  refine Ev.bind (a := true) (Ev.pos rfl ?_) (Ev.pos rfl (Ev.now _))
  exact laws_eqPairS_l0 a ha a.length 0 (by omega)

theorem laws_markPairS_l0 (d : Nat) : ∀ (l : List PI) (i : Nat) (a : Int), l.length ≤ 1048576 → i + d = l.length → 0 ≤ a → a + 2 * d ≤ 40000000 →
    ∃ l', Ev (fun k => laws_markPairS.l0 k l a (i : Int)) (a + 2 * d, l') := by
  induction d with
  | zero =>
    intro l i a hl hi h0 ha
    refine ⟨l, ?_⟩
    refine Ev.step (fun k => by rw [laws_markPairS.l0]) ?_
    exact Ev.neg (by omega) (Ev.val _ _ (by simp))
  | succ d ih =>
    intro l i a hl hi h0 ha
    obtain ⟨l', h⟩ := ih ((l.set i ⟨a, (rd_T131 l (i : Int)).f1⟩).set i ⟨(rd_T131 (l.set i ⟨a, (rd_T131 l (i : Int)).f1⟩) (i : Int)).f0, a + 1⟩) (i + 1) (a + 2) (by simpa using hl) (by simp; omega) (by omega) (by omega)
    refine ⟨l', ?_⟩
    refine Ev.step (fun k => by rw [laws_markPairS.l0]) ?_
    refine Ev.pos (by omega) (Ev.pos (by omega) (Ev.bind0 rfl ?_))
    rw [Int.toNat_natCast, w64 (x := a + 1) (by omega) (by omega), w64 (x := a + 1 + 1) (by omega) (by omega), w64 (x := (i : Int) + 1) (by omega) (by omega)]
    have e1 : ((i + 1 : Nat) : Int) = (i : Int) + 1 := by omega
    rw [e1] at h
    rw [show a + 1 + 1 = a + 2 by omega, show a + 2 * ((d + 1 : Nat) : Int) = a + 2 + 2 * (d : Int) by omega]
    exact h
theorem laws_markVocab_ev (l : List PI) (a : Int) (hl : l.length ≤ 1048576) (h0 : 0 ≤ a) (ha : a ≤ 10000000) : ∃ l', Ev (fun k => laws_markVocab.f k l a) (a + 2 * (l.length : Int), l') := by
  obtain ⟨l', h⟩ := laws_markPairS_l0 l.length l 0 a hl (by omega) h0 (by omega)
  refine ⟨l', ?_⟩
  unfold laws_markVocab.f laws_markPairS.f
  exact Ev.bind h (Ev.now _)

theorem laws_eqIntS_l0 (a : List Int) (ha : a.length ≤ 1048576) (d : Nat) : ∀ (i : Nat), i + d = a.length → Ev (fun k => laws_eqIntS.l0 k a a (i : Int)) true := by
  induction d with
  | zero =>
    intro i hi
    refine Ev.step (fun k => by rw [laws_eqIntS.l0]) ?_
    exact Ev.neg (by omega) (Ev.now _)
  | succ d ih =>
    intro i hi
    refine Ev.step (fun k => by rw [laws_eqIntS.l0]) ?_
    refine Ev.pos (by omega) (Ev.pos (by omega) (Ev.pos (by omega) (Ev.pos rfl ?_)))
    have := ih (i + 1) (by omega)
    have e1 : ((i + 1 : Nat) : Int) = (i : Int) + 1 := by omega
    rw [e1] at this
    rw [w64 (by omega) (by omega)]
    exact this
theorem laws_eqIntS_ev (a : List Int) (ha : a.length ≤ 1048576) : Ev (fun k => laws_eqIntS.f k a a) true := by
  unfold laws_eqIntS.f
  exact Ev.pos rfl (laws_eqIntS_l0 a ha a.length 0 (by omega))

def imarks : Int → Nat → List Int
  | _, 0 => []
  | a, n + 1 => a :: imarks (a + 1) n
theorem imarks_length : ∀ (n : Nat) (a : Int), (imarks a n).length = n
  | 0, _ => rfl
  | n + 1, a => by simp [imarks, imarks_length n]
theorem laws_markIntS_l0 (d : Nat) : ∀ (ys rest : List Int) (a : Int), rest.length = d → 0 ≤ a → ys.length + rest.length ≤ 4000000 → a + rest.length ≤ 40000000 →
    Ev (fun k => laws_markIntS.l0 k (ys ++ rest) a (ys.length : Int)) (a + rest.length, ys ++ imarks a rest.length) := by
  induction d with
  | zero =>
    intro ys rest a hr h0 hl ha
    have : rest = [] := List.eq_nil_of_length_eq_zero hr
    subst this
    refine Ev.step (fun k => by rw [laws_markIntS.l0]) ?_
    refine Ev.neg (by simp) (Ev.val _ _ (by simp [imarks]))
  | succ d ih =>
    intro ys rest a hr h0 hl ha
    obtain ⟨x, rest', rfl⟩ : ∃ x r, rest = x :: r := by
      cases rest with
      | nil => simp at hr
      | cons x r => exact ⟨x, r, rfl⟩
    simp only [List.length_cons] at hr hl ha
    refine Ev.step (fun k => by rw [laws_markIntS.l0]) ?_
    refine Ev.pos (by simp; omega) (Ev.pos (by omega) ?_)
    rw [Int.toNat_natCast, List.set_append_right _ _ (Nat.le_refl _), Nat.sub_self, List.set_cons_zero, w64 (x := a + 1) (by omega) (by omega), w64 (x := (ys.length : Int) + 1) (by omega) (by omega)]
    have := ih (ys ++ [a]) rest' (a + 1) (by omega) (by omega) (by simp; omega) (by omega)
    have e1 : ((ys ++ [a]).length : Int) = (ys.length : Int) + 1 := by simp
    rw [e1] at this
    have e2 : ys ++ a :: rest' = (ys ++ [a]) ++ rest' := by simp
    have e4 : ((x :: rest').length : Int) = (rest'.length : Int) + 1 := by simp
    have e5 : ys ++ imarks a (x :: rest').length = (ys ++ [a]) ++ imarks (a + 1) rest'.length := by simp [imarks]
    rw [e2, e4, e5, show a + ((rest'.length : Int) + 1) = a + 1 + rest'.length by omega]
    exact this
theorem laws_markIntS_ev (l : List Int) (a : Int) (h0 : 0 ≤ a) (hl : l.length ≤ 4000000) (ha : a + l.length ≤ 40000000) : Ev (fun k => laws_markIntS.f k l a) (a + l.length, imarks a l.length) := by
  unfold laws_markIntS.f
  have := laws_markIntS_l0 l.length [] l a rfl h0 (by simpa using hl) ha
  simpa using this
theorem laws_heldIntS_l0 (d : Nat) : ∀ (ys : List Int) (a : Int), 0 ≤ a → ys.length + d ≤ 4000000 → a + d ≤ 40000000 →
    Ev (fun k => laws_heldIntS.l0 k (ys ++ imarks a d) a (ys.length : Int)) (a + d) := by
  induction d with
  | zero =>
    intro ys a h0 hl ha
    refine Ev.step (fun k => by rw [laws_heldIntS.l0]) ?_
    refine Ev.neg (by simp [imarks]) (Ev.val _ _ (by simp))
  | succ d ih =>
    intro ys a h0 hl ha
    refine Ev.step (fun k => by rw [laws_heldIntS.l0]) ?_
    have hlen : (ys ++ imarks a (d + 1)).length = ys.length + (d + 1) := by rw [List.length_append, imarks_length]
    refine Ev.pos (by rw [hlen]; omega) (Ev.pos (by omega) ?_)
    rw [rd_get _ _ (by rw [hlen]; omega)]
    have e0 : (ys ++ imarks a (d + 1))[ys.length]'(by rw [hlen]; omega) = a := by simp [imarks]
    rw [e0]
    refine Ev.pos rfl ?_
    rw [w64 (x := a + 1) (by omega) (by omega), w64 (x := (ys.length : Int) + 1) (by omega) (by omega)]
    have := ih (ys ++ [a]) (a + 1) (by omega) (by simp; omega) (by omega)
    have e1 : ((ys ++ [a]).length : Int) = (ys.length : Int) + 1 := by simp
    rw [e1] at this
    have e2 : ys ++ imarks a (d + 1) = (ys ++ [a]) ++ imarks (a + 1) d := by simp [imarks]
    rw [e2, show a + ((d + 1 : Nat) : Int) = a + 1 + d by omega]
    exact this
theorem laws_heldIntS_ev (n : Nat) (a : Int) (h0 : 0 ≤ a) (hl : n ≤ 4000000) (ha : a + n ≤ 40000000) : Ev (fun k => laws_heldIntS.f k (imarks a n) a) (a + n) := by
  unfold laws_heldIntS.f
  have := laws_heldIntS_l0 n [] a h0 (by simpa using hl) ha
  simpa using this

theorem rdOf_get (l : List ByteArray) (i : Nat) (h : i < l.length) : rdOf ByteArray.empty l (i : Int) = l[i] := by
  unfold rdOf
  rw [Int.toNat_natCast, List.getD_eq_getElem?_getD, List.getElem?_eq_getElem h]; rfl

def catB (v : List (Int × Int)) : List ByteArray → List Int
  | [] => []
  | w :: l => bpeV v w ++ catB v l
theorem catB_length (v : List (Int × Int)) : ∀ (l : List ByteArray), (∀ x ∈ l, x.size ≤ 64) → (catB v l).length ≤ 64 * l.length
  | [], _ => Nat.le_refl _
  | w :: l, h => by
    have h1 := bpeV_length v w
    have h2 := h w (by simp)
    have h3 := catB_length v l (fun x hx => h x (by simp [hx]))
    unfold catB
    rw [List.length_append, List.length_cons]
    omega
def encV (v : List (Int × Int)) (s : ByteArray) : List Int × Int :=
  if vocabOk v = true then (if (s.size : Int) > 1000 then ([], 2) else (catB v (cutV s), 0)) else ([], 1)
theorem encV_length (v : List (Int × Int)) (s : ByteArray) : (encV v s).1.length ≤ 64000 := by
  have h1 := catB_length v (cutV s) (cutV_sizes s)
  have h2 := cutV_length s
  unfold encV
  repeat' split
  all_goals (simp only [List.length_nil]; omega)
theorem spec_Encode_l0 (v : List PI) (hv : v.length ≤ 1048576) (l : List ByteArray) (hl : l.length ≤ 1000) (hs : ∀ x ∈ l, x.size ≤ 64) (d : Nat) : ∀ (i : Nat) (acc : List Int), i + d = l.length → acc.length ≤ 64 * i →
    Ev (fun k => spec_Encode.l0 k acc l (i : Int) v) (acc ++ catB (prs v) (l.drop i), 0) := by
  induction d with
  | zero =>
    intro i acc hi ha
    refine Ev.step (fun k => by rw [spec_Encode.l0]) ?_
    rw [List.drop_eq_nil_of_le (by omega)]
    exact Ev.neg (by omega) (Ev.val _ _ (by simp [catB]))
  | succ d ih =>
    intro i acc hi ha
    have h2 := hs (l[i]'(by omega)) (List.getElem_mem _)
    have h1 := bpeV_length (prs v) (l[i]'(by omega))
    refine Ev.step (fun k => by rw [spec_Encode.l0]) ?_
    refine Ev.pos (by omega) (Ev.pos (by omega) ?_)
    rw [rdOf_get l i (by omega), List.drop_eq_getElem_cons (show i < l.length by omega), w64 (by omega) (by omega)]
    refine Ev.bind (spec_l8Bpe_ev v hv l[i] (by omega)) (Ev.pos (by omega) ?_)
    have := ih (i + 1) (acc ++ bpeV (prs v) l[i]) (by omega) (by rw [List.length_append]; omega)
    have e1 : ((i + 1 : Nat) : Int) = (i : Int) + 1 := by omega
    rw [e1, List.append_assoc] at this
    exact this
theorem impl_Encode_l0 (v : List PI) (hv : v.length ≤ 1048576) (l : List ByteArray) (hl : l.length ≤ 1000) (hs : ∀ x ∈ l, x.size ≤ 64) (d : Nat) : ∀ (i : Nat) (acc : List Int), i + d = l.length → acc.length ≤ 64 * i →
    Ev (fun k => impl_Encode.l0 k acc l (l.length : Int) (i : Int) v) (acc ++ catB (prs v) (l.drop i), 0) := by
  induction d with
  | zero =>
    intro i acc hi ha
    refine Ev.step (fun k => by rw [impl_Encode.l0]) ?_
    rw [List.drop_eq_nil_of_le (by omega)]
    exact Ev.neg (by omega) (Ev.val _ _ (by simp [catB]))
  | succ d ih =>
    intro i acc hi ha
    have h2 := hs (l[i]'(by omega)) (List.getElem_mem _)
    have h1 := bpeV_length (prs v) (l[i]'(by omega))
    refine Ev.step (fun k => by rw [impl_Encode.l0]) ?_
    refine Ev.pos (by omega) (Ev.pos (by omega) (Ev.pos (by omega) ?_))
    rw [rdOf_get l i (by omega), List.drop_eq_getElem_cons (show i < l.length by omega), w64 (by omega) (by omega)]
    refine Ev.bind (impl_bpe_ev v hv l[i] (by omega)) (Ev.pos (by omega) ?_)
    have := ih (i + 1) (acc ++ bpeV (prs v) l[i]) (by omega) (by rw [List.length_append]; omega)
    have e1 : ((i + 1 : Nat) : Int) = (i : Int) + 1 := by omega
    rw [e1, List.append_assoc] at this
    exact this
theorem spec_Encode_ev (v : List PI) (hv : v.length ≤ 1048576) (s : ByteArray) : Ev (fun k => spec_Encode.f k v s) (encV (prs v) s) := by
  unfold spec_Encode.f encV
  refine Ev.bind0 rfl (Ev.bind (spec_VocabOk_ev v) (Ev.ite Iff.rfl (fun _ => Ev.ite Iff.rfl (fun _ => Ev.now _) (fun _ => ?_)) (fun _ => Ev.now _)))
  refine Ev.bind (spec_Cut_ev s) ?_
  simpa using spec_Encode_l0 v hv (cutV s) (cutV_length s) (cutV_sizes s) (cutV s).length 0 [] (by omega) (by simp)
theorem impl_Encode_ev (v : List PI) (hv : v.length ≤ 1048576) (s : ByteArray) : Ev (fun k => impl_Encode.f k v s) (encV (prs v) s) := by
  unfold impl_Encode.f encV
  refine Ev.bind (impl_VocabOk_ev v) (Ev.ite Iff.rfl (fun _ => Ev.ite Iff.rfl (fun _ => Ev.now _) (fun _ => ?_)) (fun _ => Ev.now _))
  refine Ev.bind (impl_Cut_ev s) ?_
  simpa using impl_Encode_l0 v hv (cutV s) (cutV_length s) (cutV_sizes s) (cutV s).length 0 [] (by omega) (by simp)
theorem FnExactEncode : laws_FnExactEncode.Pure := by
  intro l s hl hs
  refine Ev.rounds (g := fun k => laws_FnExactEncode.f k l s) ?_
  unfold laws_FnExactEncode.f
  by_cases c0 : (s.size : Int) > 1048576
  · exact Ev.pos c0 (Ev.now _)
  · refine Ev.neg c0 (Ev.bind0 (laws_szVocab_eq l hl.1) ?_)
    by_cases c : 1048576 - (l.length : Int) < 0
    · rw [if_pos c]; exact Ev.pos (by omega) (Ev.now _)
    · rw [if_neg c]
      have h : l.length ≤ 1048576 := by omega
      have h' : (toV l).length ≤ 1048576 := by rw [toV_length]; exact h
      have hE := encV_length (prs (toV l)) s
      have e := laws_toVocab_ev l h
      have ei := impl_Encode_ev (toV l) h' s
      have eq := laws_eqIntS_ev (encV (prs (toV l)) s).1 (by omega)
      have hm := laws_markIntS_ev (encV (prs (toV l)) s).1 1 (by omega) (by omega) (by omega)
      have hh := laws_heldIntS_ev (encV (prs (toV l)) s).1.length 1 (by omega) (by omega) (by omega)
      obtain ⟨l', hv⟩ := laws_markVocab_ev (toV l) 1 h' (by omega) (by omega)
      refine Ev.neg c (Ev.bind e (Ev.bind (spec_Encode_ev _ h' s) (Ev.bind e (Ev.bind ei (Ev.bind eq (Ev.pos rfl ?_))))))
      refine Ev.step (fun k => by rw [laws_FnExactEncode.j0]) ?_
      refine Ev.neg (by simp) (Ev.bind e (Ev.bind (laws_eqVocab_ev _ h') (Ev.pos rfl (Ev.bind hv (Ev.neg (by simp only; omega) (Ev.bind eq (Ev.pos rfl ?_)))))))
      refine Ev.step (fun k => by rw [laws_FnExactEncode.j1]) ?_
      refine Ev.neg (by simp) (Ev.bind hm (Ev.bind hh (Ev.neg (by omega) (Ev.pos rfl ?_))))
      refine Ev.bind e (Ev.bind ei (Ev.bind eq (Ev.pos rfl ?_)))
      refine Ev.step (fun k => by rw [laws_FnExactEncode.j2]) ?_
      exact Ev.neg (by simp) (Ev.bind hh (Ev.neg (by omega) (Ev.pos rfl (Ev.now _))))

end Go.Proofs.Ytehdhochccnbnaa.Pure
