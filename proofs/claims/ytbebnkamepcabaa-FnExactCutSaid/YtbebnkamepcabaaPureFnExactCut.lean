/- The pure statement of the law FnExactCut is proved: for all arguments within the stated bounds the printed function answers true. Conditions: none beyond those bounds. -/
import Derived.Test.YtbebnkamepcabaaPFnExactCutx4
import Derived.Laws.BitsLemmas
import Derived.Lib.Strings
namespace Go.Proofs.Ytbebnkamepcabaa.Pure
open Go Go.RowKit Go.Proofs.Ytbebnkamepcabaa.PFnExactCut Go.Proofs.YtbebnkamepcabaaW.PrintWords Go.Proofs.YtbebnkamepcabaaW.PrintLast Go.Proofs.YtbebnkamepcabaaW.PrintMore
set_option linter.unusedVariables false
set_option linter.unusedSimpArgs false

/-! ### Base: rounds, whole numbers, bits, byte strings (no program in sight) -/
theorem Ev.pos {α : Type} {c : Prop} [Decidable c] {g f : Nat → Option α} {r : α} (h : c) (e : Ev g r) : Ev (fun k => if c then g k else f k) r := by
  simpa only [if_pos h] using e
theorem Ev.neg {α : Type} {c : Prop} [Decidable c] {g f : Nat → Option α} {r : α} (h : ¬ c) (e : Ev f r) : Ev (fun k => if c then g k else f k) r := by
  simpa only [if_neg h] using e
theorem Ev.val {α : Type} (r s : α) (h : r = s) : Ev (fun _ => some r) s := by subst h; exact Ev.now _
theorem Ev.val0 {α : Type} {o : Option α} {s : α} (h : o = some s) : Ev (fun _ => o) s := by subst h; exact Ev.now _
theorem Ev.bind0 {α β : Type} {o : Option α} {f : Nat → α → Option β} {a : α} {r : β} (h : o = some a) (k : Ev (fun n => f n a) r) : Ev (fun n => o.bind (f n)) r := by
  subst h; simpa only [Option.bind_some] using k
theorem Ev.and {α β : Type} {g : Nat → Option α} {f : Nat → Option β} {r : α} {s : β} (h : Ev g r) (k : Ev f s) : ∃ K, ∀ n, K ≤ n → g n = some r ∧ f n = some s := by
  obtain ⟨K, h⟩ := h
  obtain ⟨L, k⟩ := k
  exact ⟨max K L, fun n hn => ⟨h n (by omega), k n (by omega)⟩⟩

theorem Ev.ite {α : Type} {c d : Prop} [Decidable c] [Decidable d] {g f : Nat → Option α} {a b : α} (h : c ↔ d) (e : d → Ev g a) (e' : ¬ d → Ev f b) : Ev (fun k => if c then g k else f k) (if d then a else b) := by
  by_cases x : d
  · rw [if_pos x]; exact Ev.pos (h.2 x) (e x)
  · rw [if_neg x]; exact Ev.neg (fun y => x (h.1 y)) (e' x)
theorem w64 {x : Int} (h0 : -9223372036854775808 ≤ x) (h1 : x ≤ 9223372036854775807) : wrap64 x = x := by unfold wrap64; omega
theorem wf64 {x : Int} (h : (Lit.int .i64 x).wf = true) : -9223372036854775808 ≤ x ∧ x ≤ 9223372036854775807 := by
  simp [Lit.wf, IntKind.min, IntKind.max, IntKind.signed, IntKind.bits] at h
  omega
theorem tdiv_nn {x y : Int} (h : 0 ≤ x) : Int.tdiv x y = x / y := Int.tdiv_eq_ediv_of_nonneg h
theorem tmod_nn {x y : Int} (h : 0 ≤ x) : Int.tmod x y = x % y := Int.tmod_eq_emod_of_nonneg h

theorem wraps_i64 (n : Int) (h₀ : 0 ≤ n) (h₁ : n < 2 ^ 63) : IntKind.i64.wrap n = n := by rw [IntKind.wrap_i64]; omega
theorem and_mask (i : Nat) (hi : i ≤ 63) (x : Int) (h0 : 0 ≤ x) (h1 : x < 9223372036854775808) : Go.bits .and .i64 x (2 ^ i - 1) = x % 2 ^ i :=
  bits_mask .i64 63 (by decide) wraps_i64 i hi x h0 h1
theorem and127 {x : Int} (h0 : 0 ≤ x) (h1 : x < 9223372036854775808) : Go.bits .and .i64 x 127 = x % 128 := and_mask 7 (by decide) x h0 h1
theorem and255 {x : Int} (h0 : 0 ≤ x) (h1 : x < 9223372036854775808) : Go.bits .and .i64 x 255 = x % 256 := and_mask 8 (by decide) x h0 h1
theorem and1 {x : Int} (h0 : 0 ≤ x) (h1 : x < 9223372036854775808) : Go.bits .and .i64 x 1 = x % 2 := and_mask 1 (by decide) x h0 h1
theorem or_join (i : Nat) (x y : Int) (hx : 0 ≤ x) (hm : x % 2 ^ i = 0) (hx1 : x < 9223372036854775808) (hy : 0 ≤ y) (hy1 : y < 2 ^ i) (hy2 : y < 9223372036854775808) : Go.bits .or .i64 x y = x + y :=
  bits_join .i64 63 (by decide) wraps_i64 i x y hx hm hx1 hy hy1 hy2
theorem bits_or_comm (k : IntKind) (x y : Int) : Go.bits .or k x y = Go.bits .or k y x := by simp only [Go.bits, BitVec.or_comm]
theorem or_join' (i : Nat) (x y : Int) (hx : 0 ≤ x) (hm : x % 2 ^ i = 0) (hx1 : x < 9223372036854775808) (hy : 0 ≤ y) (hy1 : y < 2 ^ i) (hy2 : y < 9223372036854775808) : Go.bits .or .i64 y x = x + y := by
  rw [bits_or_comm]; exact or_join i x y hx hm hx1 hy hy1 hy2
theorem u8_and127 {x : Int} (h0 : 0 ≤ x) (h1 : x < 256) : Go.bits .and .u8 x 127 = x % 128 := bits_mask .u8 8 (by decide) wraps_u8 7 (by decide) x h0 h1
theorem bits_xor_nat (a b : Nat) (ha : a < 2 ^ 63) (hb : b < 2 ^ 63) : Go.bits .xor .i64 a b = ((a ^^^ b : Nat) : Int) := by
  have hp : 2 ^ 63 ≤ 2 ^ IntKind.i64.bits := Nat.pow_le_pow_right (by decide) (by decide)
  have ha' : a % 2 ^ IntKind.i64.bits = a := Nat.mod_eq_of_lt (Nat.lt_of_lt_of_le ha hp)
  have hb' : b % 2 ^ IntKind.i64.bits = b := Nat.mod_eq_of_lt (Nat.lt_of_lt_of_le hb hp)
  simp only [Go.bits, BitVec.ofInt_natCast, BitVec.toNat_xor, BitVec.toNat_ofNat, ha', hb']
  exact wraps_i64 _ (Int.natCast_nonneg _) (by exact_mod_cast Nat.xor_lt_two_pow ha hb)

theorem wbt (s : ByteArray) (i : Int) : wrap64 (bt s i) = bt s i := by have := bt_range s i; exact w64 (by omega) (by omega)
theorem toList_eq {s t : ByteArray} (h : s = t) : s.toList = t.toList := by rw [h]
theorem strOf_append (xs ys : List Int) : strOfNums xs ++ strOfNums ys = strOfNums (xs ++ ys) := by
  apply ByteArray.ext
  rw [ByteArray.data_append]
  simp [strOfNums]
theorem strOf_size (xs : List Int) : (strOfNums xs).size = xs.length := by simp [strOfNums, ByteArray.size]
theorem strOf_nil : (⟨#[]⟩ : ByteArray) = strOfNums [] := rfl
theorem cast_pow256 (d : Nat) : ((256 ^ d : Nat) : Int) = (256 : Int) ^ d := Int.natCast_pow 256 d
theorem lt_pow256 (m d : Nat) : ((m : Int) < 256 ^ d) = (m < 256 ^ d) := by
  rw [← cast_pow256]; exact propext Int.ofNat_lt
theorem pow256_six (i : Int) (h0 : 0 ≤ i) (h1 : i ≤ 6) : (256 : Int) ^ i.toNat ≤ 281474976710656 := by
  obtain rfl | rfl | rfl | rfl | rfl | rfl | rfl : i = 0 ∨ i = 1 ∨ i = 2 ∨ i = 3 ∨ i = 4 ∨ i = 5 ∨ i = 6 := by omega
  all_goals decide

/-! ### Str: a byte string as the list of its numbers -/
def IsB (xs : List Int) : Prop := ∀ x ∈ xs, 0 ≤ x ∧ x ≤ 255
def bl (s : ByteArray) : List Int := s.data.toList.map fun b => (b.toNat : Int)
theorem bl_isB (s : ByteArray) : IsB (bl s) := by
  intro x hx
  simp only [bl, List.mem_map] at hx
  obtain ⟨b, _, rfl⟩ := hx
  have := b.toNat_lt
  omega
theorem bl_length (s : ByteArray) : (bl s).length = s.size := by unfold bl; rw [List.length_map]; rfl
theorem strOf_bl (s : ByteArray) : strOfNums (bl s) = s := by
  apply ByteArray.ext
  apply Array.ext'
  unfold strOfNums bl
  rw [List.map_map]
  have : ((fun n : Int => UInt8.ofNat n.toNat) ∘ fun b : UInt8 => (b.toNat : Int)) = id := by
    funext b
    simp only [Function.comp_apply, Int.toNat_natCast, UInt8.ofNat_toNat, id]
  rw [this, List.map_id]
theorem bl_strOf {xs : List Int} (h : IsB xs) : bl (strOfNums xs) = xs := by
  induction xs with
  | nil => rfl
  | cons a l ih =>
    have ha := h a (by simp)
    have hl := ih (fun x hx => h x (by simp [hx]))
    simp only [bl, strOfNums, List.map_cons, List.toList_toArray] at hl ⊢
    rw [hl]
    congr 1
    simp only [UInt8.toNat_ofNat']
    omega
theorem bl_append (s t : ByteArray) : bl (s ++ t) = bl s ++ bl t := by simp [bl, ByteArray.data_append]
theorem bl_extract (s : ByteArray) (a b : Nat) : bl (s.extract a b) = ((bl s).drop a).take (b - a) := by
  simp [bl, ByteArray.data_extract, List.extract_eq_take_drop, List.map_take, List.map_drop]
theorem bl_inj {s t : ByteArray} (h : bl s = bl t) : s = t := by rw [← strOf_bl s, ← strOf_bl t, h]
theorem tl_iff (s t : ByteArray) : s.toList = t.toList ↔ s = t := by
  constructor
  · intro h
    rw [Go.Lib.toList_data, Go.Lib.toList_data] at h
    exact ByteArray.ext (Array.ext' h)
  · intro h; rw [h]
theorem bt_bl (s : ByteArray) (i : Int) : bt s i = rd (bl s) i := by
  unfold bt rd bl
  split
  · rename_i h
    have h' : i.toNat < s.data.toList.length := h
    rw [List.getD_eq_getElem?_getD, List.getElem?_map, List.getElem?_eq_getElem h']
    simp only [Option.map_some, Option.getD_some]
    rfl
  · rename_i h
    have h' : ¬ i.toNat < s.data.toList.length := h
    rw [List.getD_eq_getElem?_getD, List.getElem?_map, List.getElem?_eq_none (by omega)]
    rfl
theorem bt_nat (s : ByteArray) (i : Nat) (h : i < s.size) : bt s (i : Int) = (bl s)[i]'(by rw [bl_length]; exact h) := by
  rw [bt_bl]
  unfold rd
  rw [Int.toNat_natCast, List.getD_eq_getElem?_getD, List.getElem?_eq_getElem (by rw [bl_length]; exact h)]
  rfl
theorem isB_nil : IsB [] := fun _ h => by cases h
theorem isB_append {xs ys : List Int} (h : IsB xs) (k : IsB ys) : IsB (xs ++ ys) := fun x hx => (List.mem_append.1 hx).elim (h x) (k x)
theorem isB_cons {x : Int} {ys : List Int} (h : 0 ≤ x ∧ x ≤ 255) (k : IsB ys) : IsB (x :: ys) := by
  intro y hy
  rcases List.mem_cons.1 hy with e | e
  · subst e; exact h
  · exact k y e
theorem strOf_inj {xs ys : List Int} (h : IsB xs) (k : IsB ys) (e : strOfNums xs = strOfNums ys) : xs = ys := by
  rw [← bl_strOf h, ← bl_strOf k, e]
instance instDecEqBytes : DecidableEq ByteArray := fun a b => decidable_of_iff (a.toList = b.toList) (tl_iff a b)
instance instDecMemBytes (x : ByteArray) : (l : List ByteArray) → Decidable (x ∈ l)
  | [] => .isFalse (by simp)
  | y :: l => if h : x = y then .isTrue (by simp [h]) else (match instDecMemBytes x l with
    | .isTrue k => .isTrue (by simp [k])
    | .isFalse k => .isFalse (by simp [h, k]))

theorem rd_get (l : List Int) (i : Nat) (h : i < l.length) : rd l (i : Int) = l[i] := by
  unfold rd
  rw [Int.toNat_natCast, List.getD_eq_getElem?_getD, List.getElem?_eq_getElem h]; rfl
theorem rd_drop (l : List Int) (i : Nat) (h : i < l.length) : l.drop i = rd l (i : Int) :: l.drop (i + 1) := by
  rw [rd_get l i h]; exact List.drop_eq_getElem_cons h

def classV (b : Int) : Int :=
  if ¬ (0 ≤ b ∧ b ≤ 255) then 0
  else if (97 ≤ b ∧ b ≤ 122) ∨ (65 ≤ b ∧ b ≤ 90) ∨ 128 ≤ b then 1
  else if 48 ≤ b ∧ b ≤ 57 then 2
  else if b = 9 ∨ b = 10 ∨ b = 13 ∨ b = 32 then 3 else 4

/-! ### MCut: a text cut into words -/
def runN (c : Int) : List Int → Nat
  | [] => 0
  | b :: l => if classV b = c then runN c l + 1 else 0
theorem runN_le (c : Int) : ∀ (l : List Int), runN c l ≤ l.length
  | [] => Nat.le_refl _
  | b :: l => by
    have := runN_le c l
    unfold runN
    split <;> simp only [List.length_cons] <;> omega
theorem rd_zero (b : Int) (l : List Int) : rd (b :: l) 0 = b := rfl
theorem rd_at_drop (l : List Int) (a : Nat) (i : Int) (h : 0 ≤ i) : rd (l.drop a) i = rd l ((a : Int) + i) := by
  obtain ⟨n, rfl⟩ := Int.eq_ofNat_of_zero_le h
  unfold rd
  have : ((a : Int) + (n : Int)).toNat = a + n := by omega
  rw [this, Int.toNat_natCast, List.getD_eq_getElem?_getD, List.getD_eq_getElem?_getD, List.getElem?_drop]
theorem runN_pos {l : List Int} (h : 0 < l.length) : 1 ≤ runN (classV (rd l 0)) l := by
  cases l with
  | nil => simp at h
  | cons b l => rw [rd_zero]; unfold runN; rw [if_pos rfl]; omega
def midN (l : List Int) (c : Int) (n : Nat) : Nat :=
  if c = 2 then min n 3
  else if c = 3 then (if n < l.length ∧ classV (rd l n) ≠ 2 ∧ rd l ((n : Int) - 1) = 32 then (if n = 1 then 1 + runN (classV (rd l 1)) (l.drop 1) else n - 1) else n)
  else n
def nextN (l : List Int) : Nat := min (midN l (classV (rd l 0)) (runN (classV (rd l 0)) l)) 64
theorem nextN_pos {l : List Int} (h : 0 < l.length) : 1 ≤ nextN l := by
  have := runN_pos h
  unfold nextN midN
  repeat' split
  all_goals omega
theorem nextN_le (l : List Int) : nextN l ≤ l.length := by
  have h := runN_le (classV (rd l 0)) l
  have h2 := runN_le (classV (rd l 1)) (l.drop 1)
  rw [List.length_drop] at h2
  unfold nextN midN
  repeat' split
  all_goals omega
theorem nextN_64 (l : List Int) : nextN l ≤ 64 := by unfold nextN; omega
def cutF : Nat → List Int → List ByteArray
  | 0, _ => []
  | d + 1, l => if l.length = 0 then [] else strOfNums (l.take (nextN l)) :: cutF d (l.drop (nextN l))
theorem cutF_length : ∀ (d : Nat) (l : List Int), (cutF d l).length ≤ d
  | 0, _ => Nat.le_refl _
  | d + 1, l => by
    unfold cutF
    split
    · simp
    · have := cutF_length d (l.drop (nextN l)); rw [List.length_cons]; omega
theorem cutF_sizes : ∀ (d : Nat) (l : List Int), IsB l → ∀ x ∈ cutF d l, x.size ≤ 64
  | 0, _, _ => by simp [cutF]
  | d + 1, l, hb => by
    unfold cutF
    split
    · simp
    · intro x hx
      rcases List.mem_cons.1 hx with e | e
      · subst e; rw [strOf_size, List.length_take]; have := nextN_64 l; omega
      · exact cutF_sizes d (l.drop (nextN l)) (fun y hy => hb y (List.mem_of_mem_drop hy)) x e
def cutV (s : ByteArray) : List ByteArray := if (s.size : Int) > 1000 then [] else cutF s.size (bl s)
theorem cutV_length (s : ByteArray) : (cutV s).length ≤ 1000 := by
  unfold cutV
  split
  · simp
  · have := cutF_length s.size (bl s); omega
theorem cutV_sizes (s : ByteArray) : ∀ x ∈ cutV s, x.size ≤ 64 := by
  unfold cutV
  split
  · simp
  · exact cutF_sizes _ _ (bl_isB s)
theorem bl_drop_at (s : ByteArray) (i : Nat) (h : i < s.size) : (bl s).drop i = bt s (i : Int) :: (bl s).drop (i + 1) := by
  rw [bt_bl]; exact rd_drop _ _ (by rw [bl_length]; exact h)
theorem bl_tail (s : ByteArray) (a : Nat) : bl (s.extract a s.size) = (bl s).drop a := by
  rw [bl_extract, List.take_of_length_le (by rw [List.length_drop, bl_length]; omega)]
theorem ext_size (s : ByteArray) (a : Nat) : (s.extract a s.size).size = s.size - a := by
  rw [← bl_length, bl_tail, List.length_drop, bl_length]

theorem spec_l1In_eq (a b c : Int) : spec_l1In.f a b c = some (decide (b ≤ a ∧ a ≤ c)) := by
  unfold spec_l1In.f
  by_cases h : a ≥ b
  · rw [if_pos h]; simp [show b ≤ a from h]
  · rw [if_neg h]; simp [show ¬ b ≤ a from h]

theorem spec_Class_j1 (k : Nat) (b : Int) (t : Bool) : spec_Class.j1 (k + 1) b t = some (if t = true then 2 else if b = 9 ∨ b = 10 ∨ b = 13 ∨ b = 32 then 3 else 4) := by
  rw [spec_Class.j1]
  repeat' split
  all_goals first | rfl | (exfalso; simp_all; done) | simp_all
theorem spec_Class_j0 (k : Nat) (b : Int) (t : Bool) : spec_Class.j0 (k + 2) b t = some (if t = true then 1 else if 48 ≤ b ∧ b ≤ 57 then 2 else if b = 9 ∨ b = 10 ∨ b = 13 ∨ b = 32 then 3 else 4) := by
  rw [spec_Class.j0, spec_Class_j1, spec_Class_j1]
  by_cases h : t = true
  · rw [if_pos h, if_pos h]
  · rw [if_neg h, if_neg h]
    by_cases h2 : 48 ≤ b
    · by_cases h3 : b ≤ 57
      · rw [if_pos h2, if_pos (by simpa using h3), if_pos ⟨h2, h3⟩]
      · rw [if_pos h2, if_neg (by simpa using h3), if_neg (show ¬ (48 ≤ b ∧ b ≤ 57) from fun e => h3 e.2)]
    · rw [if_neg h2, if_neg (by simp), if_neg (show ¬ (48 ≤ b ∧ b ≤ 57) from fun e => h2 e.1)]
theorem spec_Class_ev (b : Int) : Ev (fun k => spec_Class.f k b) (classV b) := by
  refine ⟨2, fun n hn => ?_⟩
  obtain ⟨k, rfl⟩ : ∃ m, n = m + 2 := ⟨n - 2, by omega⟩
  unfold spec_Class.f classV
  rw [spec_l1In_eq]
  simp only [Option.bind_some, spec_Class_j0]
  by_cases h : 0 ≤ b ∧ b ≤ 255
  · rw [if_pos (by simpa using h), if_neg (show ¬ ¬ (0 ≤ b ∧ b ≤ 255) from fun e => e h)]
    repeat' split
    all_goals first | rfl | (simp_all; done) | (simp_all; omega) | (exfalso; simp only [decide_eq_true_eq, Bool.true_eq_false, Bool.false_eq_true] at *; omega)
  · rw [if_neg (by simpa using h), if_pos h]

theorem spec_l9Run_l0 (s : ByteArray) (hs : s.size ≤ 1048576) (h0 : 0 < s.size) (d : Nat) : ∀ (i : Nat), i + d = s.size →
    Ev (fun k => spec_l9Run.l0 k s (i : Int)) (((i + runN (classV (bt s 0)) ((bl s).drop i) : Nat) : Int)) := by
  induction d with
  | zero =>
    intro i hi
    refine Ev.step (fun k => by rw [spec_l9Run.l0]) ?_
    refine Ev.neg (by omega) (Ev.val _ _ ?_)
    rw [List.drop_eq_nil_of_le (by rw [bl_length]; omega)]
    simp [runN]
  | succ d ih =>
    intro i hi
    refine Ev.step (fun k => by rw [spec_l9Run.l0]) ?_
    refine Ev.pos (by omega) (Ev.pos (by omega) (Ev.bind (spec_Class_ev _) (Ev.pos (by omega) (Ev.bind (spec_Class_ev _) ?_))))
    rw [wbt, wbt, bl_drop_at s i (by omega)]
    unfold runN
    by_cases c : classV (bt s (i : Int)) = classV (bt s 0)
    · refine Ev.pos c ?_
      rw [if_pos c, w64 (by omega) (by omega)]
      have := ih (i + 1) (by omega)
      have e1 : ((i + 1 : Nat) : Int) = (i : Int) + 1 := by omega
      rw [e1] at this
      rw [show i + (runN (classV (bt s 0)) ((bl s).drop (i + 1)) + 1) = i + 1 + runN (classV (bt s 0)) ((bl s).drop (i + 1)) by omega]
      exact this
    · refine Ev.neg c ?_
      rw [if_neg c]
      exact Ev.now _
theorem spec_l9Run_ev (s : ByteArray) (hs : s.size ≤ 1048576) (h0 : 0 < s.size) : Ev (fun k => spec_l9Run.f k s) ((runN (classV (bt s 0)) (bl s) : Nat) : Int) := by
  unfold spec_l9Run.f
  have := spec_l9Run_l0 s hs h0 s.size 0 (by omega)
  rw [List.drop_zero, Nat.zero_add] at this
  exact this
theorem spec_l9Next_j0 (s : ByteArray) (hs : s.size ≤ 1048576) (n : Nat) (h1 : 1 ≤ n) (hn : n ≤ s.size) (t : Bool) (ht : t = true → n < s.size) :
    Ev (fun k => spec_l9Next.j0 k s (n : Int) t) ((min (if t = true then (if n = 1 then 1 + runN (classV (rd (bl s) 1)) ((bl s).drop 1) else n - 1) else n) 64 : Nat) : Int) := by
  refine Ev.step (fun k => by rw [spec_l9Next.j0]) ?_
  by_cases c : t = true
  · have hlt := ht c
    refine Ev.pos c ?_
    rw [if_pos c]
    by_cases c1 : n = 1
    · rw [if_pos c1]
      have g := spec_l9Run_ev (s.extract 1 s.size) (by rw [ext_size]; omega) (by rw [ext_size]; omega)
      rw [bl_tail, bt_bl, bl_tail, rd_at_drop _ _ _ (by omega)] at g
      have hr := runN_le (classV (rd (bl s) (((1 : Nat) : Int) + 0))) ((bl s).drop 1)
      rw [List.length_drop, bl_length] at hr
      rw [show ((1 : Nat) : Int) + 0 = 1 from rfl] at g hr
      refine Ev.pos (by omega) (Ev.pos (by omega) (Ev.bind g ?_))
      rw [w64 (by omega) (by omega)]
      by_cases c2 : 1 + (runN (classV (rd (bl s) 1)) ((bl s).drop 1) : Int) > 64
      · exact Ev.pos c2 (Ev.val _ _ (by omega))
      · exact Ev.neg c2 (Ev.val _ _ (by omega))
    · rw [if_neg c1]
      refine Ev.neg (by omega) ?_
      rw [w64 (by omega) (by omega)]
      by_cases c2 : (n : Int) - 1 > 64
      · exact Ev.pos c2 (Ev.val _ _ (by omega))
      · exact Ev.neg c2 (Ev.val _ _ (by omega))
  · refine Ev.neg c ?_
    rw [if_neg c]
    by_cases c2 : (n : Int) > 64
    · exact Ev.pos c2 (Ev.val _ _ (by omega))
    · exact Ev.neg c2 (Ev.val _ _ (by omega))
theorem spec_l9Next_ev (s : ByteArray) (hs : s.size ≤ 1048576) (h0 : 0 < s.size) : Ev (fun k => spec_l9Next.f k s) ((nextN (bl s) : Nat) : Int) := by
  have hl : 0 < (bl s).length := by rw [bl_length]; exact h0
  have n1 := runN_pos hl
  have n2 := runN_le (classV (rd (bl s) 0)) (bl s)
  rw [bl_length] at n2
  have g := spec_l9Run_ev s hs h0
  have gc := spec_Class_ev (wrap64 (bt s 0))
  rw [wbt] at gc
  rw [bt_bl] at g gc
  unfold spec_l9Next.f nextN
  refine Ev.bind g (Ev.pos (by omega) (Ev.bind (by rw [wbt, bt_bl]; exact gc) ?_))
  generalize classV (rd (bl s) 0) = c at *
  generalize runN c (bl s) = n at *
  unfold midN
  by_cases c2 : c = 2
  · refine Ev.pos c2 ?_
    rw [if_pos c2]
    by_cases c3 : (n : Int) > 3
    · exact Ev.pos c3 (Ev.neg (by omega) (Ev.val _ _ (by omega)))
    · exact Ev.neg c3 (Ev.neg (by omega) (Ev.val _ _ (by omega)))
  · refine Ev.neg c2 ?_
    rw [if_neg c2]
    by_cases c3 : c = 3
    · refine Ev.pos c3 ?_
      rw [if_pos c3, bl_length]
      by_cases c4 : n < s.size
      · refine Ev.pos (by omega) (Ev.pos (by omega) (Ev.bind (spec_Class_ev _) ?_))
        rw [wbt, bt_bl]
        by_cases c5 : classV (rd (bl s) (n : Int)) = 2
        · refine Ev.pos c5 ?_
          rw [if_neg (show ¬ (n < s.size ∧ classV (rd (bl s) (n : Int)) ≠ 2 ∧ rd (bl s) ((n : Int) - 1) = 32) from fun e => e.2.1 c5)]
          have := spec_l9Next_j0 s hs n n1 n2 false (by simp)
          rw [if_neg (by simp)] at this
          exact this
        · refine Ev.neg c5 (Ev.pos (by rw [w64 (by omega) (by omega)]; omega) (Ev.pos (by rw [w64 (by omega) (by omega)]; omega) ?_))
          rw [w64 (by omega) (by omega), bt_bl]
          have := spec_l9Next_j0 s hs n n1 n2 (rd (bl s) ((n : Int) - 1) == 32) (fun _ => c4)
          by_cases c6 : rd (bl s) ((n : Int) - 1) = 32
          · rw [if_pos (show (n < s.size ∧ classV (rd (bl s) (n : Int)) ≠ 2 ∧ rd (bl s) ((n : Int) - 1) = 32) from ⟨c4, c5, c6⟩)]
            rw [if_pos (show (rd (bl s) ((n : Int) - 1) == 32) = true from by simpa using c6)] at this
            exact this
          · rw [if_neg (show ¬ (n < s.size ∧ classV (rd (bl s) (n : Int)) ≠ 2 ∧ rd (bl s) ((n : Int) - 1) = 32) from fun e => c6 e.2.2)]
            rw [if_neg (show ¬ (rd (bl s) ((n : Int) - 1) == 32) = true from by simpa using c6)] at this
            exact this
      · refine Ev.neg (by omega) ?_
        rw [if_neg (show ¬ (n < s.size ∧ classV (rd (bl s) (n : Int)) ≠ 2 ∧ rd (bl s) ((n : Int) - 1) = 32) from fun e => c4 e.1)]
        have := spec_l9Next_j0 s hs n n1 n2 false (by simp)
        rw [if_neg (by simp)] at this
        exact this
    · refine Ev.neg c3 ?_
      rw [if_neg c3]
      by_cases c4 : (n : Int) > 64
      · exact Ev.pos c4 (Ev.val _ _ (by omega))
      · exact Ev.neg c4 (Ev.val _ _ (by omega))
theorem spec_Cut_l0 (d : Nat) : ∀ (s : ByteArray) (acc : List ByteArray), s.size ≤ d → d ≤ 1048576 → acc.length + d ≤ 1048576 →
    Ev (fun k => spec_Cut.l0 k s acc) (acc ++ cutF d (bl s)) := by
  induction d with
  | zero =>
    intro s acc hs _ _
    refine Ev.step (fun k => by rw [spec_Cut.l0]) ?_
    exact Ev.neg (by omega) (Ev.val _ _ (by simp [cutF]))
  | succ d ih =>
    intro s acc hs hd hc
    refine Ev.step (fun k => by rw [spec_Cut.l0]) ?_
    unfold cutF
    rw [bl_length]
    by_cases c : s.size = 0
    · rw [if_pos c, List.append_nil]
      exact Ev.neg (by omega) (Ev.now _)
    · have h1 := nextN_pos (l := bl s) (by rw [bl_length]; omega)
      have h2 := nextN_le (bl s)
      rw [bl_length] at h2
      rw [if_neg c]
      refine Ev.pos (by omega) (Ev.bind (spec_l9Next_ev s (by omega) (by omega)) (Ev.pos (by omega) (Ev.pos (by omega) (Ev.pos (by omega) ?_))))
      rw [Int.toNat_natCast]
      have g := ih (s.extract (nextN (bl s)) s.size) (acc ++ [s.extract 0 (nextN (bl s))]) (by rw [ext_size]; omega) (by omega) (by simp; omega)
      rw [bl_tail] at g
      have e : s.extract 0 (nextN (bl s)) = strOfNums ((bl s).take (nextN (bl s))) := by
        apply bl_inj
        rw [bl_extract, bl_strOf (fun x hx => bl_isB s x (List.mem_of_mem_take hx))]
        simp
      rw [e] at g ⊢
      rw [show acc ++ strOfNums ((bl s).take (nextN (bl s))) :: cutF d ((bl s).drop (nextN (bl s))) = (acc ++ [strOfNums ((bl s).take (nextN (bl s)))]) ++ cutF d ((bl s).drop (nextN (bl s))) by simp]
      exact g
theorem spec_Cut_ev (s : ByteArray) : Ev (fun k => spec_Cut.f k s) (cutV s) := by
  unfold spec_Cut.f cutV
  refine Ev.bind0 rfl ?_
  refine Ev.ite Iff.rfl (fun _ => Ev.now _) (fun c => ?_)
  have := spec_Cut_l0 s.size s [] (Nat.le_refl _) (by omega) (by simp; omega)
  rwa [List.nil_append] at this

theorem impl_within_eq (a b c : Int) : impl_within.f a b c = some (decide (b ≤ a ∧ a ≤ c)) := by
  unfold impl_within.f
  by_cases h : a ≥ b
  · rw [if_pos h]; simp [show b ≤ a from h]
  · rw [if_neg h]; simp [show ¬ b ≤ a from h]

theorem impl_Class_j0 (k : Nat) (b : Int) (t : Bool) : impl_Class.j0 (k + 1) b t = some (if t = true then 1 else if 48 ≤ b ∧ b ≤ 57 then 2 else if b = 9 ∨ b = 10 ∨ b = 13 ∨ b = 32 then 3 else 4) := by
  rw [impl_Class.j0, impl_within_eq]
  simp only [Option.bind_some]
  by_cases h : t = true
  · rw [if_pos h, if_pos h]
  · rw [if_neg h, if_neg h]
    by_cases h2 : 48 ≤ b ∧ b ≤ 57
    · rw [if_pos h2, if_pos (by simpa using h2)]
    · rw [if_neg h2, if_neg (by simpa using h2)]
      repeat' split
      all_goals first | rfl | (exfalso; simp_all; done) | simp_all
theorem impl_Class_ev (b : Int) : Ev (fun k => impl_Class.f k b) (classV b) := by
  refine ⟨1, fun n hn => ?_⟩
  obtain ⟨k, rfl⟩ : ∃ m, n = m + 1 := ⟨n - 1, by omega⟩
  unfold impl_Class.f classV
  simp only [impl_within_eq, Option.bind_some, impl_Class_j0]
  by_cases h : 0 ≤ b ∧ b ≤ 255
  · rw [if_pos (by simpa using h), if_neg (show ¬ ¬ (0 ≤ b ∧ b ≤ 255) from fun e => e h)]
    repeat' split
    all_goals first | rfl | (simp_all; done) | (simp_all; omega) | (exfalso; simp only [decide_eq_true_eq, Bool.true_eq_false, Bool.false_eq_true] at *; omega)
  · rw [if_neg (by simpa using h), if_pos h]

theorem mn_eq (a b : Int) : mn a b = min a b := by unfold mn; omega
theorem impl_runOf_l0 (s : ByteArray) (hs : s.size ≤ 1048576) (a : Nat) (h0 : a < s.size) (d : Nat) : ∀ (i : Nat), i + d = s.size →
    Ev (fun k => impl_runOf.l0 k s (a : Int) (i : Int)) (((i + runN (classV (rd (bl s) (a : Int))) ((bl s).drop i) : Nat) : Int)) := by
  induction d with
  | zero =>
    intro i hi
    refine Ev.step (fun k => by rw [impl_runOf.l0]) ?_
    refine Ev.neg (by omega) (Ev.val _ _ ?_)
    rw [List.drop_eq_nil_of_le (by rw [bl_length]; omega)]
    simp [runN]
  | succ d ih =>
    intro i hi
    refine Ev.step (fun k => by rw [impl_runOf.l0]) ?_
    refine Ev.pos (by omega) (Ev.pos (by omega) (Ev.bind (impl_Class_ev _) (Ev.pos (by omega) (Ev.pos (by omega) (Ev.bind (impl_Class_ev _) ?_)))))
    rw [wbt, wbt, bl_drop_at s i (by omega), ← bt_bl s (a : Int)]
    unfold runN
    by_cases c : classV (bt s (i : Int)) = classV (bt s (a : Int))
    · refine Ev.pos c ?_
      rw [if_pos c, w64 (by omega) (by omega)]
      have := ih (i + 1) (by omega)
      have e1 : ((i + 1 : Nat) : Int) = (i : Int) + 1 := by omega
      rw [e1, ← bt_bl] at this
      rw [show i + (runN (classV (bt s (a : Int))) ((bl s).drop (i + 1)) + 1) = i + 1 + runN (classV (bt s (a : Int))) ((bl s).drop (i + 1)) by omega]
      exact this
    · refine Ev.neg c ?_
      rw [if_neg c]
      exact Ev.now _
theorem impl_runOf_ev (s : ByteArray) (hs : s.size ≤ 1048576) (a : Nat) (h0 : a < s.size) : Ev (fun k => impl_runOf.f k s (a : Int)) (((a + runN (classV (rd (bl s) (a : Int))) ((bl s).drop a) : Nat) : Int)) := by
  unfold impl_runOf.f
  exact impl_runOf_l0 s hs a h0 (s.size - a) a (by omega)
theorem impl_wordOf_j0 (s : ByteArray) (hs : s.size ≤ 1048576) (a n : Nat) (h1 : 1 ≤ n) (hn : a + n ≤ s.size) (t : Bool) (ht : t = false → a + n < s.size) :
    Ev (fun k => impl_wordOf.j0 k s (a : Int) ((a + n : Nat) : Int) t) (((a + min (if t = true then n else (if n = 1 then 1 + runN (classV (rd ((bl s).drop a) 1)) (((bl s).drop a).drop 1) else n - 1)) 64 : Nat) : Int)) := by
  refine Ev.step (fun k => by rw [impl_wordOf.j0]) ?_
  by_cases c : t = true
  · refine Ev.pos c ?_
    rw [if_pos c, mn_eq, w64 (by omega) (by omega)]
    exact Ev.val _ _ (by omega)
  · have hlt := ht (by simpa using c)
    refine Ev.neg c ?_
    rw [if_neg c, w64 (x := (a : Int) + 1) (by omega) (by omega)]
    by_cases c1 : n = 1
    · rw [if_pos c1]
      subst c1
      have g := impl_runOf_ev s hs (a + 1) (by omega)
      refine Ev.pos (by omega) (Ev.bind g ?_)
      rw [mn_eq, w64 (by omega) (by omega), rd_at_drop _ _ _ (by omega), List.drop_drop]
      rw [show (((a + 1 : Nat) : Int)) = (a : Int) + 1 by omega]
      exact Ev.val _ _ (by omega)
    · rw [if_neg c1]
      refine Ev.neg (by omega) ?_
      rw [mn_eq, w64 (by omega) (by omega), w64 (by omega) (by omega)]
      exact Ev.val _ _ (by omega)
theorem impl_wordOf_ev (s : ByteArray) (hs : s.size ≤ 1048576) (a : Nat) (h0 : a < s.size) : Ev (fun k => impl_wordOf.f k s (a : Int)) (((a + nextN ((bl s).drop a) : Nat) : Int)) := by
  have hl : 0 < ((bl s).drop a).length := by rw [List.length_drop, bl_length]; omega
  have n1 := runN_pos hl
  have n2 := runN_le (classV (rd ((bl s).drop a) 0)) ((bl s).drop a)
  rw [List.length_drop, bl_length] at n2
  have g := impl_runOf_ev s hs a h0
  have gc := impl_Class_ev (wrap64 (bt s (a : Int)))
  have e0 : rd ((bl s).drop a) 0 = rd (bl s) (a : Int) := by rw [rd_at_drop _ _ _ (by omega), Int.add_zero]
  have e1 : classV (wrap64 (bt s (a : Int))) = classV (rd ((bl s).drop a) 0) := by rw [wbt, bt_bl, e0]
  rw [e1] at gc
  rw [← e0] at g
  unfold impl_wordOf.f nextN
  refine Ev.bind g (Ev.pos (by omega) (Ev.pos (by omega) (Ev.bind gc ?_)))
  clear e0 e1 g gc
  generalize classV (rd ((bl s).drop a) 0) = c at *
  generalize runN c ((bl s).drop a) = n at *
  unfold midN
  by_cases c2 : c = 2
  · refine Ev.pos c2 ?_
    rw [if_pos c2, mn_eq, mn_eq, w64 (by omega) (by omega), w64 (by omega) (by omega)]
    exact Ev.val _ _ (by omega)
  · refine Ev.neg c2 ?_
    rw [if_neg c2]
    by_cases c3 : c = 3
    · refine Ev.pos c3 ?_
      have er (i : Int) (hi : 0 ≤ i) : rd ((bl s).drop a) i = rd (bl s) ((a : Int) + i) := rd_at_drop _ _ _ hi
      have el : ((bl s).drop a).length = s.size - a := by rw [List.length_drop, bl_length]
      rw [if_pos c3, el]
      have jt := impl_wordOf_j0 s hs a n n1 (by omega) true (by simp)
      rw [if_pos rfl] at jt
      by_cases c4 : ((a + n : Nat) : Int) = (s.size : Int)
      · refine Ev.pos c4 ?_
        rw [if_neg (show ¬ (n < s.size - a ∧ classV (rd ((bl s).drop a) (n : Int)) ≠ 2 ∧ rd ((bl s).drop a) ((n : Int) - 1) = 32) from fun e => by omega)]
        exact jt
      · refine Ev.neg c4 (Ev.pos (by omega) (Ev.pos (by omega) (Ev.bind (impl_Class_ev _) ?_)))
        rw [wbt, bt_bl, show (((a + n : Nat) : Int)) = (a : Int) + (n : Int) by omega, ← er (n : Int) (by omega)]
        by_cases c5 : classV (rd ((bl s).drop a) (n : Int)) = 2
        · refine Ev.pos c5 ?_
          rw [if_neg (show ¬ (n < s.size - a ∧ classV (rd ((bl s).drop a) (n : Int)) ≠ 2 ∧ rd ((bl s).drop a) ((n : Int) - 1) = 32) from fun e => e.2.1 c5)]
          rw [show (((a + n : Nat) : Int)) = (a : Int) + (n : Int) by omega] at jt
          exact jt
        · refine Ev.neg c5 (Ev.pos (by rw [w64 (by omega) (by omega)]; omega) (Ev.pos (by rw [w64 (by omega) (by omega)]; omega) ?_))
          rw [w64 (by omega) (by omega), bt_bl, show (a : Int) + (n : Int) - 1 = (a : Int) + ((n : Int) - 1) by omega, ← er ((n : Int) - 1) (by omega)]
          have j := impl_wordOf_j0 s hs a n n1 (by omega) (rd ((bl s).drop a) ((n : Int) - 1) != 32) (fun _ => by omega)
          rw [show (((a + n : Nat) : Int)) = (a : Int) + (n : Int) by omega] at j
          by_cases c6 : rd ((bl s).drop a) ((n : Int) - 1) = 32
          · rw [if_pos (show (n < s.size - a ∧ classV (rd ((bl s).drop a) (n : Int)) ≠ 2 ∧ rd ((bl s).drop a) ((n : Int) - 1) = 32) from ⟨by omega, c5, c6⟩)]
            rw [if_neg (show ¬ (rd ((bl s).drop a) ((n : Int) - 1) != 32) = true from by simpa using c6)] at j
            exact j
          · rw [if_neg (show ¬ (n < s.size - a ∧ classV (rd ((bl s).drop a) (n : Int)) ≠ 2 ∧ rd ((bl s).drop a) ((n : Int) - 1) = 32) from fun e => c6 e.2.2)]
            rw [if_pos (show (rd ((bl s).drop a) ((n : Int) - 1) != 32) = true from by simpa using c6)] at j
            exact j
    · refine Ev.neg c3 ?_
      rw [if_neg c3, mn_eq, w64 (by omega) (by omega)]
      exact Ev.val _ _ (by omega)
theorem impl_Cut_l0 (s : ByteArray) (hs : s.size ≤ 1048576) (d : Nat) : ∀ (a : Nat) (acc : List ByteArray), a ≤ s.size → s.size - a ≤ d → acc.length + d ≤ 1048576 →
    Ev (fun k => impl_Cut.l0 k s acc (a : Int)) (acc ++ cutF d ((bl s).drop a)) := by
  induction d with
  | zero =>
    intro a acc ha hd hc
    refine Ev.step (fun k => by rw [impl_Cut.l0]) ?_
    exact Ev.neg (by omega) (Ev.val _ _ (by simp [cutF]))
  | succ d ih =>
    intro a acc ha hd hc
    refine Ev.step (fun k => by rw [impl_Cut.l0]) ?_
    have el : ((bl s).drop a).length = s.size - a := by rw [List.length_drop, bl_length]
    unfold cutF
    rw [el]
    by_cases c : s.size - a = 0
    · rw [if_pos c, List.append_nil]
      exact Ev.neg (by omega) (Ev.now _)
    · have h1 := nextN_pos (l := (bl s).drop a) (by omega)
      have h2 := nextN_le ((bl s).drop a)
      rw [if_neg c]
      refine Ev.pos (by omega) (Ev.bind (impl_wordOf_ev s hs a (by omega)) (Ev.pos (by omega) (Ev.pos (by omega) (Ev.pos (by omega) (Ev.pos (by omega) ?_)))))
      rw [Int.toNat_natCast, Int.toNat_natCast]
      have g := ih (a + nextN ((bl s).drop a)) (acc ++ [s.extract a (a + nextN ((bl s).drop a))]) (by omega) (by omega) (by simp; omega)
      rw [← List.drop_drop] at g
      have e : s.extract a (a + nextN ((bl s).drop a)) = strOfNums (((bl s).drop a).take (nextN ((bl s).drop a))) := by
        apply bl_inj
        rw [bl_extract, bl_strOf (fun x hx => bl_isB s x (List.mem_of_mem_drop (List.mem_of_mem_take hx)))]
        rw [Nat.add_sub_cancel_left]
      rw [e] at g ⊢
      rw [show acc ++ strOfNums (((bl s).drop a).take (nextN ((bl s).drop a))) :: cutF d (((bl s).drop a).drop (nextN ((bl s).drop a))) = (acc ++ [strOfNums (((bl s).drop a).take (nextN ((bl s).drop a)))]) ++ cutF d (((bl s).drop a).drop (nextN ((bl s).drop a))) by simp]
      exact g
theorem impl_Cut_ev (s : ByteArray) : Ev (fun k => impl_Cut.f k s) (cutV s) := by
  unfold impl_Cut.f cutV
  refine Ev.bind0 rfl ?_
  refine Ev.ite Iff.rfl (fun _ => Ev.now _) (fun c => ?_)
  have := impl_Cut_l0 s (by omega) s.size 0 [] (by omega) (by omega) (by simp; omega)
  rw [List.nil_append, List.drop_zero] at this
  exact this

/-! ### vocabularies: the tokens that merges make -/
def tokB (out : List ByteArray) (id : Int) : ByteArray := if id < 256 then strOfNums [id % 256] else rdOf ByteArray.empty out (id - 256)
abbrev pairOk (i : Nat) (p : Int × Int) : Prop := (0 ≤ p.1 ∧ p.1 ≤ 255 + (i : Int)) ∧ (0 ≤ p.2 ∧ p.2 ≤ 255 + (i : Int))
def tokLoop : List (Int × Int) → List ByteArray → List ByteArray × Bool
  | [], out => (out, true)
  | p :: l, out => if pairOk out.length p then (if 24 < (tokB out p.1 ++ tokB out p.2).size ∨ (tokB out p.1 ++ tokB out p.2) ∈ out then (out, false) else tokLoop l (out ++ [tokB out p.1 ++ tokB out p.2])) else (out, false)
def tokV (l : List (Int × Int)) : List ByteArray × Bool := if 60 < l.length then ([], false) else tokLoop l []
def vocabOk (l : List (Int × Int)) : Bool := (tokV l).2
def Short (out : List ByteArray) : Prop := ∀ s ∈ out, s.size ≤ 24
theorem rdOf_mem {out : List ByteArray} {i : Int} (h0 : 0 ≤ i) (h1 : i < out.length) : rdOf ByteArray.empty out i ∈ out := by
  have h : i.toNat < out.length := by omega
  unfold rdOf
  rw [List.getD_eq_getElem?_getD, List.getElem?_eq_getElem h]
  exact List.getElem_mem h
theorem tokB_size {out : List ByteArray} (hs : Short out) {id : Int} (h0 : 0 ≤ id) (h1 : id ≤ 255 + (out.length : Int)) : (tokB out id).size ≤ 24 := by
  unfold tokB
  split
  · rw [strOf_size]; simp
  · exact hs _ (rdOf_mem (by omega) (by omega))
theorem short_snoc {out : List ByteArray} (hs : Short out) {t : ByteArray} (ht : t.size ≤ 24) : Short (out ++ [t]) := by
  intro s h
  rcases List.mem_append.1 h with h | h
  · exact hs s h
  · rw [List.mem_singleton.1 h]; exact ht
theorem short_nil : Short [] := fun _ h => by cases h
theorem rdOf_drop (out : List ByteArray) (j : Nat) (h : j < out.length) : out.drop j = rdOf ByteArray.empty out (j : Int) :: out.drop (j + 1) := by
  unfold rdOf
  rw [Int.toNat_natCast, List.getD_eq_getElem?_getD, List.getElem?_eq_getElem h]
  exact List.drop_eq_getElem_cons h
theorem bsize_append (a b : ByteArray) : (a ++ b).size = a.size + b.size := ByteArray.size_append

/-! ### what Dec makes -/
def decL (n : Nat) : List Int := if n = 0 then [] else decL (n / 10) ++ [((48 + n % 10 : Nat) : Int)]
termination_by n
decreasing_by omega
theorem decL_zero : decL 0 = [] := by rw [decL]; rfl
theorem decL_pos {n : Nat} (h : n ≠ 0) : decL n = decL (n / 10) ++ [((48 + n % 10 : Nat) : Int)] := by rw [decL, if_neg h]
/-- What Dec(n) is. -/
def decV (n : Int) : List Int := if n = 0 then [48] else if n < 0 then 45 :: decL n.natAbs else decL n.natAbs
theorem dec_step (x : Int) (h0 : -9223372036854775808 ≤ x) (h1 : x ≤ 9223372036854775807) (hx : x ≠ 0) :
    (Int.tmod x 10 < 0 → (wrap64 (48 + wrap64 (-(Int.tmod x 10)))) % 256 = ((48 + x.natAbs % 10 : Nat) : Int)) ∧
    (¬ Int.tmod x 10 < 0 → (wrap64 (48 + Int.tmod x 10)) % 256 = ((48 + x.natAbs % 10 : Nat) : Int)) ∧
    (wrap64 (Int.tdiv x 10)).natAbs = x.natAbs / 10 ∧ -9223372036854775808 ≤ wrap64 (Int.tdiv x 10) ∧ wrap64 (Int.tdiv x 10) ≤ 9223372036854775807 := by
  by_cases c : 0 ≤ x
  · obtain ⟨n, rfl⟩ := Int.eq_ofNat_of_zero_le c
    rw [tmod_nn (by omega), tdiv_nn (by omega), w64 (x := (n : Int) / 10) (by omega) (by omega)]
    refine ⟨fun h => by omega, fun _ => ?_, by omega, by omega, by omega⟩
    rw [w64 (by omega) (by omega)]; omega
  · obtain ⟨n, rfl⟩ : ∃ n : Nat, x = -(n : Int) := ⟨x.natAbs, by omega⟩
    rw [Int.neg_tmod, Int.neg_tdiv, tmod_nn (by omega), tdiv_nn (by omega), w64 (x := -((n : Int) / 10)) (by omega) (by omega)]
    refine ⟨fun h => ?_, fun h => ?_, by omega, by omega, by omega⟩
    · rw [w64 (x := -(-((n : Int) % 10))) (by omega) (by omega), w64 (by omega) (by omega)]; omega
    · rw [w64 (by omega) (by omega)]; omega
theorem decL_le : ∀ (k n : Nat), n < 10 ^ k → (decL n).length ≤ k
  | 0, n, h => by
    have : n = 0 := by simpa using h
    subst this; rw [decL_zero]; simp
  | k + 1, n, h => by
    by_cases c : n = 0
    · subst c; rw [decL_zero]; simp
    · rw [decL_pos c, List.length_append]
      have := decL_le k (n / 10) (by rw [Nat.pow_succ] at h; omega)
      simpa using this
theorem decL_20 {n : Nat} (h : n ≤ 9223372036854775808) : (decL n).length ≤ 20 := decL_le 20 n (by omega)

theorem rdOf_get (l : List ByteArray) (i : Nat) (h : i < l.length) : rdOf ByteArray.empty l (i : Int) = l[i] := by
  unfold rdOf
  rw [Int.toNat_natCast, List.getD_eq_getElem?_getD, List.getElem?_eq_getElem h]; rfl
theorem laws_eqStringS_l0 (a : List ByteArray) (ha : a.length ≤ 1048576) (d : Nat) : ∀ (i : Nat), i + d = a.length → Ev (fun k => laws_eqStringS.l0 k a a (i : Int)) true := by
  induction d with
  | zero =>
    intro i hi
    refine Ev.step (fun k => by rw [laws_eqStringS.l0]) ?_
    exact Ev.neg (by omega) (Ev.now _)
  | succ d ih =>
    intro i hi
    refine Ev.step (fun k => by rw [laws_eqStringS.l0]) ?_
    refine Ev.pos (by omega) (Ev.pos (by omega) (Ev.pos (by omega) (Ev.pos rfl ?_)))
    have := ih (i + 1) (by omega)
    have e1 : ((i + 1 : Nat) : Int) = (i : Int) + 1 := by omega
    rw [e1] at this
    rw [w64 (by omega) (by omega)]
    exact this
theorem laws_eqStringS_ev (a : List ByteArray) (ha : a.length ≤ 1048576) : Ev (fun k => laws_eqStringS.f k a a) true := by
  unfold laws_eqStringS.f
  exact Ev.pos rfl (laws_eqStringS_l0 a ha a.length 0 (by omega))
/-- the marks that the laws write -/
def markT (a : Int) : ByteArray := strOfNums (109 :: decL a.toNat)
def marks : Int → Nat → List ByteArray
  | _, 0 => []
  | a, n + 1 => markT a :: marks (a + 1) n
theorem marks_length : ∀ (n : Nat) (a : Int), (marks a n).length = n
  | 0, _ => rfl
  | n + 1, a => by simp [marks, marks_length n]
theorem laws_markText_l0 (n : Nat) : ∀ (xs : List Int), n ≤ 9223372036854775807 → xs.length + (decL n).length ≤ 20 → Ev (fun k => laws_markText.l0 k (n : Int) (strOfNums xs)) (strOfNums (109 :: (decL n ++ xs))) := by
  induction n using Nat.strongRecOn with
  | ind n ih =>
  intro xs hn hl
  refine Ev.step (fun k => by rw [laws_markText.l0]) ?_
  by_cases c : n = 0
  · subst c
    refine Ev.neg (by omega) (Ev.pos (by rw [strOf_size]; omega) ?_)
    rw [show (⟨#[109]⟩ : ByteArray) = strOfNums [109] from rfl, strOf_append, decL_zero]
    exact Ev.now _
  · rw [decL_pos c, List.length_append, List.length_singleton] at hl
    have g := ih (n / 10) (by omega) ([((48 + n % 10 : Nat) : Int)] ++ xs) (by omega) (by rw [List.length_append, List.length_singleton]; omega)
    refine Ev.pos (by omega) (Ev.bind0 rfl (Ev.pos (by rw [strOf_size, strOf_size, List.length_singleton]; omega) ?_))
    have e1 : wrap64 (Int.tdiv (n : Int) 10) = ((n / 10 : Nat) : Int) := by rw [tdiv_nn (by omega), w64 (by omega) (by omega)]; omega
    have e2 : (wrap64 (48 + Int.tmod (n : Int) 10)) % 256 = ((48 + n % 10 : Nat) : Int) := by rw [tmod_nn (by omega), w64 (by omega) (by omega)]; omega
    have e4 : decL n ++ xs = decL (n / 10) ++ ([((48 + n % 10 : Nat) : Int)] ++ xs) := by rw [decL_pos c, List.append_assoc]
    rw [e1, e2, strOf_append, e4]
    exact g
theorem laws_markText_ev (a : Int) (h0 : 0 < a) (h1 : a ≤ 9223372036854775807) : Ev (fun k => laws_markText.f k a) (markT a) := by
  unfold laws_markText.f markT
  refine Ev.neg (by omega) ?_
  obtain ⟨n, rfl⟩ := Int.eq_ofNat_of_zero_le (show 0 ≤ a by omega)
  have := laws_markText_l0 n [] (by omega) (by simpa using decL_20 (by omega))
  rw [List.append_nil] at this
  exact this
theorem laws_markStringS_l0 (d : Nat) : ∀ (ys rest : List ByteArray) (a : Int), rest.length = d → 0 < a → a ≤ 4000000 → ys.length + rest.length ≤ 1048576 → a + rest.length ≤ 4000000 →
    Ev (fun k => laws_markStringS.l0 k (ys ++ rest) a (ys.length : Int)) (a + rest.length, ys ++ marks a rest.length) := by
  induction d with
  | zero =>
    intro ys rest a hr h0 h1 hl ha
    have : rest = [] := List.eq_nil_of_length_eq_zero hr
    subst this
    refine Ev.step (fun k => by rw [laws_markStringS.l0]) ?_
    refine Ev.neg (by simp) (Ev.val _ _ (by simp [marks]))
  | succ d ih =>
    intro ys rest a hr h0 h1 hl ha
    obtain ⟨x, rest', rfl⟩ : ∃ x r, rest = x :: r := by
      cases rest with
      | nil => simp at hr
      | cons x r => exact ⟨x, r, rfl⟩
    simp only [List.length_cons] at hr hl ha
    refine Ev.step (fun k => by rw [laws_markStringS.l0]) ?_
    refine Ev.pos (by simp; omega) (Ev.bind (laws_markText_ev a h0 (by omega)) (Ev.pos (by omega) ?_))
    rw [Int.toNat_natCast, List.set_append_right _ _ (Nat.le_refl _), Nat.sub_self, List.set_cons_zero, w64 (x := a + 1) (by omega) (by omega), w64 (x := (ys.length : Int) + 1) (by omega) (by omega)]
    have := ih (ys ++ [markT a]) rest' (a + 1) (by omega) (by omega) (by omega) (by simp; omega) (by omega)
    have e1 : ((ys ++ [markT a]).length : Int) = (ys.length : Int) + 1 := by simp
    rw [e1] at this
    have e2 : ys ++ markT a :: rest' = (ys ++ [markT a]) ++ rest' := by simp
    have e3 : ((markT a :: rest').length : Int) = (rest'.length : Int) + 1 := by simp
    have e4 : ((x :: rest').length : Int) = (rest'.length : Int) + 1 := by simp
    have e5 : ys ++ marks a (x :: rest').length = (ys ++ [markT a]) ++ marks (a + 1) rest'.length := by simp [marks]
    rw [e2, e4, e5, show a + ((rest'.length : Int) + 1) = a + 1 + rest'.length by omega]
    exact this
theorem laws_markStringS_ev (l : List ByteArray) (a : Int) (h0 : 0 < a) (hl : l.length ≤ 1048576) (ha : a + l.length ≤ 4000000) : Ev (fun k => laws_markStringS.f k l a) (a + l.length, marks a l.length) := by
  unfold laws_markStringS.f
  have := laws_markStringS_l0 l.length [] l a rfl h0 (by omega) (by simpa using hl) ha
  simpa using this
theorem laws_heldStringS_l0 (d : Nat) : ∀ (ys : List ByteArray) (a : Int), 0 < a → ys.length + d ≤ 1048576 → a + d ≤ 4000000 →
    Ev (fun k => laws_heldStringS.l0 k (ys ++ marks a d) a (ys.length : Int)) (a + d) := by
  induction d with
  | zero =>
    intro ys a h0 hl ha
    refine Ev.step (fun k => by rw [laws_heldStringS.l0]) ?_
    refine Ev.neg (by simp [marks]) (Ev.val _ _ (by simp))
  | succ d ih =>
    intro ys a h0 hl ha
    refine Ev.step (fun k => by rw [laws_heldStringS.l0]) ?_
    have hlen : (ys ++ marks a (d + 1)).length = ys.length + (d + 1) := by rw [List.length_append, marks_length]
    refine Ev.pos (by rw [hlen]; omega) (Ev.pos (by omega) (Ev.bind (laws_markText_ev a h0 (by omega)) ?_))
    rw [rdOf_get _ _ (by rw [hlen]; omega)]
    have e0 : (ys ++ marks a (d + 1))[ys.length]'(by rw [hlen]; omega) = markT a := by simp [marks]
    rw [e0]
    refine Ev.pos rfl ?_
    rw [w64 (x := a + 1) (by omega) (by omega), w64 (x := (ys.length : Int) + 1) (by omega) (by omega)]
    have := ih (ys ++ [markT a]) (a + 1) (by omega) (by simp; omega) (by omega)
    have e1 : ((ys ++ [markT a]).length : Int) = (ys.length : Int) + 1 := by simp
    rw [e1] at this
    have e2 : ys ++ marks a (d + 1) = (ys ++ [markT a]) ++ marks (a + 1) d := by simp [marks]
    rw [e2, show a + ((d + 1 : Nat) : Int) = a + 1 + d by omega]
    exact this
theorem laws_heldStringS_ev (n : Nat) (a : Int) (h0 : 0 < a) (hl : n ≤ 1048576) (ha : a + n ≤ 4000000) : Ev (fun k => laws_heldStringS.f k (marks a n) a) (a + n) := by
  unfold laws_heldStringS.f
  have := laws_heldStringS_l0 n [] a h0 (by simpa using hl) ha
  simpa using this

theorem FnExactCut : laws_FnExactCut.Pure := by
  intro s _
  refine Ev.rounds (g := fun k => laws_FnExactCut.f k s) ?_
  unfold laws_FnExactCut.f
  by_cases c0 : (s.size : Int) > 1048576
  · exact Ev.pos c0 (Ev.now _)
  · have hl := cutV_length s
    have eq := laws_eqStringS_ev (cutV s) (by omega)
    have hm := laws_markStringS_ev (cutV s) 1 (by omega) (by omega) (by omega)
    have hh := laws_heldStringS_ev (cutV s).length 1 (by omega) (by omega) (by omega)
    refine Ev.neg c0 (Ev.bind (spec_Cut_ev s) (Ev.bind (impl_Cut_ev s) (Ev.bind eq (Ev.pos rfl (Ev.bind hm (Ev.bind hh (Ev.neg (by omega) (Ev.pos rfl ?_))))))))
    exact Ev.bind (impl_Cut_ev s) (Ev.bind eq (Ev.pos rfl (Ev.bind hh (Ev.neg (by omega) (Ev.pos rfl (Ev.now _))))))

end Go.Proofs.Ytbebnkamepcabaa.Pure
