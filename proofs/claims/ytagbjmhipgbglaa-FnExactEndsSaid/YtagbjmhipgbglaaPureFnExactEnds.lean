/- The pure statement of the law FnExactEnds is proved: for all arguments within the stated bounds the printed function answers true. Conditions: none beyond those bounds. -/
import Derived.Test.YtagbjmhipgbglaaPFnExactEndsx7
import Derived.Laws.BitsLemmas
import Derived.Lib.Strings
namespace Go.Proofs.Ytagbjmhipgbglaa.Pure
open Go Go.RowKit Go.Proofs.Ytagbjmhipgbglaa.PFnExactEnds Go.Proofs.YtagbjmhipgbglaaW.PrintWords Go.Proofs.YtagbjmhipgbglaaW.PrintLast Go.Proofs.YtagbjmhipgbglaaW.PrintMore
set_option linter.unusedVariables false
set_option linter.unusedSimpArgs false

/-! ### Base: rounds, whole numbers, bits, byte strings (no program in sight) -/
theorem Ev.pos {α : Type} {c : Prop} [Decidable c] {g f : Nat → Option α} {r : α} (h : c) (e : Ev g r) : Ev (fun k => if c then g k else f k) r := by
  simpa only [if_pos h] using e
theorem Ev.neg {α : Type} {c : Prop} [Decidable c] {g f : Nat → Option α} {r : α} (h : ¬ c) (e : Ev f r) : Ev (fun k => if c then g k else f k) r := by
  simpa only [if_neg h] using e
theorem Ev.val {α : Type} (r s : α) (h : r = s) : Ev (fun _ => some r) s := by subst h; exact Ev.now _
theorem Ev.val0 {α : Type} {o : Option α} {s : α} (h : o = some s) : Ev (fun _ => o) s := by subst h; exact Ev.now _
theorem Ev.bind0 {α β : Type} {o : Option α} {f : Nat → α → Option β} {a : α} {r : β} (h : o = some a) (k : Ev (fun n => f n a) r) : Ev (fun n => o.bind (f n)) r := by
  subst h; simpa only [Option.bind_some] using k
theorem Ev.and {α β : Type} {g : Nat → Option α} {f : Nat → Option β} {r : α} {s : β} (h : Ev g r) (k : Ev f s) : ∃ K, ∀ n, K ≤ n → g n = some r ∧ f n = some s := by
  obtain ⟨K, h⟩ := h
  obtain ⟨L, k⟩ := k
  exact ⟨max K L, fun n hn => ⟨h n (by omega), k n (by omega)⟩⟩

theorem Ev.ite {α : Type} {c d : Prop} [Decidable c] [Decidable d] {g f : Nat → Option α} {a b : α} (h : c ↔ d) (e : d → Ev g a) (e' : ¬ d → Ev f b) : Ev (fun k => if c then g k else f k) (if d then a else b) := by
  by_cases x : d
  · rw [if_pos x]; exact Ev.pos (h.2 x) (e x)
  · rw [if_neg x]; exact Ev.neg (fun y => x (h.1 y)) (e' x)
theorem w64 {x : Int} (h0 : -9223372036854775808 ≤ x) (h1 : x ≤ 9223372036854775807) : wrap64 x = x := by unfold wrap64; omega
theorem wf64 {x : Int} (h : (Lit.int .i64 x).wf = true) : -9223372036854775808 ≤ x ∧ x ≤ 9223372036854775807 := by
  simp [Lit.wf, IntKind.min, IntKind.max, IntKind.signed, IntKind.bits] at h
  omega
theorem tdiv_nn {x y : Int} (h : 0 ≤ x) : Int.tdiv x y = x / y := Int.tdiv_eq_ediv_of_nonneg h
theorem tmod_nn {x y : Int} (h : 0 ≤ x) : Int.tmod x y = x % y := Int.tmod_eq_emod_of_nonneg h

theorem wraps_i64 (n : Int) (h₀ : 0 ≤ n) (h₁ : n < 2 ^ 63) : IntKind.i64.wrap n = n := by rw [IntKind.wrap_i64]; omega
theorem and_mask (i : Nat) (hi : i ≤ 63) (x : Int) (h0 : 0 ≤ x) (h1 : x < 9223372036854775808) : Go.bits .and .i64 x (2 ^ i - 1) = x % 2 ^ i :=
  bits_mask .i64 63 (by decide) wraps_i64 i hi x h0 h1
theorem and127 {x : Int} (h0 : 0 ≤ x) (h1 : x < 9223372036854775808) : Go.bits .and .i64 x 127 = x % 128 := and_mask 7 (by decide) x h0 h1
theorem and255 {x : Int} (h0 : 0 ≤ x) (h1 : x < 9223372036854775808) : Go.bits .and .i64 x 255 = x % 256 := and_mask 8 (by decide) x h0 h1
theorem and1 {x : Int} (h0 : 0 ≤ x) (h1 : x < 9223372036854775808) : Go.bits .and .i64 x 1 = x % 2 := and_mask 1 (by decide) x h0 h1
theorem or_join (i : Nat) (x y : Int) (hx : 0 ≤ x) (hm : x % 2 ^ i = 0) (hx1 : x < 9223372036854775808) (hy : 0 ≤ y) (hy1 : y < 2 ^ i) (hy2 : y < 9223372036854775808) : Go.bits .or .i64 x y = x + y :=
  bits_join .i64 63 (by decide) wraps_i64 i x y hx hm hx1 hy hy1 hy2
theorem bits_or_comm (k : IntKind) (x y : Int) : Go.bits .or k x y = Go.bits .or k y x := by simp only [Go.bits, BitVec.or_comm]
theorem or_join' (i : Nat) (x y : Int) (hx : 0 ≤ x) (hm : x % 2 ^ i = 0) (hx1 : x < 9223372036854775808) (hy : 0 ≤ y) (hy1 : y < 2 ^ i) (hy2 : y < 9223372036854775808) : Go.bits .or .i64 y x = x + y := by
  rw [bits_or_comm]; exact or_join i x y hx hm hx1 hy hy1 hy2
theorem u8_and127 {x : Int} (h0 : 0 ≤ x) (h1 : x < 256) : Go.bits .and .u8 x 127 = x % 128 := bits_mask .u8 8 (by decide) wraps_u8 7 (by decide) x h0 h1
theorem bits_xor_nat (a b : Nat) (ha : a < 2 ^ 63) (hb : b < 2 ^ 63) : Go.bits .xor .i64 a b = ((a ^^^ b : Nat) : Int) := by
  have hp : 2 ^ 63 ≤ 2 ^ IntKind.i64.bits := Nat.pow_le_pow_right (by decide) (by decide)
  have ha' : a % 2 ^ IntKind.i64.bits = a := Nat.mod_eq_of_lt (Nat.lt_of_lt_of_le ha hp)
  have hb' : b % 2 ^ IntKind.i64.bits = b := Nat.mod_eq_of_lt (Nat.lt_of_lt_of_le hb hp)
  simp only [Go.bits, BitVec.ofInt_natCast, BitVec.toNat_xor, BitVec.toNat_ofNat, ha', hb']
  exact wraps_i64 _ (Int.natCast_nonneg _) (by exact_mod_cast Nat.xor_lt_two_pow ha hb)

theorem wbt (s : ByteArray) (i : Int) : wrap64 (bt s i) = bt s i := by have := bt_range s i; exact w64 (by omega) (by omega)
theorem toList_eq {s t : ByteArray} (h : s = t) : s.toList = t.toList := by rw [h]
theorem strOf_append (xs ys : List Int) : strOfNums xs ++ strOfNums ys = strOfNums (xs ++ ys) := by
  apply ByteArray.ext
  rw [ByteArray.data_append]
  simp [strOfNums]
theorem strOf_size (xs : List Int) : (strOfNums xs).size = xs.length := by simp [strOfNums, ByteArray.size]
theorem strOf_nil : (⟨#[]⟩ : ByteArray) = strOfNums [] := rfl
theorem cast_pow256 (d : Nat) : ((256 ^ d : Nat) : Int) = (256 : Int) ^ d := Int.natCast_pow 256 d
theorem lt_pow256 (m d : Nat) : ((m : Int) < 256 ^ d) = (m < 256 ^ d) := by
  rw [← cast_pow256]; exact propext Int.ofNat_lt
theorem pow256_six (i : Int) (h0 : 0 ≤ i) (h1 : i ≤ 6) : (256 : Int) ^ i.toNat ≤ 281474976710656 := by
  obtain rfl | rfl | rfl | rfl | rfl | rfl | rfl : i = 0 ∨ i = 1 ∨ i = 2 ∨ i = 3 ∨ i = 4 ∨ i = 5 ∨ i = 6 := by omega
  all_goals decide

/-! ### Str: a byte string as the list of its numbers -/
def IsB (xs : List Int) : Prop := ∀ x ∈ xs, 0 ≤ x ∧ x ≤ 255
def bl (s : ByteArray) : List Int := s.data.toList.map fun b => (b.toNat : Int)
theorem bl_isB (s : ByteArray) : IsB (bl s) := by
  intro x hx
  simp only [bl, List.mem_map] at hx
  obtain ⟨b, _, rfl⟩ := hx
  have := b.toNat_lt
  omega
theorem bl_length (s : ByteArray) : (bl s).length = s.size := by unfold bl; rw [List.length_map]; rfl
theorem strOf_bl (s : ByteArray) : strOfNums (bl s) = s := by
  apply ByteArray.ext
  apply Array.ext'
  unfold strOfNums bl
  rw [List.map_map]
  have : ((fun n : Int => UInt8.ofNat n.toNat) ∘ fun b : UInt8 => (b.toNat : Int)) = id := by
    funext b
    simp only [Function.comp_apply, Int.toNat_natCast, UInt8.ofNat_toNat, id]
  rw [this, List.map_id]
theorem bl_strOf {xs : List Int} (h : IsB xs) : bl (strOfNums xs) = xs := by
  induction xs with
  | nil => rfl
  | cons a l ih =>
    have ha := h a (by simp)
    have hl := ih (fun x hx => h x (by simp [hx]))
    simp only [bl, strOfNums, List.map_cons, List.toList_toArray] at hl ⊢
    rw [hl]
    congr 1
    simp only [UInt8.toNat_ofNat']
    omega
theorem bl_append (s t : ByteArray) : bl (s ++ t) = bl s ++ bl t := by simp [bl, ByteArray.data_append]
theorem bl_extract (s : ByteArray) (a b : Nat) : bl (s.extract a b) = ((bl s).drop a).take (b - a) := by
  simp [bl, ByteArray.data_extract, List.extract_eq_take_drop, List.map_take, List.map_drop]
theorem bl_inj {s t : ByteArray} (h : bl s = bl t) : s = t := by rw [← strOf_bl s, ← strOf_bl t, h]
theorem tl_iff (s t : ByteArray) : s.toList = t.toList ↔ s = t := by
  constructor
  · intro h
    rw [Go.Lib.toList_data, Go.Lib.toList_data] at h
    exact ByteArray.ext (Array.ext' h)
  · intro h; rw [h]
theorem bt_bl (s : ByteArray) (i : Int) : bt s i = rd (bl s) i := by
  unfold bt rd bl
  split
  · rename_i h
    have h' : i.toNat < s.data.toList.length := h
    rw [List.getD_eq_getElem?_getD, List.getElem?_map, List.getElem?_eq_getElem h']
    simp only [Option.map_some, Option.getD_some]
    rfl
  · rename_i h
    have h' : ¬ i.toNat < s.data.toList.length := h
    rw [List.getD_eq_getElem?_getD, List.getElem?_map, List.getElem?_eq_none (by omega)]
    rfl
theorem bt_nat (s : ByteArray) (i : Nat) (h : i < s.size) : bt s (i : Int) = (bl s)[i]'(by rw [bl_length]; exact h) := by
  rw [bt_bl]
  unfold rd
  rw [Int.toNat_natCast, List.getD_eq_getElem?_getD, List.getElem?_eq_getElem (by rw [bl_length]; exact h)]
  rfl
theorem isB_nil : IsB [] := fun _ h => by cases h
theorem isB_append {xs ys : List Int} (h : IsB xs) (k : IsB ys) : IsB (xs ++ ys) := fun x hx => (List.mem_append.1 hx).elim (h x) (k x)
theorem isB_cons {x : Int} {ys : List Int} (h : 0 ≤ x ∧ x ≤ 255) (k : IsB ys) : IsB (x :: ys) := by
  intro y hy
  rcases List.mem_cons.1 hy with e | e
  · subst e; exact h
  · exact k y e
theorem strOf_inj {xs ys : List Int} (h : IsB xs) (k : IsB ys) (e : strOfNums xs = strOfNums ys) : xs = ys := by
  rw [← bl_strOf h, ← bl_strOf k, e]
instance instDecEqBytes : DecidableEq ByteArray := fun a b => decidable_of_iff (a.toList = b.toList) (tl_iff a b)
instance instDecMemBytes (x : ByteArray) : (l : List ByteArray) → Decidable (x ∈ l)
  | [] => .isFalse (by simp)
  | y :: l => if h : x = y then .isTrue (by simp [h]) else (match instDecMemBytes x l with
    | .isTrue k => .isTrue (by simp [k])
    | .isFalse k => .isFalse (by simp [h, k]))

/-! ### vocabularies: the tokens that merges make -/
def tokB (out : List ByteArray) (id : Int) : ByteArray := if id < 256 then strOfNums [id % 256] else rdOf ByteArray.empty out (id - 256)
abbrev pairOk (i : Nat) (p : Int × Int) : Prop := (0 ≤ p.1 ∧ p.1 ≤ 255 + (i : Int)) ∧ (0 ≤ p.2 ∧ p.2 ≤ 255 + (i : Int))
def tokLoop : List (Int × Int) → List ByteArray → List ByteArray × Bool
  | [], out => (out, true)
  | p :: l, out => if pairOk out.length p then (if 24 < (tokB out p.1 ++ tokB out p.2).size ∨ (tokB out p.1 ++ tokB out p.2) ∈ out then (out, false) else tokLoop l (out ++ [tokB out p.1 ++ tokB out p.2])) else (out, false)
def tokV (l : List (Int × Int)) : List ByteArray × Bool := if 60 < l.length then ([], false) else tokLoop l []
def vocabOk (l : List (Int × Int)) : Bool := (tokV l).2
def Short (out : List ByteArray) : Prop := ∀ s ∈ out, s.size ≤ 24
theorem rdOf_mem {out : List ByteArray} {i : Int} (h0 : 0 ≤ i) (h1 : i < out.length) : rdOf ByteArray.empty out i ∈ out := by
  have h : i.toNat < out.length := by omega
  unfold rdOf
  rw [List.getD_eq_getElem?_getD, List.getElem?_eq_getElem h]
  exact List.getElem_mem h
theorem tokB_size {out : List ByteArray} (hs : Short out) {id : Int} (h0 : 0 ≤ id) (h1 : id ≤ 255 + (out.length : Int)) : (tokB out id).size ≤ 24 := by
  unfold tokB
  split
  · rw [strOf_size]; simp
  · exact hs _ (rdOf_mem (by omega) (by omega))
theorem short_snoc {out : List ByteArray} (hs : Short out) {t : ByteArray} (ht : t.size ≤ 24) : Short (out ++ [t]) := by
  intro s h
  rcases List.mem_append.1 h with h | h
  · exact hs s h
  · rw [List.mem_singleton.1 h]; exact ht
theorem short_nil : Short [] := fun _ h => by cases h
theorem rdOf_drop (out : List ByteArray) (j : Nat) (h : j < out.length) : out.drop j = rdOf ByteArray.empty out (j : Int) :: out.drop (j + 1) := by
  unfold rdOf
  rw [Int.toNat_natCast, List.getD_eq_getElem?_getD, List.getElem?_eq_getElem h]
  exact List.drop_eq_getElem_cons h
theorem bsize_append (a b : ByteArray) : (a ++ b).size = a.size + b.size := ByteArray.size_append

theorem tokLoop_len : ∀ (l : List (Int × Int)) (out : List ByteArray), (tokLoop l out).2 = true → (tokLoop l out).1.length = out.length + l.length
  | [], out, _ => by simp [tokLoop]
  | p :: l, out, h => by
    rw [tokLoop] at h ⊢
    split at h
    · rename_i c
      rw [if_pos c]
      split at h
      · cases h
      · rename_i c2
        rw [if_neg c2, tokLoop_len l _ h]
        simp
        omega
    · cases h
theorem tokLoop_short : ∀ (l : List (Int × Int)) (out : List ByteArray), Short out → Short (tokLoop l out).1
  | [], out, h => h
  | p :: l, out, h => by
    rw [tokLoop]
    split
    · split
      · exact h
      · rename_i c2
        exact tokLoop_short l _ (short_snoc h (by have : ¬ 24 < (tokB out p.1 ++ tokB out p.2).size := fun k => c2 (.inl k); omega))
    · exact h
theorem tokV_60 {l : List (Int × Int)} (h : vocabOk l = true) : l.length ≤ 60 := by
  unfold vocabOk tokV at h
  split at h
  · cases h
  · omega
theorem tokV_len {l : List (Int × Int)} (h : vocabOk l = true) : (tokV l).1.length = l.length := by
  have h60 := tokV_60 h
  unfold vocabOk tokV at h
  rw [if_neg (by omega)] at h
  unfold tokV
  rw [if_neg (by omega), tokLoop_len l [] h]
  simp
theorem tokV_short (l : List (Int × Int)) : Short (tokV l).1 := by
  unfold tokV
  split
  · exact short_nil
  · exact tokLoop_short l [] short_nil
/-- What Token(v, id) is. -/
def tokenV (l : List (Int × Int)) (id : Int) : ByteArray := if vocabOk l = true ∧ 0 ≤ id ∧ id ≤ 255 + (l.length : Int) then tokB (tokV l).1 id else strOfNums []

/-! ### tokens of a vocabulary -/
abbrev tokIn (n : Nat) (t : Int) : Prop := 0 ≤ t ∧ t ≤ 255 + (n : Int)
def toksIn (n : Nat) (ts : List Int) : Bool := ts.all fun t => decide (tokIn n t)
def areToksV (l : List (Int × Int)) (ts : List Int) : Bool := toksIn l.length ts && (vocabOk l && decide (ts.length ≤ 1000))
theorem toksIn_cons (n : Nat) (t : Int) (ts : List Int) : toksIn n (t :: ts) = (decide (tokIn n t) && toksIn n ts) := by simp [toksIn]
theorem toksIn_mem {n : Nat} {ts : List Int} (h : toksIn n ts = true) : ∀ t ∈ ts, tokIn n t := by
  intro t ht
  have := List.all_eq_true.1 h t ht
  simpa using this
def decFold (T : List ByteArray) (acc : ByteArray) (ts : List Int) : ByteArray := ts.foldl (fun a t => a ++ tokB T t) acc
def decodeV (l : List (Int × Int)) (ts : List Int) : ByteArray × Bool := if areToksV l ts = true then (decFold (tokV l).1 (strOfNums []) ts, true) else (strOfNums [], false)
theorem tokenV_in {l : List (Int × Int)} (h : vocabOk l = true) {t : Int} (ht : tokIn l.length t) : tokenV l t = tokB (tokV l).1 t := by
  unfold tokenV; rw [if_pos ⟨h, ht⟩]

def endsFrom (T : List ByteArray) : Int → List Int → List Int
  | _, [] => []
  | n, t :: ts => (n + ((tokB T t).size : Int)) :: endsFrom T (n + ((tokB T t).size : Int)) ts
theorem endsFrom_length (T : List ByteArray) : ∀ (ts : List Int) (n : Int), (endsFrom T n ts).length = ts.length
  | [], _ => rfl
  | t :: ts, n => by simp [endsFrom, endsFrom_length T ts]
def endsV (l : List (Int × Int)) (ts : List Int) : List Int × Bool := if areToksV l ts = true then (endsFrom (tokV l).1 0 ts, true) else ([], false)
theorem endsV_length (l : List (Int × Int)) (ts : List Int) : (endsV l ts).1.length ≤ ts.length := by
  unfold endsV
  split
  · simp only [endsFrom_length]; omega
  · simp

abbrev PI := S88
def prs (l : List PI) : List (Int × Int) := l.map fun p => (p.f0, p.f1)
theorem rdI_drop (l : List PI) (i : Nat) (h : i < l.length) : l.drop i = rd_T88 l (i : Int) :: l.drop (i + 1) := by
  unfold rd_T88
  rw [Int.toNat_natCast, List.getD_eq_getElem?_getD, List.getElem?_eq_getElem h]
  exact List.drop_eq_getElem_cons h
theorem prs_length (l : List PI) : (prs l).length = l.length := by simp [prs]

theorem spec_l1In_eq (a b c : Int) : spec_l1In.f a b c = some (decide (b ≤ a ∧ a ≤ c)) := by
  unfold spec_l1In.f
  by_cases h : a ≥ b
  · rw [if_pos h]; simp [show b ≤ a from h]
  · rw [if_neg h]; simp [show ¬ b ≤ a from h]

theorem spec_l7Bytes_eq {out : List ByteArray} {id : Int} (h0 : 0 ≤ id) (h1 : id ≤ 255 + (out.length : Int)) (hl : out.length ≤ 100000) : spec_l7Bytes.f out id = some (tokB out id) := by
  unfold spec_l7Bytes.f tokB
  by_cases c : id < 256
  · rw [if_pos c, if_pos c]
  · rw [if_neg c, if_neg c, w64 (by omega) (by omega), if_pos (by omega), if_pos (by omega)]
theorem spec_l7Table_l1 (l : List PI) (out : List ByteArray) (t : ByteArray) (R : List ByteArray × Bool) (ho : out.length ≤ 1000) (d : Nat) : ∀ (j : Nat), j + d = out.length →
    Ev (fun k => spec_l7Table.l0 k (out ++ [t]) ((out.length : Int) + 1) l) R → Ev (fun k => spec_l7Table.l1 k out (out.length : Int) t (j : Int) l) (if t ∈ out.drop j then (out, false) else R) := by
  induction d with
  | zero =>
    intro j hj h
    refine Ev.step (fun k => by rw [spec_l7Table.l1]) ?_
    rw [List.drop_eq_nil_of_le (by omega), if_neg (by simp)]
    refine Ev.neg (by omega) (Ev.pos (by omega) ?_)
    rw [w64 (by omega) (by omega)]
    exact h
  | succ d ih =>
    intro j hj h
    refine Ev.step (fun k => by rw [spec_l7Table.l1]) ?_
    refine Ev.pos (by omega) (Ev.pos (by omega) (Ev.pos (by omega) ?_))
    rw [rdOf_drop out j (by omega)]
    by_cases c : (rdOf ByteArray.empty out (j : Int)).toList = t.toList
    · refine Ev.pos c ?_
      rw [if_pos (by rw [(tl_iff _ _).1 c]; simp)]
      exact Ev.now _
    · refine Ev.neg c ?_
      have e : (t ∈ rdOf ByteArray.empty out (j : Int) :: out.drop (j + 1)) ↔ t ∈ out.drop (j + 1) := by
        rw [List.mem_cons]
        exact ⟨fun h => h.elim (fun h => absurd (by rw [h]) c) id, .inr⟩
      simp only [e]
      have := ih (j + 1) (by omega) h
      have e1 : ((j + 1 : Nat) : Int) = (j : Int) + 1 := by omega
      rw [e1] at this
      rw [w64 (by omega) (by omega)]
      exact this
theorem spec_l7Table_l0 (l : List PI) (hl : l.length ≤ 60) (d : Nat) : ∀ (out : List ByteArray), out.length + d = l.length → Short out →
    Ev (fun k => spec_l7Table.l0 k out (out.length : Int) l) (tokLoop (prs (l.drop out.length)) out) := by
  induction d with
  | zero =>
    intro out ho hs
    refine Ev.step (fun k => by rw [spec_l7Table.l0]) ?_
    rw [List.drop_eq_nil_of_le (by omega)]
    exact Ev.neg (by omega) (Ev.now _)
  | succ d ih =>
    intro out ho hs
    refine Ev.step (fun k => by rw [spec_l7Table.l0]) ?_
    rw [rdI_drop l out.length (by omega)]
    generalize rd_T88 l (out.length : Int) = p
    rw [w64 (by omega) (by omega)]
    refine Ev.pos (by omega) (Ev.pos (by omega) ?_)
    simp only [prs, List.map_cons, tokLoop]
    have bad : ¬ pairOk out.length (p.f0, p.f1) → Ev (fun k => spec_l7Table.j1 k out (out.length : Int) true l p.f0 p.f1) (out, false) := by
      intro h
      refine Ev.step (fun k => by rw [spec_l7Table.j1]) ?_
      exact Ev.pos rfl (Ev.now _)
    by_cases c : pairOk out.length (p.f0, p.f1)
    · rw [if_pos c]
      have s0 : (tokB out p.f0).size ≤ 24 := tokB_size hs c.1.1 c.1.2
      have s1 : (tokB out p.f1).size ≤ 24 := tokB_size hs c.2.1 c.2.2
      refine Ev.bind0 (spec_l1In_eq _ _ _) (Ev.pos (decide_eq_true c.1) (Ev.bind0 (spec_l1In_eq _ _ _) ?_))
      rw [decide_eq_true c.2]
      refine Ev.step (fun k => by rw [spec_l7Table.j1]) ?_
      refine Ev.neg (by simp) (Ev.bind0 (spec_l7Bytes_eq c.1.1 c.1.2 (by omega)) (Ev.bind0 (spec_l7Bytes_eq c.2.1 c.2.2 (by omega)) (Ev.pos (by omega) ?_)))
      generalize tokB out p.f0 ++ tokB out p.f1 = t
      by_cases c2 : (t.size : Int) > 24
      · rw [if_pos (.inl (by omega))]
        exact Ev.pos c2 (Ev.now _)
      · refine Ev.neg c2 ?_
        have R := ih (out ++ [t]) (by simp; omega) (short_snoc hs (by omega))
        have e1 : ((out ++ [t]).length : Int) = (out.length : Int) + 1 := by simp
        have e2 : (out ++ [t]).length = out.length + 1 := by simp
        rw [e1, e2] at R
        have := spec_l7Table_l1 l out t _ (by omega) out.length 0 (by omega) R
        rw [List.drop_zero] at this
        have e3 : (24 < t.size ∨ t ∈ out) ↔ t ∈ out := ⟨fun h => h.elim (fun h => by omega) id, .inr⟩
        simp only [e3]
        exact this
    · rw [if_neg c]
      refine Ev.bind0 (spec_l1In_eq _ _ _) ?_
      by_cases c1 : 0 ≤ p.f0 ∧ p.f0 ≤ 255 + (out.length : Int)
      · refine Ev.pos (decide_eq_true c1) (Ev.bind0 (spec_l1In_eq _ _ _) ?_)
        rw [decide_eq_false (fun h => c ⟨c1, h⟩)]
        exact bad c
      · exact Ev.neg (by rw [decide_eq_false c1]; simp) (bad c)
theorem spec_l7Table_ev (l : List PI) : Ev (fun k => spec_l7Table.f k l) (tokV (prs l)) := by
  unfold spec_l7Table.f tokV
  refine Ev.bind0 rfl ?_
  rw [prs_length]
  by_cases c : 60 < l.length
  · rw [if_pos c]; exact Ev.pos (by omega) (Ev.now _)
  · rw [if_neg c]
    refine Ev.neg (by omega) ?_
    exact spec_l7Table_l0 l (by omega) l.length [] (by simp) short_nil

theorem spec_VocabOk_ev (l : List PI) : Ev (fun k => spec_VocabOk.f k l) (vocabOk (prs l)) := by
  unfold spec_VocabOk.f
  exact Ev.bind (spec_l7Table_ev l) (Ev.now _)

theorem rd_get (l : List Int) (i : Nat) (h : i < l.length) : rd l (i : Int) = l[i] := by
  unfold rd
  rw [Int.toNat_natCast, List.getD_eq_getElem?_getD, List.getElem?_eq_getElem h]; rfl
theorem rd_drop (l : List Int) (i : Nat) (h : i < l.length) : l.drop i = rd l (i : Int) :: l.drop (i + 1) := by
  rw [rd_get l i h]; exact List.drop_eq_getElem_cons h
theorem laws_toIntS_l0 (l : List Int) (hl : l.length ≤ 1048576) (d : Nat) : ∀ (i : Nat) (ys : List Int), i + d = l.length → ys.length = i →
    Ev (fun k => laws_toIntS.l0 k l (ys ++ List.replicate d 0) (i : Int)) (ys ++ l.drop i) := by
  induction d with
  | zero =>
    intro i ys hi hy
    refine Ev.step (fun k => by rw [laws_toIntS.l0]) ?_
    rw [List.drop_eq_nil_of_le (by omega)]
    exact Ev.neg (by omega) (Ev.now _)
  | succ d ih =>
    intro i ys hi hy
    refine Ev.step (fun k => by rw [laws_toIntS.l0]) ?_
    refine Ev.pos (by omega) (Ev.pos (by omega) (Ev.pos (by simp; omega) ?_))
    rw [rd_get l i (by omega), w64 (by omega) (by omega), Int.toNat_natCast, List.set_append_right _ _ (by omega), hy, Nat.sub_self, List.replicate_succ, List.set_cons_zero]
    have := ih (i + 1) (ys ++ [l[i]]) (by omega) (by simp; omega)
    have e1 : ((i + 1 : Nat) : Int) = (i : Int) + 1 := by omega
    rw [e1] at this
    have e2 : ys ++ l.drop i = (ys ++ [l[i]]) ++ l.drop (i + 1) := by
      rw [List.drop_eq_getElem_cons (show i < l.length by omega), List.append_assoc]; rfl
    have e3 : ys ++ l[i] :: List.replicate d 0 = (ys ++ [l[i]]) ++ List.replicate d 0 := by simp
    rw [e2, e3]
    exact this
theorem laws_toIntS_ev (l : List Int) (hl : l.length ≤ 1048576) : Ev (fun k => laws_toIntS.f k l) l := by
  unfold laws_toIntS.f
  refine Ev.pos (by omega) (Ev.pos (by omega) ?_)
  rw [Int.toNat_natCast]
  simpa using laws_toIntS_l0 l hl l.length 0 [] (by omega) rfl
theorem laws_eqIntS_l0 (a : List Int) (ha : a.length ≤ 1048576) (d : Nat) : ∀ (i : Nat), i + d = a.length → Ev (fun k => laws_eqIntS.l0 k a a (i : Int)) true := by
  induction d with
  | zero =>
    intro i hi
    refine Ev.step (fun k => by rw [laws_eqIntS.l0]) ?_
    exact Ev.neg (by omega) (Ev.now _)
  | succ d ih =>
    intro i hi
    refine Ev.step (fun k => by rw [laws_eqIntS.l0]) ?_
    refine Ev.pos (by omega) (Ev.pos (by omega) (Ev.pos (by omega) (Ev.pos rfl ?_)))
    have := ih (i + 1) (by omega)
    have e1 : ((i + 1 : Nat) : Int) = (i : Int) + 1 := by omega
    rw [e1] at this
    rw [w64 (by omega) (by omega)]
    exact this
theorem laws_eqIntS_ev (a : List Int) (ha : a.length ≤ 1048576) : Ev (fun k => laws_eqIntS.f k a a) true := by
  unfold laws_eqIntS.f
  exact Ev.pos rfl (laws_eqIntS_l0 a ha a.length 0 (by omega))

theorem spec_l8Ok_l0 (l : List PI) (ts : List Int) (hl : l.length ≤ 1048576) (ht : ts.length ≤ 1048576) (d : Nat) : ∀ (i : Nat), i + d = ts.length → Ev (fun k => spec_l8Ok.l0 k ts (i : Int) l) (toksIn l.length (ts.drop i)) := by
  induction d with
  | zero =>
    intro i hi
    refine Ev.step (fun k => by rw [spec_l8Ok.l0]) ?_
    rw [List.drop_eq_nil_of_le (by omega)]
    exact Ev.neg (by omega) (Ev.now _)
  | succ d ih =>
    intro i hi
    refine Ev.step (fun k => by rw [spec_l8Ok.l0]) ?_
    have R := ih (i + 1) (by omega)
    have e1 : ((i + 1 : Nat) : Int) = (i : Int) + 1 := by omega
    rw [e1] at R
    rw [rd_drop ts i (by omega), toksIn_cons, w64 (x := 255 + (l.length : Int)) (by omega) (by omega), w64 (x := (i : Int) + 1) (by omega) (by omega)]
    generalize rd ts (i : Int) = t
    refine Ev.pos (by omega) (Ev.pos (by omega) (Ev.bind0 (spec_l1In_eq _ _ _) ?_))
    by_cases c : tokIn l.length t
    · rw [decide_eq_true c, Bool.true_and]; exact Ev.pos rfl R
    · rw [decide_eq_false c, Bool.false_and]; exact Ev.neg (by simp) (Ev.now _)
theorem spec_l8Ok_ev (l : List PI) (ts : List Int) (hl : l.length ≤ 1048576) (ht : ts.length ≤ 1048576) : Ev (fun k => spec_l8Ok.f k l ts) (areToksV (prs l) ts) := by
  have bad : ¬ (vocabOk (prs l) = true ∧ ts.length ≤ 1000) → Ev (fun k => spec_l8Ok.j0 k ts true l) (areToksV (prs l) ts) := by
    intro h
    refine Ev.step (fun k => by rw [spec_l8Ok.j0]) (Ev.pos rfl (Ev.val _ _ ?_))
    unfold areToksV
    cases hv : vocabOk (prs l) with
    | false => simp
    | true => rw [decide_eq_false (fun k => h ⟨hv, k⟩)]; simp
  unfold spec_l8Ok.f
  refine Ev.bind (spec_VocabOk_ev l) ?_
  by_cases c : vocabOk (prs l) = true
  · refine Ev.pos c ?_
    by_cases c2 : (ts.length : Int) > 1000
    · rw [decide_eq_true c2]; exact bad (fun h => by omega)
    · rw [decide_eq_false c2]
      refine Ev.step (fun k => by rw [spec_l8Ok.j0]) ?_
      refine Ev.neg (by simp) ?_
      unfold areToksV
      rw [c, decide_eq_true (show ts.length ≤ 1000 by omega), prs_length]
      simpa using spec_l8Ok_l0 l ts hl ht ts.length 0 (by omega)
  · exact Ev.neg c (bad (fun h => c h.1))

theorem spec_Ends_l0 (T : List ByteArray) (n : Nat) (hT : T.length = n) (hn : n ≤ 60) (hs : Short T) (ts : List Int) (ht : ts.length ≤ 1000) (hin : ∀ t ∈ ts, tokIn n t) (d : Nat) : ∀ (i : Nat) (out : List Int) (m : Int), i + d = ts.length → out.length = i → 0 ≤ m → m ≤ 24 * i →
    Ev (fun k => spec_Ends.l0 k ts out T m (i : Int)) (out ++ endsFrom T m (ts.drop i), true) := by
  induction d with
  | zero =>
    intro i out m hi ho h0 h1
    refine Ev.step (fun k => by rw [spec_Ends.l0]) ?_
    rw [List.drop_eq_nil_of_le (by omega)]
    exact Ev.neg (by omega) (Ev.val _ _ (by simp [endsFrom]))
  | succ d ih =>
    intro i out m hi ho h0 h1
    refine Ev.step (fun k => by rw [spec_Ends.l0]) ?_
    have hm := hin ts[i] (List.getElem_mem _)
    rw [rd_drop ts i (by omega), rd_get ts i (by omega), w64 (x := (i : Int) + 1) (by omega) (by omega)]
    have hsz := tokB_size hs hm.1 (by rw [hT]; exact hm.2)
    refine Ev.pos (by omega) (Ev.pos (by omega) (Ev.bind0 (spec_l7Bytes_eq hm.1 (by rw [hT]; exact hm.2) (by omega)) (Ev.pos (by omega) ?_)))
    rw [w64 (x := m + ((tokB T ts[i]).size : Int)) (by omega) (by omega)]
    have := ih (i + 1) (out ++ [m + ((tokB T ts[i]).size : Int)]) (m + ((tokB T ts[i]).size : Int)) (by omega) (by simp; omega) (by omega) (by omega)
    have e1 : ((i + 1 : Nat) : Int) = (i : Int) + 1 := by omega
    rw [e1] at this
    have e2 : out ++ endsFrom T m (ts[i] :: ts.drop (i + 1)) = (out ++ [m + ((tokB T ts[i]).size : Int)]) ++ endsFrom T (m + ((tokB T ts[i]).size : Int)) (ts.drop (i + 1)) := by
      simp only [endsFrom, List.append_assoc]; rfl
    rw [e2]
    exact this
theorem spec_Ends_ev (l : List PI) (ts : List Int) (hl : l.length ≤ 1048576) (ht : ts.length ≤ 1048576) : Ev (fun k => spec_Ends.f k l ts) (endsV (prs l) ts) := by
  unfold spec_Ends.f endsV
  refine Ev.bind0 rfl (Ev.bind (spec_l8Ok_ev l ts hl ht) (Ev.ite Iff.rfl (fun c => ?_) (fun _ => Ev.now _)))
  unfold areToksV at c
  simp only [Bool.and_eq_true, decide_eq_true_eq] at c
  have h60 := tokV_60 c.2.1
  have hlen := tokV_len c.2.1
  rw [prs_length] at c h60 hlen
  refine Ev.bind (spec_l7Table_ev l) ?_
  exact spec_Ends_l0 (tokV (prs l)).1 l.length hlen h60 (tokV_short _) ts c.2.2 (toksIn_mem c.1) ts.length 0 [] 0 (by omega) rfl (by omega) (by omega)

theorem impl_within_eq (a b c : Int) : impl_within.f a b c = some (decide (b ≤ a ∧ a ≤ c)) := by
  unfold impl_within.f
  by_cases h : a ≥ b
  · rw [if_pos h]; simp [show b ≤ a from h]
  · rw [if_neg h]; simp [show ¬ b ≤ a from h]

theorem slices_Index_string_l0 (l : List ByteArray) (x : ByteArray) (hl : l.length ≤ 9223372036854775806) (d : Nat) : ∀ (j : Nat), j + d = l.length →
    ∃ r : Int, Ev (fun k => slices_Index_string_string.l0 k l x (l.length : Int) (j : Int)) r ∧ (0 ≤ r ↔ x ∈ l.drop j) := by
  induction d with
  | zero =>
    intro j hj
    refine ⟨-1, ?_, ?_⟩
    · refine Ev.step (fun k => by rw [slices_Index_string_string.l0]) ?_
      exact Ev.neg (by omega) (Ev.now _)
    · rw [List.drop_eq_nil_of_le (by omega)]; simp
  | succ d ih =>
    intro j hj
    obtain ⟨r, h1, h2⟩ := ih (j + 1) (by omega)
    have e1 : ((j + 1 : Nat) : Int) = (j : Int) + 1 := by omega
    rw [e1] at h1
    by_cases c : x.toList = (rdOf ByteArray.empty l (j : Int)).toList
    · refine ⟨j, ?_, ?_⟩
      · refine Ev.step (fun k => by rw [slices_Index_string_string.l0]) ?_
        exact Ev.pos (by omega) (Ev.pos (by omega) (Ev.pos (by omega) (Ev.pos c (Ev.now _))))
      · rw [rdOf_drop l j (by omega), ← (tl_iff _ _).1 c]; simp
    · refine ⟨r, ?_, ?_⟩
      · refine Ev.step (fun k => by rw [slices_Index_string_string.l0]) ?_
        refine Ev.pos (by omega) (Ev.pos (by omega) (Ev.pos (by omega) (Ev.neg c ?_)))
        rw [w64 (by omega) (by omega)]
        exact h1
      · rw [h2, rdOf_drop l j (by omega), List.mem_cons]
        exact ⟨.inr, fun h => h.elim (fun h => absurd (by rw [h]) c) id⟩
theorem slices_Contains_string_ev (l : List ByteArray) (x : ByteArray) (hl : l.length ≤ 9223372036854775806) : Ev (fun k => slices_Contains_string_string.f k l x) (decide (x ∈ l)) := by
  obtain ⟨r, h1, h2⟩ := slices_Index_string_l0 l x hl l.length 0 (by omega)
  unfold slices_Contains_string_string.f slices_Index_string_string.f
  refine Ev.bind h1 (Ev.val _ _ ?_)
  rw [List.drop_zero] at h2
  rw [Bool.eq_iff_iff, decide_eq_true_iff, decide_eq_true_iff]
  exact h2

theorem impl_bytesIn_eq {out : List ByteArray} {id : Int} (h0 : 0 ≤ id) (h1 : id ≤ 255 + (out.length : Int)) (hl : out.length ≤ 100000) : impl_bytesIn.f out id = some (tokB out id) := by
  unfold impl_bytesIn.f tokB
  by_cases c : id < 256
  · rw [if_pos c, if_pos c]
  · rw [if_neg c, if_neg c, w64 (by omega) (by omega), if_pos (by omega), if_pos (by omega)]
theorem impl_tokens_l0 (l : List PI) (hl : l.length ≤ 60) (d : Nat) : ∀ (out : List ByteArray), out.length + d = l.length → Short out →
    Ev (fun k => impl_tokens.l0 k out l (l.length : Int) (out.length : Int)) (tokLoop (prs (l.drop out.length)) out) := by
  induction d with
  | zero =>
    intro out ho hs
    refine Ev.step (fun k => by rw [impl_tokens.l0]) ?_
    rw [List.drop_eq_nil_of_le (by omega)]
    exact Ev.neg (by omega) (Ev.now _)
  | succ d ih =>
    intro out ho hs
    refine Ev.step (fun k => by rw [impl_tokens.l0]) ?_
    rw [rdI_drop l out.length (by omega)]
    generalize rd_T88 l (out.length : Int) = p
    rw [w64 (by omega) (by omega)]
    refine Ev.pos (by omega) (Ev.pos (by omega) (Ev.pos (by omega) ?_))
    simp only [prs, List.map_cons, tokLoop]
    have bad : ¬ pairOk out.length (p.f0, p.f1) → Ev (fun k => impl_tokens.j1 k out l (l.length : Int) (out.length : Int) true p.f0 p.f1) (out, false) := by
      intro h
      refine Ev.step (fun k => by rw [impl_tokens.j1]) ?_
      exact Ev.pos rfl (Ev.now _)
    by_cases c : pairOk out.length (p.f0, p.f1)
    · rw [if_pos c]
      have s0 : (tokB out p.f0).size ≤ 24 := tokB_size hs c.1.1 c.1.2
      have s1 : (tokB out p.f1).size ≤ 24 := tokB_size hs c.2.1 c.2.2
      refine Ev.bind0 (impl_within_eq _ _ _) (Ev.pos (decide_eq_true c.1) (Ev.bind0 (impl_within_eq _ _ _) ?_))
      rw [decide_eq_true c.2]
      refine Ev.step (fun k => by rw [impl_tokens.j1]) ?_
      refine Ev.neg (by simp) (Ev.bind0 (impl_bytesIn_eq c.1.1 c.1.2 (by omega)) (Ev.bind0 (impl_bytesIn_eq c.2.1 c.2.2 (by omega)) (Ev.pos (by omega) ?_)))
      generalize tokB out p.f0 ++ tokB out p.f1 = t
      by_cases c2 : (t.size : Int) > 24
      · rw [if_pos (.inl (by omega))]
        exact Ev.pos c2 (Ev.now _)
      · refine Ev.neg c2 (Ev.bind (slices_Contains_string_ev out t (by omega)) ?_)
        by_cases c3 : t ∈ out
        · rw [if_pos (.inr c3)]
          exact Ev.pos (decide_eq_true c3) (Ev.now _)
        · rw [if_neg (by rintro (h | h); omega; exact c3 h)]
          refine Ev.neg (by rw [decide_eq_false c3]; simp) (Ev.pos (by omega) ?_)
          have R := ih (out ++ [t]) (by simp; omega) (short_snoc hs (by omega))
          have e1 : ((out ++ [t]).length : Int) = (out.length : Int) + 1 := by simp
          have e2 : (out ++ [t]).length = out.length + 1 := by simp
          rw [e1, e2] at R
          rw [w64 (by omega) (by omega)]
          exact R
    · rw [if_neg c]
      refine Ev.bind0 (impl_within_eq _ _ _) ?_
      by_cases c1 : 0 ≤ p.f0 ∧ p.f0 ≤ 255 + (out.length : Int)
      · refine Ev.pos (decide_eq_true c1) (Ev.bind0 (impl_within_eq _ _ _) ?_)
        rw [decide_eq_false (fun h => c ⟨c1, h⟩)]
        exact bad c
      · exact Ev.neg (by rw [decide_eq_false c1]; simp) (bad c)
theorem impl_tokens_ev (l : List PI) : Ev (fun k => impl_tokens.f k l) (tokV (prs l)) := by
  unfold impl_tokens.f tokV
  refine Ev.bind0 rfl ?_
  rw [prs_length]
  by_cases c : 60 < l.length
  · rw [if_pos c]; exact Ev.pos (by omega) (Ev.now _)
  · rw [if_neg c]
    refine Ev.neg (by omega) ?_
    exact impl_tokens_l0 l (by omega) l.length [] (by simp) short_nil

theorem impl_VocabOk_ev (l : List PI) : Ev (fun k => impl_VocabOk.f k l) (vocabOk (prs l)) := by
  unfold impl_VocabOk.f
  exact Ev.bind (impl_tokens_ev l) (Ev.now _)

theorem impl_isToken_eq (l : List PI) (id : Int) (hl : l.length ≤ 1048576) : impl_Vocab_isToken.f l id = some (decide (0 ≤ id ∧ id ≤ 255 + (l.length : Int))) := by
  unfold impl_Vocab_isToken.f
  rw [w64 (by omega) (by omega), impl_within_eq]; rfl

theorem impl_areToks_l0 (l : List PI) (ts : List Int) (hl : l.length ≤ 1048576) (ht : ts.length ≤ 1048576) (d : Nat) : ∀ (i : Nat), i + d = ts.length →
    Ev (fun k => impl_areToks.l0 k ts ts (ts.length : Int) (i : Int) l) (toksIn l.length (ts.drop i) && (vocabOk (prs l) && decide (ts.length ≤ 1000))) := by
  induction d with
  | zero =>
    intro i hi
    refine Ev.step (fun k => by rw [impl_areToks.l0]) ?_
    rw [List.drop_eq_nil_of_le (by omega)]
    refine Ev.neg (by omega) (Ev.bind (impl_VocabOk_ev l) ?_)
    by_cases c : vocabOk (prs l) = true
    · refine Ev.pos c (Ev.val _ _ ?_)
      rw [c, Bool.true_and, show toksIn l.length [] = true from rfl, Bool.true_and, Bool.eq_iff_iff, decide_eq_true_iff, decide_eq_true_iff]
      omega
    · refine Ev.neg c (Ev.val _ _ ?_)
      rw [Bool.eq_false_iff.2 c]; simp
  | succ d ih =>
    intro i hi
    refine Ev.step (fun k => by rw [impl_areToks.l0]) ?_
    have R := ih (i + 1) (by omega)
    have e1 : ((i + 1 : Nat) : Int) = (i : Int) + 1 := by omega
    rw [e1] at R
    rw [rd_drop ts i (by omega), toksIn_cons, w64 (x := (i : Int) + 1) (by omega) (by omega)]
    generalize rd ts (i : Int) = t
    refine Ev.pos (by omega) (Ev.pos (by omega) (Ev.pos (by omega) (Ev.bind0 (impl_isToken_eq l t hl) ?_)))
    by_cases c : tokIn l.length t
    · rw [decide_eq_true c, Bool.true_and]; exact Ev.pos rfl R
    · rw [decide_eq_false c, Bool.false_and, Bool.false_and]; exact Ev.neg (by simp) (Ev.now _)
theorem impl_areToks_ev (l : List PI) (ts : List Int) (hl : l.length ≤ 1048576) (ht : ts.length ≤ 1048576) : Ev (fun k => impl_areToks.f k l ts) (areToksV (prs l) ts) := by
  unfold impl_areToks.f areToksV
  rw [prs_length]
  simpa using impl_areToks_l0 l ts hl ht ts.length 0 (by omega)

theorem impl_Token_ev (l : List PI) (id : Int) : Ev (fun k => impl_Token.f k l id) (tokenV (prs l) id) := by
  unfold impl_Token.f tokenV
  rw [prs_length]
  refine Ev.bind (impl_tokens_ev l) ?_
  by_cases c : vocabOk (prs l) = true
  · have h1 := tokV_60 c
    have h2 := tokV_len c
    rw [prs_length] at h1 h2
    refine Ev.pos c ?_
    refine Ev.bind0 (impl_isToken_eq l id (by omega)) ?_
    by_cases d : 0 ≤ id ∧ id ≤ 255 + (l.length : Int)
    · rw [if_pos (show vocabOk (prs l) = true ∧ 0 ≤ id ∧ id ≤ 255 + (l.length : Int) from ⟨c, d⟩)]
      exact Ev.pos (decide_eq_true d) (Ev.bind0 (impl_bytesIn_eq d.1 (by rw [h2]; exact d.2) (by omega)) (Ev.now _))
    · rw [if_neg (show ¬ (vocabOk (prs l) = true ∧ 0 ≤ id ∧ id ≤ 255 + (l.length : Int)) from fun h => d h.2)]
      exact Ev.neg (by rw [decide_eq_false d]; simp) (Ev.now _)
  · rw [if_neg (show ¬ (vocabOk (prs l) = true ∧ 0 ≤ id ∧ id ≤ 255 + (l.length : Int)) from fun h => c h.1)]
    exact Ev.neg c (Ev.now _)

theorem impl_Ends_l0 (l : List PI) (hv : vocabOk (prs l) = true) (ts : List Int) (ht : ts.length ≤ 1000) (hin : ∀ t ∈ ts, tokIn l.length t) (d : Nat) : ∀ (i : Nat) (out : List Int) (m : Int), i + d = ts.length → out.length = i → 0 ≤ m → m ≤ 24 * i →
    Ev (fun k => impl_Ends.l0 k out m ts (ts.length : Int) (i : Int) l) (out ++ endsFrom (tokV (prs l)).1 m (ts.drop i), true) := by
  have h60 := tokV_60 hv
  have hlen := tokV_len hv
  rw [prs_length] at h60 hlen
  induction d with
  | zero =>
    intro i out m hi ho h0 h1
    refine Ev.step (fun k => by rw [impl_Ends.l0]) ?_
    rw [List.drop_eq_nil_of_le (by omega)]
    exact Ev.neg (by omega) (Ev.val _ _ (by simp [endsFrom]))
  | succ d ih =>
    intro i out m hi ho h0 h1
    refine Ev.step (fun k => by rw [impl_Ends.l0]) ?_
    have hm := hin ts[i] (List.getElem_mem _)
    rw [rd_drop ts i (by omega), rd_get ts i (by omega), w64 (x := (i : Int) + 1) (by omega) (by omega)]
    have hsz := tokB_size (tokV_short (prs l)) hm.1 (by rw [hlen]; exact hm.2)
    have et := impl_Token_ev l ts[i]
    rw [tokenV_in hv (by rw [prs_length]; exact hm)] at et
    generalize (tokV (prs l)).1 = T at *
    refine Ev.pos (by omega) (Ev.pos (by omega) (Ev.pos (by omega) (Ev.bind et (Ev.pos (by omega) ?_))))
    rw [w64 (x := m + ((tokB T ts[i]).size : Int)) (by omega) (by omega)]
    have := ih (i + 1) (out ++ [m + ((tokB T ts[i]).size : Int)]) (m + ((tokB T ts[i]).size : Int)) (by omega) (by simp; omega) (by omega) (by omega)
    have e1 : ((i + 1 : Nat) : Int) = (i : Int) + 1 := by omega
    rw [e1] at this
    have e2 : out ++ endsFrom T m (ts[i] :: ts.drop (i + 1)) = (out ++ [m + ((tokB T ts[i]).size : Int)]) ++ endsFrom T (m + ((tokB T ts[i]).size : Int)) (ts.drop (i + 1)) := by
      simp only [endsFrom, List.append_assoc]; rfl
    rw [e2]
    exact this
theorem impl_Ends_ev (l : List PI) (ts : List Int) (hl : l.length ≤ 1048576) (ht : ts.length ≤ 1048576) : Ev (fun k => impl_Ends.f k l ts) (endsV (prs l) ts) := by
  unfold impl_Ends.f endsV
  refine Ev.bind (impl_areToks_ev l ts hl ht) (Ev.ite Iff.rfl (fun c => ?_) (fun _ => Ev.now _))
  unfold areToksV at c
  simp only [Bool.and_eq_true, decide_eq_true_eq] at c
  rw [prs_length] at c
  exact impl_Ends_l0 l c.2.1 ts c.2.2 (toksIn_mem c.1) ts.length 0 [] 0 (by omega) rfl (by omega) (by omega)

abbrev PL := S118
theorem rdL_drop (l : List PL) (i : Nat) (h : i < l.length) : rd_T118 l (i : Int) = l[i] := by
  unfold rd_T118
  rw [Int.toNat_natCast, List.getD_eq_getElem?_getD, List.getElem?_eq_getElem h]; rfl
theorem rdI_get (l : List PI) (i : Nat) (h : i < l.length) : rd_T88 l (i : Int) = l[i] := by
  unfold rd_T88
  rw [Int.toNat_natCast, List.getD_eq_getElem?_getD, List.getElem?_eq_getElem h]; rfl
/-- a vocabulary of the laws as the program's -/
def toV (l : List PL) : List PI := l.map fun p => ⟨p.f0, p.f1⟩
theorem toV_length (l : List PL) : (toV l).length = l.length := by simp [toV]
theorem laws_szVocab_eq (l : List PL) (hl : l.length ≤ 9223372036854775807) : laws_szVocab.f l 1048576 = some (if 1048576 - (l.length : Int) < 0 then -1 else 1048576 - (l.length : Int)) := by
  unfold laws_szVocab.f laws_szPairS.f
  rw [w64 (by omega) (by omega)]
  by_cases c : 1048576 - (l.length : Int) < 0
  · rw [if_pos c, if_pos c]; rfl
  · rw [if_neg c, if_neg c]
    simp only [Option.bind_some]
    rw [if_neg c]
theorem laws_toPairS_l0 (l : List PL) (hl : l.length ≤ 1048576) (d : Nat) : ∀ (i : Nat) (ys : List PI), i + d = l.length → ys.length = i →
    Ev (fun k => laws_toPairS.l0 k l (ys ++ List.replicate d z88) (i : Int)) (ys ++ toV (l.drop i)) := by
  induction d with
  | zero =>
    intro i ys hi hy
    refine Ev.step (fun k => by rw [laws_toPairS.l0]) ?_
    rw [List.drop_eq_nil_of_le (by omega)]
    exact Ev.neg (by omega) (Ev.now _)
  | succ d ih =>
    intro i ys hi hy
    refine Ev.step (fun k => by rw [laws_toPairS.l0]) ?_
    refine Ev.pos (by omega) (Ev.pos (by omega) ?_)
    rw [rdL_drop l i (by omega)]
    refine Ev.bind0 rfl (Ev.pos (by simp; omega) ?_)
    rw [w64 (by omega) (by omega), Int.toNat_natCast, List.set_append_right _ _ (by omega), hy, Nat.sub_self, List.replicate_succ, List.set_cons_zero]
    have := ih (i + 1) (ys ++ [⟨l[i].f0, l[i].f1⟩]) (by omega) (by simp; omega)
    have e1 : ((i + 1 : Nat) : Int) = (i : Int) + 1 := by omega
    rw [e1] at this
    have e2 : ys ++ toV (l.drop i) = (ys ++ [⟨l[i].f0, l[i].f1⟩]) ++ toV (l.drop (i + 1)) := by
      unfold toV; rw [List.drop_eq_getElem_cons (show i < l.length by omega), List.map_cons, List.append_assoc]; rfl
    have e3 : ys ++ (⟨l[i].f0, l[i].f1⟩ : PI) :: List.replicate d z88 = (ys ++ [⟨l[i].f0, l[i].f1⟩]) ++ List.replicate d z88 := by simp
    rw [e2, e3]
    exact this
theorem laws_toVocab_ev (l : List PL) (hl : l.length ≤ 1048576) : Ev (fun k => laws_toVocab.f k l) (toV l) := by
  unfold laws_toVocab.f laws_toPairS.f
  refine Ev.bind (a := toV l) ?_ (Ev.now _)
  refine Ev.pos (by omega) (Ev.pos (by omega) ?_)
  rw [Int.toNat_natCast]
  simpa using laws_toPairS_l0 l hl l.length 0 [] (by omega) rfl
theorem laws_eqPairS_l0 (a : List PI) (ha : a.length ≤ 1048576) (d : Nat) : ∀ (i : Nat), i + d = a.length → Ev (fun k => laws_eqPairS.l0 k a a (i : Int)) true := by
  induction d with
  | zero =>
    intro i hi
    refine Ev.step (fun k => by rw [laws_eqPairS.l0]) ?_
    exact Ev.neg (by omega) (Ev.now _)
  | succ d ih =>
    intro i hi
    refine Ev.step (fun k => by rw [laws_eqPairS.l0]) ?_
    refine Ev.pos (by omega) (Ev.pos (by omega) (Ev.pos (by omega) ?_))
    refine Ev.bind0 (a := true) (by unfold laws_eqPair.f; rw [if_pos rfl, if_pos rfl]) (Ev.pos rfl ?_)
    have := ih (i + 1) (by omega)
    have e1 : ((i + 1 : Nat) : Int) = (i : Int) + 1 := by omega
    rw [e1] at this
    rw [w64 (by omega) (by omega)]
    exact this
theorem laws_eqVocab_ev (a : List PI) (ha : a.length ≤ 1048576) : Ev (fun k => laws_eqVocab.f k a a) true := by
  unfold laws_eqVocab.f laws_eqPairS.f
  refine Ev.bind (a := true) (Ev.pos rfl ?_) (Ev.pos rfl (Ev.now _))
  exact laws_eqPairS_l0 a ha a.length 0 (by omega)

theorem laws_markPairS_l0 (d : Nat) : ∀ (l : List PI) (i : Nat) (a : Int), l.length ≤ 1048576 → i + d = l.length → 0 ≤ a → a + 2 * d ≤ 40000000 →
    ∃ l', Ev (fun k => laws_markPairS.l0 k l a (i : Int)) (a + 2 * d, l') := by
  induction d with
  | zero =>
    intro l i a hl hi h0 ha
    refine ⟨l, ?_⟩
    refine Ev.step (fun k => by rw [laws_markPairS.l0]) ?_
    exact Ev.neg (by omega) (Ev.val _ _ (by simp))
  | succ d ih =>
    intro l i a hl hi h0 ha
    obtain ⟨l', h⟩ := ih ((l.set i ⟨a, (rd_T88 l (i : Int)).f1⟩).set i ⟨(rd_T88 (l.set i ⟨a, (rd_T88 l (i : Int)).f1⟩) (i : Int)).f0, a + 1⟩) (i + 1) (a + 2) (by simpa using hl) (by simp; omega) (by omega) (by omega)
    refine ⟨l', ?_⟩
    refine Ev.step (fun k => by rw [laws_markPairS.l0]) ?_
    refine Ev.pos (by omega) (Ev.pos (by omega) (Ev.bind0 rfl ?_))
    rw [Int.toNat_natCast, w64 (x := a + 1) (by omega) (by omega), w64 (x := a + 1 + 1) (by omega) (by omega), w64 (x := (i : Int) + 1) (by omega) (by omega)]
    have e1 : ((i + 1 : Nat) : Int) = (i : Int) + 1 := by omega
    rw [e1] at h
    rw [show a + 1 + 1 = a + 2 by omega, show a + 2 * ((d + 1 : Nat) : Int) = a + 2 + 2 * (d : Int) by omega]
    exact h
theorem laws_markVocab_ev (l : List PI) (a : Int) (hl : l.length ≤ 1048576) (h0 : 0 ≤ a) (ha : a ≤ 10000000) : ∃ l', Ev (fun k => laws_markVocab.f k l a) (a + 2 * (l.length : Int), l') := by
  obtain ⟨l', h⟩ := laws_markPairS_l0 l.length l 0 a hl (by omega) h0 (by omega)
  refine ⟨l', ?_⟩
  unfold laws_markVocab.f laws_markPairS.f
  exact Ev.bind h (Ev.now _)

def imarks : Int → Nat → List Int
  | _, 0 => []
  | a, n + 1 => a :: imarks (a + 1) n
theorem imarks_length : ∀ (n : Nat) (a : Int), (imarks a n).length = n
  | 0, _ => rfl
  | n + 1, a => by simp [imarks, imarks_length n]
theorem laws_markIntS_l0 (d : Nat) : ∀ (ys rest : List Int) (a : Int), rest.length = d → 0 ≤ a → ys.length + rest.length ≤ 4000000 → a + rest.length ≤ 40000000 →
    Ev (fun k => laws_markIntS.l0 k (ys ++ rest) a (ys.length : Int)) (a + rest.length, ys ++ imarks a rest.length) := by
  induction d with
  | zero =>
    intro ys rest a hr h0 hl ha
    have : rest = [] := List.eq_nil_of_length_eq_zero hr
    subst this
    refine Ev.step (fun k => by rw [laws_markIntS.l0]) ?_
    refine Ev.neg (by simp) (Ev.val _ _ (by simp [imarks]))
  | succ d ih =>
    intro ys rest a hr h0 hl ha
    obtain ⟨x, rest', rfl⟩ : ∃ x r, rest = x :: r := by
      cases rest with
      | nil => simp at hr
      | cons x r => exact ⟨x, r, rfl⟩
    simp only [List.length_cons] at hr hl ha
    refine Ev.step (fun k => by rw [laws_markIntS.l0]) ?_
    refine Ev.pos (by simp; omega) (Ev.pos (by omega) ?_)
    rw [Int.toNat_natCast, List.set_append_right _ _ (Nat.le_refl _), Nat.sub_self, List.set_cons_zero, w64 (x := a + 1) (by omega) (by omega), w64 (x := (ys.length : Int) + 1) (by omega) (by omega)]
    have := ih (ys ++ [a]) rest' (a + 1) (by omega) (by omega) (by simp; omega) (by omega)
    have e1 : ((ys ++ [a]).length : Int) = (ys.length : Int) + 1 := by simp
    rw [e1] at this
    have e2 : ys ++ a :: rest' = (ys ++ [a]) ++ rest' := by simp
    have e4 : ((x :: rest').length : Int) = (rest'.length : Int) + 1 := by simp
    have e5 : ys ++ imarks a (x :: rest').length = (ys ++ [a]) ++ imarks (a + 1) rest'.length := by simp [imarks]
    rw [e2, e4, e5, show a + ((rest'.length : Int) + 1) = a + 1 + rest'.length by omega]
    exact this
theorem laws_markIntS_ev (l : List Int) (a : Int) (h0 : 0 ≤ a) (hl : l.length ≤ 4000000) (ha : a + l.length ≤ 40000000) : Ev (fun k => laws_markIntS.f k l a) (a + l.length, imarks a l.length) := by
  unfold laws_markIntS.f
  have := laws_markIntS_l0 l.length [] l a rfl h0 (by simpa using hl) ha
  simpa using this
theorem laws_heldIntS_l0 (d : Nat) : ∀ (ys : List Int) (a : Int), 0 ≤ a → ys.length + d ≤ 4000000 → a + d ≤ 40000000 →
    Ev (fun k => laws_heldIntS.l0 k (ys ++ imarks a d) a (ys.length : Int)) (a + d) := by
  induction d with
  | zero =>
    intro ys a h0 hl ha
    refine Ev.step (fun k => by rw [laws_heldIntS.l0]) ?_
    refine Ev.neg (by simp [imarks]) (Ev.val _ _ (by simp))
  | succ d ih =>
    intro ys a h0 hl ha
    refine Ev.step (fun k => by rw [laws_heldIntS.l0]) ?_
    have hlen : (ys ++ imarks a (d + 1)).length = ys.length + (d + 1) := by rw [List.length_append, imarks_length]
    refine Ev.pos (by rw [hlen]; omega) (Ev.pos (by omega) ?_)
    rw [rd_get _ _ (by rw [hlen]; omega)]
    have e0 : (ys ++ imarks a (d + 1))[ys.length]'(by rw [hlen]; omega) = a := by simp [imarks]
    rw [e0]
    refine Ev.pos rfl ?_
    rw [w64 (x := a + 1) (by omega) (by omega), w64 (x := (ys.length : Int) + 1) (by omega) (by omega)]
    have := ih (ys ++ [a]) (a + 1) (by omega) (by simp; omega) (by omega)
    have e1 : ((ys ++ [a]).length : Int) = (ys.length : Int) + 1 := by simp
    rw [e1] at this
    have e2 : ys ++ imarks a (d + 1) = (ys ++ [a]) ++ imarks (a + 1) d := by simp [imarks]
    rw [e2, show a + ((d + 1 : Nat) : Int) = a + 1 + d by omega]
    exact this
theorem laws_heldIntS_ev (n : Nat) (a : Int) (h0 : 0 ≤ a) (hl : n ≤ 4000000) (ha : a + n ≤ 40000000) : Ev (fun k => laws_heldIntS.f k (imarks a n) a) (a + n) := by
  unfold laws_heldIntS.f
  have := laws_heldIntS_l0 n [] a h0 (by simpa using hl) ha
  simpa using this

theorem FnExactEnds : laws_FnExactEnds.Pure := by
  intro l ts hl hts
  refine Ev.rounds (g := fun k => laws_FnExactEnds.f k l ts) ?_
  unfold laws_FnExactEnds.f
  by_cases c0 : (ts.length : Int) > 1048576
  · exact Ev.pos c0 (Ev.now _)
  · refine Ev.neg c0 (Ev.bind0 (laws_szVocab_eq l hl.1) ?_)
    by_cases c : 1048576 - (l.length : Int) < 0
    · rw [if_pos c]; exact Ev.pos (by omega) (Ev.now _)
    · rw [if_neg c]
      have h : l.length ≤ 1048576 := by omega
      have h' : (toV l).length ≤ 1048576 := by rw [toV_length]; exact h
      have ht : ts.length ≤ 1048576 := by omega
      have hE := endsV_length (prs (toV l)) ts
      have e := laws_toVocab_ev l h
      have et := laws_toIntS_ev ts ht
      have ei := impl_Ends_ev (toV l) ts h' ht
      have eq := laws_eqIntS_ev (endsV (prs (toV l)) ts).1 (by omega)
      have hm := laws_markIntS_ev (endsV (prs (toV l)) ts).1 1 (by omega) (by omega) (by omega)
      have hh := laws_heldIntS_ev (endsV (prs (toV l)) ts).1.length 1 (by omega) (by omega) (by omega)
      obtain ⟨l', hv⟩ := laws_markVocab_ev (toV l) 1 h' (by omega) (by omega)
      have hx := laws_markIntS_ev ts (1 + 2 * ((toV l).length : Int)) (by omega) (by omega) (by omega)
      refine Ev.neg c (Ev.bind e (Ev.bind et (Ev.bind (spec_Ends_ev _ ts h' ht) (Ev.bind e (Ev.bind et (Ev.bind ei (Ev.bind eq (Ev.pos rfl ?_))))))))
      refine Ev.step (fun k => by rw [laws_FnExactEnds.j0]) ?_
      refine Ev.neg (by simp) (Ev.bind e (Ev.bind (laws_eqVocab_ev _ h') (Ev.pos rfl (Ev.bind et (Ev.bind (laws_eqIntS_ev ts ht) (Ev.pos rfl ?_))))))
      refine Ev.bind hv (Ev.bind hx (Ev.neg (by simp only; omega) (Ev.bind eq (Ev.pos rfl ?_))))
      refine Ev.step (fun k => by rw [laws_FnExactEnds.j1]) ?_
      refine Ev.neg (by simp) (Ev.bind hm (Ev.bind hh (Ev.neg (by omega) (Ev.pos rfl ?_))))
      refine Ev.bind e (Ev.bind et (Ev.bind ei (Ev.bind eq (Ev.pos rfl ?_))))
      refine Ev.step (fun k => by rw [laws_FnExactEnds.j2]) ?_
      exact Ev.neg (by simp) (Ev.bind hh (Ev.neg (by omega) (Ev.pos rfl (Ev.now _))))

end Go.Proofs.Ytagbjmhipgbglaa.Pure
