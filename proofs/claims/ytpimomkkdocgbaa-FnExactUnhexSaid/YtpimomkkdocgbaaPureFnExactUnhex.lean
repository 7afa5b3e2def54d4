/- The pure statement of the law FnExactUnhex is proved: for all arguments within the stated bounds the printed function answers true. Conditions: none beyond those bounds. -/
import Derived.Test.YtpimomkkdocgbaaPFnExactUnhexx1
import Derived.Laws.BitsLemmas
import Derived.Lib.Strings
namespace Go.Proofs.Ytpimomkkdocgbaa.Pure
open Go Go.RowKit Go.Proofs.Ytpimomkkdocgbaa.PFnExactUnhex Go.Proofs.YtpimomkkdocgbaaW.PrintWords Go.Proofs.YtpimomkkdocgbaaW.PrintLast Go.Proofs.YtpimomkkdocgbaaW.PrintMore
set_option linter.unusedVariables false
set_option linter.unusedSimpArgs false

/-! ### Base: rounds, whole numbers, bits, byte strings (no program in sight) -/
theorem Ev.pos {α : Type} {c : Prop} [Decidable c] {g f : Nat → Option α} {r : α} (h : c) (e : Ev g r) : Ev (fun k => if c then g k else f k) r := by
  simpa only [if_pos h] using e
theorem Ev.neg {α : Type} {c : Prop} [Decidable c] {g f : Nat → Option α} {r : α} (h : ¬ c) (e : Ev f r) : Ev (fun k => if c then g k else f k) r := by
  simpa only [if_neg h] using e
theorem Ev.val {α : Type} (r s : α) (h : r = s) : Ev (fun _ => some r) s := by subst h; exact Ev.now _
theorem Ev.val0 {α : Type} {o : Option α} {s : α} (h : o = some s) : Ev (fun _ => o) s := by subst h; exact Ev.now _
theorem Ev.bind0 {α β : Type} {o : Option α} {f : Nat → α → Option β} {a : α} {r : β} (h : o = some a) (k : Ev (fun n => f n a) r) : Ev (fun n => o.bind (f n)) r := by
  subst h; simpa only [Option.bind_some] using k
theorem Ev.and {α β : Type} {g : Nat → Option α} {f : Nat → Option β} {r : α} {s : β} (h : Ev g r) (k : Ev f s) : ∃ K, ∀ n, K ≤ n → g n = some r ∧ f n = some s := by
  obtain ⟨K, h⟩ := h
  obtain ⟨L, k⟩ := k
  exact ⟨max K L, fun n hn => ⟨h n (by omega), k n (by omega)⟩⟩

theorem w64 {x : Int} (h0 : -9223372036854775808 ≤ x) (h1 : x ≤ 9223372036854775807) : wrap64 x = x := by unfold wrap64; omega
theorem wf64 {x : Int} (h : (Lit.int .i64 x).wf = true) : -9223372036854775808 ≤ x ∧ x ≤ 9223372036854775807 := by
  simp [Lit.wf, IntKind.min, IntKind.max, IntKind.signed, IntKind.bits] at h
  omega
theorem tdiv_nn {x y : Int} (h : 0 ≤ x) : Int.tdiv x y = x / y := Int.tdiv_eq_ediv_of_nonneg h
theorem tmod_nn {x y : Int} (h : 0 ≤ x) : Int.tmod x y = x % y := Int.tmod_eq_emod_of_nonneg h

theorem wraps_i64 (n : Int) (h₀ : 0 ≤ n) (h₁ : n < 2 ^ 63) : IntKind.i64.wrap n = n := by rw [IntKind.wrap_i64]; omega
theorem and_mask (i : Nat) (hi : i ≤ 63) (x : Int) (h0 : 0 ≤ x) (h1 : x < 9223372036854775808) : Go.bits .and .i64 x (2 ^ i - 1) = x % 2 ^ i :=
  bits_mask .i64 63 (by decide) wraps_i64 i hi x h0 h1
theorem and127 {x : Int} (h0 : 0 ≤ x) (h1 : x < 9223372036854775808) : Go.bits .and .i64 x 127 = x % 128 := and_mask 7 (by decide) x h0 h1
theorem and255 {x : Int} (h0 : 0 ≤ x) (h1 : x < 9223372036854775808) : Go.bits .and .i64 x 255 = x % 256 := and_mask 8 (by decide) x h0 h1
theorem and1 {x : Int} (h0 : 0 ≤ x) (h1 : x < 9223372036854775808) : Go.bits .and .i64 x 1 = x % 2 := and_mask 1 (by decide) x h0 h1
theorem or_join (i : Nat) (x y : Int) (hx : 0 ≤ x) (hm : x % 2 ^ i = 0) (hx1 : x < 9223372036854775808) (hy : 0 ≤ y) (hy1 : y < 2 ^ i) (hy2 : y < 9223372036854775808) : Go.bits .or .i64 x y = x + y :=
  bits_join .i64 63 (by decide) wraps_i64 i x y hx hm hx1 hy hy1 hy2
theorem bits_or_comm (k : IntKind) (x y : Int) : Go.bits .or k x y = Go.bits .or k y x := by simp only [Go.bits, BitVec.or_comm]
theorem or_join' (i : Nat) (x y : Int) (hx : 0 ≤ x) (hm : x % 2 ^ i = 0) (hx1 : x < 9223372036854775808) (hy : 0 ≤ y) (hy1 : y < 2 ^ i) (hy2 : y < 9223372036854775808) : Go.bits .or .i64 y x = x + y := by
  rw [bits_or_comm]; exact or_join i x y hx hm hx1 hy hy1 hy2
theorem u8_and127 {x : Int} (h0 : 0 ≤ x) (h1 : x < 256) : Go.bits .and .u8 x 127 = x % 128 := bits_mask .u8 8 (by decide) wraps_u8 7 (by decide) x h0 h1
theorem bits_xor_nat (a b : Nat) (ha : a < 2 ^ 63) (hb : b < 2 ^ 63) : Go.bits .xor .i64 a b = ((a ^^^ b : Nat) : Int) := by
  have hp : 2 ^ 63 ≤ 2 ^ IntKind.i64.bits := Nat.pow_le_pow_right (by decide) (by decide)
  have ha' : a % 2 ^ IntKind.i64.bits = a := Nat.mod_eq_of_lt (Nat.lt_of_lt_of_le ha hp)
  have hb' : b % 2 ^ IntKind.i64.bits = b := Nat.mod_eq_of_lt (Nat.lt_of_lt_of_le hb hp)
  simp only [Go.bits, BitVec.ofInt_natCast, BitVec.toNat_xor, BitVec.toNat_ofNat, ha', hb']
  exact wraps_i64 _ (Int.natCast_nonneg _) (by exact_mod_cast Nat.xor_lt_two_pow ha hb)

theorem wbt (s : ByteArray) (i : Int) : wrap64 (bt s i) = bt s i := by have := bt_range s i; exact w64 (by omega) (by omega)
theorem toList_eq {s t : ByteArray} (h : s = t) : s.toList = t.toList := by rw [h]
theorem strOf_append (xs ys : List Int) : strOfNums xs ++ strOfNums ys = strOfNums (xs ++ ys) := by
  apply ByteArray.ext
  rw [ByteArray.data_append]
  simp [strOfNums]
theorem strOf_size (xs : List Int) : (strOfNums xs).size = xs.length := by simp [strOfNums, ByteArray.size]
theorem strOf_nil : (⟨#[]⟩ : ByteArray) = strOfNums [] := rfl
theorem cast_pow256 (d : Nat) : ((256 ^ d : Nat) : Int) = (256 : Int) ^ d := Int.natCast_pow 256 d
theorem lt_pow256 (m d : Nat) : ((m : Int) < 256 ^ d) = (m < 256 ^ d) := by
  rw [← cast_pow256]; exact propext Int.ofNat_lt
theorem pow256_six (i : Int) (h0 : 0 ≤ i) (h1 : i ≤ 6) : (256 : Int) ^ i.toNat ≤ 281474976710656 := by
  obtain rfl | rfl | rfl | rfl | rfl | rfl | rfl : i = 0 ∨ i = 1 ∨ i = 2 ∨ i = 3 ∨ i = 4 ∨ i = 5 ∨ i = 6 := by omega
  all_goals decide

/-! ### Str: a byte string as the list of its numbers -/
def IsB (xs : List Int) : Prop := ∀ x ∈ xs, 0 ≤ x ∧ x ≤ 255
def bl (s : ByteArray) : List Int := s.data.toList.map fun b => (b.toNat : Int)
theorem bl_isB (s : ByteArray) : IsB (bl s) := by
  intro x hx
  simp only [bl, List.mem_map] at hx
  obtain ⟨b, _, rfl⟩ := hx
  have := b.toNat_lt
  omega
theorem bl_length (s : ByteArray) : (bl s).length = s.size := by unfold bl; rw [List.length_map]; rfl
theorem strOf_bl (s : ByteArray) : strOfNums (bl s) = s := by
  apply ByteArray.ext
  apply Array.ext'
  unfold strOfNums bl
  rw [List.map_map]
  have : ((fun n : Int => UInt8.ofNat n.toNat) ∘ fun b : UInt8 => (b.toNat : Int)) = id := by
    funext b
    simp only [Function.comp_apply, Int.toNat_natCast, UInt8.ofNat_toNat, id]
  rw [this, List.map_id]
theorem bl_strOf {xs : List Int} (h : IsB xs) : bl (strOfNums xs) = xs := by
  induction xs with
  | nil => rfl
  | cons a l ih =>
    have ha := h a (by simp)
    have hl := ih (fun x hx => h x (by simp [hx]))
    simp only [bl, strOfNums, List.map_cons, List.toList_toArray] at hl ⊢
    rw [hl]
    congr 1
    simp only [UInt8.toNat_ofNat']
    omega
theorem bl_append (s t : ByteArray) : bl (s ++ t) = bl s ++ bl t := by simp [bl, ByteArray.data_append]
theorem bl_extract (s : ByteArray) (a b : Nat) : bl (s.extract a b) = ((bl s).drop a).take (b - a) := by
  simp [bl, ByteArray.data_extract, List.extract_eq_take_drop, List.map_take, List.map_drop]
theorem bl_inj {s t : ByteArray} (h : bl s = bl t) : s = t := by rw [← strOf_bl s, ← strOf_bl t, h]
theorem tl_iff (s t : ByteArray) : s.toList = t.toList ↔ s = t := by
  constructor
  · intro h
    rw [Go.Lib.toList_data, Go.Lib.toList_data] at h
    exact ByteArray.ext (Array.ext' h)
  · intro h; rw [h]
theorem bt_bl (s : ByteArray) (i : Int) : bt s i = rd (bl s) i := by
  unfold bt rd bl
  split
  · rename_i h
    have h' : i.toNat < s.data.toList.length := h
    rw [List.getD_eq_getElem?_getD, List.getElem?_map, List.getElem?_eq_getElem h']
    simp only [Option.map_some, Option.getD_some]
    rfl
  · rename_i h
    have h' : ¬ i.toNat < s.data.toList.length := h
    rw [List.getD_eq_getElem?_getD, List.getElem?_map, List.getElem?_eq_none (by omega)]
    rfl
theorem bt_nat (s : ByteArray) (i : Nat) (h : i < s.size) : bt s (i : Int) = (bl s)[i]'(by rw [bl_length]; exact h) := by
  rw [bt_bl]
  unfold rd
  rw [Int.toNat_natCast, List.getD_eq_getElem?_getD, List.getElem?_eq_getElem (by rw [bl_length]; exact h)]
  rfl
theorem isB_nil : IsB [] := fun _ h => by cases h
theorem isB_append {xs ys : List Int} (h : IsB xs) (k : IsB ys) : IsB (xs ++ ys) := fun x hx => (List.mem_append.1 hx).elim (h x) (k x)
theorem isB_cons {x : Int} {ys : List Int} (h : 0 ≤ x ∧ x ≤ 255) (k : IsB ys) : IsB (x :: ys) := by
  intro y hy
  rcases List.mem_cons.1 hy with e | e
  · subst e; exact h
  · exact k y e
theorem strOf_inj {xs ys : List Int} (h : IsB xs) (k : IsB ys) (e : strOfNums xs = strOfNums ys) : xs = ys := by
  rw [← bl_strOf h, ← bl_strOf k, e]

/-! ### what Hex and Unhex make -/
def dig16 (d : Int) : Int := bt (⟨#[48, 49, 50, 51, 52, 53, 54, 55, 56, 57, 97, 98, 99, 100, 101, 102]⟩ : ByteArray) d
def hexFrom (s : ByteArray) : Nat → Nat → List Int
  | 0, _ => []
  | d + 1, i => dig16 (bt s (i : Int) / 16) :: dig16 (bt s (i : Int) % 16) :: hexFrom s d (i + 1)
def hexV (s : ByteArray) : List Int := hexFrom s s.size 0
def hv (b : Int) : Int := if 48 ≤ b ∧ b ≤ 57 then b - 48 else if 97 ≤ b ∧ b ≤ 102 then b - 87 else -1
theorem hv_range (b : Int) : -1 ≤ hv b ∧ hv b ≤ 15 := by unfold hv; split <;> (try split) <;> omega
def uhFrom (s : ByteArray) : Nat → Int → List Int → ByteArray × Bool
  | 0, _, xs => (strOfNums xs, true)
  | d + 1, i, xs => if hv (bt s i) < 0 ∨ hv (bt s (i + 1)) < 0 then (strOfNums [], false) else uhFrom s d (i + 2) (xs ++ [16 * hv (bt s i) + hv (bt s (i + 1))])
def unhexV (s : ByteArray) : ByteArray × Bool := if s.size % 2 = 1 then (strOfNums [], false) else uhFrom s (s.size / 2) 0 []
theorem and15u {x : Int} (h0 : 0 ≤ x) (h1 : x < 256) : Go.bits .and .u8 x 15 = x % 16 := bits_mask .u8 8 (by decide) wraps_u8 4 (by decide) x h0 h1

theorem spec_l1Digit_eq {d : Int} (h0 : 0 ≤ d) (h1 : d < 16) : spec_l1Digit.f d = some (dig16 d) := by
  unfold spec_l1Digit.f; rw [if_pos h0, if_pos h1]; rfl

def hvFrom (b : Int) : Nat → Int → Int
  | 0, _ => -1
  | d + 1, j => if dig16 j = b then j else hvFrom b d (j + 1)
set_option maxHeartbeats 2000000 in
theorem hvFrom_eq (b : Int) : hvFrom b 16 0 = hv b := by
  have e0 : dig16 0 = 48 := by decide
  have e1 : dig16 1 = 49 := by decide
  have e2 : dig16 2 = 50 := by decide
  have e3 : dig16 3 = 51 := by decide
  have e4 : dig16 4 = 52 := by decide
  have e5 : dig16 5 = 53 := by decide
  have e6 : dig16 6 = 54 := by decide
  have e7 : dig16 7 = 55 := by decide
  have e8 : dig16 8 = 56 := by decide
  have e9 : dig16 9 = 57 := by decide
  have e10 : dig16 10 = 97 := by decide
  have e11 : dig16 11 = 98 := by decide
  have e12 : dig16 12 = 99 := by decide
  have e13 : dig16 13 = 100 := by decide
  have e14 : dig16 14 = 101 := by decide
  have e15 : dig16 15 = 102 := by decide
  simp only [hvFrom, Int.zero_add, Int.reduceAdd, e0, e1, e2, e3, e4, e5, e6, e7, e8, e9, e10, e11, e12, e13, e14, e15]
  unfold hv
  repeat' split
  all_goals omega
theorem spec_l1FromHex_l0 (b : Int) (d : Nat) : ∀ (j : Int), j + d = 16 → 0 ≤ j → Ev (fun k => spec_l1FromHex.l0 k b j) (hvFrom b d j) := by
  induction d with
  | zero =>
    intro j hj h0
    refine Ev.step (fun k => by rw [spec_l1FromHex.l0]) ?_
    exact Ev.neg (by omega) (Ev.now _)
  | succ d ih =>
    intro j hj h0
    refine Ev.step (fun k => by rw [spec_l1FromHex.l0]) ?_
    refine Ev.pos (by omega) (Ev.bind0 (spec_l1Digit_eq h0 (by omega)) ?_)
    rw [hvFrom]
    by_cases c : dig16 j = b
    · rw [if_pos c]; exact Ev.pos c (Ev.now _)
    · rw [if_neg c]
      refine Ev.neg c ?_
      rw [w64 (by omega) (by omega)]
      exact ih (j + 1) (by omega) (by omega)
theorem spec_l1FromHex_ev (b : Int) : Ev (fun k => spec_l1FromHex.f k b) (hv b) := by
  unfold spec_l1FromHex.f
  rw [← hvFrom_eq]
  exact spec_l1FromHex_l0 b 16 0 (by omega) (by omega)
theorem spec_Unhex_l0 (s : ByteArray) (hs : s.size ≤ 1048576) (d : Nat) : ∀ (i : Nat) (xs : List Int), i + 2 * d = s.size → xs.length ≤ i → Ev (fun k => spec_Unhex.l0 k s xs (i : Int)) (uhFrom s d i xs) := by
  induction d with
  | zero =>
    intro i xs hi hx
    refine Ev.step (fun k => by rw [spec_Unhex.l0]) ?_
    exact Ev.neg (by omega) (Ev.now _)
  | succ d ih =>
    intro i xs hi hx
    have ha := hv_range (bt s (i : Int))
    have hb := hv_range (bt s ((i : Int) + 1))
    refine Ev.step (fun k => by rw [spec_Unhex.l0]) ?_
    rw [w64 (x := (i : Int) + 1) (by omega) (by omega), uhFrom]
    refine Ev.pos (by omega) (Ev.pos (by omega) (Ev.bind (spec_l1FromHex_ev _) (Ev.pos (by omega) (Ev.pos (by omega) (Ev.bind (spec_l1FromHex_ev _) ?_)))))
    by_cases c1 : hv (bt s (i : Int)) < 0
    · rw [if_pos (.inl c1)]; exact Ev.pos c1 (Ev.now _)
    · refine Ev.neg c1 ?_
      by_cases c2 : hv (bt s ((i : Int) + 1)) < 0
      · rw [if_pos (.inr c2)]; exact Ev.pos c2 (Ev.now _)
      · rw [if_neg (by omega)]
        refine Ev.neg c2 (Ev.pos (by omega) ?_)
        rw [w64 (x := 16 * hv (bt s (i : Int))) (by omega) (by omega), w64 (x := 16 * hv (bt s (i : Int)) + hv (bt s ((i : Int) + 1))) (by omega) (by omega), w64 (by omega) (by omega), Int.emod_eq_of_lt (by omega) (by omega)]
        exact ih (i + 2) _ (by omega) (by simp; omega)
theorem spec_Unhex_ev (s : ByteArray) (hs : s.size ≤ 1048576) : Ev (fun k => spec_Unhex.f k s) (unhexV s) := by
  unfold spec_Unhex.f unhexV
  by_cases c : s.size % 2 = 1
  · rw [if_pos c]; exact Ev.pos (by omega) (Ev.now _)
  · rw [if_neg c]
    refine Ev.neg (by omega) ?_
    exact spec_Unhex_l0 s hs (s.size / 2) 0 [] (by omega) (by simp)

theorem impl_hexValue_ev (b : Int) (h0 : 0 ≤ b) (h1 : b ≤ 255) : Ev (fun k => impl_hexValue.f k b) (hv b) := by
  have j : ∀ t : Bool, (t = true → 48 ≤ b ∧ b ≤ 57) → (t = false → ¬ (48 ≤ b ∧ b ≤ 57)) → Ev (fun k => impl_hexValue.j0 k b t) (hv b) := by
    intro t ht hf
    refine Ev.step (fun k => by rw [impl_hexValue.j0]) ?_
    unfold hv
    cases t with
    | true =>
      have := ht rfl
      rw [if_pos this]
      exact Ev.pos rfl (Ev.val _ _ (by omega))
    | false =>
      rw [if_neg (hf rfl)]
      refine Ev.neg (by simp) ?_
      by_cases c : 97 ≤ b
      · refine Ev.pos c ?_
        by_cases c2 : b ≤ 102
        · rw [if_pos (show 97 ≤ b ∧ b ≤ 102 from ⟨c, c2⟩)]; exact Ev.pos c2 (Ev.val _ _ (by omega))
        · rw [if_neg (show ¬ (97 ≤ b ∧ b ≤ 102) by omega)]; exact Ev.neg c2 (Ev.now _)
      · rw [if_neg (show ¬ (97 ≤ b ∧ b ≤ 102) by omega)]; exact Ev.neg c (Ev.now _)
  unfold impl_hexValue.f
  by_cases c : b ≥ 48
  · exact Ev.pos c (j _ (fun h => ⟨c, by simpa using h⟩) (fun h => by simp at h; omega))
  · exact Ev.neg c (j _ (fun h => by cases h) (fun _ => by omega))
theorem or16 (a b : Int) (ha : 0 ≤ a) (ha2 : a ≤ 15) (hb : 0 ≤ b) (hb2 : b ≤ 15) : Go.bits .or .i64 (wrap64 (a * 16)) b = 16 * a + b := by
  rw [w64 (by omega) (by omega), or_join 4 (a * 16) b (by omega) (by omega) (by omega) hb (by omega) (by omega)]; omega
theorem impl_Unhex_l0 (s : ByteArray) (hs : s.size ≤ 1048576) (d : Nat) : ∀ (i : Nat) (xs : List Int), i + 2 * d = s.size → xs.length ≤ i → Ev (fun k => impl_Unhex.l0 k s xs (i : Int)) (uhFrom s d i xs) := by
  induction d with
  | zero =>
    intro i xs hi hx
    refine Ev.step (fun k => by rw [impl_Unhex.l0]) ?_
    exact Ev.neg (by omega) (Ev.now _)
  | succ d ih =>
    intro i xs hi hx
    have ha := hv_range (bt s (i : Int))
    have hb := hv_range (bt s ((i : Int) + 1))
    have ra := bt_range s (i : Int)
    have rb := bt_range s ((i : Int) + 1)
    refine Ev.step (fun k => by rw [impl_Unhex.l0]) ?_
    rw [w64 (x := (i : Int) + 1) (by omega) (by omega), uhFrom]
    refine Ev.pos (by omega) (Ev.pos (by omega) (Ev.bind (impl_hexValue_ev _ ra.1 ra.2) (Ev.pos (by omega) (Ev.pos (by omega) (Ev.bind (impl_hexValue_ev _ rb.1 rb.2) ?_)))))
    by_cases c1 : hv (bt s (i : Int)) < 0
    · rw [if_pos (.inl c1)]; exact Ev.pos c1 (Ev.now _)
    · refine Ev.neg c1 ?_
      by_cases c2 : hv (bt s ((i : Int) + 1)) < 0
      · rw [if_pos (.inr c2)]; exact Ev.pos c2 (Ev.now _)
      · rw [if_neg (by omega)]
        refine Ev.neg c2 (Ev.pos (by omega) ?_)
        rw [or16 _ _ (by omega) (by omega) (by omega) (by omega), w64 (by omega) (by omega), Int.emod_eq_of_lt (by omega) (by omega)]
        exact ih (i + 2) _ (by omega) (by simp; omega)
theorem impl_Unhex_ev (s : ByteArray) (hs : s.size ≤ 1048576) : Ev (fun k => impl_Unhex.f k s) (unhexV s) := by
  unfold impl_Unhex.f unhexV
  by_cases c : s.size % 2 = 1
  · rw [if_pos c]; exact Ev.neg (by omega) (Ev.now _)
  · rw [if_neg c, w64 (by omega) (by omega)]
    refine Ev.pos (by omega) (Ev.pos (by omega) (Ev.pos (by omega) ?_))
    exact impl_Unhex_l0 s hs (s.size / 2) 0 [] (by omega) (by simp)

theorem FnExactUnhex : laws_FnExactUnhex.Pure := by
  intro a0 h0
  refine Ev.rounds (g := fun k => laws_FnExactUnhex.f k a0) ?_
  unfold laws_FnExactUnhex.f
  by_cases c : (a0.size : Int) > 1048576
  · exact Ev.pos c (Ev.now _)
  · exact Ev.neg c (Ev.bind (spec_Unhex_ev a0 (by omega)) (Ev.bind (impl_Unhex_ev a0 (by omega)) (Ev.pos rfl (Ev.neg (by simp) (Ev.now _)))))

end Go.Proofs.Ytpimomkkdocgbaa.Pure
