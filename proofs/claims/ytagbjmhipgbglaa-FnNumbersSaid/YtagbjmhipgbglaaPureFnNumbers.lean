/- The pure statement of the law FnNumbers is proved: for all arguments within the stated bounds the printed function answers true. Conditions: none beyond those bounds. -/
import Derived.Test.YtagbjmhipgbglaaPFnNumbersx6
import Derived.Laws.BitsLemmas
import Derived.Lib.Strings
namespace Go.Proofs.Ytagbjmhipgbglaa.Pure
open Go Go.RowKit Go.Proofs.Ytagbjmhipgbglaa.PFnNumbers Go.Proofs.YtagbjmhipgbglaaW.PrintWords Go.Proofs.YtagbjmhipgbglaaW.PrintLast Go.Proofs.YtagbjmhipgbglaaW.PrintMore
set_option linter.unusedVariables false
set_option linter.unusedSimpArgs false

/-! ### Base: rounds, whole numbers, bits, byte strings (no program in sight) -/
theorem Ev.pos {α : Type} {c : Prop} [Decidable c] {g f : Nat → Option α} {r : α} (h : c) (e : Ev g r) : Ev (fun k => if c then g k else f k) r := by
  simpa only [if_pos h] using e
theorem Ev.neg {α : Type} {c : Prop} [Decidable c] {g f : Nat → Option α} {r : α} (h : ¬ c) (e : Ev f r) : Ev (fun k => if c then g k else f k) r := by
  simpa only [if_neg h] using e
theorem Ev.val {α : Type} (r s : α) (h : r = s) : Ev (fun _ => some r) s := by subst h; exact Ev.now _
theorem Ev.val0 {α : Type} {o : Option α} {s : α} (h : o = some s) : Ev (fun _ => o) s := by subst h; exact Ev.now _
theorem Ev.bind0 {α β : Type} {o : Option α} {f : Nat → α → Option β} {a : α} {r : β} (h : o = some a) (k : Ev (fun n => f n a) r) : Ev (fun n => o.bind (f n)) r := by
  subst h; simpa only [Option.bind_some] using k
theorem Ev.and {α β : Type} {g : Nat → Option α} {f : Nat → Option β} {r : α} {s : β} (h : Ev g r) (k : Ev f s) : ∃ K, ∀ n, K ≤ n → g n = some r ∧ f n = some s := by
  obtain ⟨K, h⟩ := h
  obtain ⟨L, k⟩ := k
  exact ⟨max K L, fun n hn => ⟨h n (by omega), k n (by omega)⟩⟩

theorem Ev.ite {α : Type} {c d : Prop} [Decidable c] [Decidable d] {g f : Nat → Option α} {a b : α} (h : c ↔ d) (e : d → Ev g a) (e' : ¬ d → Ev f b) : Ev (fun k => if c then g k else f k) (if d then a else b) := by
  by_cases x : d
  · rw [if_pos x]; exact Ev.pos (h.2 x) (e x)
  · rw [if_neg x]; exact Ev.neg (fun y => x (h.1 y)) (e' x)
theorem w64 {x : Int} (h0 : -9223372036854775808 ≤ x) (h1 : x ≤ 9223372036854775807) : wrap64 x = x := by unfold wrap64; omega
theorem wf64 {x : Int} (h : (Lit.int .i64 x).wf = true) : -9223372036854775808 ≤ x ∧ x ≤ 9223372036854775807 := by
  simp [Lit.wf, IntKind.min, IntKind.max, IntKind.signed, IntKind.bits] at h
  omega
theorem tdiv_nn {x y : Int} (h : 0 ≤ x) : Int.tdiv x y = x / y := Int.tdiv_eq_ediv_of_nonneg h
theorem tmod_nn {x y : Int} (h : 0 ≤ x) : Int.tmod x y = x % y := Int.tmod_eq_emod_of_nonneg h

theorem wraps_i64 (n : Int) (h₀ : 0 ≤ n) (h₁ : n < 2 ^ 63) : IntKind.i64.wrap n = n := by rw [IntKind.wrap_i64]; omega
theorem and_mask (i : Nat) (hi : i ≤ 63) (x : Int) (h0 : 0 ≤ x) (h1 : x < 9223372036854775808) : Go.bits .and .i64 x (2 ^ i - 1) = x % 2 ^ i :=
  bits_mask .i64 63 (by decide) wraps_i64 i hi x h0 h1
theorem and127 {x : Int} (h0 : 0 ≤ x) (h1 : x < 9223372036854775808) : Go.bits .and .i64 x 127 = x % 128 := and_mask 7 (by decide) x h0 h1
theorem and255 {x : Int} (h0 : 0 ≤ x) (h1 : x < 9223372036854775808) : Go.bits .and .i64 x 255 = x % 256 := and_mask 8 (by decide) x h0 h1
theorem and1 {x : Int} (h0 : 0 ≤ x) (h1 : x < 9223372036854775808) : Go.bits .and .i64 x 1 = x % 2 := and_mask 1 (by decide) x h0 h1
theorem or_join (i : Nat) (x y : Int) (hx : 0 ≤ x) (hm : x % 2 ^ i = 0) (hx1 : x < 9223372036854775808) (hy : 0 ≤ y) (hy1 : y < 2 ^ i) (hy2 : y < 9223372036854775808) : Go.bits .or .i64 x y = x + y :=
  bits_join .i64 63 (by decide) wraps_i64 i x y hx hm hx1 hy hy1 hy2
theorem bits_or_comm (k : IntKind) (x y : Int) : Go.bits .or k x y = Go.bits .or k y x := by simp only [Go.bits, BitVec.or_comm]
theorem or_join' (i : Nat) (x y : Int) (hx : 0 ≤ x) (hm : x % 2 ^ i = 0) (hx1 : x < 9223372036854775808) (hy : 0 ≤ y) (hy1 : y < 2 ^ i) (hy2 : y < 9223372036854775808) : Go.bits .or .i64 y x = x + y := by
  rw [bits_or_comm]; exact or_join i x y hx hm hx1 hy hy1 hy2
theorem u8_and127 {x : Int} (h0 : 0 ≤ x) (h1 : x < 256) : Go.bits .and .u8 x 127 = x % 128 := bits_mask .u8 8 (by decide) wraps_u8 7 (by decide) x h0 h1
theorem bits_xor_nat (a b : Nat) (ha : a < 2 ^ 63) (hb : b < 2 ^ 63) : Go.bits .xor .i64 a b = ((a ^^^ b : Nat) : Int) := by
  have hp : 2 ^ 63 ≤ 2 ^ IntKind.i64.bits := Nat.pow_le_pow_right (by decide) (by decide)
  have ha' : a % 2 ^ IntKind.i64.bits = a := Nat.mod_eq_of_lt (Nat.lt_of_lt_of_le ha hp)
  have hb' : b % 2 ^ IntKind.i64.bits = b := Nat.mod_eq_of_lt (Nat.lt_of_lt_of_le hb hp)
  simp only [Go.bits, BitVec.ofInt_natCast, BitVec.toNat_xor, BitVec.toNat_ofNat, ha', hb']
  exact wraps_i64 _ (Int.natCast_nonneg _) (by exact_mod_cast Nat.xor_lt_two_pow ha hb)

theorem wbt (s : ByteArray) (i : Int) : wrap64 (bt s i) = bt s i := by have := bt_range s i; exact w64 (by omega) (by omega)
theorem toList_eq {s t : ByteArray} (h : s = t) : s.toList = t.toList := by rw [h]
theorem strOf_append (xs ys : List Int) : strOfNums xs ++ strOfNums ys = strOfNums (xs ++ ys) := by
  apply ByteArray.ext
  rw [ByteArray.data_append]
  simp [strOfNums]
theorem strOf_size (xs : List Int) : (strOfNums xs).size = xs.length := by simp [strOfNums, ByteArray.size]
theorem strOf_nil : (⟨#[]⟩ : ByteArray) = strOfNums [] := rfl
theorem cast_pow256 (d : Nat) : ((256 ^ d : Nat) : Int) = (256 : Int) ^ d := Int.natCast_pow 256 d
theorem lt_pow256 (m d : Nat) : ((m : Int) < 256 ^ d) = (m < 256 ^ d) := by
  rw [← cast_pow256]; exact propext Int.ofNat_lt
theorem pow256_six (i : Int) (h0 : 0 ≤ i) (h1 : i ≤ 6) : (256 : Int) ^ i.toNat ≤ 281474976710656 := by
  obtain rfl | rfl | rfl | rfl | rfl | rfl | rfl : i = 0 ∨ i = 1 ∨ i = 2 ∨ i = 3 ∨ i = 4 ∨ i = 5 ∨ i = 6 := by omega
  all_goals decide

theorem spec_l1New_ex (l : List Int) : ∃ h, Ev (fun k => spec_l1New.f k l) (l, 0, h) := by
  have key : ∀ (d i : Nat) (h : Int), i + d = 4000 → ∃ h', Ev (fun k => spec_l1New.l0 k l h (i : Int)) (l, 0, h') := by
    intro d
    induction d with
    | zero =>
      intro i h hi
      by_cases c : (i : Int) < (l.length : Int)
      · exact ⟨h, Ev.step (fun k => by rw [spec_l1New.l0]) (Ev.pos c (Ev.neg (by omega) (Ev.now _)))⟩
      · exact ⟨h, Ev.step (fun k => by rw [spec_l1New.l0]) (Ev.neg c (Ev.now _))⟩
    | succ d ih =>
      intro i h hi
      by_cases c : (i : Int) < (l.length : Int)
      · obtain ⟨h', e⟩ := ih (i + 1) (Go.bits .and .i64 (wrap64 ((wrap64 ((wrap64 (h * 131)) + (wrap64 (rd l (i : Int))))) + 7)) 1073741823) (by omega)
        have e1 : ((i + 1 : Nat) : Int) = (i : Int) + 1 := by omega
        rw [e1] at e
        refine ⟨h', Ev.step (fun k => by rw [spec_l1New.l0]) (Ev.pos c (Ev.pos (by omega) (Ev.pos (by omega) ?_)))⟩
        rw [w64 (x := (i : Int) + 1) (by omega) (by omega)]
        exact e
      · exact ⟨h, Ev.step (fun k => by rw [spec_l1New.l0]) (Ev.neg c (Ev.now _))⟩
  unfold spec_l1New.f
  exact key 4000 0 _ (by omega)

theorem and255_range (x : Int) : 0 ≤ Go.bits .and .i64 x 255 ∧ Go.bits .and .i64 x 255 ≤ 255 := by
  have h : ((BitVec.ofInt IntKind.i64.bits x &&& BitVec.ofInt IntKind.i64.bits 255).toNat : Int) ≤ 255 := by
    have e : (BitVec.ofInt IntKind.i64.bits (255 : Int)).toNat = 255 := by decide
    rw [BitVec.toNat_and, e]
    have := @Nat.and_le_right (BitVec.ofInt IntKind.i64.bits x).toNat 255
    omega
  simp only [Go.bits]
  rw [wraps_i64 _ (Int.natCast_nonneg _) (by omega)]
  exact ⟨Int.natCast_nonneg _, h⟩
/-- a place in what a draw reads -/
abbrev curP (b : List Int) (i : Int) : Prop := 0 ≤ i ∧ i ≤ b.length
theorem spec_l1Byte_ex (b : List Int) (hb : b.length ≤ 4000000) (i h : Int) (hi : curP b i) : ∃ x i' h', spec_l1Byte.f b i h = some (x, i', h') ∧ (0 ≤ x ∧ x ≤ 255) ∧ curP b i' := by
  unfold spec_l1Byte.f
  by_cases c : i < (b.length : Int)
  · rw [if_pos c, if_pos hi.1]
    exact ⟨_, _, _, rfl, and255_range _, by rw [w64 (by omega) (by omega)]; exact ⟨by omega, by omega⟩⟩
  · rw [if_neg c]
    exact ⟨_, _, _, rfl, and255_range _, hi⟩

theorem spec_l1Below_ex (b : List Int) (hb : b.length ≤ 4000000) (i h : Int) (hi : curP b i) (n : Int) : ∃ x i' h', spec_l1Below.f b i h n = some (x, i', h') ∧ (0 ≤ x ∧ (n ≤ 0 → x = 0) ∧ (0 < n → x < n)) ∧ curP b i' := by
  unfold spec_l1Below.f
  by_cases c : n ≤ 0
  · rw [if_pos c]; exact ⟨0, i, h, rfl, ⟨by omega, fun _ => rfl, fun e => by omega⟩, hi⟩
  · rw [if_neg c]
    by_cases c2 : n ≤ 256
    · rw [if_pos c2]
      obtain ⟨x, i', h', e, hx, hi'⟩ := spec_l1Byte_ex b hb i h hi
      rw [e]
      simp only [Option.bind_some]
      rw [if_neg (show ¬ n = 0 by omega)]
      refine ⟨_, _, _, rfl, ?_, hi'⟩
      rw [tmod_nn hx.1]
      have h1 := Int.emod_nonneg x (show n ≠ 0 by omega)
      have h2 := Int.emod_lt_of_pos x (show 0 < n by omega)
      exact ⟨h1, fun e => by omega, fun _ => h2⟩
    · rw [if_neg c2]
      obtain ⟨x, i1, h1, e1, hx, hi1⟩ := spec_l1Byte_ex b hb i h hi
      obtain ⟨y, i2, h2, e2, hy, hi2⟩ := spec_l1Byte_ex b hb i1 h1 hi1
      obtain ⟨z, i3, h3, e3, hz, hi3⟩ := spec_l1Byte_ex b hb i2 h2 hi2
      obtain ⟨w, i4, h4, e4, hw, hi4⟩ := spec_l1Byte_ex b hb i3 h3 hi3
      simp only [e1, e2, e3, e4, Option.bind_some]
      rw [if_neg (show ¬ n = 0 by omega)]
      refine ⟨_, _, _, rfl, ?_, hi4⟩
      rw [w64 (x := x * 16777216) (by omega) (by omega), w64 (x := y * 65536) (by omega) (by omega), w64 (x := z * 256) (by omega) (by omega), w64 (x := x * 16777216 + y * 65536) (by omega) (by omega), w64 (x := x * 16777216 + y * 65536 + z * 256) (by omega) (by omega), w64 (x := x * 16777216 + y * 65536 + z * 256 + w) (by omega) (by omega), tmod_nn (by omega)]
      have g1 := Int.emod_nonneg (x * 16777216 + y * 65536 + z * 256 + w) (show n ≠ 0 by omega)
      have g2 := Int.emod_lt_of_pos (x * 16777216 + y * 65536 + z * 256 + w) (show 0 < n by omega)
      exact ⟨g1, fun e => by omega, fun _ => g2⟩

theorem spec_l1Text_l0 (b : List Int) (hb : b.length ≤ 4000000) (md : Int) (d : Nat) : ∀ (xs : List Int) (i h : Int), curP b i → xs.length + d ≤ 1048576 →
    ∃ s i' h', Ev (fun k => spec_l1Text.l0 k xs md (d : Int) b i h) (s, i', h') ∧ s.size = xs.length + d ∧ curP b i' := by
  induction d with
  | zero =>
    intro xs i h hi _
    exact ⟨_, _, _, Ev.step (fun k => by rw [spec_l1Text.l0]) (Ev.neg (by omega) (Ev.now _)), by rw [strOf_size]; rfl, hi⟩
  | succ d ih =>
    intro xs i h hi hx
    obtain ⟨x, i', h', e, hr, hi'⟩ := spec_l1Byte_ex b hb i h hi
    have ed : wrap64 (((d + 1 : Nat) : Int) - 1) = (d : Int) := by rw [w64 (by omega) (by omega)]; omega
    have go (v : Int) := ih (xs ++ [v]) i' h' hi' (by simp; omega)
    have hlen (v : Int) : (xs ++ [v]).length + d = xs.length + (d + 1) := by simp; omega
    by_cases c1 : md = 1
    · by_cases c2 : md = 2
      · omega
      · obtain ⟨s, i2, h2, e2, hs, hi2⟩ := go ((Int.tmod x 2) % 256)
        refine ⟨s, i2, h2, Ev.step (fun k => by rw [spec_l1Text.l0]) (Ev.pos (by omega) (Ev.bind0 e (Ev.pos c1 (Ev.neg c2 (Ev.pos (show xs.length < 140737488355328 by omega) ?_))))), by rw [hs]; exact hlen _, hi2⟩
        rw [ed]; exact e2
    · by_cases c2 : md = 2
      · obtain ⟨s, i2, h2, e2, hs, hi2⟩ := go ((wrap64 (97 + (Int.tmod x 4))) % 256)
        refine ⟨s, i2, h2, Ev.step (fun k => by rw [spec_l1Text.l0]) (Ev.pos (by omega) (Ev.bind0 e (Ev.neg c1 (Ev.pos c2 (Ev.pos (show xs.length < 140737488355328 by omega) ?_))))), by rw [hs]; exact hlen _, hi2⟩
        rw [ed]; exact e2
      · obtain ⟨s, i2, h2, e2, hs, hi2⟩ := go (x % 256)
        refine ⟨s, i2, h2, Ev.step (fun k => by rw [spec_l1Text.l0]) (Ev.pos (by omega) (Ev.bind0 e (Ev.neg c1 (Ev.neg c2 (Ev.pos (show xs.length < 140737488355328 by omega) ?_))))), by rw [hs]; exact hlen _, hi2⟩
        rw [ed]; exact e2
theorem spec_l1Text_ex (b : List Int) (hb : b.length ≤ 4000000) (i h : Int) (hi : curP b i) (n : Int) (h0 : 0 ≤ n) (hn : n ≤ 1000000) :
    ∃ s i' h', Ev (fun k => spec_l1Text.f k b i h n) (s, i', h') ∧ (s.size : Int) ≤ n ∧ curP b i' := by
  obtain ⟨x, i1, h1, e1, _, hi1⟩ := spec_l1Below_ex b hb i h hi 4
  obtain ⟨y, i2, h2, e2, hy, hi2⟩ := spec_l1Below_ex b hb i1 h1 hi1 (n + 1)
  obtain ⟨m, rfl⟩ := Int.eq_ofNat_of_zero_le hy.1
  have hm := hy.2.2 (by omega)
  obtain ⟨s, i3, h3, e3, hs, hi3⟩ := spec_l1Text_l0 b hb x m [] i2 h2 hi2 (by simp; omega)
  refine ⟨s, i3, h3, ?_, by rw [hs]; simp; omega, hi3⟩
  unfold spec_l1Text.f
  rw [w64 (by omega) (by omega)]
  exact Ev.bind0 e1 (Ev.bind0 e2 e3)

theorem spec_DrawHex_ex (l : List Int) (hl : l.length ≤ 4000000) : ∃ s, Ev (fun k => spec_DrawHex.f k l) s ∧ s.size ≤ 40 := by
  obtain ⟨h, e⟩ := spec_l1New_ex l
  obtain ⟨s, i, h2, e2, hs, _⟩ := spec_l1Text_ex l hl 0 h ⟨by omega, by omega⟩ 40 (by omega) (by omega)
  refine ⟨s, ?_, by omega⟩
  unfold spec_DrawHex.f
  exact Ev.bind e (Ev.bind e2 (Ev.now _))

theorem rd_get (l : List Int) (i : Nat) (h : i < l.length) : rd l (i : Int) = l[i] := by
  unfold rd
  rw [Int.toNat_natCast, List.getD_eq_getElem?_getD, List.getElem?_eq_getElem h]; rfl
theorem rd_drop (l : List Int) (i : Nat) (h : i < l.length) : l.drop i = rd l (i : Int) :: l.drop (i + 1) := by
  rw [rd_get l i h]; exact List.drop_eq_getElem_cons h

theorem spec_l1PickInt_ex (b : List Int) (hb : b.length ≤ 4000000) (i h : Int) (hi : curP b i) (l : List Int) (hl : 0 < l.length) : ∃ x i' h', spec_l1PickInt.f b i h l = some (x, i', h') ∧ x ∈ l ∧ curP b i' := by
  obtain ⟨x, i1, h1, e, hx, hi1⟩ := spec_l1Below_ex b hb i h hi (l.length : Int)
  have hx2 := hx.2.2 (by omega)
  obtain ⟨n, rfl⟩ := Int.eq_ofNat_of_zero_le hx.1
  refine ⟨rd l (n : Int), i1, h1, ?_, ?_, hi1⟩
  · unfold spec_l1PickInt.f
    rw [e]
    simp only [Option.bind_some]
    rw [if_pos hx.1, if_pos hx2]
  · rw [rd_get l n (by omega)]; exact List.getElem_mem _
theorem spec_l1Num_ex (b : List Int) (hb : b.length ≤ 4000000) (i h : Int) (hi : curP b i) : ∃ x i' h', spec_l1Num.f b i h = some (x, i', h') ∧ (-9223372036854775808 ≤ x ∧ x ≤ 9223372036854775807) ∧ curP b i' := by
  obtain ⟨x, i1, h1, e, hx, hi1⟩ := spec_l1Below_ex b hb i h hi 8
  unfold spec_l1Num.f
  rw [e]
  simp only [Option.bind_some]
  by_cases c0 : x = 0
  · rw [if_pos c0]
    obtain ⟨y, i2, h2, e2, hy, hi2⟩ := spec_l1PickInt_ex b hb i1 h1 hi1 [(-1), 0, 127, 128, 255, 256, 16383, 16384, 65535, 65536, 562949953421311, 562949953421312, 999999999, 1000000000, (-999999999), 9223372036854775807, (-9223372036854775808)] (by decide)
    rw [e2]
    refine ⟨y, i2, h2, rfl, ?_, hi2⟩
    have : ∀ y ∈ [(-1 : Int), 0, 127, 128, 255, 256, 16383, 16384, 65535, 65536, 562949953421311, 562949953421312, 999999999, 1000000000, (-999999999), 9223372036854775807, (-9223372036854775808)], -9223372036854775808 ≤ y ∧ y ≤ 9223372036854775807 := by decide
    exact this y hy
  · rw [if_neg c0]
    by_cases c1 : x = 1
    · rw [if_pos c1]
      obtain ⟨y, i2, h2, e2, hy, hi2⟩ := spec_l1Below_ex b hb i1 h1 hi1 1000000000
      obtain ⟨z, i3, h3, e3, hz, hi3⟩ := spec_l1Below_ex b hb i2 h2 hi2 1000000000
      simp only [e2, e3, Option.bind_some]
      refine ⟨_, _, _, rfl, ?_, hi3⟩
      unfold wrap64; omega
    · rw [if_neg c1]
      by_cases c2 : x = 2
      · rw [if_pos c2]
        obtain ⟨y, i2, h2, e2, hy, hi2⟩ := spec_l1Below_ex b hb i1 h1 hi1 100000
        simp only [e2, Option.bind_some]
        refine ⟨_, _, _, rfl, ?_, hi2⟩
        unfold wrap64; omega
      · rw [if_neg c2]
        obtain ⟨y, i2, h2, e2, hy, hi2⟩ := spec_l1Below_ex b hb i1 h1 hi1 70000
        simp only [e2, Option.bind_some]
        have := hy.2.2 (by omega)
        exact ⟨_, _, _, rfl, ⟨by omega, by omega⟩, hi2⟩

theorem spec_l1Once_ex (b : List Int) (hb : b.length ≤ 4000000) (i h : Int) (hi : curP b i) (n : Int) : ∃ x i' h', spec_l1Once.f b i h n = some (x, i', h') ∧ curP b i' := by
  obtain ⟨x, i1, h1, e, hx, hi1⟩ := spec_l1Below_ex b hb i h hi n
  refine ⟨x == 0, i1, h1, ?_, hi1⟩
  unfold spec_l1Once.f; rw [e]; rfl

theorem spec_l1Spoil_ex (b : List Int) (hb : b.length ≤ 4000000) (i h : Int) (hi : curP b i) (s : ByteArray) (hs : s.size ≤ 4000000) :
    ∃ t i' h', Ev (fun k => spec_l1Spoil.f k b i h s) (t, i', h') ∧ t.size ≤ s.size + 3 ∧ curP b i' := by
  by_cases c : (s.size : Int) = 0
  · obtain ⟨t, i1, h1, e, ht, hi1⟩ := spec_l1Text_ex b hb i h hi 3 (by omega) (by omega)
    refine ⟨t, i1, h1, ?_, by omega, hi1⟩
    simp only [spec_l1Spoil.f, if_pos c]
    exact Ev.bind e (Ev.now _)
  · obtain ⟨x, i1, h1, e1, hx, hi1⟩ := spec_l1Below_ex b hb i h hi (s.size : Int)
    obtain ⟨y, i2, h2, e2, hy, hi2⟩ := spec_l1Below_ex b hb i1 h1 hi1 4
    have hx2 := hx.2.2 (by omega)
    obtain ⟨n, rfl⟩ := Int.eq_ofNat_of_zero_le hx.1
    have hn : n < s.size := by omega
    clear hx hx2
    have z1 : (s.extract 0 n).size = n := by rw [ByteArray.size_extract]; omega
    have z2 : (s.extract (n + 1) s.size).size = s.size - (n + 1) := by rw [ByteArray.size_extract]; omega
    have z3 : (s.extract n s.size).size = s.size - n := by rw [ByteArray.size_extract]; omega
    have z4 (v : Int) : (strOfNums [v]).size = 1 := by rw [strOf_size]; rfl
    have z5 (v : Int) : (s.extract 0 n ++ strOfNums [v]).size = n + 1 := by rw [ByteArray.size_append, z1, z4]
    have z6 : (s.extract 0 n ++ s.extract (n + 1) s.size).size = n + (s.size - (n + 1)) := by rw [ByteArray.size_append, z1, z2]
    have z7 (v : Int) : (s.extract 0 n ++ strOfNums [v] ++ s.extract n s.size).size = n + 1 + (s.size - n) := by rw [ByteArray.size_append, z5, z3]
    have z8 (v : Int) : (s.extract 0 n ++ strOfNums [v] ++ s.extract (n + 1) s.size).size = n + 1 + (s.size - (n + 1)) := by rw [ByteArray.size_append, z5, z2]
    have p1 : (0 : Int) ≤ (n : Int) := by omega
    have p2 : (n : Int) ≤ (s.size : Int) := by omega
    have p2' : (n : Int) < (s.size : Int) := by omega
    have p3 : (0 : Int) ≤ ((n + 1 : Nat) : Int) := by omega
    have p4 : ((n + 1 : Nat) : Int) ≤ (s.size : Int) := by omega
    have p5 : (s.extract 0 n).size + (s.extract (n + 1) s.size).size ≤ 9223372036854775807 := by rw [z1, z2]; omega
    have p6 (v : Int) : (s.extract 0 n).size + (strOfNums [v]).size ≤ 9223372036854775807 := by rw [z1, z4]; omega
    have p7 (v : Int) : (s.extract 0 n ++ strOfNums [v]).size + (s.extract n s.size).size ≤ 9223372036854775807 := by rw [z5, z3]; omega
    have p8 (v : Int) : (s.extract 0 n ++ strOfNums [v]).size + (s.extract (n + 1) s.size).size ≤ 9223372036854775807 := by rw [z5, z2]; omega
    have q6 : (s.extract 0 n ++ s.extract (n + 1) s.size).size ≤ s.size + 3 := by rw [z6]; omega
    have q7 (v : Int) : (s.extract 0 n ++ strOfNums [v] ++ s.extract n s.size).size ≤ s.size + 3 := by rw [z7]; omega
    have q8 (v : Int) : (s.extract 0 n ++ strOfNums [v] ++ s.extract (n + 1) s.size).size ≤ s.size + 3 := by rw [z8]; omega
    have q1 : (s.extract 0 n).size ≤ s.size + 3 := by rw [z1]; omega
    have k1 : wrap64 ((n : Int) + 1) = ((n + 1 : Nat) : Int) := by rw [w64 (by omega) (by omega)]; rfl
    by_cases c0 : y = 0
    · refine ⟨s.extract 0 n ++ s.extract (n + 1) s.size, i2, h2, ?_, q6, hi2⟩
      simp only [spec_l1Spoil.f, if_neg c, e1, e2, Option.bind_some, if_pos c0, k1, Int.toNat_natCast, if_pos p1, if_pos p2, if_pos p3, if_pos p4, if_pos p5]
      exact Ev.now _
    · by_cases c1 : y = 1
      · obtain ⟨z, i3, h3, e3, hz, hi3⟩ := spec_l1Byte_ex b hb i2 h2 hi2
        refine ⟨s.extract 0 n ++ strOfNums [z % 256] ++ s.extract n s.size, i3, h3, ?_, q7 _, hi3⟩
        simp only [spec_l1Spoil.f, if_neg c, e1, e2, e3, Option.bind_some, if_neg c0, if_pos c1, k1, Int.toNat_natCast, if_pos p1, if_pos p2, if_pos (p6 _), if_pos (p7 _)]
        exact Ev.now _
      · by_cases c2 : y = 2
        · refine ⟨s.extract 0 n, i2, h2, ?_, q1, hi2⟩
          simp only [spec_l1Spoil.f, if_neg c, e1, e2, Option.bind_some, if_neg c0, if_neg c1, if_pos c2, k1, Int.toNat_natCast, if_pos p1, if_pos p2]
          exact Ev.now _
        · obtain ⟨z, i3, h3, e3, hz, hi3⟩ := spec_l1Below_ex b hb i2 h2 hi2 255
          refine ⟨s.extract 0 n ++ strOfNums [(Go.bits .xor .i64 (wrap64 (bt s (n : Int))) (wrap64 (1 + z))) % 256] ++ s.extract (n + 1) s.size, i3, h3, ?_, q8 _, hi3⟩
          simp only [spec_l1Spoil.f, if_neg c, e1, e2, e3, Option.bind_some, if_neg c0, if_neg c1, if_neg c2, k1, Int.toNat_natCast, if_pos p1, if_pos p2, if_pos p2', if_pos p3, if_pos p4, if_pos (p6 _), if_pos (p8 _)]
          exact Ev.now _

/-! ### what Var makes -/
def varL (n : Nat) : List Int := if n < 128 then [(n : Int)] else ((n % 128 + 128 : Nat) : Int) :: varL (n / 128)
termination_by n
decreasing_by omega

theorem spec_l1In_eq (a b c : Int) : spec_l1In.f a b c = some (decide (b ≤ a ∧ a ≤ c)) := by
  unfold spec_l1In.f
  by_cases h : a ≥ b
  · rw [if_pos h]; simp [show b ≤ a from h]
  · rw [if_neg h]; simp [show ¬ b ≤ a from h]

theorem spec_Var_l0 (n : Nat) : ∀ (xs : List Int), xs.length + n / 128 < 140737488355328 → n < 9223372036854775808 →
    Ev (fun k => spec_Var.l0 k (n : Int) xs) (strOfNums (xs ++ varL n)) := by
  induction n using Nat.strongRecOn with
  | ind n ih =>
  intro xs h1 h2
  refine Ev.step (fun k => by rw [spec_Var.l0]) ?_
  rw [varL]
  by_cases c : n < 128
  · rw [if_pos c]
    refine Ev.neg (by omega) (Ev.pos (by omega) (Ev.val _ _ ?_))
    rw [Int.emod_eq_of_lt (by omega) (by omega)]
  · rw [if_neg c]
    refine Ev.pos (by omega) (Ev.pos (by omega) ?_)
    have e1 : wrap64 (Int.tdiv (n : Int) 128) = ((n / 128 : Nat) : Int) := by rw [tdiv_nn (by omega), w64 (by omega) (by omega)]; omega
    have e2 : (wrap64 (128 + Int.tmod (n : Int) 128)) % 256 = ((n % 128 + 128 : Nat) : Int) := by rw [tmod_nn (by omega), w64 (by omega) (by omega)]; omega
    rw [e1, e2]
    have := ih (n / 128) (by omega) (xs ++ [((n % 128 + 128 : Nat) : Int)]) (by simp; omega) (by omega)
    simpa [List.append_assoc] using this
theorem spec_Var_in (n : Nat) (h : n ≤ 562949953421311) : Ev (fun k => spec_Var.f k (n : Int)) (strOfNums (varL n)) := by
  unfold spec_Var.f
  refine Ev.bind0 (spec_l1In_eq _ _ _) (Ev.pos (by simp; omega) ?_)
  simpa using spec_Var_l0 n [] (by simp; omega) (by omega)
theorem spec_Var_out (x : Int) (h : ¬ (0 ≤ x ∧ x ≤ 562949953421311)) : Ev (fun k => spec_Var.f k x) (strOfNums []) := by
  unfold spec_Var.f
  exact Ev.bind0 (spec_l1In_eq _ _ _) (Ev.neg (by simp; omega) (Ev.val _ _ rfl))

theorem impl_within_eq (a b c : Int) : impl_within.f a b c = some (decide (b ≤ a ∧ a ≤ c)) := by
  unfold impl_within.f
  by_cases h : a ≥ b
  · rw [if_pos h]; simp [show b ≤ a from h]
  · rw [if_neg h]; simp [show ¬ b ≤ a from h]

theorem impl_Var_l0 (n : Nat) : ∀ (xs : List Int), xs.length + n / 128 < 140737488355328 → n < 9223372036854775808 →
    Ev (fun k => impl_Var.l0 k (n : Int) xs) (strOfNums (xs ++ varL n)) := by
  induction n using Nat.strongRecOn with
  | ind n ih =>
  intro xs h1 h2
  refine Ev.step (fun k => by rw [impl_Var.l0]) ?_
  rw [varL]
  by_cases c : n < 128
  · rw [if_pos c]
    refine Ev.neg (by omega) (Ev.pos (by omega) (Ev.val _ _ ?_))
    rw [Int.emod_eq_of_lt (by omega) (by omega)]
  · rw [if_neg c]
    refine Ev.pos (by omega) (Ev.pos (by omega) ?_)
    have e1 : ((n : Int) / 128) = ((n / 128 : Nat) : Int) := by omega
    have e2 : (Go.bits .or .i64 (Go.bits .and .i64 (n : Int) 127) 128) % 256 = ((n % 128 + 128 : Nat) : Int) := by
      rw [and127 (by omega) (by omega), or_join' 7 128 _ (by omega) (by omega) (by omega) (by omega) (by omega) (by omega)]; omega
    rw [e1, e2]
    have := ih (n / 128) (by omega) (xs ++ [((n % 128 + 128 : Nat) : Int)]) (by simp; omega) (by omega)
    simpa [List.append_assoc] using this
theorem impl_Var_in (n : Nat) (h : n ≤ 562949953421311) : Ev (fun k => impl_Var.f k (n : Int)) (strOfNums (varL n)) := by
  unfold impl_Var.f
  refine Ev.bind0 (impl_within_eq _ _ _) (Ev.pos (by simp; omega) ?_)
  simpa using impl_Var_l0 n [] (by simp; omega) (by omega)
theorem impl_Var_out (x : Int) (h : ¬ (0 ≤ x ∧ x ≤ 562949953421311)) : Ev (fun k => impl_Var.f k x) (strOfNums []) := by
  unfold impl_Var.f
  exact Ev.bind0 (impl_within_eq _ _ _) (Ev.neg (by simp; omega) (Ev.val _ _ rfl))

/-! ### Str: a byte string as the list of its numbers -/
def IsB (xs : List Int) : Prop := ∀ x ∈ xs, 0 ≤ x ∧ x ≤ 255
def bl (s : ByteArray) : List Int := s.data.toList.map fun b => (b.toNat : Int)
theorem bl_isB (s : ByteArray) : IsB (bl s) := by
  intro x hx
  simp only [bl, List.mem_map] at hx
  obtain ⟨b, _, rfl⟩ := hx
  have := b.toNat_lt
  omega
theorem bl_length (s : ByteArray) : (bl s).length = s.size := by unfold bl; rw [List.length_map]; rfl
theorem strOf_bl (s : ByteArray) : strOfNums (bl s) = s := by
  apply ByteArray.ext
  apply Array.ext'
  unfold strOfNums bl
  rw [List.map_map]
  have : ((fun n : Int => UInt8.ofNat n.toNat) ∘ fun b : UInt8 => (b.toNat : Int)) = id := by
    funext b
    simp only [Function.comp_apply, Int.toNat_natCast, UInt8.ofNat_toNat, id]
  rw [this, List.map_id]
theorem bl_strOf {xs : List Int} (h : IsB xs) : bl (strOfNums xs) = xs := by
  induction xs with
  | nil => rfl
  | cons a l ih =>
    have ha := h a (by simp)
    have hl := ih (fun x hx => h x (by simp [hx]))
    simp only [bl, strOfNums, List.map_cons, List.toList_toArray] at hl ⊢
    rw [hl]
    congr 1
    simp only [UInt8.toNat_ofNat']
    omega
theorem bl_append (s t : ByteArray) : bl (s ++ t) = bl s ++ bl t := by simp [bl, ByteArray.data_append]
theorem bl_extract (s : ByteArray) (a b : Nat) : bl (s.extract a b) = ((bl s).drop a).take (b - a) := by
  simp [bl, ByteArray.data_extract, List.extract_eq_take_drop, List.map_take, List.map_drop]
theorem bl_inj {s t : ByteArray} (h : bl s = bl t) : s = t := by rw [← strOf_bl s, ← strOf_bl t, h]
theorem tl_iff (s t : ByteArray) : s.toList = t.toList ↔ s = t := by
  constructor
  · intro h
    rw [Go.Lib.toList_data, Go.Lib.toList_data] at h
    exact ByteArray.ext (Array.ext' h)
  · intro h; rw [h]
theorem bt_bl (s : ByteArray) (i : Int) : bt s i = rd (bl s) i := by
  unfold bt rd bl
  split
  · rename_i h
    have h' : i.toNat < s.data.toList.length := h
    rw [List.getD_eq_getElem?_getD, List.getElem?_map, List.getElem?_eq_getElem h']
    simp only [Option.map_some, Option.getD_some]
    rfl
  · rename_i h
    have h' : ¬ i.toNat < s.data.toList.length := h
    rw [List.getD_eq_getElem?_getD, List.getElem?_map, List.getElem?_eq_none (by omega)]
    rfl
theorem bt_nat (s : ByteArray) (i : Nat) (h : i < s.size) : bt s (i : Int) = (bl s)[i]'(by rw [bl_length]; exact h) := by
  rw [bt_bl]
  unfold rd
  rw [Int.toNat_natCast, List.getD_eq_getElem?_getD, List.getElem?_eq_getElem (by rw [bl_length]; exact h)]
  rfl
theorem isB_nil : IsB [] := fun _ h => by cases h
theorem isB_append {xs ys : List Int} (h : IsB xs) (k : IsB ys) : IsB (xs ++ ys) := fun x hx => (List.mem_append.1 hx).elim (h x) (k x)
theorem isB_cons {x : Int} {ys : List Int} (h : 0 ≤ x ∧ x ≤ 255) (k : IsB ys) : IsB (x :: ys) := by
  intro y hy
  rcases List.mem_cons.1 hy with e | e
  · subst e; exact h
  · exact k y e
theorem strOf_inj {xs ys : List Int} (h : IsB xs) (k : IsB ys) (e : strOfNums xs = strOfNums ys) : xs = ys := by
  rw [← bl_strOf h, ← bl_strOf k, e]
instance instDecEqBytes : DecidableEq ByteArray := fun a b => decidable_of_iff (a.toList = b.toList) (tl_iff a b)
instance instDecMemBytes (x : ByteArray) : (l : List ByteArray) → Decidable (x ∈ l)
  | [] => .isFalse (by simp)
  | y :: l => if h : x = y then .isTrue (by simp [h]) else (match instDecMemBytes x l with
    | .isTrue k => .isTrue (by simp [k])
    | .isFalse k => .isFalse (by simp [h, k]))

theorem varL_small {n : Nat} (h : n < 128) : varL n = [(n : Int)] := by rw [varL, if_pos h]
theorem varL_big {n : Nat} (h : ¬ n < 128) : varL n = ((n % 128 + 128 : Nat) : Int) :: varL (n / 128) := by rw [varL, if_neg h]
theorem varL_isB (n : Nat) : IsB (varL n) := by
  induction n using Nat.strongRecOn with
  | ind n ih =>
  by_cases c : n < 128
  · rw [varL_small c]; exact isB_cons (by omega) isB_nil
  · rw [varL_big c]; exact isB_cons (by omega) (ih _ (by omega))
theorem varL_pos (n : Nat) : 0 < (varL n).length := by
  rw [varL]; split <;> simp
/-- All bytes but the last are 128 or more; the last is less. -/
theorem varL_shape (n : Nat) : ∀ (j : Nat) (h : j < (varL n).length), (j + 1 = (varL n).length → (varL n)[j] < 128) ∧ (j + 1 < (varL n).length → 128 ≤ (varL n)[j]) := by
  induction n using Nat.strongRecOn with
  | ind n ih =>
  intro j h
  by_cases c : n < 128
  · have e := varL_small c
    simp only [e, List.length_singleton] at h ⊢
    obtain rfl : j = 0 := by omega
    simp
    omega
  · have e := varL_big c
    simp only [e, List.length_cons] at h ⊢
    cases j with
    | zero =>
      have := varL_pos (n / 128)
      simp only [List.getElem_cons_zero]
      exact ⟨fun k => by omega, fun _ => by omega⟩
    | succ j =>
      simp only [List.getElem_cons_succ]
      have := ih (n / 128) (by omega) j (by omega)
      exact ⟨fun k => this.1 (by omega), fun k => this.2 (by omega)⟩
/-- A beginning of a text that is a Var: where the bytes are less than 128. -/
theorem var_at {s : ByteArray} {n k : Nat} (hk : k ≤ s.size) (h : (strOfNums (varL n)).toList = (s.extract 0 k).toList) :
    0 < k ∧ ∀ j, j < k → (j + 1 = k → bt s (j : Int) < 128) ∧ (j + 1 < k → 128 ≤ bt s (j : Int)) := by
  have e := (tl_iff _ _).1 h
  have e2 : varL n = (bl s).take k := by
    have := congrArg bl e
    rw [bl_strOf (varL_isB n), bl_extract] at this
    simpa using this
  have hl : (varL n).length = k := by rw [e2, List.length_take, bl_length]; omega
  refine ⟨by have := varL_pos n; omega, fun j hj => ?_⟩
  have hs := varL_shape n j (by omega)
  have hb : bt s (j : Int) = (varL n)[j]'(by omega) := by
    rw [bt_nat s j (by omega)]
    simp only [e2, List.getElem_take]
  rw [hb]
  exact ⟨fun h => hs.1 (by omega), fun h => hs.2 (by omega)⟩

/-! ### what ReadVar tells -/
def lev (s : ByteArray) : Nat → Nat
  | 0 => 0
  | k + 1 => lev s k + ((bt s (k : Int)).toNat % 128) * 128 ^ k
theorem lev_lt (s : ByteArray) : ∀ k, lev s k < 128 ^ k
  | 0 => by simp [lev]
  | k + 1 => by
    have h := lev_lt s k
    have h2 : (bt s (k : Int)).toNat % 128 ≤ 127 := by omega
    have h3 : ((bt s (k : Int)).toNat % 128) * 128 ^ k ≤ 127 * 128 ^ k := Nat.mul_le_mul_right _ h2
    rw [lev, Nat.pow_succ]
    omega
theorem lev_le {s : ByteArray} {k : Nat} (h : k ≤ 7) : lev s k ≤ 562949953421311 := by
  have h1 := lev_lt s k
  have h2 : 128 ^ k ≤ 128 ^ 7 := Nat.pow_le_pow_right (by decide) h
  have h3 : (128 : Nat) ^ 7 = 562949953421312 := by decide
  omega
def isVarAt (s : ByteArray) (k : Nat) : Prop := (strOfNums (varL (lev s k))).toList = (s.extract 0 k).toList
instance (s : ByteArray) (k : Nat) : Decidable (isVarAt s k) := inferInstanceAs (Decidable (_ = _))
/-- The first byte below 128 ends it. -/
def rvFrom (s : ByteArray) : Nat → Nat → Int × Int
  | 0, _ => (0, 0)
  | d + 1, i => if i < s.size then (if bt s (i : Int) < 128 then (if isVarAt s (i + 1) then ((lev s (i + 1) : Nat), ((i + 1 : Nat) : Int)) else (0, 0)) else rvFrom s d (i + 1)) else (0, 0)
/-- What ReadVar(s) is. -/
def readVarV (s : ByteArray) : Int × Int := rvFrom s 7 0
/-- Each beginning is tried. -/
def rvTry (s : ByteArray) : Nat → Nat → Int × Int
  | 0, _ => (0, 0)
  | d + 1, i => if i < s.size then (if isVarAt s (i + 1) then ((lev s (i + 1) : Nat), ((i + 1 : Nat) : Int)) else rvTry s d (i + 1)) else (0, 0)
theorem rvTry_none (s : ByteArray) (j : Nat) (hj : bt s (j : Int) < 128) : ∀ (d i : Nat), j < i → rvTry s d i = (0, 0)
  | 0, _, _ => rfl
  | d + 1, i, h => by
    rw [rvTry]
    split
    · rename_i hi
      rw [if_neg ?_]
      · exact rvTry_none s j hj d (i + 1) (by omega)
      · intro hv
        have := ((var_at (by omega) hv).2 j (by omega)).2 (by omega)
        omega
    · rfl
theorem rv_same (s : ByteArray) : ∀ (d i : Nat), rvTry s d i = rvFrom s d i
  | 0, _ => rfl
  | d + 1, i => by
    rw [rvTry, rvFrom]
    split
    · rename_i hi
      by_cases c : bt s (i : Int) < 128
      · rw [if_pos c]
        split
        · rfl
        · exact rvTry_none s i c d (i + 1) (by omega)
      · rw [if_neg c, if_neg ?_]
        · exact rv_same s d (i + 1)
        · intro hv
          have := ((var_at (by omega) hv).2 i (by omega)).1 rfl
          omega
    · rfl

theorem readVar_or (n b i : Nat) (hi : i ≤ 6) (hn : n < 128 ^ i) (hb : b < 128) :
    Go.bits .or .i64 (n : Int) (shl .i64 (b : Int) (wrap64 (7 * (i : Int)))) = ((n + b * 128 ^ i : Nat) : Int) := by
  have hp : (2 : Nat) ^ (7 * i) = 128 ^ i := by rw [Nat.pow_mul]
  have h7 : 128 ^ i ≤ 128 ^ 6 := Nat.pow_le_pow_right (by decide) hi
  have h6 : (128 : Nat) ^ 6 = 4398046511104 := by decide
  have hm : b * 128 ^ i ≤ 127 * 128 ^ i := Nat.mul_le_mul_right _ (by omega)
  have e1 : shl .i64 (b : Int) (wrap64 (7 * (i : Int))) = ((b * 128 ^ i : Nat) : Int) := by
    rw [w64 (by omega) (by omega)]
    unfold shl
    have : min (7 * (i : Int)).toNat IntKind.i64.bits = 7 * i := by
      have : IntKind.i64.bits = 64 := rfl
      omega
    rw [this]
    have e : (b : Int) * 2 ^ (7 * i) = ((b * 128 ^ i : Nat) : Int) := by
      rw [← hp]; simp
    rw [e]
    exact wraps_i64 _ (by omega) (by omega)
  rw [e1, or_join' (7 * i) ((b * 128 ^ i : Nat) : Int) (n : Int) (by omega) ?_ (by omega) (by omega) ?_ (by omega)]
  · omega
  · have e : (2 : Int) ^ (7 * i) = ((128 ^ i : Nat) : Int) := by rw [← hp]; simp
    rw [e, ← Int.natCast_emod, Nat.mul_mod_left]; rfl
  · have e : (2 : Int) ^ (7 * i) = ((128 ^ i : Nat) : Int) := by rw [← hp]; simp
    rw [e]; omega
theorem impl_ReadVar_l0 (s : ByteArray) (hs : s.size ≤ 140737488351232) (d : Nat) : ∀ (i : Nat), i + d = 7 → Ev (fun k => impl_ReadVar.l0 k s ((lev s i : Nat) : Int) (i : Int)) (rvFrom s d i) := by
  induction d with
  | zero =>
    intro i hi
    refine Ev.step (fun k => by rw [impl_ReadVar.l0]) ?_
    have fin : Ev (fun k => impl_ReadVar.j1 k s ((lev s i : Nat) : Int) (i : Int) false) (rvFrom s 0 i) := by
      refine Ev.step (fun k => by rw [impl_ReadVar.j1]) ?_
      exact Ev.neg (by simp) (Ev.now _)
    by_cases c : (i : Int) < (s.size : Int)
    · refine Ev.pos c ?_
      rw [show decide ((i : Int) < 7) = false by simp; omega]
      exact fin
    · exact Ev.neg c fin
  | succ d ih =>
    intro i hi
    have hb := bt_range s (i : Int)
    refine Ev.step (fun k => by rw [impl_ReadVar.l0]) ?_
    rw [rvFrom]
    by_cases c : i < s.size
    · rw [if_pos c]
      refine Ev.pos (by omega) ?_
      refine Ev.step (fun k => by rw [impl_ReadVar.j1]) ?_
      have eb : wrap64 (Go.bits .and .u8 (bt s (i : Int)) 127) = (((bt s (i : Int)).toNat % 128 : Nat) : Int) := by
        rw [u8_and127 hb.1 (by omega), w64 (by omega) (by omega)]; omega
      have ev : Go.bits .or .i64 ((lev s i : Nat) : Int) (shl .i64 (wrap64 (Go.bits .and .u8 (bt s (i : Int)) 127)) (wrap64 (7 * (i : Int)))) = ((lev s (i + 1) : Nat) : Int) := by
        rw [eb, readVar_or _ _ i (by omega) (lev_lt s i) (by omega)]
        rfl
      rw [ev, w64 (x := (i : Int) + 1) (by omega) (by omega), w64 (x := 7 * (i : Int)) (by omega) (by omega)]
      have e1 : (i : Int) + 1 = ((i + 1 : Nat) : Int) := by omega
      rw [e1, Int.toNat_natCast]
      refine Ev.pos (by simp; omega) (Ev.pos (by omega) (Ev.pos (by omega) (Ev.pos (by omega) ?_)))
      by_cases l : bt s (i : Int) < 128
      · rw [if_pos l]
        refine Ev.pos l (Ev.bind (impl_Var_in _ (lev_le (by omega))) (Ev.pos (by omega) (Ev.pos (by omega) ?_)))
        by_cases v : isVarAt s (i + 1)
        · rw [if_pos v]
          exact Ev.pos v (Ev.now _)
        · rw [if_neg v]
          exact Ev.neg v (Ev.now _)
      · rw [if_neg l]
        refine Ev.neg l ?_
        exact ih (i + 1) (by omega)
    · rw [if_neg c]
      refine Ev.neg (by omega) ?_
      refine Ev.step (fun k => by rw [impl_ReadVar.j1]) ?_
      exact Ev.neg (by simp) (Ev.now _)
theorem impl_ReadVar_ev (s : ByteArray) (hs : s.size ≤ 140737488351232) : Ev (fun k => impl_ReadVar.f k s) (readVarV s) := by
  unfold impl_ReadVar.f readVarV
  exact impl_ReadVar_l0 s hs 7 0 rfl

theorem varL_le7 {n : Nat} (h : n ≤ 562949953421311) : (varL n).length ≤ 7 := by
  have : ∀ (k n : Nat), n < 128 ^ (k + 1) → (varL n).length ≤ k + 1 := by
    intro k
    induction k with
    | zero => intro n h; rw [varL_small (by simpa using h)]; simp
    | succ k ih =>
      intro n h
      by_cases c : n < 128
      · rw [varL_small c]; simp
      · rw [varL_big c]
        have := ih (n / 128) (by rw [Nat.pow_succ] at h; omega)
        simpa using this
  exact this 6 n (by omega)

/-! ### what Fixed makes, and what ReadFixed reads -/
def fixL : Nat → Nat → List Int
  | 0, _ => []
  | w + 1, n => fixL w (n / 256) ++ [((n % 256 : Nat) : Int)]
theorem fixL_length : ∀ (w n : Nat), (fixL w n).length = w
  | 0, _ => rfl
  | w + 1, n => by simp [fixL, fixL_length w]
theorem set_replicate (i : Nat) (v : Int) (xs : List Int) : (List.replicate (i + 1) 0 ++ xs).set i v = List.replicate i 0 ++ (v :: xs) := by
  rw [List.replicate_succ', List.append_assoc, List.set_append_right _ _ (by simp)]
  simp
/-- What Fixed(n, w) is. -/
def fixedV (n w : Int) : List Int := if 1 ≤ w ∧ w ≤ 7 ∧ 0 ≤ n ∧ n < 256 ^ w.toNat then fixL w.toNat n.toNat else []
def beAcc (s : ByteArray) : Nat → Int → Int → Int
  | 0, _, n => n
  | d + 1, i, n => beAcc s d (i + 1) (n * 256 + bt s i)
/-- What ReadFixed(s, w) is. -/
def readFixedV (s : ByteArray) (w : Int) : Int × Bool := if 1 ≤ w ∧ w ≤ 7 ∧ w ≤ (s.size : Int) then (beAcc s w.toNat 0 0, true) else (0, false)

theorem impl_Fixed_l0 (d : Nat) : ∀ (n : Nat) (xs : List Int), d ≤ 7 → n < 9223372036854775808 →
    Ev (fun k => impl_Fixed.l0 k (n : Int) (List.replicate d 0 ++ xs) ((d : Int) - 1)) (strOfNums (fixL d n ++ xs)) := by
  induction d with
  | zero =>
    intro n xs hd hn
    refine Ev.step (fun k => by rw [impl_Fixed.l0]) ?_
    exact Ev.neg (by omega) (Ev.val _ _ (by simp [fixL]))
  | succ d ih =>
    intro n xs hd hn
    refine Ev.step (fun k => by rw [impl_Fixed.l0]) ?_
    refine Ev.pos (by omega) (Ev.pos (by omega) (Ev.pos (by simp; omega) ?_))
    have e1 : (Go.bits .and .i64 (n : Int) 255) % 256 = ((n % 256 : Nat) : Int) := by rw [and255 (by omega) (by omega)]; omega
    have e2 : (n : Int) / 256 = ((n / 256 : Nat) : Int) := by omega
    have e3 : ((d + 1 : Nat) : Int) - 1 = (d : Int) := by omega
    rw [e1, e2, e3, w64 (by omega) (by omega), Int.toNat_natCast, set_replicate]
    have := ih (n / 256) (((n % 256 : Nat) : Int) :: xs) (by omega) (by omega)
    simpa [fixL, List.append_assoc] using this
theorem impl_Fixed_ev (n w : Int) (hn : n ≤ 9223372036854775807) : Ev (fun k => impl_Fixed.f k n w) (strOfNums (fixedV n w)) := by
  unfold impl_Fixed.f fixedV
  refine Ev.bind0 (impl_within_eq _ _ _) ?_
  by_cases c : 1 ≤ w ∧ w ≤ 7
  · refine Ev.pos (by simp; omega) ?_
    by_cases c2 : n < 0
    · refine Ev.pos c2 ?_
      refine Ev.step (fun k => by rw [impl_Fixed.j0]) ?_
      refine Ev.pos rfl (Ev.val _ _ ?_)
      rw [if_neg (by omega)]; rfl
    · obtain ⟨m, rfl⟩ := Int.eq_ofNat_of_zero_le (show 0 ≤ n by omega)
      obtain ⟨d, rfl⟩ := Int.eq_ofNat_of_zero_le (show 0 ≤ w by omega)
      have e1 : wrap64 (8 * (d : Int)) = ((8 * d : Nat) : Int) := by rw [w64 (by omega) (by omega)]; omega
      have e2 : shl .i64 1 ((8 * d : Nat) : Int) = ((256 ^ d : Nat) : Int) := by
        obtain rfl | rfl | rfl | rfl | rfl | rfl | rfl : d = 1 ∨ d = 2 ∨ d = 3 ∨ d = 4 ∨ d = 5 ∨ d = 6 ∨ d = 7 := by omega
        all_goals decide
      rw [e1, e2]
      refine Ev.neg c2 (Ev.pos (by omega) ?_)
      refine Ev.step (fun k => by rw [impl_Fixed.j0]) ?_
      have e3 : ((m : Int) < 256 ^ (d : Int).toNat) = (m < 256 ^ d) := by rw [Int.toNat_natCast, lt_pow256]
      by_cases c3 : m < 256 ^ d
      · refine Ev.neg (by simp only [decide_eq_true_eq]; omega) (Ev.pos (by omega) (Ev.pos (by simp; omega) ?_))
        rw [if_pos (by rw [e3]; exact ⟨by omega, by omega, by omega, c3⟩), w64 (by omega) (by omega), Int.toNat_natCast, Int.toNat_natCast]
        simpa using impl_Fixed_l0 d m [] (by omega) (by omega)
      · refine Ev.pos (by simp only [decide_eq_true_eq]; omega) (Ev.val _ _ ?_)
        rw [if_neg (by rw [e3]; omega)]; rfl
  · refine Ev.neg (by simp; omega) ?_
    refine Ev.step (fun k => by rw [impl_Fixed.j0]) ?_
    refine Ev.pos rfl (Ev.val _ _ ?_)
    rw [if_neg (by omega)]; rfl

theorem impl_ReadFixed_l0 (s : ByteArray) (d : Nat) : ∀ (w i n : Int), 0 ≤ i → w - i = d → w ≤ 7 → w ≤ (s.size : Int) → 0 ≤ n → n < 256 ^ i.toNat →
    Ev (fun k => impl_ReadFixed.l0 k s w n i) (beAcc s d i n, true) := by
  induction d with
  | zero =>
    intro w i n hi hd hw hs hn hn2
    refine Ev.step (fun k => by rw [impl_ReadFixed.l0]) ?_
    exact Ev.neg (by omega) (Ev.now _)
  | succ d ih =>
    intro w i n hi hd hw hs hn hn2
    refine Ev.step (fun k => by rw [impl_ReadFixed.l0]) ?_
    refine Ev.pos (by omega) (Ev.pos (by omega) (Ev.pos (by omega) ?_))
    have hb := bt_range s i
    have h6 := pow256_six i hi (by omega)
    have h7 : (256 : Int) ^ (i + 1).toNat = 256 ^ i.toNat * 256 := by
      rw [show (i + 1).toNat = i.toNat + 1 by omega, Int.pow_succ]
    rw [wbt, w64 (x := n * 256) (by omega) (by omega), or_join 8 (n * 256) (bt s i) (by omega) (by omega) (by omega) (by omega) (by omega) (by omega), w64 (by omega) (by omega)]
    exact ih w (i + 1) (n * 256 + bt s i) (by omega) (by omega) hw hs (by omega) (by omega)
theorem impl_ReadFixed_ev (s : ByteArray) (w : Int) : Ev (fun k => impl_ReadFixed.f k s w) (readFixedV s w) := by
  unfold impl_ReadFixed.f readFixedV
  refine Ev.bind0 (impl_within_eq _ _ _) ?_
  by_cases c : 1 ≤ w ∧ w ≤ 7
  · refine Ev.pos (by simp; omega) ?_
    refine Ev.step (fun k => by rw [impl_ReadFixed.j0]) ?_
    by_cases c2 : w ≤ (s.size : Int)
    · rw [if_pos (by omega)]
      exact Ev.neg (by simp; omega) (impl_ReadFixed_l0 s w.toNat w 0 0 (by omega) (by omega) (by omega) c2 (by omega) (by simp))
    · rw [if_neg (by omega)]
      exact Ev.pos (by simp; omega) (Ev.now _)
  · rw [if_neg (by omega)]
    refine Ev.neg (by simp; omega) ?_
    refine Ev.step (fun k => by rw [impl_ReadFixed.j0]) ?_
    exact Ev.pos rfl (Ev.now _)

/-! ### what Dec makes -/
def decL (n : Nat) : List Int := if n = 0 then [] else decL (n / 10) ++ [((48 + n % 10 : Nat) : Int)]
termination_by n
decreasing_by omega
theorem decL_zero : decL 0 = [] := by rw [decL]; rfl
theorem decL_pos {n : Nat} (h : n ≠ 0) : decL n = decL (n / 10) ++ [((48 + n % 10 : Nat) : Int)] := by rw [decL, if_neg h]
/-- What Dec(n) is. -/
def decV (n : Int) : List Int := if n = 0 then [48] else if n < 0 then 45 :: decL n.natAbs else decL n.natAbs
theorem dec_step (x : Int) (h0 : -9223372036854775808 ≤ x) (h1 : x ≤ 9223372036854775807) (hx : x ≠ 0) :
    (Int.tmod x 10 < 0 → (wrap64 (48 + wrap64 (-(Int.tmod x 10)))) % 256 = ((48 + x.natAbs % 10 : Nat) : Int)) ∧
    (¬ Int.tmod x 10 < 0 → (wrap64 (48 + Int.tmod x 10)) % 256 = ((48 + x.natAbs % 10 : Nat) : Int)) ∧
    (wrap64 (Int.tdiv x 10)).natAbs = x.natAbs / 10 ∧ -9223372036854775808 ≤ wrap64 (Int.tdiv x 10) ∧ wrap64 (Int.tdiv x 10) ≤ 9223372036854775807 := by
  by_cases c : 0 ≤ x
  · obtain ⟨n, rfl⟩ := Int.eq_ofNat_of_zero_le c
    rw [tmod_nn (by omega), tdiv_nn (by omega), w64 (x := (n : Int) / 10) (by omega) (by omega)]
    refine ⟨fun h => by omega, fun _ => ?_, by omega, by omega, by omega⟩
    rw [w64 (by omega) (by omega)]; omega
  · obtain ⟨n, rfl⟩ : ∃ n : Nat, x = -(n : Int) := ⟨x.natAbs, by omega⟩
    rw [Int.neg_tmod, Int.neg_tdiv, tmod_nn (by omega), tdiv_nn (by omega), w64 (x := -((n : Int) / 10)) (by omega) (by omega)]
    refine ⟨fun h => ?_, fun h => ?_, by omega, by omega, by omega⟩
    · rw [w64 (x := -(-((n : Int) % 10))) (by omega) (by omega), w64 (by omega) (by omega)]; omega
    · rw [w64 (by omega) (by omega)]; omega
theorem decL_le : ∀ (k n : Nat), n < 10 ^ k → (decL n).length ≤ k
  | 0, n, h => by
    have : n = 0 := by simpa using h
    subst this; rw [decL_zero]; simp
  | k + 1, n, h => by
    by_cases c : n = 0
    · subst c; rw [decL_zero]; simp
    · rw [decL_pos c, List.length_append]
      have := decL_le k (n / 10) (by rw [Nat.pow_succ] at h; omega)
      simpa using this
theorem decL_20 {n : Nat} (h : n ≤ 9223372036854775808) : (decL n).length ≤ 20 := decL_le 20 n (by omega)

theorem rd_mid (L R : List Int) (b : Int) : rd (L ++ b :: R) (L.length : Int) = b := by
  unfold rd
  rw [Int.toNat_natCast, List.getD_eq_getElem?_getD, List.getElem?_append_right (Nat.le_refl _)]
  simp
theorem swap_ends (A M B : List Int) (a b : Int) :
    ((A ++ (a :: (M ++ [b])) ++ B).set A.length (rd (A ++ (a :: (M ++ [b])) ++ B) ((A.length + M.length + 1 : Nat) : Int))).set (A.length + M.length + 1) (rd (A ++ (a :: (M ++ [b])) ++ B) (A.length : Int)) = (A ++ [b]) ++ M ++ (a :: B) := by
  have e1 : rd (A ++ (a :: (M ++ [b])) ++ B) ((A.length + M.length + 1 : Nat) : Int) = b := by
    have h := rd_mid (A ++ a :: M) B b
    have e : (A ++ a :: M) ++ b :: B = A ++ (a :: (M ++ [b])) ++ B := by simp
    have e' : ((A ++ a :: M).length : Int) = ((A.length + M.length + 1 : Nat) : Int) := by simp; omega
    rwa [e, e'] at h
  have e2 : rd (A ++ (a :: (M ++ [b])) ++ B) (A.length : Int) = a := by
    have h := rd_mid A (M ++ [b] ++ B) a
    have e : A ++ a :: (M ++ [b] ++ B) = A ++ (a :: (M ++ [b])) ++ B := by simp
    rwa [e] at h
  rw [e1, e2]
  have e3 : (A ++ (a :: (M ++ [b])) ++ B).set A.length b = (A ++ b :: M) ++ (b :: B) := by simp
  rw [e3, List.set_append_right _ _ (by simp; omega)]
  have e5 : A.length + M.length + 1 - (A ++ b :: M).length = 0 := by rw [List.length_append, List.length_cons]; omega
  rw [e5]; simp
theorem impl_Dec_l1 (d : Nat) : ∀ (A M B : List Int), M.length = d → A.length + M.length + B.length ≤ 1000 →
    Ev (fun k => impl_Dec.l1 k (A ++ M ++ B) (A.length : Int) ((A.length : Int) + M.length - 1)) (strOfNums (A ++ M.reverse ++ B)) := by
  induction d using Nat.strongRecOn with
  | ind d ih =>
  intro A M B hd hl
  refine Ev.step (fun k => by rw [impl_Dec.l1]) ?_
  by_cases c : M.length ≤ 1
  · refine Ev.neg (by omega) (Ev.val _ _ ?_)
    have : M.reverse = M := by
      match M, c with
      | [], _ => rfl
      | [x], _ => rfl
    rw [this]
  · obtain ⟨a, M', rfl⟩ : ∃ a M', M = a :: M' := by
      cases M with
      | nil => simp at c
      | cons a M' => exact ⟨a, M', rfl⟩
    obtain ⟨M'', b, rfl⟩ : ∃ M'' b, M' = M'' ++ [b] := by
      refine ⟨M'.dropLast, M'.getLast (by intro e; subst e; simp at c), ?_⟩
      exact (List.dropLast_concat_getLast _).symm
    simp only [List.length_cons, List.length_append, List.length_nil] at c hd hl
    have hlen : (A ++ (a :: (M'' ++ [b])) ++ B).length = A.length + M''.length + 2 + B.length := by simp; omega
    have ej : (A.length : Int) + ((a :: (M'' ++ [b])).length : Int) - 1 = ((A.length + M''.length + 1 : Nat) : Int) := by simp; omega
    rw [ej]
    refine Ev.pos (by omega) (Ev.pos (by omega) (Ev.pos (by rw [hlen]; omega) (Ev.pos (by omega) (Ev.pos (by rw [hlen]; omega) ?_))))
    rw [Int.toNat_natCast, Int.toNat_natCast, swap_ends, w64 (by omega) (by omega), w64 (by omega) (by omega)]
    have := ih M''.length (by omega) (A ++ [b]) M'' (a :: B) rfl (by simp; omega)
    have e1 : ((A ++ [b]).length : Int) = (A.length : Int) + 1 := by simp
    have e2 : ((A ++ [b]).length : Int) + M''.length - 1 = ((A.length + M''.length + 1 : Nat) : Int) - 1 := by simp; omega
    rw [e2, e1] at this
    have e3 : A ++ (a :: (M'' ++ [b])).reverse ++ B = A ++ [b] ++ M''.reverse ++ a :: B := by simp
    rw [e3]
    exact this
theorem impl_Dec_l0 (n : Nat) : ∀ (x0 x : Int) (xs : List Int), x.natAbs = n → -9223372036854775808 ≤ x → x ≤ 9223372036854775807 → xs.length + (decL n).length ≤ 20 →
    Ev (fun k => impl_Dec.l0 k x0 xs x) (strOfNums ((if x0 < 0 then [45] else []) ++ decL n ++ xs.reverse)) := by
  induction n using Nat.strongRecOn with
  | ind n ih =>
  intro x0 x xs hx h0 h1 hl
  refine Ev.step (fun k => by rw [impl_Dec.l0]) ?_
  by_cases c : x = 0
  · have : n = 0 := by omega
    subst this
    refine Ev.pos c ?_
    rw [decL_zero] at hl ⊢
    have fin : ∀ ys : List Int, ys.length ≤ 30 → Ev (fun k => impl_Dec.j1 k ys) (strOfNums ys.reverse) := by
      intro ys hy
      refine Ev.step (fun k => by rw [impl_Dec.j1]) ?_
      have := impl_Dec_l1 ys.length [] ys [] rfl (by simp; omega)
      rw [w64 (by omega) (by omega)]
      simpa using this
    by_cases m : x0 < 0
    · refine Ev.pos m (Ev.pos (by simp at hl; omega) ?_)
      have := fin (xs ++ [45]) (by simp at hl ⊢; omega)
      simpa [m] using this
    · refine Ev.neg m ?_
      have := fin xs (by simp at hl; omega)
      simpa [m] using this
  · have hn : n ≠ 0 := by omega
    obtain ⟨s1, s2, s3, s4, s5⟩ := dec_step x h0 h1 c
    rw [decL_pos hn, List.length_append] at hl
    have g := ih (n / 10) (by omega) x0 (wrap64 (Int.tdiv x 10)) (xs ++ [((48 + n % 10 : Nat) : Int)]) (by omega) s4 s5 (by simp at hl ⊢; omega)
    rw [decL_pos hn]
    have e : (if x0 < 0 then [45] else []) ++ (decL (n / 10) ++ [((48 + n % 10 : Nat) : Int)]) ++ xs.reverse = (if x0 < 0 then [45] else []) ++ decL (n / 10) ++ (xs ++ [((48 + n % 10 : Nat) : Int)]).reverse := by simp [List.append_assoc]
    rw [e]
    refine Ev.neg c ?_
    by_cases m : Int.tmod x 10 < 0
    · refine Ev.pos m (Ev.pos (by simp at hl; omega) ?_)
      rw [s1 m, hx]
      exact g
    · refine Ev.neg m (Ev.pos (by simp at hl; omega) ?_)
      rw [s2 m, hx]
      exact g
theorem impl_Dec_ev (x : Int) (h0 : -9223372036854775808 ≤ x) (h1 : x ≤ 9223372036854775807) : Ev (fun k => impl_Dec.f k x) (strOfNums (decV x)) := by
  unfold impl_Dec.f decV
  by_cases c : x = 0
  · rw [if_pos c]; exact Ev.pos c (Ev.now _)
  · rw [if_neg c]
    refine Ev.neg c ?_
    have := impl_Dec_l0 x.natAbs x x [] rfl h0 h1 (by simpa using decL_20 (by omega))
    by_cases m : x < 0
    · simpa [m] using this
    · simpa [m] using this

/-! ### what ReadDec tells -/
def dg (n : Nat) : List Int := if n = 0 then [48] else decL n
def dval (l : List Int) : Int := l.foldl (fun a x => a * 10 + (x - 48)) 0
theorem dval_snoc (l : List Int) (x : Int) : dval (l ++ [x]) = dval l * 10 + (x - 48) := by simp [dval]
theorem decL_digit (n : Nat) : ∀ x ∈ decL n, 48 ≤ x ∧ x ≤ 57 := by
  induction n using Nat.strongRecOn with
  | ind n ih =>
  by_cases c : n = 0
  · subst c; rw [decL_zero]; intro x h; cases h
  · rw [decL_pos c]
    intro x h
    rcases List.mem_append.1 h with h | h
    · exact ih _ (by omega) x h
    · rw [List.mem_singleton.1 h]; omega
theorem dval_decL (n : Nat) : dval (decL n) = (n : Int) := by
  induction n using Nat.strongRecOn with
  | ind n ih =>
  by_cases c : n = 0
  · subst c; rw [decL_zero]; rfl
  · rw [decL_pos c, dval_snoc, ih _ (by omega)]; omega
theorem dg_digit (n : Nat) : ∀ x ∈ dg n, 48 ≤ x ∧ x ≤ 57 := by
  unfold dg
  split
  · intro x h; rw [List.mem_singleton.1 h]; omega
  · exact decL_digit n
theorem dval_dg (n : Nat) : dval (dg n) = (n : Int) := by
  unfold dg
  split
  · rename_i h; subst h; rfl
  · exact dval_decL n
theorem dg_pos (n : Nat) : 0 < (dg n).length := by
  unfold dg
  split
  · simp
  · rename_i h; rw [decL_pos h]; simp
theorem dg_9 {n : Nat} (h : n < 1000000000) : (dg n).length ≤ 9 := by
  unfold dg
  split
  · simp
  · exact decL_le 9 n (by omega)
theorem decV_dg (m : Int) : decV m = (if m < 0 then [45] else []) ++ dg m.natAbs := by
  unfold decV dg
  by_cases c : m = 0
  · subst c; rfl
  · have hn : ¬ m.natAbs = 0 := by omega
    simp only [if_neg c, if_neg hn]
    by_cases d : m < 0 <;> simp [d]
theorem decV_isB (m : Int) : IsB (decV m) := by
  rw [decV_dg]
  refine isB_append ?_ (fun x h => by have := dg_digit _ x h; omega)
  split
  · exact isB_cons (by omega) isB_nil
  · exact isB_nil
/-- A text that is the Dec of a number of at most nine digits. -/
def IsDec (s : ByteArray) (m : Int) : Prop := -1000000000 < m ∧ m < 1000000000 ∧ s = strOfNums (decV m)
theorem isDec_bl {s : ByteArray} {m : Int} (h : IsDec s m) : bl s = decV m := by rw [h.2.2, bl_strOf (decV_isB m)]
/-- What ReadDec(s) is: told by what it satisfies. -/
def RdDec (s : ByteArray) (r : Int × Bool) : Prop := (∀ m, IsDec s m → r = (m, true)) ∧ ((∀ m, ¬ IsDec s m) → r = (0, false))
theorem rdDec_unique {s : ByteArray} {r q : Int × Bool} (h : RdDec s r) (k : RdDec s q) : r = q := by
  by_cases c : ∃ m, IsDec s m
  · obtain ⟨m, hm⟩ := c
    rw [h.1 m hm, k.1 m hm]
  · have c' : ∀ m, ¬ IsDec s m := fun m hm => c ⟨m, hm⟩
    rw [h.2 c', k.2 c']
/-- the digits from place i on, d of them -/
def dAcc (s : ByteArray) : Nat → Int → Int → Int
  | 0, _, n => n
  | d + 1, i, n => dAcc s d (i + 1) (n * 10 + (bt s i - 48))
def allDig (s : ByteArray) : Nat → Int → Bool
  | 0, _ => true
  | d + 1, i => decide (48 ≤ bt s i ∧ bt s i ≤ 57) && allDig s d (i + 1)
theorem dAcc_list (s : ByteArray) : ∀ (d : Nat) (i : Nat) (n : Int), i + d ≤ s.size → dAcc s d (i : Int) n = (((bl s).drop i).take d).foldl (fun a x => a * 10 + (x - 48)) n
  | 0, i, n, _ => by simp [dAcc]
  | d + 1, i, n, h => by
    have hl : i < (bl s).length := by rw [bl_length]; omega
    rw [dAcc, bt_nat s i (by omega), List.drop_eq_getElem_cons hl, List.take_succ_cons, List.foldl_cons]
    have := dAcc_list s d (i + 1) (n * 10 + ((bl s)[i] - 48)) (by omega)
    have e : ((i + 1 : Nat) : Int) = (i : Int) + 1 := by omega
    rw [e] at this
    exact this
theorem allDig_iff (s : ByteArray) : ∀ (d : Nat) (i : Nat), i + d ≤ s.size → (allDig s d (i : Int) = true ↔ ∀ x ∈ ((bl s).drop i).take d, 48 ≤ x ∧ x ≤ 57)
  | 0, i, _ => by simp [allDig]
  | d + 1, i, h => by
    have hl : i < (bl s).length := by rw [bl_length]; omega
    have ih := allDig_iff s d (i + 1) (by omega)
    have e : ((i + 1 : Nat) : Int) = (i : Int) + 1 := by omega
    rw [e] at ih
    rw [allDig, bt_nat s i (by omega), List.drop_eq_getElem_cons hl, List.take_succ_cons, Bool.and_eq_true, decide_eq_true_iff, ih]
    simp
theorem dAcc_range (s : ByteArray) : ∀ (d : Nat) (i n : Int) (e : Nat), allDig s d i = true → 0 ≤ n → n < 10 ^ e → 0 ≤ dAcc s d i n ∧ dAcc s d i n < 10 ^ (e + d)
  | 0, i, n, e, _, h0, h1 => ⟨h0, h1⟩
  | d + 1, i, n, e, hd, h0, h1 => by
    rw [allDig, Bool.and_eq_true, decide_eq_true_iff] at hd
    have h2 : n * 10 + (bt s i - 48) < 10 ^ (e + 1) := by rw [Int.pow_succ]; omega
    have := dAcc_range s d (i + 1) (n * 10 + (bt s i - 48)) (e + 1) hd.2 (by omega) h2
    rw [show e + (d + 1) = e + 1 + d by omega]
    exact this
theorem pow10_9 {k : Nat} (h : k ≤ 9) : (10 : Int) ^ k ≤ 1000000000 := by
  have h1 : 10 ^ k ≤ 10 ^ 9 := Nat.pow_le_pow_right (by decide) h
  have h2 : ((10 ^ k : Nat) : Int) = (10 : Int) ^ k := Int.natCast_pow 10 k
  have h3 : (10 : Nat) ^ 9 = 1000000000 := by decide
  omega

/-- where the sign ends -/
theorem isDec_sign {s : ByteArray} {m : Int} (h : IsDec s m) : 0 < s.size ∧ (bt s 0 = 45 ↔ m < 0) ∧ (bl s).drop (if m < 0 then 1 else 0) = dg m.natAbs ∧ s.size = (if m < 0 then 1 else 0) + (dg m.natAbs).length := by
  have hb := isDec_bl h
  rw [decV_dg] at hb
  have hp := dg_pos m.natAbs
  have hl : s.size = (if m < 0 then 1 else 0) + (dg m.natAbs).length := by
    rw [← bl_length, hb, List.length_append]; split <;> rfl
  have h0 : 0 < s.size := by rw [hl]; omega
  refine ⟨h0, ?_, ?_, hl⟩
  · have e : bt s 0 = (bl s)[0]'(by rw [bl_length]; exact h0) := bt_nat s 0 h0
    rw [e]
    by_cases c : m < 0
    · simp [hb, c]
    · have hd : (bl s)[0]'(by rw [bl_length]; exact h0) ∈ dg m.natAbs := by
        simp only [hb, if_neg c, List.nil_append]
        exact List.getElem_mem _
      have := dg_digit _ _ hd
      omega
  · rw [hb]; split <;> simp

/-- what the loop comes to -/
def rdFin (s : ByteArray) (a n : Int) : Int × Bool := if a = 1 then (if (strOfNums (decV (-n))).toList = s.toList then (-n, true) else (0, false)) else (if (strOfNums (decV n)).toList = s.toList then (n, true) else (0, false))
theorem impl_ReadDec_l0 (s : ByteArray) (a : Int) (d : Nat) : ∀ (i n : Int) (e : Nat), 0 ≤ i → i + d = s.size → e + d ≤ 9 → 0 ≤ n → n < 10 ^ e → s.size ≤ 100 →
    Ev (fun k => impl_ReadDec.l0 k s a n i) (if allDig s d i = true then rdFin s a (dAcc s d i n) else (0, false)) := by
  induction d with
  | zero =>
    intro i n e hi hd he hn hn2 hs
    have hp := pow10_9 (k := e) (by omega)
    refine Ev.step (fun k => by rw [impl_ReadDec.l0]) ?_
    rw [if_pos (show allDig s 0 i = true from rfl)]
    refine Ev.neg (by omega) ?_
    rw [show dAcc s 0 i n = n from rfl]
    unfold rdFin
    by_cases c : a = 1
    · rw [if_pos c, w64 (by omega) (by omega)]
      refine Ev.pos c (Ev.bind (impl_Dec_ev _ (by omega) (by omega)) ?_)
      by_cases c2 : (strOfNums (decV (-n))).toList = s.toList
      · refine Ev.pos c2 ?_; rw [if_pos c2]; exact Ev.now _
      · refine Ev.neg c2 ?_; rw [if_neg c2]; exact Ev.now _
    · rw [if_neg c]
      refine Ev.neg c (Ev.bind (impl_Dec_ev _ (by omega) (by omega)) ?_)
      by_cases c2 : (strOfNums (decV n)).toList = s.toList
      · refine Ev.pos c2 ?_; rw [if_pos c2]; exact Ev.now _
      · refine Ev.neg c2 ?_; rw [if_neg c2]; exact Ev.now _
  | succ d ih =>
    intro i n e hi hd he hn hn2 hs
    have hp := pow10_9 (k := e) (by omega)
    refine Ev.step (fun k => by rw [impl_ReadDec.l0]) ?_
    refine Ev.pos (by omega) (Ev.pos (by omega) ?_)
    rw [allDig, dAcc]
    by_cases c : bt s i < 48
    · rw [if_neg (by simp; omega)]; exact Ev.pos c (Ev.now _)
    · refine Ev.neg c ?_
      by_cases c2 : bt s i > 57
      · rw [if_neg (by simp; omega)]; exact Ev.pos c2 (Ev.now _)
      · refine Ev.neg c2 ?_
        have e1 : wrap64 (wrap64 (10 * n) + (bt s i - 48) % 256) = n * 10 + (bt s i - 48) := by
          rw [w64 (x := 10 * n) (by omega) (by omega), w64 (by omega) (by omega)]; omega
        rw [e1, w64 (by omega) (by omega)]
        have h2 : n * 10 + (bt s i - 48) < 10 ^ (e + 1) := by rw [Int.pow_succ]; omega
        have := ih (i + 1) (n * 10 + (bt s i - 48)) (e + 1) (by omega) (by omega) (by omega) (by omega) h2 hs
        have e2 : (decide (48 ≤ bt s i ∧ bt s i ≤ 57) && allDig s d (i + 1)) = allDig s d (i + 1) := by
          rw [decide_eq_true (show 48 ≤ bt s i ∧ bt s i ≤ 57 by omega)]; rfl
        rw [e2]
        exact this
theorem rdFin_no (s : ByteArray) (a : Int) (n : Int) (h0 : 0 ≤ n) (h1 : n < 1000000000) (h : ∀ m, ¬ IsDec s m) : rdFin s a n = (0, false) := by
  unfold rdFin
  split
  · rw [if_neg ?_]
    intro e
    exact h (-n) ⟨by omega, by omega, ((tl_iff _ _).1 e).symm⟩
  · rw [if_neg ?_]
    intro e
    exact h n ⟨by omega, by omega, ((tl_iff _ _).1 e).symm⟩
theorem impl_ReadDec_ev (s : ByteArray) (hs : s.size ≤ 140737488351232) : ∃ r, RdDec s r ∧ Ev (fun k => impl_ReadDec.f k s) r := by
  have core : ∀ a : Nat, a ≤ 1 → a ≤ s.size → (∀ m, IsDec s m → (a = 1 ↔ m < 0)) → ∃ r, RdDec s r ∧ Ev (fun k => impl_ReadDec.j1 k s (a : Int)) r := by
    intro a ha has hsign
    by_cases c : 1 ≤ s.size - a ∧ s.size - a ≤ 9
    · refine ⟨if allDig s (s.size - a) (a : Int) = true then rdFin s a (dAcc s (s.size - a) a 0) else (0, false), ⟨fun m hm => ?_, fun hno => ?_⟩, ?_⟩
      · obtain ⟨_, _, h2, h3⟩ := isDec_sign hm
        have ea : (if m < 0 then 1 else 0) = a := by
          have := hsign m hm
          by_cases c : m < 0
          · rw [if_pos c]; omega
          · rw [if_neg c]; omega
        rw [ea] at h2 h3
        have hall : allDig s (s.size - a) (a : Int) = true := by
          rw [allDig_iff s _ a (by omega), h2, List.take_of_length_le (by omega)]
          exact dg_digit _
        have hval : dAcc s (s.size - a) a 0 = (m.natAbs : Int) := by
          rw [dAcc_list s _ a 0 (by omega), h2, List.take_of_length_le (by omega)]
          exact dval_dg _
        rw [if_pos hall, hval]
        unfold rdFin
        by_cases c : m < 0
        · have : a = 1 := (hsign m hm).2 c
          have e : -(m.natAbs : Int) = m := by omega
          rw [if_pos (by omega), e, if_pos ((tl_iff _ _).2 hm.2.2.symm)]
        · have : ¬ a = 1 := fun h => c ((hsign m hm).1 h)
          have e : (m.natAbs : Int) = m := by omega
          rw [if_neg (by omega), e, if_pos ((tl_iff _ _).2 hm.2.2.symm)]
      · split
        · rename_i hall
          have hr := dAcc_range s (s.size - a) a 0 0 hall (by omega) (by simp)
          have hp := pow10_9 (k := 0 + (s.size - a)) (by omega)
          exact rdFin_no s a _ hr.1 (by omega) hno
        · rfl
      · refine Ev.step (fun k => by rw [impl_ReadDec.j1]) ?_
        rw [w64 (by omega) (by omega)]
        refine Ev.bind0 (impl_within_eq _ _ _) (Ev.pos (by simp; omega) ?_)
        exact impl_ReadDec_l0 s a (s.size - a) a 0 0 (by omega) (by omega) (by omega) (by omega) (by simp) (by omega)
    · refine ⟨(0, false), ⟨fun m hm => ?_, fun _ => rfl⟩, ?_⟩
      · obtain ⟨_, _, h2, h3⟩ := isDec_sign hm
        have ea : (if m < 0 then 1 else 0) = a := by
          have := hsign m hm
          by_cases c : m < 0
          · rw [if_pos c]; omega
          · rw [if_neg c]; omega
        rw [ea] at h3
        have h4 := dg_pos m.natAbs
        have h5 := dg_9 (n := m.natAbs) (by have := hm.1; have := hm.2.1; omega)
        omega
      · refine Ev.step (fun k => by rw [impl_ReadDec.j1]) ?_
        rw [w64 (by omega) (by omega)]
        exact Ev.bind0 (impl_within_eq _ _ _) (Ev.neg (by simp; omega) (Ev.now _))
  unfold impl_ReadDec.f
  by_cases c : s.size = 0
  · obtain ⟨r, hr, he⟩ := core 0 (by omega) (by omega) (fun m hm => by have := (isDec_sign hm).1; omega)
    refine ⟨r, hr, Ev.neg (by omega) ?_⟩
    refine Ev.step (fun k => by rw [impl_ReadDec.j0]) ?_
    exact Ev.neg (by simp) he
  · by_cases c2 : bt s 0 = 45
    · obtain ⟨r, hr, he⟩ := core 1 (by omega) (by omega) (fun m hm => by have := (isDec_sign hm).2.1; simp [this.1 c2])
      refine ⟨r, hr, Ev.pos (by omega) (Ev.pos (by omega) ?_)⟩
      refine Ev.step (fun k => by rw [impl_ReadDec.j0]) ?_
      exact Ev.pos (by simpa using c2) he
    · obtain ⟨r, hr, he⟩ := core 0 (by omega) (by omega) (fun m hm => by have := (isDec_sign hm).2.1; exact ⟨fun h => by omega, fun h => absurd (this.2 h) c2⟩)
      refine ⟨r, hr, Ev.pos (by omega) (Ev.pos (by omega) ?_)⟩
      refine Ev.step (fun k => by rw [impl_ReadDec.j0]) ?_
      exact Ev.neg (by simpa using c2) he

/-! ### what Hex and Unhex make -/
def dig16 (d : Int) : Int := bt (⟨#[48, 49, 50, 51, 52, 53, 54, 55, 56, 57, 97, 98, 99, 100, 101, 102]⟩ : ByteArray) d
def hexFrom (s : ByteArray) : Nat → Nat → List Int
  | 0, _ => []
  | d + 1, i => dig16 (bt s (i : Int) / 16) :: dig16 (bt s (i : Int) % 16) :: hexFrom s d (i + 1)
def hexV (s : ByteArray) : List Int := hexFrom s s.size 0
def hv (b : Int) : Int := if 48 ≤ b ∧ b ≤ 57 then b - 48 else if 97 ≤ b ∧ b ≤ 102 then b - 87 else -1
theorem hv_range (b : Int) : -1 ≤ hv b ∧ hv b ≤ 15 := by unfold hv; split <;> (try split) <;> omega
def uhFrom (s : ByteArray) : Nat → Int → List Int → ByteArray × Bool
  | 0, _, xs => (strOfNums xs, true)
  | d + 1, i, xs => if hv (bt s i) < 0 ∨ hv (bt s (i + 1)) < 0 then (strOfNums [], false) else uhFrom s d (i + 2) (xs ++ [16 * hv (bt s i) + hv (bt s (i + 1))])
def unhexV (s : ByteArray) : ByteArray × Bool := if s.size % 2 = 1 then (strOfNums [], false) else uhFrom s (s.size / 2) 0 []
theorem and15u {x : Int} (h0 : 0 ≤ x) (h1 : x < 256) : Go.bits .and .u8 x 15 = x % 16 := bits_mask .u8 8 (by decide) wraps_u8 4 (by decide) x h0 h1

theorem impl_Hex_l0 (s : ByteArray) (hs : s.size ≤ 1048576) (d : Nat) : ∀ (i : Nat) (xs : List Int), i + d = s.size → xs.length = 2 * i → Ev (fun k => impl_Hex.l0 k s xs (i : Int)) (strOfNums (xs ++ hexFrom s d i)) := by
  induction d with
  | zero =>
    intro i xs hi hx
    refine Ev.step (fun k => by rw [impl_Hex.l0]) ?_
    exact Ev.neg (by omega) (Ev.val _ _ (by simp [hexFrom]))
  | succ d ih =>
    intro i xs hi hx
    have hb := bt_range s (i : Int)
    refine Ev.step (fun k => by rw [impl_Hex.l0]) ?_
    rw [and15u hb.1 (by omega)]
    refine Ev.pos (by omega) (Ev.pos (by omega) (Ev.pos (by omega) (Ev.pos (by omega) (Ev.pos (by omega) (Ev.pos (by omega) ?_)))))
    refine Ev.bind0 rfl ?_
    refine Ev.pos (by simp; omega) ?_
    rw [w64 (by omega) (by omega)]
    have := ih (i + 1) (xs ++ [dig16 (bt s (i : Int) / 16), dig16 (bt s (i : Int) % 16)]) (by omega) (by simp; omega)
    have e : ((i + 1 : Nat) : Int) = (i : Int) + 1 := by omega
    rw [e] at this
    simpa [hexFrom, dig16] using this
theorem impl_Hex_ev (s : ByteArray) (hs : s.size ≤ 1048576) : Ev (fun k => impl_Hex.f k s) (strOfNums (hexV s)) := by
  unfold impl_Hex.f hexV
  rw [w64 (by omega) (by omega)]
  refine Ev.pos (by omega) (Ev.pos (by omega) ?_)
  simpa using impl_Hex_l0 s hs s.size 0 [] (by omega) rfl

theorem impl_hexValue_ev (b : Int) (h0 : 0 ≤ b) (h1 : b ≤ 255) : Ev (fun k => impl_hexValue.f k b) (hv b) := by
  have j : ∀ t : Bool, (t = true → 48 ≤ b ∧ b ≤ 57) → (t = false → ¬ (48 ≤ b ∧ b ≤ 57)) → Ev (fun k => impl_hexValue.j0 k b t) (hv b) := by
    intro t ht hf
    refine Ev.step (fun k => by rw [impl_hexValue.j0]) ?_
    unfold hv
    cases t with
    | true =>
      have := ht rfl
      rw [if_pos this]
      exact Ev.pos rfl (Ev.val _ _ (by omega))
    | false =>
      rw [if_neg (hf rfl)]
      refine Ev.neg (by simp) ?_
      by_cases c : 97 ≤ b
      · refine Ev.pos c ?_
        by_cases c2 : b ≤ 102
        · rw [if_pos (show 97 ≤ b ∧ b ≤ 102 from ⟨c, c2⟩)]; exact Ev.pos c2 (Ev.val _ _ (by omega))
        · rw [if_neg (show ¬ (97 ≤ b ∧ b ≤ 102) by omega)]; exact Ev.neg c2 (Ev.now _)
      · rw [if_neg (show ¬ (97 ≤ b ∧ b ≤ 102) by omega)]; exact Ev.neg c (Ev.now _)
  unfold impl_hexValue.f
  by_cases c : b ≥ 48
  · exact Ev.pos c (j _ (fun h => ⟨c, by simpa using h⟩) (fun h => by simp at h; omega))
  · exact Ev.neg c (j _ (fun h => by cases h) (fun _ => by omega))
theorem or16 (a b : Int) (ha : 0 ≤ a) (ha2 : a ≤ 15) (hb : 0 ≤ b) (hb2 : b ≤ 15) : Go.bits .or .i64 (wrap64 (a * 16)) b = 16 * a + b := by
  rw [w64 (by omega) (by omega), or_join 4 (a * 16) b (by omega) (by omega) (by omega) hb (by omega) (by omega)]; omega
theorem impl_Unhex_l0 (s : ByteArray) (hs : s.size ≤ 1048576) (d : Nat) : ∀ (i : Nat) (xs : List Int), i + 2 * d = s.size → xs.length ≤ i → Ev (fun k => impl_Unhex.l0 k s xs (i : Int)) (uhFrom s d i xs) := by
  induction d with
  | zero =>
    intro i xs hi hx
    refine Ev.step (fun k => by rw [impl_Unhex.l0]) ?_
    exact Ev.neg (by omega) (Ev.now _)
  | succ d ih =>
    intro i xs hi hx
    have ha := hv_range (bt s (i : Int))
    have hb := hv_range (bt s ((i : Int) + 1))
    have ra := bt_range s (i : Int)
    have rb := bt_range s ((i : Int) + 1)
    refine Ev.step (fun k => by rw [impl_Unhex.l0]) ?_
    rw [w64 (x := (i : Int) + 1) (by omega) (by omega), uhFrom]
    refine Ev.pos (by omega) (Ev.pos (by omega) (Ev.bind (impl_hexValue_ev _ ra.1 ra.2) (Ev.pos (by omega) (Ev.pos (by omega) (Ev.bind (impl_hexValue_ev _ rb.1 rb.2) ?_)))))
    by_cases c1 : hv (bt s (i : Int)) < 0
    · rw [if_pos (.inl c1)]; exact Ev.pos c1 (Ev.now _)
    · refine Ev.neg c1 ?_
      by_cases c2 : hv (bt s ((i : Int) + 1)) < 0
      · rw [if_pos (.inr c2)]; exact Ev.pos c2 (Ev.now _)
      · rw [if_neg (by omega)]
        refine Ev.neg c2 (Ev.pos (by omega) ?_)
        rw [or16 _ _ (by omega) (by omega) (by omega) (by omega), w64 (by omega) (by omega), Int.emod_eq_of_lt (by omega) (by omega)]
        exact ih (i + 2) _ (by omega) (by simp; omega)
theorem impl_Unhex_ev (s : ByteArray) (hs : s.size ≤ 1048576) : Ev (fun k => impl_Unhex.f k s) (unhexV s) := by
  unfold impl_Unhex.f unhexV
  by_cases c : s.size % 2 = 1
  · rw [if_pos c]; exact Ev.neg (by omega) (Ev.now _)
  · rw [if_neg c, w64 (by omega) (by omega)]
    refine Ev.pos (by omega) (Ev.pos (by omega) (Ev.pos (by omega) ?_))
    exact impl_Unhex_l0 s hs (s.size / 2) 0 [] (by omega) (by simp)

theorem laws_big_eq (l : List Int) : laws_big.f l = some (decide ((l.length : Int) > 1048576)) := rfl

theorem spec_DrawVar_ex (l : List Int) (hl : l.length ≤ 4000000) : ∃ n, Ev (fun k => spec_DrawVar.f k l) n ∧ -9223372036854775808 ≤ n ∧ n ≤ 9223372036854775807 := by
  obtain ⟨h, e⟩ := spec_l1New_ex l
  obtain ⟨x, i, h2, e2, hx, _⟩ := spec_l1Num_ex l hl 0 h ⟨by omega, by omega⟩
  refine ⟨x, ?_, hx⟩
  unfold spec_DrawVar.f
  exact Ev.bind e (Ev.bind0 e2 (Ev.now _))
theorem spec_DrawReadVar_ex (l : List Int) (hl : l.length ≤ 4000000) : ∃ s, Ev (fun k => spec_DrawReadVar.f k l) s ∧ s.size ≤ 100 := by
  obtain ⟨h, e⟩ := spec_l1New_ex l
  obtain ⟨x, i, h2, e2, hx, hi⟩ := spec_l1Num_ex l hl 0 h ⟨by omega, by omega⟩
  have hv : ∃ v, Ev (fun k => spec_Var.f k x) v ∧ v.size ≤ 7 := by
    by_cases c : 0 ≤ x ∧ x ≤ 562949953421311
    · obtain ⟨n, rfl⟩ := Int.eq_ofNat_of_zero_le c.1
      exact ⟨_, spec_Var_in n (by omega), by rw [strOf_size]; exact varL_le7 (by omega)⟩
    · exact ⟨_, spec_Var_out x c, by rw [strOf_size]; simp⟩
  obtain ⟨v, ev, hvs⟩ := hv
  obtain ⟨t, i3, h3, e3, ht, hi3⟩ := spec_l1Text_ex l hl i h2 hi 4 (by omega) (by omega)
  obtain ⟨o, i4, h4, e4, hi4⟩ := spec_l1Once_ex l hl i3 h3 hi3 4
  have hz : (v ++ t).size = v.size + t.size := ByteArray.size_append
  obtain ⟨u, i5, h5, e5, hu, _⟩ := spec_l1Spoil_ex l hl i4 h4 hi4 (v ++ t) (by omega)
  unfold spec_DrawReadVar.f
  cases o with
  | true => exact ⟨u, Ev.bind e (Ev.bind0 e2 (Ev.bind ev (Ev.bind e3 (Ev.pos (show v.size + t.size ≤ 9223372036854775807 by omega) (Ev.bind0 e4 (Ev.pos rfl (Ev.bind e5 (Ev.now _)))))))), by omega⟩
  | false => exact ⟨v ++ t, Ev.bind e (Ev.bind0 e2 (Ev.bind ev (Ev.bind e3 (Ev.pos (show v.size + t.size ≤ 9223372036854775807 by omega) (Ev.bind0 e4 (Ev.neg (by simp) (Ev.now _))))))), by omega⟩
/-! a number's bytes are read as it -/
def levL : List Int → Nat
  | [] => 0
  | b :: l => b.toNat % 128 + 128 * levL l
theorem levL_snoc (l : List Int) (b : Int) : levL (l ++ [b]) = levL l + (b.toNat % 128) * 128 ^ l.length := by
  induction l with
  | nil => simp [levL]
  | cons a l ih =>
    simp only [List.cons_append, levL, ih, List.length_cons, Nat.pow_succ]
    rw [Nat.mul_add, Nat.mul_comm 128 (b.toNat % 128 * 128 ^ l.length), Nat.mul_assoc, Nat.add_assoc]
theorem lev_list (s : ByteArray) : ∀ (k : Nat), k ≤ s.size → lev s k = levL ((bl s).take k)
  | 0, _ => by simp [lev, levL]
  | k + 1, h => by
    have hk : k < (bl s).length := by rw [bl_length]; omega
    rw [lev, lev_list s k (by omega), List.take_succ_eq_append_getElem hk, levL_snoc, List.length_take, Nat.min_eq_left (by omega), bt_nat s k (by omega)]
theorem levL_varL (n : Nat) : levL (varL n) = n := by
  induction n using Nat.strongRecOn with
  | ind n ih =>
    by_cases c : n < 128
    · rw [varL_small c]; simp only [levL]; omega
    · rw [varL_big c]; simp only [levL]; rw [ih (n / 128) (by omega)]; omega
theorem rv_varL {s : ByteArray} {n : Nat} (hn : n ≤ 562949953421311) {xs : List Int} (e : bl s = varL n ++ xs) : readVarV s = ((n : Int), (((varL n).length : Nat) : Int)) := by
  have h7 := varL_le7 hn
  have hp := varL_pos n
  have hs : s.size = (varL n).length + xs.length := by rw [← bl_length, e, List.length_append]
  have et : (bl s).take (varL n).length = varL n := by rw [e, List.take_left' rfl]
  have hl : lev s (varL n).length = n := by rw [lev_list s _ (by omega), et, levL_varL]
  have hv : isVarAt s (varL n).length := by
    unfold isVarAt
    rw [hl]
    have : strOfNums (varL n) = s.extract 0 (varL n).length := by
      apply bl_inj
      rw [bl_strOf (varL_isB n), bl_extract, List.drop_zero, Nat.sub_zero, et]
    rw [this]
  have hb : ∀ j (h : j < (varL n).length), bt s (j : Int) = (varL n)[j] := by
    intro j h
    have hj : j < s.size := by omega
    rw [bt_nat s j hj]
    simp only [e]
    rw [List.getElem_append_left h]
  have key : ∀ d i, i + d = (varL n).length → 0 < d → ∀ f, d ≤ f → rvFrom s f i = ((n : Int), (((varL n).length : Nat) : Int)) := by
    intro d
    induction d with
    | zero => intro i _ h; omega
    | succ d ih =>
      intro i hi _ f hf
      obtain ⟨f, rfl⟩ : ∃ g, f = g + 1 := ⟨f - 1, by omega⟩
      have sh := varL_shape n i (by omega)
      rw [rvFrom, if_pos (by omega), hb i (by omega)]
      by_cases c : i + 1 = (varL n).length
      · rw [if_pos (sh.1 c), c, if_pos hv, hl]
      · have := sh.2 (by omega)
        rw [if_neg (by omega)]
        exact ih (i + 1) (by omega) (by omega) f (by omega)
  exact key (varL n).length 0 (by omega) hp 7 h7
theorem rv_cases (s : ByteArray) : ∀ (d i : Nat), i + d ≤ 7 → (rvFrom s d i).2 = 0 ∨ ∃ k, k ≤ 7 ∧ k ≤ s.size ∧ rvFrom s d i = (((lev s k : Nat) : Int), (k : Int)) ∧ isVarAt s k
  | 0, _, _ => .inl rfl
  | d + 1, i, h => by
    rw [rvFrom]
    split
    · split
      · split
        · rename_i c
          exact .inr ⟨i + 1, by omega, by omega, rfl, c⟩
        · exact .inl rfl
      · exact rv_cases s d (i + 1) (by omega)
    · exact .inl rfl
theorem fix7 (n : Nat) : fixL 7 n = [((n / 256 / 256 / 256 / 256 / 256 / 256 % 256 : Nat) : Int), ((n / 256 / 256 / 256 / 256 / 256 % 256 : Nat) : Int), ((n / 256 / 256 / 256 / 256 % 256 : Nat) : Int), ((n / 256 / 256 / 256 % 256 : Nat) : Int), ((n / 256 / 256 % 256 : Nat) : Int), ((n / 256 % 256 : Nat) : Int), ((n % 256 : Nat) : Int)] := rfl
theorem be7 {s : ByteArray} {n : Nat} (hn : n < 72057594037927936) {xs : List Int} (h : bl s = fixL 7 n ++ xs) : beAcc s 7 0 0 = n := by
  have e0 : bt s 0 = ((n / 256 / 256 / 256 / 256 / 256 / 256 % 256 : Nat) : Int) := by rw [bt_bl, h, fix7]; rfl
  have e1 : bt s (0 + 1) = ((n / 256 / 256 / 256 / 256 / 256 % 256 : Nat) : Int) := by rw [bt_bl, h, fix7]; rfl
  have e2 : bt s (0 + 1 + 1) = ((n / 256 / 256 / 256 / 256 % 256 : Nat) : Int) := by rw [bt_bl, h, fix7]; rfl
  have e3 : bt s (0 + 1 + 1 + 1) = ((n / 256 / 256 / 256 % 256 : Nat) : Int) := by rw [bt_bl, h, fix7]; rfl
  have e4 : bt s (0 + 1 + 1 + 1 + 1) = ((n / 256 / 256 % 256 : Nat) : Int) := by rw [bt_bl, h, fix7]; rfl
  have e5 : bt s (0 + 1 + 1 + 1 + 1 + 1) = ((n / 256 % 256 : Nat) : Int) := by rw [bt_bl, h, fix7]; rfl
  have e6 : bt s (0 + 1 + 1 + 1 + 1 + 1 + 1) = ((n % 256 : Nat) : Int) := by rw [bt_bl, h, fix7]; rfl
  simp only [beAcc, e0, e1, e2, e3, e4, e5, e6]
  omega
theorem fixL_isB : ∀ (w n : Nat), IsB (fixL w n)
  | 0, _ => isB_nil
  | w + 1, n => isB_append (fixL_isB w (n / 256)) (isB_cons (by omega) isB_nil)
theorem fixedV7 (n : Int) : (¬ (n < 0) ∧ n < 72057594037927936 ∧ fixedV n 7 = fixL 7 n.toNat) ∨ ((n < 0 ∨ n ≥ 72057594037927936) ∧ fixedV n 7 = []) := by
  unfold fixedV
  have e : (256 : Int) ^ (7 : Int).toNat = 72057594037927936 := by decide
  rw [e]
  by_cases c : 0 ≤ n ∧ n < 72057594037927936
  · exact .inl ⟨by omega, c.2, by rw [if_pos (by omega)]; rfl⟩
  · exact .inr ⟨by omega, by rw [if_neg (by omega)]⟩
theorem readFixed_fixed {n : Int} (h0 : ¬ n < 0) (h1 : n < 72057594037927936) (t : ByteArray) : readFixedV (strOfNums (fixL 7 n.toNat) ++ t) 7 = (n, true) := by
  have hz : (strOfNums (fixL 7 n.toNat) ++ t).size = 7 + t.size := by rw [ByteArray.size_append, strOf_size, fixL_length]
  have hb := be7 (s := strOfNums (fixL 7 n.toNat) ++ t) (n := n.toNat) (by omega) (xs := bl t) (by rw [bl_append, bl_strOf (fixL_isB _ _)])
  unfold readFixedV
  rw [if_pos (by omega)]
  show (beAcc _ 7 0 0, true) = _
  rw [hb]
  congr 1; omega
theorem decV_inj {m n : Int} (h : decV m = decV n) : m = n := by
  rw [decV_dg, decV_dg] at h
  have hh : ∀ (k : Nat) (l : List Int), ¬ dg k = 45 :: l := by
    intro k l e
    have := dg_digit k 45 (by rw [e]; simp)
    omega
  by_cases c : m < 0
  · by_cases c2 : n < 0
    · rw [if_pos c, if_pos c2] at h
      have h2 : dg m.natAbs = dg n.natAbs := by simpa using h
      have := dval_dg m.natAbs
      rw [h2, dval_dg] at this
      omega
    · rw [if_pos c, if_neg c2] at h
      exact absurd (by simpa using h.symm) (hh n.natAbs (dg m.natAbs))
  · by_cases c2 : n < 0
    · rw [if_neg c, if_pos c2] at h
      exact absurd (by simpa using h) (hh m.natAbs (dg n.natAbs))
    · rw [if_neg c, if_neg c2] at h
      have h2 : dg m.natAbs = dg n.natAbs := by simpa using h
      have := dval_dg m.natAbs
      rw [h2, dval_dg] at this
      omega
theorem readDec_dec {n : Int} {r : Int × Bool} (h : RdDec (strOfNums (decV n)) r) : (-1000000000 < n ∧ n < 1000000000 ∧ r = (n, true)) ∨ (¬ (-1000000000 < n ∧ n < 1000000000) ∧ r = (0, false)) := by
  by_cases c : -1000000000 < n ∧ n < 1000000000
  · exact .inl ⟨c.1, c.2, h.1 n ⟨c.1, c.2, rfl⟩⟩
  · refine .inr ⟨c, h.2 (fun m hm => ?_)⟩
    have := decV_inj (strOf_inj (decV_isB n) (decV_isB m) hm.2.2)
    subst this
    exact c ⟨hm.1, hm.2.1⟩
theorem hv_dig16 (d : Int) (h0 : 0 ≤ d) (h1 : d ≤ 15) : hv (dig16 d) = d ∧ 0 ≤ dig16 d ∧ dig16 d ≤ 255 := by
  have : d = 0 ∨ d = 1 ∨ d = 2 ∨ d = 3 ∨ d = 4 ∨ d = 5 ∨ d = 6 ∨ d = 7 ∨ d = 8 ∨ d = 9 ∨ d = 10 ∨ d = 11 ∨ d = 12 ∨ d = 13 ∨ d = 14 ∨ d = 15 := by omega
  rcases this with h | h | h | h | h | h | h | h | h | h | h | h | h | h | h | h <;> subst h <;> decide
theorem hexFrom_isB (s : ByteArray) : ∀ (d i : Nat), IsB (hexFrom s d i)
  | 0, _ => isB_nil
  | d + 1, i => by
    have hb := bt_range s (i : Int)
    have h1 := hv_dig16 (bt s (i : Int) / 16) (by omega) (by omega)
    have h2 := hv_dig16 (bt s (i : Int) % 16) (by omega) (by omega)
    exact isB_cons h1.2 (isB_cons h2.2 (hexFrom_isB s d (i + 1)))
theorem hexFrom_length (s : ByteArray) : ∀ (d i : Nat), (hexFrom s d i).length = 2 * d
  | 0, _ => rfl
  | d + 1, i => by simp only [hexFrom, List.length_cons, hexFrom_length s d (i + 1)]; omega
theorem uh_hex (s t : ByteArray) : ∀ (d i : Nat) (A xs : List Int), i + d = s.size → A.length = 2 * i → bl t = A ++ hexFrom s d i → uhFrom t d ((2 * i : Nat) : Int) xs = (strOfNums (xs ++ (bl s).drop i), true)
  | 0, i, A, xs, hi, hA, e => by
    rw [uhFrom, List.drop_eq_nil_of_le (by rw [bl_length]; omega), List.append_nil]
  | d + 1, i, A, xs, hi, hA, e => by
    have hb := bt_range s (i : Int)
    have g1 := hv_dig16 (bt s (i : Int) / 16) (by omega) (by omega)
    have g2 := hv_dig16 (bt s (i : Int) % 16) (by omega) (by omega)
    have b1 : bt t ((2 * i : Nat) : Int) = dig16 (bt s (i : Int) / 16) := by
      rw [bt_bl, e, ← hA, hexFrom]
      unfold rd
      rw [Int.toNat_natCast, List.getD_eq_getElem?_getD, List.getElem?_append_right (Nat.le_refl _), Nat.sub_self]; rfl
    have b2 : bt t (((2 * i : Nat) : Int) + 1) = dig16 (bt s (i : Int) % 16) := by
      rw [bt_bl, e, ← hA, hexFrom]
      unfold rd
      rw [show ((A.length : Int) + 1).toNat = A.length + 1 by omega, List.getD_eq_getElem?_getD, List.getElem?_append_right (by omega), Nat.add_sub_cancel_left]; rfl
    rw [uhFrom, b1, b2, g1.1, g2.1, if_neg (by omega)]
    have := uh_hex s t d (i + 1) (A ++ [dig16 (bt s (i : Int) / 16), dig16 (bt s (i : Int) % 16)]) (xs ++ [16 * (bt s (i : Int) / 16) + bt s (i : Int) % 16]) (by omega) (by simp; omega) (by rw [e, hexFrom]; simp)
    rw [show ((2 * i : Nat) : Int) + 2 = ((2 * (i + 1) : Nat) : Int) by omega, this]
    have e3 : 16 * (bt s (i : Int) / 16) + bt s (i : Int) % 16 = bt s (i : Int) := by omega
    have e4 : (bl s).drop i = bt s (i : Int) :: (bl s).drop (i + 1) := by
      rw [bt_nat s i (by omega)]; exact List.drop_eq_getElem_cons (by rw [bl_length]; omega)
    rw [e3, e4, List.append_assoc]; rfl
theorem unhex_hex (s : ByteArray) : unhexV (strOfNums (hexV s)) = (s, true) := by
  have hz : (strOfNums (hexV s)).size = 2 * s.size := by rw [strOf_size]; unfold hexV; rw [hexFrom_length]
  unfold unhexV
  rw [hz, if_neg (by omega), show 2 * s.size / 2 = s.size by omega]
  have := uh_hex s (strOfNums (hexV s)) s.size 0 [] [] (by omega) rfl (by rw [bl_strOf (by unfold hexV; exact hexFrom_isB _ _ _)]; rfl)
  rw [List.drop_zero, List.nil_append, strOf_bl] at this
  exact this
theorem strOf_nil_iff (xs : List Int) : (strOfNums xs).toList = ([] : List UInt8) ↔ xs = [] := by
  rw [Go.Lib.toList_data]
  simp [strOfNums]
theorem tl_ne {xs : List Int} (h : xs ≠ []) : ((strOfNums xs).toList != ([] : List UInt8)) = true ∧ ((strOfNums xs).toList == ([] : List UInt8)) = false ∧ ¬ (strOfNums xs).toList = ([] : List UInt8) := by
  have : ¬ (strOfNums xs).toList = ([] : List UInt8) := fun e => h ((strOf_nil_iff xs).1 e)
  exact ⟨bne_iff_ne.2 this, beq_eq_false_iff_ne.2 this, this⟩
theorem tl_nil : ((strOfNums []).toList != ([] : List UInt8)) = false ∧ ((strOfNums []).toList == ([] : List UInt8)) = true ∧ (strOfNums []).toList = ([] : List UInt8) := by
  have : (strOfNums []).toList = ([] : List UInt8) := (strOf_nil_iff []).2 rfl
  rw [this]; exact ⟨rfl, rfl, rfl⟩
theorem numbers_j2 (l : List Int) (hl : l.length ≤ 1048576) (t : ByteArray) (ht : t.size ≤ 40) : Ev (fun k => laws_FnNumbers.j2 k l t false) true := by
  obtain ⟨s, es, hs⟩ := spec_DrawReadVar_ex l (by omega)
  have hz : (strOfNums (hexV t)).size = 2 * t.size := by rw [strOf_size]; unfold hexV; rw [hexFrom_length]
  refine Ev.step (fun k => by rw [laws_FnNumbers.j2]) (Ev.neg (by simp) (Ev.bind (impl_Hex_ev t (by omega)) (Ev.bind (impl_Unhex_ev (strOfNums (hexV t)) (by omega)) ?_)))
  rw [unhex_hex]
  refine Ev.bind es (Ev.bind (impl_ReadVar_ev s (by omega)) (Ev.pos rfl (Ev.pos rfl ?_)))
  rcases rv_cases s 7 0 (by omega) with h | ⟨k, h7, hk, e, hv⟩
  · exact Ev.pos h (Ev.now _)
  · have e' : readVarV s = (((lev s k : Nat) : Int), (k : Int)) := e
    rw [e']
    by_cases c : (k : Int) = 0
    · exact Ev.pos c (Ev.now _)
    · refine Ev.neg c (Ev.bind (impl_Var_in (lev s k) (lev_le h7)) (Ev.bind es (Ev.pos (by simp only; omega) (Ev.pos (by simp only; omega) (Ev.val _ _ ?_)))))
      rw [Int.toNat_natCast]
      exact beq_iff_eq.2 hv
theorem numbers_j1 (l : List Int) (hl : l.length ≤ 1048576) (n : Int) (h0 : -9223372036854775808 ≤ n) (h1 : n ≤ 9223372036854775807) (t : ByteArray) (ht : t.size ≤ 40) : Ev (fun k => laws_FnNumbers.j1 k l n t false) true := by
  have hd : (strOfNums (decV n)).size ≤ 100 := by
    rw [strOf_size]
    have := decL_20 (n := n.natAbs) (by omega)
    unfold decV
    split
    · simp
    · split
      · simp only [List.length_cons]; omega
      · omega
  obtain ⟨r, hr, er⟩ := impl_ReadDec_ev (strOfNums (decV n)) (by omega)
  refine Ev.step (fun k => by rw [laws_FnNumbers.j1]) (Ev.neg (by simp) (Ev.bind (impl_Dec_ev n h0 h1) (Ev.bind er ?_)))
  rcases readDec_dec hr with ⟨a, b, rfl⟩ | ⟨a, rfl⟩
  · refine Ev.pos a (Ev.neg (by simp only; rw [decide_eq_true b]; decide) (Ev.pos rfl ?_))
    rw [show (((n, true) : Int × Bool).1 != n) = false by simp]
    exact numbers_j2 l hl t ht
  · by_cases c : n > -1000000000
    · refine Ev.pos c (Ev.neg (by simp only; rw [decide_eq_false (show ¬ n < 1000000000 by omega)]; decide) (Ev.neg (by simp) ?_))
      exact numbers_j2 l hl t ht
    · refine Ev.neg c (Ev.neg (by simp) (Ev.neg (by simp) ?_))
      exact numbers_j2 l hl t ht
theorem numbers_j0 (l : List Int) (hl : l.length ≤ 1048576) (n : Int) (h0 : -9223372036854775808 ≤ n) (h1 : n ≤ 9223372036854775807) (t : ByteArray) (ht : t.size ≤ 40) : Ev (fun k => laws_FnNumbers.j0 k l n t false) true := by
  have j1 := numbers_j1 l hl n h0 h1 t ht
  refine Ev.step (fun k => by rw [laws_FnNumbers.j0]) (Ev.neg (by simp) (Ev.bind (impl_Fixed_ev n 7 h1) ?_))
  rcases fixedV7 n with ⟨a, b, e⟩ | ⟨a, e⟩
  · rw [e]
    have hne : fixL 7 n.toNat ≠ [] := by intro h; have := fixL_length 7 n.toNat; rw [h] at this; simp at this
    have q := tl_ne hne
    refine Ev.pos (by rw [strOf_size, fixL_length]; omega) (Ev.bind (impl_ReadFixed_ev _ _) ?_)
    rw [readFixed_fixed a b]
    refine Ev.neg q.2.2 (Ev.pos rfl (Ev.pos rfl (Ev.pos (by rw [strOf_size, fixL_length]; rfl) (Ev.neg a ?_))))
    rw [q.2.1, decide_eq_false (show ¬ n ≥ 72057594037927936 by omega)]
    exact j1
  · rw [e]
    refine Ev.pos (by rw [strOf_size]; simp; omega) (Ev.bind (impl_ReadFixed_ev _ _) (Ev.pos tl_nil.2.2 ?_))
    rw [tl_nil.2.1]
    by_cases c : n < 0
    · exact Ev.pos c j1
    · refine Ev.neg c ?_
      rw [decide_eq_true (show n ≥ 72057594037927936 by omega)]
      exact j1
theorem FnNumbers : laws_FnNumbers.Pure := by
  intro l hl
  refine Ev.rounds (g := fun k => laws_FnNumbers.f k l) ?_
  unfold laws_FnNumbers.f
  refine Ev.bind0 (laws_big_eq l) ?_
  by_cases c : (l.length : Int) > 1048576
  · exact Ev.pos (decide_eq_true c) (Ev.now _)
  · have hl' : l.length ≤ 1048576 := by omega
    obtain ⟨n, en, h0, h1⟩ := spec_DrawVar_ex l (by omega)
    obtain ⟨t, et, ht⟩ := spec_DrawHex_ex l (by omega)
    have j0 := numbers_j0 l hl' n h0 h1 t ht
    refine Ev.neg (by simpa using c) (Ev.bind en (Ev.bind et ?_))
    by_cases cn : 0 ≤ n ∧ n ≤ 562949953421311
    · obtain ⟨m, rfl⟩ := Int.eq_ofNat_of_zero_le cn.1
      have h7 := varL_le7 (n := m) (by omega)
      have hp := varL_pos m
      have q := tl_ne (xs := varL m) (by intro h; rw [h] at hp; simp at hp)
      have rv := rv_varL (s := strOfNums (varL m) ++ t) (n := m) (by omega) (xs := bl t) (by rw [bl_append, bl_strOf (varL_isB m)])
      refine Ev.bind (impl_Var_in m (by omega)) (Ev.pos (by rw [strOf_size]; omega) (Ev.bind (impl_ReadVar_ev _ (by rw [ByteArray.size_append, strOf_size]; omega)) ?_))
      rw [rv]
      refine Ev.pos (by omega) (Ev.neg (by rw [q.1, decide_eq_true cn.2]; decide) (Ev.neg q.2.2 (Ev.pos rfl ?_)))
      rw [strOf_size, show ((((m : Int), (((varL m).length : Nat) : Int)) : Int × Int).2 != (((varL m).length : Nat) : Int)) = false by simp]
      exact j0
    · refine Ev.bind (impl_Var_out n cn) (Ev.pos (by rw [strOf_size]; simp; omega) (Ev.bind (impl_ReadVar_ev _ (by rw [ByteArray.size_append, strOf_size]; simp; omega)) ?_))
      by_cases c0 : n ≥ 0
      · refine Ev.pos c0 (Ev.neg (by rw [tl_nil.1, decide_eq_false (show ¬ n ≤ 562949953421311 by omega)]; decide) (Ev.pos tl_nil.2.2 j0))
      · exact Ev.neg c0 (Ev.neg (by rw [tl_nil.1]; decide) (Ev.pos tl_nil.2.2 j0))

end Go.Proofs.Ytagbjmhipgbglaa.Pure
