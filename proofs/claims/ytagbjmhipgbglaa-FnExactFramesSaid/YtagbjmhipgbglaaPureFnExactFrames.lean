/- The pure statement of the law FnExactFrames is proved: for all arguments within the stated bounds the printed function answers true. Conditions: none beyond those bounds. -/
import Derived.Test.YtagbjmhipgbglaaPFnExactFramesx5
import Derived.Laws.BitsLemmas
import Derived.Lib.Strings
namespace Go.Proofs.Ytagbjmhipgbglaa.Pure
open Go Go.RowKit Go.Proofs.Ytagbjmhipgbglaa.PFnExactFrames Go.Proofs.YtagbjmhipgbglaaW.PrintWords Go.Proofs.YtagbjmhipgbglaaW.PrintLast Go.Proofs.YtagbjmhipgbglaaW.PrintMore
set_option linter.unusedVariables false
set_option linter.unusedSimpArgs false

/-! ### Base: rounds, whole numbers, bits, byte strings (no program in sight) -/
theorem Ev.pos {α : Type} {c : Prop} [Decidable c] {g f : Nat → Option α} {r : α} (h : c) (e : Ev g r) : Ev (fun k => if c then g k else f k) r := by
  simpa only [if_pos h] using e
theorem Ev.neg {α : Type} {c : Prop} [Decidable c] {g f : Nat → Option α} {r : α} (h : ¬ c) (e : Ev f r) : Ev (fun k => if c then g k else f k) r := by
  simpa only [if_neg h] using e
theorem Ev.val {α : Type} (r s : α) (h : r = s) : Ev (fun _ => some r) s := by subst h; exact Ev.now _
theorem Ev.val0 {α : Type} {o : Option α} {s : α} (h : o = some s) : Ev (fun _ => o) s := by subst h; exact Ev.now _
theorem Ev.bind0 {α β : Type} {o : Option α} {f : Nat → α → Option β} {a : α} {r : β} (h : o = some a) (k : Ev (fun n => f n a) r) : Ev (fun n => o.bind (f n)) r := by
  subst h; simpa only [Option.bind_some] using k
theorem Ev.and {α β : Type} {g : Nat → Option α} {f : Nat → Option β} {r : α} {s : β} (h : Ev g r) (k : Ev f s) : ∃ K, ∀ n, K ≤ n → g n = some r ∧ f n = some s := by
  obtain ⟨K, h⟩ := h
  obtain ⟨L, k⟩ := k
  exact ⟨max K L, fun n hn => ⟨h n (by omega), k n (by omega)⟩⟩

theorem Ev.ite {α : Type} {c d : Prop} [Decidable c] [Decidable d] {g f : Nat → Option α} {a b : α} (h : c ↔ d) (e : d → Ev g a) (e' : ¬ d → Ev f b) : Ev (fun k => if c then g k else f k) (if d then a else b) := by
  by_cases x : d
  · rw [if_pos x]; exact Ev.pos (h.2 x) (e x)
  · rw [if_neg x]; exact Ev.neg (fun y => x (h.1 y)) (e' x)
theorem w64 {x : Int} (h0 : -9223372036854775808 ≤ x) (h1 : x ≤ 9223372036854775807) : wrap64 x = x := by unfold wrap64; omega
theorem wf64 {x : Int} (h : (Lit.int .i64 x).wf = true) : -9223372036854775808 ≤ x ∧ x ≤ 9223372036854775807 := by
  simp [Lit.wf, IntKind.min, IntKind.max, IntKind.signed, IntKind.bits] at h
  omega
theorem tdiv_nn {x y : Int} (h : 0 ≤ x) : Int.tdiv x y = x / y := Int.tdiv_eq_ediv_of_nonneg h
theorem tmod_nn {x y : Int} (h : 0 ≤ x) : Int.tmod x y = x % y := Int.tmod_eq_emod_of_nonneg h

theorem wraps_i64 (n : Int) (h₀ : 0 ≤ n) (h₁ : n < 2 ^ 63) : IntKind.i64.wrap n = n := by rw [IntKind.wrap_i64]; omega
theorem and_mask (i : Nat) (hi : i ≤ 63) (x : Int) (h0 : 0 ≤ x) (h1 : x < 9223372036854775808) : Go.bits .and .i64 x (2 ^ i - 1) = x % 2 ^ i :=
  bits_mask .i64 63 (by decide) wraps_i64 i hi x h0 h1
theorem and127 {x : Int} (h0 : 0 ≤ x) (h1 : x < 9223372036854775808) : Go.bits .and .i64 x 127 = x % 128 := and_mask 7 (by decide) x h0 h1
theorem and255 {x : Int} (h0 : 0 ≤ x) (h1 : x < 9223372036854775808) : Go.bits .and .i64 x 255 = x % 256 := and_mask 8 (by decide) x h0 h1
theorem and1 {x : Int} (h0 : 0 ≤ x) (h1 : x < 9223372036854775808) : Go.bits .and .i64 x 1 = x % 2 := and_mask 1 (by decide) x h0 h1
theorem or_join (i : Nat) (x y : Int) (hx : 0 ≤ x) (hm : x % 2 ^ i = 0) (hx1 : x < 9223372036854775808) (hy : 0 ≤ y) (hy1 : y < 2 ^ i) (hy2 : y < 9223372036854775808) : Go.bits .or .i64 x y = x + y :=
  bits_join .i64 63 (by decide) wraps_i64 i x y hx hm hx1 hy hy1 hy2
theorem bits_or_comm (k : IntKind) (x y : Int) : Go.bits .or k x y = Go.bits .or k y x := by simp only [Go.bits, BitVec.or_comm]
theorem or_join' (i : Nat) (x y : Int) (hx : 0 ≤ x) (hm : x % 2 ^ i = 0) (hx1 : x < 9223372036854775808) (hy : 0 ≤ y) (hy1 : y < 2 ^ i) (hy2 : y < 9223372036854775808) : Go.bits .or .i64 y x = x + y := by
  rw [bits_or_comm]; exact or_join i x y hx hm hx1 hy hy1 hy2
theorem u8_and127 {x : Int} (h0 : 0 ≤ x) (h1 : x < 256) : Go.bits .and .u8 x 127 = x % 128 := bits_mask .u8 8 (by decide) wraps_u8 7 (by decide) x h0 h1
theorem bits_xor_nat (a b : Nat) (ha : a < 2 ^ 63) (hb : b < 2 ^ 63) : Go.bits .xor .i64 a b = ((a ^^^ b : Nat) : Int) := by
  have hp : 2 ^ 63 ≤ 2 ^ IntKind.i64.bits := Nat.pow_le_pow_right (by decide) (by decide)
  have ha' : a % 2 ^ IntKind.i64.bits = a := Nat.mod_eq_of_lt (Nat.lt_of_lt_of_le ha hp)
  have hb' : b % 2 ^ IntKind.i64.bits = b := Nat.mod_eq_of_lt (Nat.lt_of_lt_of_le hb hp)
  simp only [Go.bits, BitVec.ofInt_natCast, BitVec.toNat_xor, BitVec.toNat_ofNat, ha', hb']
  exact wraps_i64 _ (Int.natCast_nonneg _) (by exact_mod_cast Nat.xor_lt_two_pow ha hb)

theorem wbt (s : ByteArray) (i : Int) : wrap64 (bt s i) = bt s i := by have := bt_range s i; exact w64 (by omega) (by omega)
theorem toList_eq {s t : ByteArray} (h : s = t) : s.toList = t.toList := by rw [h]
theorem strOf_append (xs ys : List Int) : strOfNums xs ++ strOfNums ys = strOfNums (xs ++ ys) := by
  apply ByteArray.ext
  rw [ByteArray.data_append]
  simp [strOfNums]
theorem strOf_size (xs : List Int) : (strOfNums xs).size = xs.length := by simp [strOfNums, ByteArray.size]
theorem strOf_nil : (⟨#[]⟩ : ByteArray) = strOfNums [] := rfl
theorem cast_pow256 (d : Nat) : ((256 ^ d : Nat) : Int) = (256 : Int) ^ d := Int.natCast_pow 256 d
theorem lt_pow256 (m d : Nat) : ((m : Int) < 256 ^ d) = (m < 256 ^ d) := by
  rw [← cast_pow256]; exact propext Int.ofNat_lt
theorem pow256_six (i : Int) (h0 : 0 ≤ i) (h1 : i ≤ 6) : (256 : Int) ^ i.toNat ≤ 281474976710656 := by
  obtain rfl | rfl | rfl | rfl | rfl | rfl | rfl : i = 0 ∨ i = 1 ∨ i = 2 ∨ i = 3 ∨ i = 4 ∨ i = 5 ∨ i = 6 := by omega
  all_goals decide

/-! ### what Fixed makes, and what ReadFixed reads -/
def fixL : Nat → Nat → List Int
  | 0, _ => []
  | w + 1, n => fixL w (n / 256) ++ [((n % 256 : Nat) : Int)]
theorem fixL_length : ∀ (w n : Nat), (fixL w n).length = w
  | 0, _ => rfl
  | w + 1, n => by simp [fixL, fixL_length w]
theorem set_replicate (i : Nat) (v : Int) (xs : List Int) : (List.replicate (i + 1) 0 ++ xs).set i v = List.replicate i 0 ++ (v :: xs) := by
  rw [List.replicate_succ', List.append_assoc, List.set_append_right _ _ (by simp)]
  simp
/-- What Fixed(n, w) is. -/
def fixedV (n w : Int) : List Int := if 1 ≤ w ∧ w ≤ 7 ∧ 0 ≤ n ∧ n < 256 ^ w.toNat then fixL w.toNat n.toNat else []
def beAcc (s : ByteArray) : Nat → Int → Int → Int
  | 0, _, n => n
  | d + 1, i, n => beAcc s d (i + 1) (n * 256 + bt s i)
/-- What ReadFixed(s, w) is. -/
def readFixedV (s : ByteArray) (w : Int) : Int × Bool := if 1 ≤ w ∧ w ≤ 7 ∧ w ≤ (s.size : Int) then (beAcc s w.toNat 0 0, true) else (0, false)

/-! ### what Crc is -/
def crcStep (c : Nat) : Nat := if c % 2 = 1 then (c / 2) ^^^ 2197175160 else c / 2
def crcRounds : Nat → Nat → Nat
  | 0, c => c
  | d + 1, c => crcRounds d (crcStep c)
theorem crcStep_lt {c : Nat} (h : c < 2 ^ 32) : crcStep c < 2 ^ 32 := by
  unfold crcStep
  split
  · exact Nat.xor_lt_two_pow (by omega) (by decide)
  · omega
theorem crcRounds_lt : ∀ (d c : Nat), c < 2 ^ 32 → crcRounds d c < 2 ^ 32
  | 0, _, h => h
  | d + 1, c, h => crcRounds_lt d _ (crcStep_lt h)
def crcFrom (s : ByteArray) : Nat → Nat → Nat → Nat
  | 0, _, c => c
  | d + 1, i, c => crcFrom s d (i + 1) (crcRounds 8 (c ^^^ (bt s i).toNat))
theorem crcIn_lt (s : ByteArray) (i : Nat) {c : Nat} (h : c < 2 ^ 32) : c ^^^ (bt s i).toNat < 2 ^ 32 := by
  have := bt_range s i
  exact Nat.xor_lt_two_pow h (by omega)
theorem crcFrom_lt (s : ByteArray) : ∀ (d i c : Nat), c < 2 ^ 32 → crcFrom s d i c < 2 ^ 32
  | 0, _, _, h => h
  | d + 1, i, c, h => crcFrom_lt s d (i + 1) _ (crcRounds_lt 8 _ (crcIn_lt s i h))
/-- What Crc(s) is. -/
def crcV (s : ByteArray) : Int := 4294967295 - (crcFrom s s.size 0 4294967295 : Nat)
theorem crcV_range (s : ByteArray) : 0 ≤ crcV s ∧ crcV s ≤ 4294967295 := by
  have := crcFrom_lt s s.size 0 4294967295 (by decide)
  unfold crcV; omega

/-! ### Str: a byte string as the list of its numbers -/
def IsB (xs : List Int) : Prop := ∀ x ∈ xs, 0 ≤ x ∧ x ≤ 255
def bl (s : ByteArray) : List Int := s.data.toList.map fun b => (b.toNat : Int)
theorem bl_isB (s : ByteArray) : IsB (bl s) := by
  intro x hx
  simp only [bl, List.mem_map] at hx
  obtain ⟨b, _, rfl⟩ := hx
  have := b.toNat_lt
  omega
theorem bl_length (s : ByteArray) : (bl s).length = s.size := by unfold bl; rw [List.length_map]; rfl
theorem strOf_bl (s : ByteArray) : strOfNums (bl s) = s := by
  apply ByteArray.ext
  apply Array.ext'
  unfold strOfNums bl
  rw [List.map_map]
  have : ((fun n : Int => UInt8.ofNat n.toNat) ∘ fun b : UInt8 => (b.toNat : Int)) = id := by
    funext b
    simp only [Function.comp_apply, Int.toNat_natCast, UInt8.ofNat_toNat, id]
  rw [this, List.map_id]
theorem bl_strOf {xs : List Int} (h : IsB xs) : bl (strOfNums xs) = xs := by
  induction xs with
  | nil => rfl
  | cons a l ih =>
    have ha := h a (by simp)
    have hl := ih (fun x hx => h x (by simp [hx]))
    simp only [bl, strOfNums, List.map_cons, List.toList_toArray] at hl ⊢
    rw [hl]
    congr 1
    simp only [UInt8.toNat_ofNat']
    omega
theorem bl_append (s t : ByteArray) : bl (s ++ t) = bl s ++ bl t := by simp [bl, ByteArray.data_append]
theorem bl_extract (s : ByteArray) (a b : Nat) : bl (s.extract a b) = ((bl s).drop a).take (b - a) := by
  simp [bl, ByteArray.data_extract, List.extract_eq_take_drop, List.map_take, List.map_drop]
theorem bl_inj {s t : ByteArray} (h : bl s = bl t) : s = t := by rw [← strOf_bl s, ← strOf_bl t, h]
theorem tl_iff (s t : ByteArray) : s.toList = t.toList ↔ s = t := by
  constructor
  · intro h
    rw [Go.Lib.toList_data, Go.Lib.toList_data] at h
    exact ByteArray.ext (Array.ext' h)
  · intro h; rw [h]
theorem bt_bl (s : ByteArray) (i : Int) : bt s i = rd (bl s) i := by
  unfold bt rd bl
  split
  · rename_i h
    have h' : i.toNat < s.data.toList.length := h
    rw [List.getD_eq_getElem?_getD, List.getElem?_map, List.getElem?_eq_getElem h']
    simp only [Option.map_some, Option.getD_some]
    rfl
  · rename_i h
    have h' : ¬ i.toNat < s.data.toList.length := h
    rw [List.getD_eq_getElem?_getD, List.getElem?_map, List.getElem?_eq_none (by omega)]
    rfl
theorem bt_nat (s : ByteArray) (i : Nat) (h : i < s.size) : bt s (i : Int) = (bl s)[i]'(by rw [bl_length]; exact h) := by
  rw [bt_bl]
  unfold rd
  rw [Int.toNat_natCast, List.getD_eq_getElem?_getD, List.getElem?_eq_getElem (by rw [bl_length]; exact h)]
  rfl
theorem isB_nil : IsB [] := fun _ h => by cases h
theorem isB_append {xs ys : List Int} (h : IsB xs) (k : IsB ys) : IsB (xs ++ ys) := fun x hx => (List.mem_append.1 hx).elim (h x) (k x)
theorem isB_cons {x : Int} {ys : List Int} (h : 0 ≤ x ∧ x ≤ 255) (k : IsB ys) : IsB (x :: ys) := by
  intro y hy
  rcases List.mem_cons.1 hy with e | e
  · subst e; exact h
  · exact k y e
theorem strOf_inj {xs ys : List Int} (h : IsB xs) (k : IsB ys) (e : strOfNums xs = strOfNums ys) : xs = ys := by
  rw [← bl_strOf h, ← bl_strOf k, e]
instance instDecEqBytes : DecidableEq ByteArray := fun a b => decidable_of_iff (a.toList = b.toList) (tl_iff a b)
instance instDecMemBytes (x : ByteArray) : (l : List ByteArray) → Decidable (x ∈ l)
  | [] => .isFalse (by simp)
  | y :: l => if h : x = y then .isTrue (by simp [h]) else (match instDecMemBytes x l with
    | .isTrue k => .isTrue (by simp [k])
    | .isFalse k => .isFalse (by simp [h, k]))

/-- What Frame(b) is. -/
def frameV (b : ByteArray) : ByteArray := if 1 ≤ b.size ∧ b.size ≤ 2000 then (strOfNums (fixedV b.size 4) ++ strOfNums (fixedV (crcV (strOfNums (fixedV b.size 4) ++ b)) 4)) ++ b else strOfNums []
theorem fixedV_4 {n : Int} (h0 : 0 ≤ n) (h1 : n ≤ 4294967295) : fixedV n 4 = fixL 4 n.toNat := by
  unfold fixedV
  have e : (256 : Int) ^ (4 : Int).toNat = 4294967296 := by decide
  rw [if_pos (by rw [e]; omega)]
  rfl
theorem size_append (a b : ByteArray) : (a ++ b).size = a.size + b.size := ByteArray.size_append

theorem beAcc4 (s : ByteArray) : 0 ≤ beAcc s 4 0 0 ∧ beAcc s 4 0 0 ≤ 4294967295 := by
  have h0 := bt_range s 0
  have h1 := bt_range s (0 + 1)
  have h2 := bt_range s (0 + 1 + 1)
  have h3 := bt_range s (0 + 1 + 1 + 1)
  simp only [beAcc]
  omega
theorem readFixed4 (s : ByteArray) : readFixedV s 4 = if 4 ≤ s.size then (beAcc s 4 0 0, true) else (0, false) := by
  unfold readFixedV
  by_cases h : 4 ≤ s.size
  · rw [if_pos h, if_pos (by omega)]; rfl
  · rw [if_neg h, if_neg (by omega)]
/-- What Unframe(s) is. -/
def unframeV (s : ByteArray) : ByteArray × Int × Int :=
  if 4 ≤ s.size then
    (if 1 ≤ beAcc s 4 0 0 ∧ beAcc s 4 0 0 ≤ 2000 then
      (if (s.size : Int) < 8 + beAcc s 4 0 0 then (strOfNums [], 0, 1)
       else if (frameV (s.extract 8 (8 + beAcc s 4 0 0).toNat)).toList = (s.extract 0 (8 + beAcc s 4 0 0).toNat).toList then (s.extract 8 (8 + beAcc s 4 0 0).toNat, 8 + beAcc s 4 0 0, 0) else (strOfNums [], 0, 2))
     else (strOfNums [], 0, 2))
  else (strOfNums [], 0, 1)
theorem extract_le (s : ByteArray) (a b : Nat) : (s.extract a b).size ≤ s.size := by rw [ByteArray.size_extract]; omega

theorem unframe_ok {s : ByteArray} (h : (unframeV s).2.2 = 0) : 9 ≤ (unframeV s).2.1 ∧ (unframeV s).2.1 ≤ s.size ∧ (((unframeV s).1.size : Int) + 8 = (unframeV s).2.1) ∧ (unframeV s).1.size ≤ 2000 := by
  unfold unframeV at h ⊢
  have hr := beAcc4 s
  generalize beAcc s 4 0 0 = n at h hr ⊢
  split at h
  · rename_i c1
    split at h
    · rename_i c2
      split at h
      · cases h
      · rename_i c3
        split at h
        · rename_i c4
          rw [if_pos c1, if_pos c2, if_neg c3, if_pos c4]
          have e : (s.extract 8 (8 + n).toNat).size = (8 + n).toNat - 8 := by rw [ByteArray.size_extract]; omega
          simp only [e]
          omega
        · cases h
    · cases h
  · cases h
/-- what Frames comes to from place pos on -/
def frFrom (s : ByteArray) : Nat → Nat → List ByteArray → List ByteArray × Int
  | 0, pos, acc => (acc, pos)
  | f + 1, pos, acc => if (unframeV (s.extract pos s.size)).2.2 = 0 then frFrom s f (pos + (unframeV (s.extract pos s.size)).2.1.toNat) (acc ++ [(unframeV (s.extract pos s.size)).1]) else (acc, pos)
def framesV (s : ByteArray) : List ByteArray × Int := frFrom s s.size 0 []
theorem frFrom_len (s : ByteArray) : ∀ (f pos : Nat) (acc : List ByteArray), acc.length ≤ pos → pos ≤ s.size → (frFrom s f pos acc).1.length ≤ s.size
  | 0, pos, acc, h, hp => by simp only [frFrom]; omega
  | f + 1, pos, acc, h, hp => by
    rw [frFrom]
    split
    · rename_i c
      have u := unframe_ok c
      have e : (s.extract pos s.size).size = s.size - pos := by rw [ByteArray.size_extract]; omega
      rw [e] at u
      exact frFrom_len s f _ _ (by rw [List.length_append]; simp; omega) (by omega)
    · simp only; omega
theorem framesV_len (s : ByteArray) : (framesV s).1.length ≤ s.size := frFrom_len s s.size 0 [] (by simp) (by omega)

theorem spec_l1In_eq (a b c : Int) : spec_l1In.f a b c = some (decide (b ≤ a ∧ a ≤ c)) := by
  unfold spec_l1In.f
  by_cases h : a ≥ b
  · rw [if_pos h]; simp [show b ≤ a from h]
  · rw [if_neg h]; simp [show ¬ b ≤ a from h]

theorem spec_Fixed_l0 (d : Nat) : ∀ (n : Nat) (w i : Int) (xs : List Int), 0 ≤ i → w - i = d → w ≤ 7 → xs.length ≤ i → n < 9223372036854775808 →
    Ev (fun k => spec_Fixed.l0 k (n : Int) w (strOfNums xs) i) (strOfNums (if n < 256 ^ d then fixL d n ++ xs else [])) := by
  induction d with
  | zero =>
    intro n w i xs hi hd hw hx hn
    refine Ev.step (fun k => by rw [spec_Fixed.l0]) ?_
    refine Ev.neg (by omega) ?_
    by_cases c : n = 0
    · subst c
      exact Ev.neg (by omega) (Ev.val _ _ (by simp [fixL]))
    · refine Ev.pos (by omega) (Ev.val _ _ ?_)
      rw [if_neg (by simp; omega)]; rfl
  | succ d ih =>
    intro n w i xs hi hd hw hx hn
    refine Ev.step (fun k => by rw [spec_Fixed.l0]) ?_
    refine Ev.pos (by omega) (Ev.bind (Ev.now _) (Ev.pos (by rw [strOf_size, strOf_size]; simp; omega) ?_))
    have e1 : (Int.tmod (n : Int) 256) % 256 = ((n % 256 : Nat) : Int) := by rw [tmod_nn (by omega)]; omega
    have e2 : wrap64 (Int.tdiv (n : Int) 256) = ((n / 256 : Nat) : Int) := by rw [tdiv_nn (by omega), w64 (by omega) (by omega)]; omega
    rw [e1, e2, w64 (by omega) (by omega), strOf_append]
    have := ih (n / 256) w (i + 1) ([((n % 256 : Nat) : Int)] ++ xs) (by omega) (by omega) hw (by simp; omega) (by omega)
    have e3 : (n / 256 < 256 ^ d) = (n < 256 ^ (d + 1)) := by
      rw [Nat.pow_succ, Nat.div_lt_iff_lt_mul (by decide)]
    simp only [e3] at this
    simpa [fixL, List.append_assoc] using this
theorem spec_Fixed_ev (n w : Int) (hn : n ≤ 9223372036854775807) : Ev (fun k => spec_Fixed.f k n w) (strOfNums (fixedV n w)) := by
  unfold spec_Fixed.f fixedV
  refine Ev.bind0 (spec_l1In_eq _ _ _) ?_
  by_cases c : 1 ≤ w ∧ w ≤ 7
  · refine Ev.pos (by simp; omega) ?_
    refine Ev.step (fun k => by rw [spec_Fixed.j0]) ?_
    by_cases c2 : n < 0
    · refine Ev.pos (by simpa using c2) (Ev.val _ _ ?_)
      rw [if_neg (by omega)]; rfl
    · obtain ⟨m, rfl⟩ := Int.eq_ofNat_of_zero_le (show 0 ≤ n by omega)
      obtain ⟨d, rfl⟩ := Int.eq_ofNat_of_zero_le (show 0 ≤ w by omega)
      refine Ev.neg (by simp) ?_
      rw [strOf_nil]
      have := spec_Fixed_l0 d m (d : Int) 0 [] (by omega) (by omega) (by omega) (by simp) (by omega)
      have e : (m < 256 ^ d) = (1 ≤ (d : Int) ∧ (d : Int) ≤ 7 ∧ 0 ≤ (m : Int) ∧ (m : Int) < 256 ^ (d : Int).toNat) := by
        rw [Int.toNat_natCast, lt_pow256]; apply propext; omega
      simp only [e] at this
      simpa using this
  · refine Ev.neg (by simp; omega) ?_
    refine Ev.step (fun k => by rw [spec_Fixed.j0]) ?_
    refine Ev.pos rfl (Ev.val _ _ ?_)
    rw [if_neg (by omega)]; rfl

theorem spec_Crc_l1 (s : ByteArray) (i : Nat) (r : Int) (d : Nat) : ∀ (c : Nat) (j : Int), c < 2 ^ 32 → 8 - j = d → 0 ≤ j → i < 9223372036854775807 →
    Ev (fun k => spec_Crc.l0 k s ((crcRounds d c : Nat) : Int) ((i + 1 : Nat) : Int)) r → Ev (fun k => spec_Crc.l1 k s (c : Int) (i : Int) j) r := by
  induction d with
  | zero =>
    intro c j hc hd hj hi h
    refine Ev.step (fun k => by rw [spec_Crc.l1]) (Ev.neg (by omega) ?_)
    rw [w64 (by omega) (by omega)]
    exact h
  | succ d ih =>
    intro c j hc hd hj hi h
    have hlt := crcStep_lt hc
    refine Ev.step (fun k => by rw [spec_Crc.l1]) (Ev.pos (by omega) ?_)
    rw [tmod_nn (by omega), tdiv_nn (by omega), w64 (x := (c : Int) / 2) (by omega) (by omega), w64 (x := j + 1) (by omega) (by omega)]
    have g := ih (crcStep c) (j + 1) hlt (by omega) (by omega) hi h
    by_cases o : c % 2 = 1
    · refine Ev.pos (by omega) ?_
      have e : Go.bits .xor .i64 ((c : Int) / 2) 2197175160 = ((crcStep c : Nat) : Int) := by
        rw [show ((c : Int) / 2) = ((c / 2 : Nat) : Int) by omega, show (2197175160 : Int) = ((2197175160 : Nat) : Int) from rfl, bits_xor_nat _ _ (by omega) (by decide)]
        unfold crcStep; rw [if_pos o]
      rw [e]; exact g
    · refine Ev.neg (by omega) ?_
      have e : (c : Int) / 2 = ((crcStep c : Nat) : Int) := by unfold crcStep; rw [if_neg o]; omega
      rw [e]; exact g
theorem spec_Crc_l0 (s : ByteArray) (hs : s.size ≤ 140737488351232) (d : Nat) : ∀ (i c : Nat), c < 2 ^ 32 → s.size - i = d → i ≤ s.size →
    Ev (fun k => spec_Crc.l0 k s (c : Int) (i : Int)) (4294967295 - (crcFrom s d i c : Nat)) := by
  induction d with
  | zero =>
    intro i c hc hd hi
    exact Ev.step (fun k => by rw [spec_Crc.l0]) (Ev.neg (by omega) (Ev.val _ _ (by simp only [crcFrom]; rw [w64 (by omega) (by omega)])))
  | succ d ih =>
    intro i c hc hd hi
    have hb := bt_range s i
    refine Ev.step (fun k => by rw [spec_Crc.l0]) (Ev.pos (by omega) (Ev.pos (by omega) ?_))
    rw [wbt, show bt s (i : Int) = ((bt s i).toNat : Int) by omega, bits_xor_nat _ _ (by omega) (by omega)]
    exact spec_Crc_l1 s i _ 8 _ 0 (crcIn_lt s i hc) (by omega) (by omega) (by omega) (ih (i + 1) _ (crcRounds_lt 8 _ (crcIn_lt s i hc)) (by omega) (by omega))
theorem spec_Crc_ev (s : ByteArray) (hs : s.size ≤ 140737488351232) : Ev (fun k => spec_Crc.f k s) (crcV s) := by
  unfold spec_Crc.f
  exact spec_Crc_l0 s hs s.size 0 4294967295 (by decide) (by omega) (by omega)

theorem spec_Frame_ev (b : ByteArray) (hb : b.size ≤ 140737488351232) : Ev (fun k => spec_Frame.f k b) (frameV b) := by
  have no : ¬ (1 ≤ b.size ∧ b.size ≤ 2000) → Ev (fun k => spec_Frame.j0 k b true) (frameV b) := by
    intro h
    refine Ev.step (fun k => by rw [spec_Frame.j0]) ?_
    unfold frameV
    rw [if_neg h]
    exact Ev.pos rfl (Ev.now _)
  unfold spec_Frame.f
  by_cases c : (b.size : Int) = 0
  · exact Ev.pos c (no (by omega))
  · refine Ev.neg c ?_
    by_cases c2 : (b.size : Int) > 2000
    · rw [decide_eq_true c2]; exact no (by omega)
    · rw [decide_eq_false c2]
      refine Ev.step (fun k => by rw [spec_Frame.j0]) ?_
      unfold frameV
      rw [if_pos (by omega)]
      have h4 : (strOfNums (fixedV (b.size : Int) 4)).size = 4 := by rw [strOf_size, fixedV_4 (by omega) (by omega), fixL_length]
      have hc := crcV_range (strOfNums (fixedV (b.size : Int) 4) ++ b)
      have h5 : (strOfNums (fixedV (crcV (strOfNums (fixedV (b.size : Int) 4) ++ b)) 4)).size = 4 := by rw [strOf_size, fixedV_4 hc.1 hc.2, fixL_length]
      refine Ev.neg (by simp) (Ev.bind (spec_Fixed_ev _ _ (by omega)) (Ev.pos (by omega) ?_))
      refine Ev.bind (spec_Crc_ev _ (by rw [size_append]; omega)) (Ev.bind (spec_Fixed_ev _ _ (by omega)) ?_)
      exact Ev.pos (by omega) (Ev.pos (by rw [size_append]; omega) (Ev.now _))

theorem spec_ReadFixed_l0 (s : ByteArray) (d : Nat) : ∀ (w i n : Int), 0 ≤ i → w - i = d → w ≤ 7 → w ≤ (s.size : Int) → 0 ≤ n → n < 256 ^ i.toNat →
    Ev (fun k => spec_ReadFixed.l0 k s w n i) (beAcc s d i n, true) := by
  induction d with
  | zero =>
    intro w i n hi hd hw hs hn hn2
    refine Ev.step (fun k => by rw [spec_ReadFixed.l0]) ?_
    exact Ev.neg (by omega) (Ev.now _)
  | succ d ih =>
    intro w i n hi hd hw hs hn hn2
    refine Ev.step (fun k => by rw [spec_ReadFixed.l0]) ?_
    refine Ev.pos (by omega) (Ev.pos (by omega) (Ev.pos (by omega) ?_))
    have hb := bt_range s i
    have h6 := pow256_six i hi (by omega)
    have h7 : (256 : Int) ^ (i + 1).toNat = 256 ^ i.toNat * 256 := by
      rw [show (i + 1).toNat = i.toNat + 1 by omega, Int.pow_succ]
    rw [wbt, w64 (x := n * 256) (by omega) (by omega), w64 (x := n * 256 + bt s i) (by omega) (by omega), w64 (by omega) (by omega)]
    exact ih w (i + 1) (n * 256 + bt s i) (by omega) (by omega) hw hs (by omega) (by omega)
theorem spec_ReadFixed_ev (s : ByteArray) (w : Int) : Ev (fun k => spec_ReadFixed.f k s w) (readFixedV s w) := by
  unfold spec_ReadFixed.f readFixedV
  refine Ev.bind0 (spec_l1In_eq _ _ _) ?_
  by_cases c : 1 ≤ w ∧ w ≤ 7
  · refine Ev.pos (by simp; omega) ?_
    refine Ev.step (fun k => by rw [spec_ReadFixed.j0]) ?_
    by_cases c2 : w ≤ (s.size : Int)
    · rw [if_pos (by omega)]
      exact Ev.neg (by simp; omega) (spec_ReadFixed_l0 s w.toNat w 0 0 (by omega) (by omega) (by omega) c2 (by omega) (by simp))
    · rw [if_neg (by omega)]
      exact Ev.pos (by simp; omega) (Ev.now _)
  · rw [if_neg (by omega)]
    refine Ev.neg (by simp; omega) ?_
    refine Ev.step (fun k => by rw [spec_ReadFixed.j0]) ?_
    exact Ev.pos rfl (Ev.now _)

theorem spec_Unframe_ev (s : ByteArray) (hs : s.size ≤ 140737488351232) : Ev (fun k => spec_Unframe.f k s) (unframeV s) := by
  have hr := beAcc4 s
  unfold spec_Unframe.f unframeV
  refine Ev.bind (spec_ReadFixed_ev s 4) ?_
  rw [readFixed4]
  by_cases c : 4 ≤ s.size
  · rw [if_pos c, if_pos c]
    refine Ev.pos rfl ?_
    simp only []
    generalize beAcc s 4 0 0 = n at hr
    have bad : ¬ (1 ≤ n ∧ n ≤ 2000) → Ev (fun k => spec_Unframe.j0 k s n true) (if 1 ≤ n ∧ n ≤ 2000 then (if (s.size : Int) < 8 + n then (strOfNums [], 0, 1) else if (frameV (s.extract 8 (8 + n).toNat)).toList = (s.extract 0 (8 + n).toNat).toList then (s.extract 8 (8 + n).toNat, 8 + n, 0) else (strOfNums [], 0, 2)) else (strOfNums [], 0, 2)) := by
      intro h
      refine Ev.step (fun k => by rw [spec_Unframe.j0]) ?_
      rw [if_neg h]
      exact Ev.pos rfl (Ev.now _)
    by_cases c0 : n = 0
    · exact Ev.pos c0 (bad (by omega))
    · refine Ev.neg c0 ?_
      by_cases c1 : n > 2000
      · rw [decide_eq_true c1]; exact bad (by omega)
      · rw [decide_eq_false c1, if_pos (show 1 ≤ n ∧ n ≤ 2000 by omega)]
        refine Ev.step (fun k => by rw [spec_Unframe.j0]) ?_
        rw [w64 (by omega) (by omega)]
        refine Ev.neg (by simp) ?_
        by_cases c2 : (s.size : Int) < 8 + n
        · rw [if_pos c2]; exact Ev.pos c2 (Ev.now _)
        · rw [if_neg c2]
          refine Ev.neg c2 (Ev.pos (by omega) (Ev.pos (by omega) ?_))
          refine Ev.bind (spec_Frame_ev _ (by have := extract_le s 8 (8 + n).toNat; omega)) (Ev.pos (by omega) ?_)
          by_cases c3 : (frameV (s.extract 8 (8 + n).toNat)).toList = (s.extract 0 (8 + n).toNat).toList
          · refine Ev.pos c3 ?_; rw [if_pos c3]; exact Ev.now _
          · refine Ev.neg c3 ?_; rw [if_neg c3]; exact Ev.now _
  · rw [if_neg c, if_neg c]
    exact Ev.neg (by simp) (Ev.now _)

theorem spec_Frames_l0 (s : ByteArray) (hs : s.size ≤ 1048576) (f : Nat) : ∀ (pos : Nat) (acc : List ByteArray), pos ≤ s.size → s.size ≤ pos + f → acc.length ≤ pos →
    Ev (fun k => spec_Frames.l0 k s acc (pos : Int)) (frFrom s f pos acc) := by
  induction f with
  | zero =>
    intro pos acc hp hf ha
    refine Ev.step (fun k => by rw [spec_Frames.l0]) ?_
    exact Ev.neg (by omega) (Ev.now _)
  | succ f ih =>
    intro pos acc hp hf ha
    refine Ev.step (fun k => by rw [spec_Frames.l0]) ?_
    rw [frFrom]
    have e : (s.extract pos s.size).size = s.size - pos := by rw [ByteArray.size_extract]; omega
    by_cases c : (pos : Int) < (s.size : Int)
    · refine Ev.pos c (Ev.pos (by omega) (Ev.pos (by omega) ?_))
      rw [Int.toNat_natCast]
      refine Ev.bind (spec_Unframe_ev _ (by omega)) ?_
      refine Ev.ite Iff.rfl (fun h => ?_) (fun _ => Ev.now _)
      have u := unframe_ok h
      rw [e] at u
      refine Ev.pos (by omega) ?_
      rw [w64 (by omega) (by omega)]
      have := ih (pos + (unframeV (s.extract pos s.size)).2.1.toNat) (acc ++ [(unframeV (s.extract pos s.size)).1]) (by omega) (by omega) (by rw [List.length_append]; simp; omega)
      have e1 : ((pos + (unframeV (s.extract pos s.size)).2.1.toNat : Nat) : Int) = (pos : Int) + (unframeV (s.extract pos s.size)).2.1 := by omega
      rw [e1] at this
      exact this
    · have h : ¬ (unframeV (s.extract pos s.size)).2.2 = 0 := by
        intro h
        have u := unframe_ok h
        rw [e] at u
        omega
      rw [if_neg h]
      exact Ev.neg c (Ev.now _)
theorem spec_Frames_ev (s : ByteArray) (hs : s.size ≤ 1048576) : Ev (fun k => spec_Frames.f k s) (framesV s) := by
  unfold spec_Frames.f framesV
  exact spec_Frames_l0 s hs s.size 0 [] (by omega) (by omega) (by simp)

theorem impl_within_eq (a b c : Int) : impl_within.f a b c = some (decide (b ≤ a ∧ a ≤ c)) := by
  unfold impl_within.f
  by_cases h : a ≥ b
  · rw [if_pos h]; simp [show b ≤ a from h]
  · rw [if_neg h]; simp [show ¬ b ≤ a from h]

theorem impl_Fixed_l0 (d : Nat) : ∀ (n : Nat) (xs : List Int), d ≤ 7 → n < 9223372036854775808 →
    Ev (fun k => impl_Fixed.l0 k (n : Int) (List.replicate d 0 ++ xs) ((d : Int) - 1)) (strOfNums (fixL d n ++ xs)) := by
  induction d with
  | zero =>
    intro n xs hd hn
    refine Ev.step (fun k => by rw [impl_Fixed.l0]) ?_
    exact Ev.neg (by omega) (Ev.val _ _ (by simp [fixL]))
  | succ d ih =>
    intro n xs hd hn
    refine Ev.step (fun k => by rw [impl_Fixed.l0]) ?_
    refine Ev.pos (by omega) (Ev.pos (by omega) (Ev.pos (by simp; omega) ?_))
    have e1 : (Go.bits .and .i64 (n : Int) 255) % 256 = ((n % 256 : Nat) : Int) := by rw [and255 (by omega) (by omega)]; omega
    have e2 : (n : Int) / 256 = ((n / 256 : Nat) : Int) := by omega
    have e3 : ((d + 1 : Nat) : Int) - 1 = (d : Int) := by omega
    rw [e1, e2, e3, w64 (by omega) (by omega), Int.toNat_natCast, set_replicate]
    have := ih (n / 256) (((n % 256 : Nat) : Int) :: xs) (by omega) (by omega)
    simpa [fixL, List.append_assoc] using this
theorem impl_Fixed_ev (n w : Int) (hn : n ≤ 9223372036854775807) : Ev (fun k => impl_Fixed.f k n w) (strOfNums (fixedV n w)) := by
  unfold impl_Fixed.f fixedV
  refine Ev.bind0 (impl_within_eq _ _ _) ?_
  by_cases c : 1 ≤ w ∧ w ≤ 7
  · refine Ev.pos (by simp; omega) ?_
    by_cases c2 : n < 0
    · refine Ev.pos c2 ?_
      refine Ev.step (fun k => by rw [impl_Fixed.j0]) ?_
      refine Ev.pos rfl (Ev.val _ _ ?_)
      rw [if_neg (by omega)]; rfl
    · obtain ⟨m, rfl⟩ := Int.eq_ofNat_of_zero_le (show 0 ≤ n by omega)
      obtain ⟨d, rfl⟩ := Int.eq_ofNat_of_zero_le (show 0 ≤ w by omega)
      have e1 : wrap64 (8 * (d : Int)) = ((8 * d : Nat) : Int) := by rw [w64 (by omega) (by omega)]; omega
      have e2 : shl .i64 1 ((8 * d : Nat) : Int) = ((256 ^ d : Nat) : Int) := by
        obtain rfl | rfl | rfl | rfl | rfl | rfl | rfl : d = 1 ∨ d = 2 ∨ d = 3 ∨ d = 4 ∨ d = 5 ∨ d = 6 ∨ d = 7 := by omega
        all_goals decide
      rw [e1, e2]
      refine Ev.neg c2 (Ev.pos (by omega) ?_)
      refine Ev.step (fun k => by rw [impl_Fixed.j0]) ?_
      have e3 : ((m : Int) < 256 ^ (d : Int).toNat) = (m < 256 ^ d) := by rw [Int.toNat_natCast, lt_pow256]
      by_cases c3 : m < 256 ^ d
      · refine Ev.neg (by simp only [decide_eq_true_eq]; omega) (Ev.pos (by omega) (Ev.pos (by simp; omega) ?_))
        rw [if_pos (by rw [e3]; exact ⟨by omega, by omega, by omega, c3⟩), w64 (by omega) (by omega), Int.toNat_natCast, Int.toNat_natCast]
        simpa using impl_Fixed_l0 d m [] (by omega) (by omega)
      · refine Ev.pos (by simp only [decide_eq_true_eq]; omega) (Ev.val _ _ ?_)
        rw [if_neg (by rw [e3]; omega)]; rfl
  · refine Ev.neg (by simp; omega) ?_
    refine Ev.step (fun k => by rw [impl_Fixed.j0]) ?_
    refine Ev.pos rfl (Ev.val _ _ ?_)
    rw [if_neg (by omega)]; rfl

theorem impl_Crc_l1 (s : ByteArray) (i : Nat) (r : Int) (d : Nat) : ∀ (c : Nat) (j : Int), c < 2 ^ 32 → 8 - j = d → 0 ≤ j → i < 9223372036854775807 →
    Ev (fun k => impl_Crc.l0 k s ((crcRounds d c : Nat) : Int) ((i + 1 : Nat) : Int)) r → Ev (fun k => impl_Crc.l1 k s (c : Int) (i : Int) j) r := by
  induction d with
  | zero =>
    intro c j hc hd hj hi h
    refine Ev.step (fun k => by rw [impl_Crc.l1]) (Ev.neg (by omega) ?_)
    rw [w64 (by omega) (by omega)]
    exact h
  | succ d ih =>
    intro c j hc hd hj hi h
    have hlt := crcStep_lt hc
    refine Ev.step (fun k => by rw [impl_Crc.l1]) (Ev.pos (by omega) ?_)
    rw [and1 (by omega) (by omega), w64 (x := j + 1) (by omega) (by omega)]
    have g := ih (crcStep c) (j + 1) hlt (by omega) (by omega) hi h
    by_cases o : c % 2 = 1
    · refine Ev.pos (by omega) ?_
      have e : Go.bits .xor .i64 ((c : Int) / 2) 2197175160 = ((crcStep c : Nat) : Int) := by
        rw [show ((c : Int) / 2) = ((c / 2 : Nat) : Int) by omega, show (2197175160 : Int) = ((2197175160 : Nat) : Int) from rfl, bits_xor_nat _ _ (by omega) (by decide)]
        unfold crcStep; rw [if_pos o]
      rw [e]; exact g
    · refine Ev.neg (by omega) ?_
      have e : (c : Int) / 2 = ((crcStep c : Nat) : Int) := by unfold crcStep; rw [if_neg o]; omega
      rw [e]; exact g
theorem impl_Crc_l0 (s : ByteArray) (hs : s.size ≤ 140737488351232) (d : Nat) : ∀ (i c : Nat), c < 2 ^ 32 → s.size - i = d → i ≤ s.size →
    Ev (fun k => impl_Crc.l0 k s (c : Int) (i : Int)) (4294967295 - (crcFrom s d i c : Nat)) := by
  induction d with
  | zero =>
    intro i c hc hd hi
    exact Ev.step (fun k => by rw [impl_Crc.l0]) (Ev.neg (by omega) (Ev.val _ _ (by simp only [crcFrom]; rw [w64 (by omega) (by omega)])))
  | succ d ih =>
    intro i c hc hd hi
    have hb := bt_range s i
    refine Ev.step (fun k => by rw [impl_Crc.l0]) (Ev.pos (by omega) (Ev.pos (by omega) ?_))
    rw [wbt, show bt s (i : Int) = ((bt s i).toNat : Int) by omega, bits_xor_nat _ _ (by omega) (by omega)]
    exact impl_Crc_l1 s i _ 8 _ 0 (crcIn_lt s i hc) (by omega) (by omega) (by omega) (ih (i + 1) _ (crcRounds_lt 8 _ (crcIn_lt s i hc)) (by omega) (by omega))
theorem impl_Crc_ev (s : ByteArray) (hs : s.size ≤ 140737488351232) : Ev (fun k => impl_Crc.f k s) (crcV s) := by
  unfold impl_Crc.f
  exact impl_Crc_l0 s hs s.size 0 4294967295 (by decide) (by omega) (by omega)

theorem impl_Frame_ev (b : ByteArray) (hb : b.size ≤ 140737488351232) : Ev (fun k => impl_Frame.f k b) (frameV b) := by
  unfold impl_Frame.f frameV
  refine Ev.bind0 (impl_within_eq _ _ _) ?_
  by_cases c : 1 ≤ b.size ∧ b.size ≤ 2000
  · rw [if_pos c]
    have h4 : (strOfNums (fixedV (b.size : Int) 4)).size = 4 := by rw [strOf_size, fixedV_4 (by omega) (by omega), fixL_length]
    have hc := crcV_range (strOfNums (fixedV (b.size : Int) 4) ++ b)
    have h5 : (strOfNums (fixedV (crcV (strOfNums (fixedV (b.size : Int) 4) ++ b)) 4)).size = 4 := by rw [strOf_size, fixedV_4 hc.1 hc.2, fixL_length]
    refine Ev.pos (by simp; omega) (Ev.bind (impl_Fixed_ev _ _ (by omega)) (Ev.pos (by omega) ?_))
    refine Ev.bind (impl_Crc_ev _ (by rw [size_append]; omega)) (Ev.bind (impl_Fixed_ev _ _ (by omega)) ?_)
    exact Ev.pos (by omega) (Ev.pos (by rw [size_append]; omega) (Ev.now _))
  · rw [if_neg c]
    exact Ev.neg (by simp; omega) (Ev.now _)

theorem impl_ReadFixed_l0 (s : ByteArray) (d : Nat) : ∀ (w i n : Int), 0 ≤ i → w - i = d → w ≤ 7 → w ≤ (s.size : Int) → 0 ≤ n → n < 256 ^ i.toNat →
    Ev (fun k => impl_ReadFixed.l0 k s w n i) (beAcc s d i n, true) := by
  induction d with
  | zero =>
    intro w i n hi hd hw hs hn hn2
    refine Ev.step (fun k => by rw [impl_ReadFixed.l0]) ?_
    exact Ev.neg (by omega) (Ev.now _)
  | succ d ih =>
    intro w i n hi hd hw hs hn hn2
    refine Ev.step (fun k => by rw [impl_ReadFixed.l0]) ?_
    refine Ev.pos (by omega) (Ev.pos (by omega) (Ev.pos (by omega) ?_))
    have hb := bt_range s i
    have h6 := pow256_six i hi (by omega)
    have h7 : (256 : Int) ^ (i + 1).toNat = 256 ^ i.toNat * 256 := by
      rw [show (i + 1).toNat = i.toNat + 1 by omega, Int.pow_succ]
    rw [wbt, w64 (x := n * 256) (by omega) (by omega), or_join 8 (n * 256) (bt s i) (by omega) (by omega) (by omega) (by omega) (by omega) (by omega), w64 (by omega) (by omega)]
    exact ih w (i + 1) (n * 256 + bt s i) (by omega) (by omega) hw hs (by omega) (by omega)
theorem impl_ReadFixed_ev (s : ByteArray) (w : Int) : Ev (fun k => impl_ReadFixed.f k s w) (readFixedV s w) := by
  unfold impl_ReadFixed.f readFixedV
  refine Ev.bind0 (impl_within_eq _ _ _) ?_
  by_cases c : 1 ≤ w ∧ w ≤ 7
  · refine Ev.pos (by simp; omega) ?_
    refine Ev.step (fun k => by rw [impl_ReadFixed.j0]) ?_
    by_cases c2 : w ≤ (s.size : Int)
    · rw [if_pos (by omega)]
      exact Ev.neg (by simp; omega) (impl_ReadFixed_l0 s w.toNat w 0 0 (by omega) (by omega) (by omega) c2 (by omega) (by simp))
    · rw [if_neg (by omega)]
      exact Ev.pos (by simp; omega) (Ev.now _)
  · rw [if_neg (by omega)]
    refine Ev.neg (by simp; omega) ?_
    refine Ev.step (fun k => by rw [impl_ReadFixed.j0]) ?_
    exact Ev.pos rfl (Ev.now _)

theorem impl_Unframe_ev (s : ByteArray) (hs : s.size ≤ 140737488351232) : Ev (fun k => impl_Unframe.f k s) (unframeV s) := by
  have hr := beAcc4 s
  unfold impl_Unframe.f unframeV
  refine Ev.bind (impl_ReadFixed_ev s 4) ?_
  rw [readFixed4]
  by_cases c : 4 ≤ s.size
  · rw [if_pos c, if_pos c]
    refine Ev.pos rfl ?_
    simp only []
    generalize beAcc s 4 0 0 = n at hr
    refine Ev.bind0 (impl_within_eq _ _ _) ?_
    by_cases c1 : 1 ≤ n ∧ n ≤ 2000
    · rw [if_pos c1, w64 (by omega) (by omega)]
      refine Ev.pos (by simpa using c1) ?_
      by_cases c2 : (s.size : Int) < 8 + n
      · rw [if_pos c2]; exact Ev.pos c2 (Ev.now _)
      · rw [if_neg c2]
        refine Ev.neg c2 (Ev.pos (by omega) (Ev.pos (by omega) ?_))
        refine Ev.bind (impl_Frame_ev _ (by have := extract_le s 8 (8 + n).toNat; omega)) (Ev.pos (by omega) ?_)
        by_cases c3 : (frameV (s.extract 8 (8 + n).toNat)).toList = (s.extract 0 (8 + n).toNat).toList
        · refine Ev.pos c3 ?_; rw [if_pos c3]; exact Ev.now _
        · refine Ev.neg c3 ?_; rw [if_neg c3]; exact Ev.now _
    · rw [if_neg c1]
      exact Ev.neg (by simpa using c1) (Ev.now _)
  · rw [if_neg c, if_neg c]
    exact Ev.neg (by simp) (Ev.now _)

theorem impl_Frames_l0 (s : ByteArray) (hs : s.size ≤ 1048576) (f : Nat) : ∀ (pos : Nat) (acc : List ByteArray), pos ≤ s.size → s.size ≤ pos + f → acc.length ≤ pos →
    Ev (fun k => impl_Frames.l0 k s acc (pos : Int)) (frFrom s f pos acc) := by
  induction f with
  | zero =>
    intro pos acc hp hf ha
    refine Ev.step (fun k => by rw [impl_Frames.l0]) ?_
    have e : (s.extract pos s.size).size = s.size - pos := by rw [ByteArray.size_extract]; omega
    refine Ev.pos (by omega) (Ev.pos (by omega) ?_)
    rw [Int.toNat_natCast]
    refine Ev.bind (impl_Unframe_ev _ (by omega)) (Ev.neg ?_ (Ev.now _))
    intro h
    have u := unframe_ok h
    rw [e] at u
    omega
  | succ f ih =>
    intro pos acc hp hf ha
    refine Ev.step (fun k => by rw [impl_Frames.l0]) ?_
    rw [frFrom]
    have e : (s.extract pos s.size).size = s.size - pos := by rw [ByteArray.size_extract]; omega
    refine Ev.pos (by omega) (Ev.pos (by omega) ?_)
    rw [Int.toNat_natCast]
    refine Ev.bind (impl_Unframe_ev _ (by omega)) ?_
    refine Ev.ite Iff.rfl (fun h => ?_) (fun _ => Ev.now _)
    have u := unframe_ok h
    rw [e] at u
    refine Ev.pos (by omega) ?_
    rw [w64 (by omega) (by omega)]
    have := ih (pos + (unframeV (s.extract pos s.size)).2.1.toNat) (acc ++ [(unframeV (s.extract pos s.size)).1]) (by omega) (by omega) (by rw [List.length_append]; simp; omega)
    have e1 : ((pos + (unframeV (s.extract pos s.size)).2.1.toNat : Nat) : Int) = (pos : Int) + (unframeV (s.extract pos s.size)).2.1 := by omega
    rw [e1] at this
    exact this
theorem impl_Frames_ev (s : ByteArray) (hs : s.size ≤ 1048576) : Ev (fun k => impl_Frames.f k s) (framesV s) := by
  unfold impl_Frames.f framesV
  exact impl_Frames_l0 s hs s.size 0 [] (by omega) (by omega) (by simp)

/-! ### vocabularies: the tokens that merges make -/
def tokB (out : List ByteArray) (id : Int) : ByteArray := if id < 256 then strOfNums [id % 256] else rdOf ByteArray.empty out (id - 256)
abbrev pairOk (i : Nat) (p : Int × Int) : Prop := (0 ≤ p.1 ∧ p.1 ≤ 255 + (i : Int)) ∧ (0 ≤ p.2 ∧ p.2 ≤ 255 + (i : Int))
def tokLoop : List (Int × Int) → List ByteArray → List ByteArray × Bool
  | [], out => (out, true)
  | p :: l, out => if pairOk out.length p then (if 24 < (tokB out p.1 ++ tokB out p.2).size ∨ (tokB out p.1 ++ tokB out p.2) ∈ out then (out, false) else tokLoop l (out ++ [tokB out p.1 ++ tokB out p.2])) else (out, false)
def tokV (l : List (Int × Int)) : List ByteArray × Bool := if 60 < l.length then ([], false) else tokLoop l []
def vocabOk (l : List (Int × Int)) : Bool := (tokV l).2
def Short (out : List ByteArray) : Prop := ∀ s ∈ out, s.size ≤ 24
theorem rdOf_mem {out : List ByteArray} {i : Int} (h0 : 0 ≤ i) (h1 : i < out.length) : rdOf ByteArray.empty out i ∈ out := by
  have h : i.toNat < out.length := by omega
  unfold rdOf
  rw [List.getD_eq_getElem?_getD, List.getElem?_eq_getElem h]
  exact List.getElem_mem h
theorem tokB_size {out : List ByteArray} (hs : Short out) {id : Int} (h0 : 0 ≤ id) (h1 : id ≤ 255 + (out.length : Int)) : (tokB out id).size ≤ 24 := by
  unfold tokB
  split
  · rw [strOf_size]; simp
  · exact hs _ (rdOf_mem (by omega) (by omega))
theorem short_snoc {out : List ByteArray} (hs : Short out) {t : ByteArray} (ht : t.size ≤ 24) : Short (out ++ [t]) := by
  intro s h
  rcases List.mem_append.1 h with h | h
  · exact hs s h
  · rw [List.mem_singleton.1 h]; exact ht
theorem short_nil : Short [] := fun _ h => by cases h
theorem rdOf_drop (out : List ByteArray) (j : Nat) (h : j < out.length) : out.drop j = rdOf ByteArray.empty out (j : Int) :: out.drop (j + 1) := by
  unfold rdOf
  rw [Int.toNat_natCast, List.getD_eq_getElem?_getD, List.getElem?_eq_getElem h]
  exact List.drop_eq_getElem_cons h
theorem bsize_append (a b : ByteArray) : (a ++ b).size = a.size + b.size := ByteArray.size_append

/-! ### what Dec makes -/
def decL (n : Nat) : List Int := if n = 0 then [] else decL (n / 10) ++ [((48 + n % 10 : Nat) : Int)]
termination_by n
decreasing_by omega
theorem decL_zero : decL 0 = [] := by rw [decL]; rfl
theorem decL_pos {n : Nat} (h : n ≠ 0) : decL n = decL (n / 10) ++ [((48 + n % 10 : Nat) : Int)] := by rw [decL, if_neg h]
/-- What Dec(n) is. -/
def decV (n : Int) : List Int := if n = 0 then [48] else if n < 0 then 45 :: decL n.natAbs else decL n.natAbs
theorem dec_step (x : Int) (h0 : -9223372036854775808 ≤ x) (h1 : x ≤ 9223372036854775807) (hx : x ≠ 0) :
    (Int.tmod x 10 < 0 → (wrap64 (48 + wrap64 (-(Int.tmod x 10)))) % 256 = ((48 + x.natAbs % 10 : Nat) : Int)) ∧
    (¬ Int.tmod x 10 < 0 → (wrap64 (48 + Int.tmod x 10)) % 256 = ((48 + x.natAbs % 10 : Nat) : Int)) ∧
    (wrap64 (Int.tdiv x 10)).natAbs = x.natAbs / 10 ∧ -9223372036854775808 ≤ wrap64 (Int.tdiv x 10) ∧ wrap64 (Int.tdiv x 10) ≤ 9223372036854775807 := by
  by_cases c : 0 ≤ x
  · obtain ⟨n, rfl⟩ := Int.eq_ofNat_of_zero_le c
    rw [tmod_nn (by omega), tdiv_nn (by omega), w64 (x := (n : Int) / 10) (by omega) (by omega)]
    refine ⟨fun h => by omega, fun _ => ?_, by omega, by omega, by omega⟩
    rw [w64 (by omega) (by omega)]; omega
  · obtain ⟨n, rfl⟩ : ∃ n : Nat, x = -(n : Int) := ⟨x.natAbs, by omega⟩
    rw [Int.neg_tmod, Int.neg_tdiv, tmod_nn (by omega), tdiv_nn (by omega), w64 (x := -((n : Int) / 10)) (by omega) (by omega)]
    refine ⟨fun h => ?_, fun h => ?_, by omega, by omega, by omega⟩
    · rw [w64 (x := -(-((n : Int) % 10))) (by omega) (by omega), w64 (by omega) (by omega)]; omega
    · rw [w64 (by omega) (by omega)]; omega
theorem decL_le : ∀ (k n : Nat), n < 10 ^ k → (decL n).length ≤ k
  | 0, n, h => by
    have : n = 0 := by simpa using h
    subst this; rw [decL_zero]; simp
  | k + 1, n, h => by
    by_cases c : n = 0
    · subst c; rw [decL_zero]; simp
    · rw [decL_pos c, List.length_append]
      have := decL_le k (n / 10) (by rw [Nat.pow_succ] at h; omega)
      simpa using this
theorem decL_20 {n : Nat} (h : n ≤ 9223372036854775808) : (decL n).length ≤ 20 := decL_le 20 n (by omega)

theorem rdOf_get (l : List ByteArray) (i : Nat) (h : i < l.length) : rdOf ByteArray.empty l (i : Int) = l[i] := by
  unfold rdOf
  rw [Int.toNat_natCast, List.getD_eq_getElem?_getD, List.getElem?_eq_getElem h]; rfl
theorem laws_eqStringS_l0 (a : List ByteArray) (ha : a.length ≤ 1048576) (d : Nat) : ∀ (i : Nat), i + d = a.length → Ev (fun k => laws_eqStringS.l0 k a a (i : Int)) true := by
  induction d with
  | zero =>
    intro i hi
    refine Ev.step (fun k => by rw [laws_eqStringS.l0]) ?_
    exact Ev.neg (by omega) (Ev.now _)
  | succ d ih =>
    intro i hi
    refine Ev.step (fun k => by rw [laws_eqStringS.l0]) ?_
    refine Ev.pos (by omega) (Ev.pos (by omega) (Ev.pos (by omega) (Ev.pos rfl ?_)))
    have := ih (i + 1) (by omega)
    have e1 : ((i + 1 : Nat) : Int) = (i : Int) + 1 := by omega
    rw [e1] at this
    rw [w64 (by omega) (by omega)]
    exact this
theorem laws_eqStringS_ev (a : List ByteArray) (ha : a.length ≤ 1048576) : Ev (fun k => laws_eqStringS.f k a a) true := by
  unfold laws_eqStringS.f
  exact Ev.pos rfl (laws_eqStringS_l0 a ha a.length 0 (by omega))
/-- the marks that the laws write -/
def markT (a : Int) : ByteArray := strOfNums (109 :: decL a.toNat)
def marks : Int → Nat → List ByteArray
  | _, 0 => []
  | a, n + 1 => markT a :: marks (a + 1) n
theorem marks_length : ∀ (n : Nat) (a : Int), (marks a n).length = n
  | 0, _ => rfl
  | n + 1, a => by simp [marks, marks_length n]
theorem laws_markText_l0 (n : Nat) : ∀ (xs : List Int), n ≤ 9223372036854775807 → xs.length + (decL n).length ≤ 20 → Ev (fun k => laws_markText.l0 k (n : Int) (strOfNums xs)) (strOfNums (109 :: (decL n ++ xs))) := by
  induction n using Nat.strongRecOn with
  | ind n ih =>
  intro xs hn hl
  refine Ev.step (fun k => by rw [laws_markText.l0]) ?_
  by_cases c : n = 0
  · subst c
    refine Ev.neg (by omega) (Ev.pos (by rw [strOf_size]; omega) ?_)
    rw [show (⟨#[109]⟩ : ByteArray) = strOfNums [109] from rfl, strOf_append, decL_zero]
    exact Ev.now _
  · rw [decL_pos c, List.length_append, List.length_singleton] at hl
    have g := ih (n / 10) (by omega) ([((48 + n % 10 : Nat) : Int)] ++ xs) (by omega) (by rw [List.length_append, List.length_singleton]; omega)
    refine Ev.pos (by omega) (Ev.bind0 rfl (Ev.pos (by rw [strOf_size, strOf_size, List.length_singleton]; omega) ?_))
    have e1 : wrap64 (Int.tdiv (n : Int) 10) = ((n / 10 : Nat) : Int) := by rw [tdiv_nn (by omega), w64 (by omega) (by omega)]; omega
    have e2 : (wrap64 (48 + Int.tmod (n : Int) 10)) % 256 = ((48 + n % 10 : Nat) : Int) := by rw [tmod_nn (by omega), w64 (by omega) (by omega)]; omega
    have e4 : decL n ++ xs = decL (n / 10) ++ ([((48 + n % 10 : Nat) : Int)] ++ xs) := by rw [decL_pos c, List.append_assoc]
    rw [e1, e2, strOf_append, e4]
    exact g
theorem laws_markText_ev (a : Int) (h0 : 0 < a) (h1 : a ≤ 9223372036854775807) : Ev (fun k => laws_markText.f k a) (markT a) := by
  unfold laws_markText.f markT
  refine Ev.neg (by omega) ?_
  obtain ⟨n, rfl⟩ := Int.eq_ofNat_of_zero_le (show 0 ≤ a by omega)
  have := laws_markText_l0 n [] (by omega) (by simpa using decL_20 (by omega))
  rw [List.append_nil] at this
  exact this
theorem laws_markStringS_l0 (d : Nat) : ∀ (ys rest : List ByteArray) (a : Int), rest.length = d → 0 < a → a ≤ 4000000 → ys.length + rest.length ≤ 1048576 → a + rest.length ≤ 4000000 →
    Ev (fun k => laws_markStringS.l0 k (ys ++ rest) a (ys.length : Int)) (a + rest.length, ys ++ marks a rest.length) := by
  induction d with
  | zero =>
    intro ys rest a hr h0 h1 hl ha
    have : rest = [] := List.eq_nil_of_length_eq_zero hr
    subst this
    refine Ev.step (fun k => by rw [laws_markStringS.l0]) ?_
    refine Ev.neg (by simp) (Ev.val _ _ (by simp [marks]))
  | succ d ih =>
    intro ys rest a hr h0 h1 hl ha
    obtain ⟨x, rest', rfl⟩ : ∃ x r, rest = x :: r := by
      cases rest with
      | nil => simp at hr
      | cons x r => exact ⟨x, r, rfl⟩
    simp only [List.length_cons] at hr hl ha
    refine Ev.step (fun k => by rw [laws_markStringS.l0]) ?_
    refine Ev.pos (by simp; omega) (Ev.bind (laws_markText_ev a h0 (by omega)) (Ev.pos (by omega) ?_))
    rw [Int.toNat_natCast, List.set_append_right _ _ (Nat.le_refl _), Nat.sub_self, List.set_cons_zero, w64 (x := a + 1) (by omega) (by omega), w64 (x := (ys.length : Int) + 1) (by omega) (by omega)]
    have := ih (ys ++ [markT a]) rest' (a + 1) (by omega) (by omega) (by omega) (by simp; omega) (by omega)
    have e1 : ((ys ++ [markT a]).length : Int) = (ys.length : Int) + 1 := by simp
    rw [e1] at this
    have e2 : ys ++ markT a :: rest' = (ys ++ [markT a]) ++ rest' := by simp
    have e3 : ((markT a :: rest').length : Int) = (rest'.length : Int) + 1 := by simp
    have e4 : ((x :: rest').length : Int) = (rest'.length : Int) + 1 := by simp
    have e5 : ys ++ marks a (x :: rest').length = (ys ++ [markT a]) ++ marks (a + 1) rest'.length := by simp [marks]
    rw [e2, e4, e5, show a + ((rest'.length : Int) + 1) = a + 1 + rest'.length by omega]
    exact this
theorem laws_markStringS_ev (l : List ByteArray) (a : Int) (h0 : 0 < a) (hl : l.length ≤ 1048576) (ha : a + l.length ≤ 4000000) : Ev (fun k => laws_markStringS.f k l a) (a + l.length, marks a l.length) := by
  unfold laws_markStringS.f
  have := laws_markStringS_l0 l.length [] l a rfl h0 (by omega) (by simpa using hl) ha
  simpa using this
theorem laws_heldStringS_l0 (d : Nat) : ∀ (ys : List ByteArray) (a : Int), 0 < a → ys.length + d ≤ 1048576 → a + d ≤ 4000000 →
    Ev (fun k => laws_heldStringS.l0 k (ys ++ marks a d) a (ys.length : Int)) (a + d) := by
  induction d with
  | zero =>
    intro ys a h0 hl ha
    refine Ev.step (fun k => by rw [laws_heldStringS.l0]) ?_
    refine Ev.neg (by simp [marks]) (Ev.val _ _ (by simp))
  | succ d ih =>
    intro ys a h0 hl ha
    refine Ev.step (fun k => by rw [laws_heldStringS.l0]) ?_
    have hlen : (ys ++ marks a (d + 1)).length = ys.length + (d + 1) := by rw [List.length_append, marks_length]
    refine Ev.pos (by rw [hlen]; omega) (Ev.pos (by omega) (Ev.bind (laws_markText_ev a h0 (by omega)) ?_))
    rw [rdOf_get _ _ (by rw [hlen]; omega)]
    have e0 : (ys ++ marks a (d + 1))[ys.length]'(by rw [hlen]; omega) = markT a := by simp [marks]
    rw [e0]
    refine Ev.pos rfl ?_
    rw [w64 (x := a + 1) (by omega) (by omega), w64 (x := (ys.length : Int) + 1) (by omega) (by omega)]
    have := ih (ys ++ [markT a]) (a + 1) (by omega) (by simp; omega) (by omega)
    have e1 : ((ys ++ [markT a]).length : Int) = (ys.length : Int) + 1 := by simp
    rw [e1] at this
    have e2 : ys ++ marks a (d + 1) = (ys ++ [markT a]) ++ marks (a + 1) d := by simp [marks]
    rw [e2, show a + ((d + 1 : Nat) : Int) = a + 1 + d by omega]
    exact this
theorem laws_heldStringS_ev (n : Nat) (a : Int) (h0 : 0 < a) (hl : n ≤ 1048576) (ha : a + n ≤ 4000000) : Ev (fun k => laws_heldStringS.f k (marks a n) a) (a + n) := by
  unfold laws_heldStringS.f
  have := laws_heldStringS_l0 n [] a h0 (by simpa using hl) ha
  simpa using this

theorem FnExactFrames : laws_FnExactFrames.Pure := by
  intro a0 h0
  refine Ev.rounds (g := fun k => laws_FnExactFrames.f k a0) ?_
  unfold laws_FnExactFrames.f
  by_cases c : (a0.size : Int) > 1048576
  · exact Ev.pos c (Ev.now _)
  · have hs : a0.size ≤ 1048576 := by omega
    have hl := framesV_len a0
    have eq := laws_eqStringS_ev (framesV a0).1 (by omega)
    have hm := laws_markStringS_ev (framesV a0).1 1 (by omega) (by omega) (by omega)
    have hh := laws_heldStringS_ev (framesV a0).1.length 1 (by omega) (by omega) (by omega)
    refine Ev.neg c (Ev.bind (spec_Frames_ev a0 hs) (Ev.bind (impl_Frames_ev a0 hs) (Ev.bind eq (Ev.pos rfl ?_))))
    refine Ev.step (fun k => by rw [laws_FnExactFrames.j0]) ?_
    refine Ev.neg (by simp) (Ev.bind hm (Ev.bind hh (Ev.neg (by omega) (Ev.pos rfl ?_))))
    refine Ev.bind (impl_Frames_ev a0 hs) (Ev.bind eq (Ev.pos rfl ?_))
    refine Ev.step (fun k => by rw [laws_FnExactFrames.j1]) ?_
    exact Ev.neg (by simp) (Ev.bind hh (Ev.neg (by omega) (Ev.pos rfl (Ev.now _))))

end Go.Proofs.Ytagbjmhipgbglaa.Pure
