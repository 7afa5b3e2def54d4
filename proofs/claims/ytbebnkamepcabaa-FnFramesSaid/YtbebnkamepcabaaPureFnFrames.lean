/- The pure statement of the law FnFrames is proved: for all arguments within the stated bounds the printed function answers true. Conditions: none beyond those bounds. -/
import Derived.Test.YtbebnkamepcabaaPFnFramesx4
import Derived.Laws.BitsLemmas
import Derived.Lib.Strings
namespace Go.Proofs.Ytbebnkamepcabaa.Pure
open Go Go.RowKit Go.Proofs.Ytbebnkamepcabaa.PFnFrames Go.Proofs.YtbebnkamepcabaaW.PrintWords Go.Proofs.YtbebnkamepcabaaW.PrintLast Go.Proofs.YtbebnkamepcabaaW.PrintMore
set_option linter.unusedVariables false
set_option linter.unusedSimpArgs false

/-! ### Base: rounds, whole numbers, bits, byte strings (no program in sight) -/
theorem Ev.pos {α : Type} {c : Prop} [Decidable c] {g f : Nat → Option α} {r : α} (h : c) (e : Ev g r) : Ev (fun k => if c then g k else f k) r := by
  simpa only [if_pos h] using e
theorem Ev.neg {α : Type} {c : Prop} [Decidable c] {g f : Nat → Option α} {r : α} (h : ¬ c) (e : Ev f r) : Ev (fun k => if c then g k else f k) r := by
  simpa only [if_neg h] using e
theorem Ev.val {α : Type} (r s : α) (h : r = s) : Ev (fun _ => some r) s := by subst h; exact Ev.now _
theorem Ev.val0 {α : Type} {o : Option α} {s : α} (h : o = some s) : Ev (fun _ => o) s := by subst h; exact Ev.now _
theorem Ev.bind0 {α β : Type} {o : Option α} {f : Nat → α → Option β} {a : α} {r : β} (h : o = some a) (k : Ev (fun n => f n a) r) : Ev (fun n => o.bind (f n)) r := by
  subst h; simpa only [Option.bind_some] using k
theorem Ev.and {α β : Type} {g : Nat → Option α} {f : Nat → Option β} {r : α} {s : β} (h : Ev g r) (k : Ev f s) : ∃ K, ∀ n, K ≤ n → g n = some r ∧ f n = some s := by
  obtain ⟨K, h⟩ := h
  obtain ⟨L, k⟩ := k
  exact ⟨max K L, fun n hn => ⟨h n (by omega), k n (by omega)⟩⟩

theorem Ev.ite {α : Type} {c d : Prop} [Decidable c] [Decidable d] {g f : Nat → Option α} {a b : α} (h : c ↔ d) (e : d → Ev g a) (e' : ¬ d → Ev f b) : Ev (fun k => if c then g k else f k) (if d then a else b) := by
  by_cases x : d
  · rw [if_pos x]; exact Ev.pos (h.2 x) (e x)
  · rw [if_neg x]; exact Ev.neg (fun y => x (h.1 y)) (e' x)
theorem w64 {x : Int} (h0 : -9223372036854775808 ≤ x) (h1 : x ≤ 9223372036854775807) : wrap64 x = x := by unfold wrap64; omega
theorem wf64 {x : Int} (h : (Lit.int .i64 x).wf = true) : -9223372036854775808 ≤ x ∧ x ≤ 9223372036854775807 := by
  simp [Lit.wf, IntKind.min, IntKind.max, IntKind.signed, IntKind.bits] at h
  omega
theorem tdiv_nn {x y : Int} (h : 0 ≤ x) : Int.tdiv x y = x / y := Int.tdiv_eq_ediv_of_nonneg h
theorem tmod_nn {x y : Int} (h : 0 ≤ x) : Int.tmod x y = x % y := Int.tmod_eq_emod_of_nonneg h

theorem wraps_i64 (n : Int) (h₀ : 0 ≤ n) (h₁ : n < 2 ^ 63) : IntKind.i64.wrap n = n := by rw [IntKind.wrap_i64]; omega
theorem and_mask (i : Nat) (hi : i ≤ 63) (x : Int) (h0 : 0 ≤ x) (h1 : x < 9223372036854775808) : Go.bits .and .i64 x (2 ^ i - 1) = x % 2 ^ i :=
  bits_mask .i64 63 (by decide) wraps_i64 i hi x h0 h1
theorem and127 {x : Int} (h0 : 0 ≤ x) (h1 : x < 9223372036854775808) : Go.bits .and .i64 x 127 = x % 128 := and_mask 7 (by decide) x h0 h1
theorem and255 {x : Int} (h0 : 0 ≤ x) (h1 : x < 9223372036854775808) : Go.bits .and .i64 x 255 = x % 256 := and_mask 8 (by decide) x h0 h1
theorem and1 {x : Int} (h0 : 0 ≤ x) (h1 : x < 9223372036854775808) : Go.bits .and .i64 x 1 = x % 2 := and_mask 1 (by decide) x h0 h1
theorem or_join (i : Nat) (x y : Int) (hx : 0 ≤ x) (hm : x % 2 ^ i = 0) (hx1 : x < 9223372036854775808) (hy : 0 ≤ y) (hy1 : y < 2 ^ i) (hy2 : y < 9223372036854775808) : Go.bits .or .i64 x y = x + y :=
  bits_join .i64 63 (by decide) wraps_i64 i x y hx hm hx1 hy hy1 hy2
theorem bits_or_comm (k : IntKind) (x y : Int) : Go.bits .or k x y = Go.bits .or k y x := by simp only [Go.bits, BitVec.or_comm]
theorem or_join' (i : Nat) (x y : Int) (hx : 0 ≤ x) (hm : x % 2 ^ i = 0) (hx1 : x < 9223372036854775808) (hy : 0 ≤ y) (hy1 : y < 2 ^ i) (hy2 : y < 9223372036854775808) : Go.bits .or .i64 y x = x + y := by
  rw [bits_or_comm]; exact or_join i x y hx hm hx1 hy hy1 hy2
theorem u8_and127 {x : Int} (h0 : 0 ≤ x) (h1 : x < 256) : Go.bits .and .u8 x 127 = x % 128 := bits_mask .u8 8 (by decide) wraps_u8 7 (by decide) x h0 h1
theorem bits_xor_nat (a b : Nat) (ha : a < 2 ^ 63) (hb : b < 2 ^ 63) : Go.bits .xor .i64 a b = ((a ^^^ b : Nat) : Int) := by
  have hp : 2 ^ 63 ≤ 2 ^ IntKind.i64.bits := Nat.pow_le_pow_right (by decide) (by decide)
  have ha' : a % 2 ^ IntKind.i64.bits = a := Nat.mod_eq_of_lt (Nat.lt_of_lt_of_le ha hp)
  have hb' : b % 2 ^ IntKind.i64.bits = b := Nat.mod_eq_of_lt (Nat.lt_of_lt_of_le hb hp)
  simp only [Go.bits, BitVec.ofInt_natCast, BitVec.toNat_xor, BitVec.toNat_ofNat, ha', hb']
  exact wraps_i64 _ (Int.natCast_nonneg _) (by exact_mod_cast Nat.xor_lt_two_pow ha hb)

theorem wbt (s : ByteArray) (i : Int) : wrap64 (bt s i) = bt s i := by have := bt_range s i; exact w64 (by omega) (by omega)
theorem toList_eq {s t : ByteArray} (h : s = t) : s.toList = t.toList := by rw [h]
theorem strOf_append (xs ys : List Int) : strOfNums xs ++ strOfNums ys = strOfNums (xs ++ ys) := by
  apply ByteArray.ext
  rw [ByteArray.data_append]
  simp [strOfNums]
theorem strOf_size (xs : List Int) : (strOfNums xs).size = xs.length := by simp [strOfNums, ByteArray.size]
theorem strOf_nil : (⟨#[]⟩ : ByteArray) = strOfNums [] := rfl
theorem cast_pow256 (d : Nat) : ((256 ^ d : Nat) : Int) = (256 : Int) ^ d := Int.natCast_pow 256 d
theorem lt_pow256 (m d : Nat) : ((m : Int) < 256 ^ d) = (m < 256 ^ d) := by
  rw [← cast_pow256]; exact propext Int.ofNat_lt
theorem pow256_six (i : Int) (h0 : 0 ≤ i) (h1 : i ≤ 6) : (256 : Int) ^ i.toNat ≤ 281474976710656 := by
  obtain rfl | rfl | rfl | rfl | rfl | rfl | rfl : i = 0 ∨ i = 1 ∨ i = 2 ∨ i = 3 ∨ i = 4 ∨ i = 5 ∨ i = 6 := by omega
  all_goals decide

/-! ### what Fixed makes, and what ReadFixed reads -/
def fixL : Nat → Nat → List Int
  | 0, _ => []
  | w + 1, n => fixL w (n / 256) ++ [((n % 256 : Nat) : Int)]
theorem fixL_length : ∀ (w n : Nat), (fixL w n).length = w
  | 0, _ => rfl
  | w + 1, n => by simp [fixL, fixL_length w]
theorem set_replicate (i : Nat) (v : Int) (xs : List Int) : (List.replicate (i + 1) 0 ++ xs).set i v = List.replicate i 0 ++ (v :: xs) := by
  rw [List.replicate_succ', List.append_assoc, List.set_append_right _ _ (by simp)]
  simp
/-- What Fixed(n, w) is. -/
def fixedV (n w : Int) : List Int := if 1 ≤ w ∧ w ≤ 7 ∧ 0 ≤ n ∧ n < 256 ^ w.toNat then fixL w.toNat n.toNat else []
def beAcc (s : ByteArray) : Nat → Int → Int → Int
  | 0, _, n => n
  | d + 1, i, n => beAcc s d (i + 1) (n * 256 + bt s i)
/-- What ReadFixed(s, w) is. -/
def readFixedV (s : ByteArray) (w : Int) : Int × Bool := if 1 ≤ w ∧ w ≤ 7 ∧ w ≤ (s.size : Int) then (beAcc s w.toNat 0 0, true) else (0, false)

/-! ### what Crc is -/
def crcStep (c : Nat) : Nat := if c % 2 = 1 then (c / 2) ^^^ 2197175160 else c / 2
def crcRounds : Nat → Nat → Nat
  | 0, c => c
  | d + 1, c => crcRounds d (crcStep c)
theorem crcStep_lt {c : Nat} (h : c < 2 ^ 32) : crcStep c < 2 ^ 32 := by
  unfold crcStep
  split
  · exact Nat.xor_lt_two_pow (by omega) (by decide)
  · omega
theorem crcRounds_lt : ∀ (d c : Nat), c < 2 ^ 32 → crcRounds d c < 2 ^ 32
  | 0, _, h => h
  | d + 1, c, h => crcRounds_lt d _ (crcStep_lt h)
def crcFrom (s : ByteArray) : Nat → Nat → Nat → Nat
  | 0, _, c => c
  | d + 1, i, c => crcFrom s d (i + 1) (crcRounds 8 (c ^^^ (bt s i).toNat))
theorem crcIn_lt (s : ByteArray) (i : Nat) {c : Nat} (h : c < 2 ^ 32) : c ^^^ (bt s i).toNat < 2 ^ 32 := by
  have := bt_range s i
  exact Nat.xor_lt_two_pow h (by omega)
theorem crcFrom_lt (s : ByteArray) : ∀ (d i c : Nat), c < 2 ^ 32 → crcFrom s d i c < 2 ^ 32
  | 0, _, _, h => h
  | d + 1, i, c, h => crcFrom_lt s d (i + 1) _ (crcRounds_lt 8 _ (crcIn_lt s i h))
/-- What Crc(s) is. -/
def crcV (s : ByteArray) : Int := 4294967295 - (crcFrom s s.size 0 4294967295 : Nat)
theorem crcV_range (s : ByteArray) : 0 ≤ crcV s ∧ crcV s ≤ 4294967295 := by
  have := crcFrom_lt s s.size 0 4294967295 (by decide)
  unfold crcV; omega

/-! ### Str: a byte string as the list of its numbers -/
def IsB (xs : List Int) : Prop := ∀ x ∈ xs, 0 ≤ x ∧ x ≤ 255
def bl (s : ByteArray) : List Int := s.data.toList.map fun b => (b.toNat : Int)
theorem bl_isB (s : ByteArray) : IsB (bl s) := by
  intro x hx
  simp only [bl, List.mem_map] at hx
  obtain ⟨b, _, rfl⟩ := hx
  have := b.toNat_lt
  omega
theorem bl_length (s : ByteArray) : (bl s).length = s.size := by unfold bl; rw [List.length_map]; rfl
theorem strOf_bl (s : ByteArray) : strOfNums (bl s) = s := by
  apply ByteArray.ext
  apply Array.ext'
  unfold strOfNums bl
  rw [List.map_map]
  have : ((fun n : Int => UInt8.ofNat n.toNat) ∘ fun b : UInt8 => (b.toNat : Int)) = id := by
    funext b
    simp only [Function.comp_apply, Int.toNat_natCast, UInt8.ofNat_toNat, id]
  rw [this, List.map_id]
theorem bl_strOf {xs : List Int} (h : IsB xs) : bl (strOfNums xs) = xs := by
  induction xs with
  | nil => rfl
  | cons a l ih =>
    have ha := h a (by simp)
    have hl := ih (fun x hx => h x (by simp [hx]))
    simp only [bl, strOfNums, List.map_cons, List.toList_toArray] at hl ⊢
    rw [hl]
    congr 1
    simp only [UInt8.toNat_ofNat']
    omega
theorem bl_append (s t : ByteArray) : bl (s ++ t) = bl s ++ bl t := by simp [bl, ByteArray.data_append]
theorem bl_extract (s : ByteArray) (a b : Nat) : bl (s.extract a b) = ((bl s).drop a).take (b - a) := by
  simp [bl, ByteArray.data_extract, List.extract_eq_take_drop, List.map_take, List.map_drop]
theorem bl_inj {s t : ByteArray} (h : bl s = bl t) : s = t := by rw [← strOf_bl s, ← strOf_bl t, h]
theorem tl_iff (s t : ByteArray) : s.toList = t.toList ↔ s = t := by
  constructor
  · intro h
    rw [Go.Lib.toList_data, Go.Lib.toList_data] at h
    exact ByteArray.ext (Array.ext' h)
  · intro h; rw [h]
theorem bt_bl (s : ByteArray) (i : Int) : bt s i = rd (bl s) i := by
  unfold bt rd bl
  split
  · rename_i h
    have h' : i.toNat < s.data.toList.length := h
    rw [List.getD_eq_getElem?_getD, List.getElem?_map, List.getElem?_eq_getElem h']
    simp only [Option.map_some, Option.getD_some]
    rfl
  · rename_i h
    have h' : ¬ i.toNat < s.data.toList.length := h
    rw [List.getD_eq_getElem?_getD, List.getElem?_map, List.getElem?_eq_none (by omega)]
    rfl
theorem bt_nat (s : ByteArray) (i : Nat) (h : i < s.size) : bt s (i : Int) = (bl s)[i]'(by rw [bl_length]; exact h) := by
  rw [bt_bl]
  unfold rd
  rw [Int.toNat_natCast, List.getD_eq_getElem?_getD, List.getElem?_eq_getElem (by rw [bl_length]; exact h)]
  rfl
theorem isB_nil : IsB [] := fun _ h => by cases h
theorem isB_append {xs ys : List Int} (h : IsB xs) (k : IsB ys) : IsB (xs ++ ys) := fun x hx => (List.mem_append.1 hx).elim (h x) (k x)
theorem isB_cons {x : Int} {ys : List Int} (h : 0 ≤ x ∧ x ≤ 255) (k : IsB ys) : IsB (x :: ys) := by
  intro y hy
  rcases List.mem_cons.1 hy with e | e
  · subst e; exact h
  · exact k y e
theorem strOf_inj {xs ys : List Int} (h : IsB xs) (k : IsB ys) (e : strOfNums xs = strOfNums ys) : xs = ys := by
  rw [← bl_strOf h, ← bl_strOf k, e]
instance instDecEqBytes : DecidableEq ByteArray := fun a b => decidable_of_iff (a.toList = b.toList) (tl_iff a b)
instance instDecMemBytes (x : ByteArray) : (l : List ByteArray) → Decidable (x ∈ l)
  | [] => .isFalse (by simp)
  | y :: l => if h : x = y then .isTrue (by simp [h]) else (match instDecMemBytes x l with
    | .isTrue k => .isTrue (by simp [k])
    | .isFalse k => .isFalse (by simp [h, k]))

/-- What Frame(b) is. -/
def frameV (b : ByteArray) : ByteArray := if 1 ≤ b.size ∧ b.size ≤ 2000 then (strOfNums (fixedV b.size 4) ++ strOfNums (fixedV (crcV (strOfNums (fixedV b.size 4) ++ b)) 4)) ++ b else strOfNums []
theorem fixedV_4 {n : Int} (h0 : 0 ≤ n) (h1 : n ≤ 4294967295) : fixedV n 4 = fixL 4 n.toNat := by
  unfold fixedV
  have e : (256 : Int) ^ (4 : Int).toNat = 4294967296 := by decide
  rw [if_pos (by rw [e]; omega)]
  rfl
theorem size_append (a b : ByteArray) : (a ++ b).size = a.size + b.size := ByteArray.size_append

theorem beAcc4 (s : ByteArray) : 0 ≤ beAcc s 4 0 0 ∧ beAcc s 4 0 0 ≤ 4294967295 := by
  have h0 := bt_range s 0
  have h1 := bt_range s (0 + 1)
  have h2 := bt_range s (0 + 1 + 1)
  have h3 := bt_range s (0 + 1 + 1 + 1)
  simp only [beAcc]
  omega
theorem readFixed4 (s : ByteArray) : readFixedV s 4 = if 4 ≤ s.size then (beAcc s 4 0 0, true) else (0, false) := by
  unfold readFixedV
  by_cases h : 4 ≤ s.size
  · rw [if_pos h, if_pos (by omega)]; rfl
  · rw [if_neg h, if_neg (by omega)]
/-- What Unframe(s) is. -/
def unframeV (s : ByteArray) : ByteArray × Int × Int :=
  if 4 ≤ s.size then
    (if 1 ≤ beAcc s 4 0 0 ∧ beAcc s 4 0 0 ≤ 2000 then
      (if (s.size : Int) < 8 + beAcc s 4 0 0 then (strOfNums [], 0, 1)
       else if (frameV (s.extract 8 (8 + beAcc s 4 0 0).toNat)).toList = (s.extract 0 (8 + beAcc s 4 0 0).toNat).toList then (s.extract 8 (8 + beAcc s 4 0 0).toNat, 8 + beAcc s 4 0 0, 0) else (strOfNums [], 0, 2))
     else (strOfNums [], 0, 2))
  else (strOfNums [], 0, 1)
theorem extract_le (s : ByteArray) (a b : Nat) : (s.extract a b).size ≤ s.size := by rw [ByteArray.size_extract]; omega

theorem unframe_ok {s : ByteArray} (h : (unframeV s).2.2 = 0) : 9 ≤ (unframeV s).2.1 ∧ (unframeV s).2.1 ≤ s.size ∧ (((unframeV s).1.size : Int) + 8 = (unframeV s).2.1) ∧ (unframeV s).1.size ≤ 2000 := by
  unfold unframeV at h ⊢
  have hr := beAcc4 s
  generalize beAcc s 4 0 0 = n at h hr ⊢
  split at h
  · rename_i c1
    split at h
    · rename_i c2
      split at h
      · cases h
      · rename_i c3
        split at h
        · rename_i c4
          rw [if_pos c1, if_pos c2, if_neg c3, if_pos c4]
          have e : (s.extract 8 (8 + n).toNat).size = (8 + n).toNat - 8 := by rw [ByteArray.size_extract]; omega
          simp only [e]
          omega
        · cases h
    · cases h
  · cases h
/-- what Frames comes to from place pos on -/
def frFrom (s : ByteArray) : Nat → Nat → List ByteArray → List ByteArray × Int
  | 0, pos, acc => (acc, pos)
  | f + 1, pos, acc => if (unframeV (s.extract pos s.size)).2.2 = 0 then frFrom s f (pos + (unframeV (s.extract pos s.size)).2.1.toNat) (acc ++ [(unframeV (s.extract pos s.size)).1]) else (acc, pos)
def framesV (s : ByteArray) : List ByteArray × Int := frFrom s s.size 0 []
theorem frFrom_len (s : ByteArray) : ∀ (f pos : Nat) (acc : List ByteArray), acc.length ≤ pos → pos ≤ s.size → (frFrom s f pos acc).1.length ≤ s.size
  | 0, pos, acc, h, hp => by simp only [frFrom]; omega
  | f + 1, pos, acc, h, hp => by
    rw [frFrom]
    split
    · rename_i c
      have u := unframe_ok c
      have e : (s.extract pos s.size).size = s.size - pos := by rw [ByteArray.size_extract]; omega
      rw [e] at u
      exact frFrom_len s f _ _ (by rw [List.length_append]; simp; omega) (by omega)
    · simp only; omega
theorem framesV_len (s : ByteArray) : (framesV s).1.length ≤ s.size := frFrom_len s s.size 0 [] (by simp) (by omega)

theorem impl_within_eq (a b c : Int) : impl_within.f a b c = some (decide (b ≤ a ∧ a ≤ c)) := by
  unfold impl_within.f
  by_cases h : a ≥ b
  · rw [if_pos h]; simp [show b ≤ a from h]
  · rw [if_neg h]; simp [show ¬ b ≤ a from h]

theorem impl_Fixed_l0 (d : Nat) : ∀ (n : Nat) (xs : List Int), d ≤ 7 → n < 9223372036854775808 →
    Ev (fun k => impl_Fixed.l0 k (n : Int) (List.replicate d 0 ++ xs) ((d : Int) - 1)) (strOfNums (fixL d n ++ xs)) := by
  induction d with
  | zero =>
    intro n xs hd hn
    refine Ev.step (fun k => by rw [impl_Fixed.l0]) ?_
    exact Ev.neg (by omega) (Ev.val _ _ (by simp [fixL]))
  | succ d ih =>
    intro n xs hd hn
    refine Ev.step (fun k => by rw [impl_Fixed.l0]) ?_
    refine Ev.pos (by omega) (Ev.pos (by omega) (Ev.pos (by simp; omega) ?_))
    have e1 : (Go.bits .and .i64 (n : Int) 255) % 256 = ((n % 256 : Nat) : Int) := by rw [and255 (by omega) (by omega)]; omega
    have e2 : (n : Int) / 256 = ((n / 256 : Nat) : Int) := by omega
    have e3 : ((d + 1 : Nat) : Int) - 1 = (d : Int) := by omega
    rw [e1, e2, e3, w64 (by omega) (by omega), Int.toNat_natCast, set_replicate]
    have := ih (n / 256) (((n % 256 : Nat) : Int) :: xs) (by omega) (by omega)
    simpa [fixL, List.append_assoc] using this
theorem impl_Fixed_ev (n w : Int) (hn : n ≤ 9223372036854775807) : Ev (fun k => impl_Fixed.f k n w) (strOfNums (fixedV n w)) := by
  unfold impl_Fixed.f fixedV
  refine Ev.bind0 (impl_within_eq _ _ _) ?_
  by_cases c : 1 ≤ w ∧ w ≤ 7
  · refine Ev.pos (by simp; omega) ?_
    by_cases c2 : n < 0
    · refine Ev.pos c2 ?_
      refine Ev.step (fun k => by rw [impl_Fixed.j0]) ?_
      refine Ev.pos rfl (Ev.val _ _ ?_)
      rw [if_neg (by omega)]; rfl
    · obtain ⟨m, rfl⟩ := Int.eq_ofNat_of_zero_le (show 0 ≤ n by omega)
      obtain ⟨d, rfl⟩ := Int.eq_ofNat_of_zero_le (show 0 ≤ w by omega)
      have e1 : wrap64 (8 * (d : Int)) = ((8 * d : Nat) : Int) := by rw [w64 (by omega) (by omega)]; omega
      have e2 : shl .i64 1 ((8 * d : Nat) : Int) = ((256 ^ d : Nat) : Int) := by
        obtain rfl | rfl | rfl | rfl | rfl | rfl | rfl : d = 1 ∨ d = 2 ∨ d = 3 ∨ d = 4 ∨ d = 5 ∨ d = 6 ∨ d = 7 := by omega
        all_goals decide
      rw [e1, e2]
      refine Ev.neg c2 (Ev.pos (by omega) ?_)
      refine Ev.step (fun k => by rw [impl_Fixed.j0]) ?_
      have e3 : ((m : Int) < 256 ^ (d : Int).toNat) = (m < 256 ^ d) := by rw [Int.toNat_natCast, lt_pow256]
      by_cases c3 : m < 256 ^ d
      · refine Ev.neg (by simp only [decide_eq_true_eq]; omega) (Ev.pos (by omega) (Ev.pos (by simp; omega) ?_))
        rw [if_pos (by rw [e3]; exact ⟨by omega, by omega, by omega, c3⟩), w64 (by omega) (by omega), Int.toNat_natCast, Int.toNat_natCast]
        simpa using impl_Fixed_l0 d m [] (by omega) (by omega)
      · refine Ev.pos (by simp only [decide_eq_true_eq]; omega) (Ev.val _ _ ?_)
        rw [if_neg (by rw [e3]; omega)]; rfl
  · refine Ev.neg (by simp; omega) ?_
    refine Ev.step (fun k => by rw [impl_Fixed.j0]) ?_
    refine Ev.pos rfl (Ev.val _ _ ?_)
    rw [if_neg (by omega)]; rfl

theorem impl_Crc_l1 (s : ByteArray) (i : Nat) (r : Int) (d : Nat) : ∀ (c : Nat) (j : Int), c < 2 ^ 32 → 8 - j = d → 0 ≤ j → i < 9223372036854775807 →
    Ev (fun k => impl_Crc.l0 k s ((crcRounds d c : Nat) : Int) ((i + 1 : Nat) : Int)) r → Ev (fun k => impl_Crc.l1 k s (c : Int) (i : Int) j) r := by
  induction d with
  | zero =>
    intro c j hc hd hj hi h
    refine Ev.step (fun k => by rw [impl_Crc.l1]) (Ev.neg (by omega) ?_)
    rw [w64 (by omega) (by omega)]
    exact h
  | succ d ih =>
    intro c j hc hd hj hi h
    have hlt := crcStep_lt hc
    refine Ev.step (fun k => by rw [impl_Crc.l1]) (Ev.pos (by omega) ?_)
    rw [and1 (by omega) (by omega), w64 (x := j + 1) (by omega) (by omega)]
    have g := ih (crcStep c) (j + 1) hlt (by omega) (by omega) hi h
    by_cases o : c % 2 = 1
    · refine Ev.pos (by omega) ?_
      have e : Go.bits .xor .i64 ((c : Int) / 2) 2197175160 = ((crcStep c : Nat) : Int) := by
        rw [show ((c : Int) / 2) = ((c / 2 : Nat) : Int) by omega, show (2197175160 : Int) = ((2197175160 : Nat) : Int) from rfl, bits_xor_nat _ _ (by omega) (by decide)]
        unfold crcStep; rw [if_pos o]
      rw [e]; exact g
    · refine Ev.neg (by omega) ?_
      have e : (c : Int) / 2 = ((crcStep c : Nat) : Int) := by unfold crcStep; rw [if_neg o]; omega
      rw [e]; exact g
theorem impl_Crc_l0 (s : ByteArray) (hs : s.size ≤ 140737488351232) (d : Nat) : ∀ (i c : Nat), c < 2 ^ 32 → s.size - i = d → i ≤ s.size →
    Ev (fun k => impl_Crc.l0 k s (c : Int) (i : Int)) (4294967295 - (crcFrom s d i c : Nat)) := by
  induction d with
  | zero =>
    intro i c hc hd hi
    exact Ev.step (fun k => by rw [impl_Crc.l0]) (Ev.neg (by omega) (Ev.val _ _ (by simp only [crcFrom]; rw [w64 (by omega) (by omega)])))
  | succ d ih =>
    intro i c hc hd hi
    have hb := bt_range s i
    refine Ev.step (fun k => by rw [impl_Crc.l0]) (Ev.pos (by omega) (Ev.pos (by omega) ?_))
    rw [wbt, show bt s (i : Int) = ((bt s i).toNat : Int) by omega, bits_xor_nat _ _ (by omega) (by omega)]
    exact impl_Crc_l1 s i _ 8 _ 0 (crcIn_lt s i hc) (by omega) (by omega) (by omega) (ih (i + 1) _ (crcRounds_lt 8 _ (crcIn_lt s i hc)) (by omega) (by omega))
theorem impl_Crc_ev (s : ByteArray) (hs : s.size ≤ 140737488351232) : Ev (fun k => impl_Crc.f k s) (crcV s) := by
  unfold impl_Crc.f
  exact impl_Crc_l0 s hs s.size 0 4294967295 (by decide) (by omega) (by omega)

theorem impl_Frame_ev (b : ByteArray) (hb : b.size ≤ 140737488351232) : Ev (fun k => impl_Frame.f k b) (frameV b) := by
  unfold impl_Frame.f frameV
  refine Ev.bind0 (impl_within_eq _ _ _) ?_
  by_cases c : 1 ≤ b.size ∧ b.size ≤ 2000
  · rw [if_pos c]
    have h4 : (strOfNums (fixedV (b.size : Int) 4)).size = 4 := by rw [strOf_size, fixedV_4 (by omega) (by omega), fixL_length]
    have hc := crcV_range (strOfNums (fixedV (b.size : Int) 4) ++ b)
    have h5 : (strOfNums (fixedV (crcV (strOfNums (fixedV (b.size : Int) 4) ++ b)) 4)).size = 4 := by rw [strOf_size, fixedV_4 hc.1 hc.2, fixL_length]
    refine Ev.pos (by simp; omega) (Ev.bind (impl_Fixed_ev _ _ (by omega)) (Ev.pos (by omega) ?_))
    refine Ev.bind (impl_Crc_ev _ (by rw [size_append]; omega)) (Ev.bind (impl_Fixed_ev _ _ (by omega)) ?_)
    exact Ev.pos (by omega) (Ev.pos (by rw [size_append]; omega) (Ev.now _))
  · rw [if_neg c]
    exact Ev.neg (by simp; omega) (Ev.now _)

theorem impl_ReadFixed_l0 (s : ByteArray) (d : Nat) : ∀ (w i n : Int), 0 ≤ i → w - i = d → w ≤ 7 → w ≤ (s.size : Int) → 0 ≤ n → n < 256 ^ i.toNat →
    Ev (fun k => impl_ReadFixed.l0 k s w n i) (beAcc s d i n, true) := by
  induction d with
  | zero =>
    intro w i n hi hd hw hs hn hn2
    refine Ev.step (fun k => by rw [impl_ReadFixed.l0]) ?_
    exact Ev.neg (by omega) (Ev.now _)
  | succ d ih =>
    intro w i n hi hd hw hs hn hn2
    refine Ev.step (fun k => by rw [impl_ReadFixed.l0]) ?_
    refine Ev.pos (by omega) (Ev.pos (by omega) (Ev.pos (by omega) ?_))
    have hb := bt_range s i
    have h6 := pow256_six i hi (by omega)
    have h7 : (256 : Int) ^ (i + 1).toNat = 256 ^ i.toNat * 256 := by
      rw [show (i + 1).toNat = i.toNat + 1 by omega, Int.pow_succ]
    rw [wbt, w64 (x := n * 256) (by omega) (by omega), or_join 8 (n * 256) (bt s i) (by omega) (by omega) (by omega) (by omega) (by omega) (by omega), w64 (by omega) (by omega)]
    exact ih w (i + 1) (n * 256 + bt s i) (by omega) (by omega) hw hs (by omega) (by omega)
theorem impl_ReadFixed_ev (s : ByteArray) (w : Int) : Ev (fun k => impl_ReadFixed.f k s w) (readFixedV s w) := by
  unfold impl_ReadFixed.f readFixedV
  refine Ev.bind0 (impl_within_eq _ _ _) ?_
  by_cases c : 1 ≤ w ∧ w ≤ 7
  · refine Ev.pos (by simp; omega) ?_
    refine Ev.step (fun k => by rw [impl_ReadFixed.j0]) ?_
    by_cases c2 : w ≤ (s.size : Int)
    · rw [if_pos (by omega)]
      exact Ev.neg (by simp; omega) (impl_ReadFixed_l0 s w.toNat w 0 0 (by omega) (by omega) (by omega) c2 (by omega) (by simp))
    · rw [if_neg (by omega)]
      exact Ev.pos (by simp; omega) (Ev.now _)
  · rw [if_neg (by omega)]
    refine Ev.neg (by simp; omega) ?_
    refine Ev.step (fun k => by rw [impl_ReadFixed.j0]) ?_
    exact Ev.pos rfl (Ev.now _)

theorem impl_Unframe_ev (s : ByteArray) (hs : s.size ≤ 140737488351232) : Ev (fun k => impl_Unframe.f k s) (unframeV s) := by
  have hr := beAcc4 s
  unfold impl_Unframe.f unframeV
  refine Ev.bind (impl_ReadFixed_ev s 4) ?_
  rw [readFixed4]
  by_cases c : 4 ≤ s.size
  · rw [if_pos c, if_pos c]
    refine Ev.pos rfl ?_
    simp only []
    generalize beAcc s 4 0 0 = n at hr
    refine Ev.bind0 (impl_within_eq _ _ _) ?_
    by_cases c1 : 1 ≤ n ∧ n ≤ 2000
    · rw [if_pos c1, w64 (by omega) (by omega)]
      refine Ev.pos (by simpa using c1) ?_
      by_cases c2 : (s.size : Int) < 8 + n
      · rw [if_pos c2]; exact Ev.pos c2 (Ev.now _)
      · rw [if_neg c2]
        refine Ev.neg c2 (Ev.pos (by omega) (Ev.pos (by omega) ?_))
        refine Ev.bind (impl_Frame_ev _ (by have := extract_le s 8 (8 + n).toNat; omega)) (Ev.pos (by omega) ?_)
        by_cases c3 : (frameV (s.extract 8 (8 + n).toNat)).toList = (s.extract 0 (8 + n).toNat).toList
        · refine Ev.pos c3 ?_; rw [if_pos c3]; exact Ev.now _
        · refine Ev.neg c3 ?_; rw [if_neg c3]; exact Ev.now _
    · rw [if_neg c1]
      exact Ev.neg (by simpa using c1) (Ev.now _)
  · rw [if_neg c, if_neg c]
    exact Ev.neg (by simp) (Ev.now _)

theorem impl_Frames_l0 (s : ByteArray) (hs : s.size ≤ 1048576) (f : Nat) : ∀ (pos : Nat) (acc : List ByteArray), pos ≤ s.size → s.size ≤ pos + f → acc.length ≤ pos →
    Ev (fun k => impl_Frames.l0 k s acc (pos : Int)) (frFrom s f pos acc) := by
  induction f with
  | zero =>
    intro pos acc hp hf ha
    refine Ev.step (fun k => by rw [impl_Frames.l0]) ?_
    have e : (s.extract pos s.size).size = s.size - pos := by rw [ByteArray.size_extract]; omega
    refine Ev.pos (by omega) (Ev.pos (by omega) ?_)
    rw [Int.toNat_natCast]
    refine Ev.bind (impl_Unframe_ev _ (by omega)) (Ev.neg ?_ (Ev.now _))
    intro h
    have u := unframe_ok h
    rw [e] at u
    omega
  | succ f ih =>
    intro pos acc hp hf ha
    refine Ev.step (fun k => by rw [impl_Frames.l0]) ?_
    rw [frFrom]
    have e : (s.extract pos s.size).size = s.size - pos := by rw [ByteArray.size_extract]; omega
    refine Ev.pos (by omega) (Ev.pos (by omega) ?_)
    rw [Int.toNat_natCast]
    refine Ev.bind (impl_Unframe_ev _ (by omega)) ?_
    refine Ev.ite Iff.rfl (fun h => ?_) (fun _ => Ev.now _)
    have u := unframe_ok h
    rw [e] at u
    refine Ev.pos (by omega) ?_
    rw [w64 (by omega) (by omega)]
    have := ih (pos + (unframeV (s.extract pos s.size)).2.1.toNat) (acc ++ [(unframeV (s.extract pos s.size)).1]) (by omega) (by omega) (by rw [List.length_append]; simp; omega)
    have e1 : ((pos + (unframeV (s.extract pos s.size)).2.1.toNat : Nat) : Int) = (pos : Int) + (unframeV (s.extract pos s.size)).2.1 := by omega
    rw [e1] at this
    exact this
theorem impl_Frames_ev (s : ByteArray) (hs : s.size ≤ 1048576) : Ev (fun k => impl_Frames.f k s) (framesV s) := by
  unfold impl_Frames.f framesV
  exact impl_Frames_l0 s hs s.size 0 [] (by omega) (by omega) (by simp)

theorem spec_l1New_ex (l : List Int) : ∃ h, Ev (fun k => spec_l1New.f k l) (l, 0, h) := by
  have key : ∀ (d i : Nat) (h : Int), i + d = 4000 → ∃ h', Ev (fun k => spec_l1New.l0 k l h (i : Int)) (l, 0, h') := by
    intro d
    induction d with
    | zero =>
      intro i h hi
      by_cases c : (i : Int) < (l.length : Int)
      · exact ⟨h, Ev.step (fun k => by rw [spec_l1New.l0]) (Ev.pos c (Ev.neg (by omega) (Ev.now _)))⟩
      · exact ⟨h, Ev.step (fun k => by rw [spec_l1New.l0]) (Ev.neg c (Ev.now _))⟩
    | succ d ih =>
      intro i h hi
      by_cases c : (i : Int) < (l.length : Int)
      · obtain ⟨h', e⟩ := ih (i + 1) (Go.bits .and .i64 (wrap64 ((wrap64 ((wrap64 (h * 131)) + (wrap64 (rd l (i : Int))))) + 7)) 1073741823) (by omega)
        have e1 : ((i + 1 : Nat) : Int) = (i : Int) + 1 := by omega
        rw [e1] at e
        refine ⟨h', Ev.step (fun k => by rw [spec_l1New.l0]) (Ev.pos c (Ev.pos (by omega) (Ev.pos (by omega) ?_)))⟩
        rw [w64 (x := (i : Int) + 1) (by omega) (by omega)]
        exact e
      · exact ⟨h, Ev.step (fun k => by rw [spec_l1New.l0]) (Ev.neg c (Ev.now _))⟩
  unfold spec_l1New.f
  exact key 4000 0 _ (by omega)

theorem and255_range (x : Int) : 0 ≤ Go.bits .and .i64 x 255 ∧ Go.bits .and .i64 x 255 ≤ 255 := by
  have h : ((BitVec.ofInt IntKind.i64.bits x &&& BitVec.ofInt IntKind.i64.bits 255).toNat : Int) ≤ 255 := by
    have e : (BitVec.ofInt IntKind.i64.bits (255 : Int)).toNat = 255 := by decide
    rw [BitVec.toNat_and, e]
    have := @Nat.and_le_right (BitVec.ofInt IntKind.i64.bits x).toNat 255
    omega
  simp only [Go.bits]
  rw [wraps_i64 _ (Int.natCast_nonneg _) (by omega)]
  exact ⟨Int.natCast_nonneg _, h⟩
/-- a place in what a draw reads -/
abbrev curP (b : List Int) (i : Int) : Prop := 0 ≤ i ∧ i ≤ b.length
theorem spec_l1Byte_ex (b : List Int) (hb : b.length ≤ 4000000) (i h : Int) (hi : curP b i) : ∃ x i' h', spec_l1Byte.f b i h = some (x, i', h') ∧ (0 ≤ x ∧ x ≤ 255) ∧ curP b i' := by
  unfold spec_l1Byte.f
  by_cases c : i < (b.length : Int)
  · rw [if_pos c, if_pos hi.1]
    exact ⟨_, _, _, rfl, and255_range _, by rw [w64 (by omega) (by omega)]; exact ⟨by omega, by omega⟩⟩
  · rw [if_neg c]
    exact ⟨_, _, _, rfl, and255_range _, hi⟩

theorem spec_l1Below_ex (b : List Int) (hb : b.length ≤ 4000000) (i h : Int) (hi : curP b i) (n : Int) : ∃ x i' h', spec_l1Below.f b i h n = some (x, i', h') ∧ (0 ≤ x ∧ (n ≤ 0 → x = 0) ∧ (0 < n → x < n)) ∧ curP b i' := by
  unfold spec_l1Below.f
  by_cases c : n ≤ 0
  · rw [if_pos c]; exact ⟨0, i, h, rfl, ⟨by omega, fun _ => rfl, fun e => by omega⟩, hi⟩
  · rw [if_neg c]
    by_cases c2 : n ≤ 256
    · rw [if_pos c2]
      obtain ⟨x, i', h', e, hx, hi'⟩ := spec_l1Byte_ex b hb i h hi
      rw [e]
      simp only [Option.bind_some]
      rw [if_neg (show ¬ n = 0 by omega)]
      refine ⟨_, _, _, rfl, ?_, hi'⟩
      rw [tmod_nn hx.1]
      have h1 := Int.emod_nonneg x (show n ≠ 0 by omega)
      have h2 := Int.emod_lt_of_pos x (show 0 < n by omega)
      exact ⟨h1, fun e => by omega, fun _ => h2⟩
    · rw [if_neg c2]
      obtain ⟨x, i1, h1, e1, hx, hi1⟩ := spec_l1Byte_ex b hb i h hi
      obtain ⟨y, i2, h2, e2, hy, hi2⟩ := spec_l1Byte_ex b hb i1 h1 hi1
      obtain ⟨z, i3, h3, e3, hz, hi3⟩ := spec_l1Byte_ex b hb i2 h2 hi2
      obtain ⟨w, i4, h4, e4, hw, hi4⟩ := spec_l1Byte_ex b hb i3 h3 hi3
      simp only [e1, e2, e3, e4, Option.bind_some]
      rw [if_neg (show ¬ n = 0 by omega)]
      refine ⟨_, _, _, rfl, ?_, hi4⟩
      rw [w64 (x := x * 16777216) (by omega) (by omega), w64 (x := y * 65536) (by omega) (by omega), w64 (x := z * 256) (by omega) (by omega), w64 (x := x * 16777216 + y * 65536) (by omega) (by omega), w64 (x := x * 16777216 + y * 65536 + z * 256) (by omega) (by omega), w64 (x := x * 16777216 + y * 65536 + z * 256 + w) (by omega) (by omega), tmod_nn (by omega)]
      have g1 := Int.emod_nonneg (x * 16777216 + y * 65536 + z * 256 + w) (show n ≠ 0 by omega)
      have g2 := Int.emod_lt_of_pos (x * 16777216 + y * 65536 + z * 256 + w) (show 0 < n by omega)
      exact ⟨g1, fun e => by omega, fun _ => g2⟩

theorem spec_l1Text_l0 (b : List Int) (hb : b.length ≤ 4000000) (md : Int) (d : Nat) : ∀ (xs : List Int) (i h : Int), curP b i → xs.length + d ≤ 1048576 →
    ∃ s i' h', Ev (fun k => spec_l1Text.l0 k xs md (d : Int) b i h) (s, i', h') ∧ s.size = xs.length + d ∧ curP b i' := by
  induction d with
  | zero =>
    intro xs i h hi _
    exact ⟨_, _, _, Ev.step (fun k => by rw [spec_l1Text.l0]) (Ev.neg (by omega) (Ev.now _)), by rw [strOf_size]; rfl, hi⟩
  | succ d ih =>
    intro xs i h hi hx
    obtain ⟨x, i', h', e, hr, hi'⟩ := spec_l1Byte_ex b hb i h hi
    have ed : wrap64 (((d + 1 : Nat) : Int) - 1) = (d : Int) := by rw [w64 (by omega) (by omega)]; omega
    have go (v : Int) := ih (xs ++ [v]) i' h' hi' (by simp; omega)
    have hlen (v : Int) : (xs ++ [v]).length + d = xs.length + (d + 1) := by simp; omega
    by_cases c1 : md = 1
    · by_cases c2 : md = 2
      · omega
      · obtain ⟨s, i2, h2, e2, hs, hi2⟩ := go ((Int.tmod x 2) % 256)
        refine ⟨s, i2, h2, Ev.step (fun k => by rw [spec_l1Text.l0]) (Ev.pos (by omega) (Ev.bind0 e (Ev.pos c1 (Ev.neg c2 (Ev.pos (show xs.length < 140737488355328 by omega) ?_))))), by rw [hs]; exact hlen _, hi2⟩
        rw [ed]; exact e2
    · by_cases c2 : md = 2
      · obtain ⟨s, i2, h2, e2, hs, hi2⟩ := go ((wrap64 (97 + (Int.tmod x 4))) % 256)
        refine ⟨s, i2, h2, Ev.step (fun k => by rw [spec_l1Text.l0]) (Ev.pos (by omega) (Ev.bind0 e (Ev.neg c1 (Ev.pos c2 (Ev.pos (show xs.length < 140737488355328 by omega) ?_))))), by rw [hs]; exact hlen _, hi2⟩
        rw [ed]; exact e2
      · obtain ⟨s, i2, h2, e2, hs, hi2⟩ := go (x % 256)
        refine ⟨s, i2, h2, Ev.step (fun k => by rw [spec_l1Text.l0]) (Ev.pos (by omega) (Ev.bind0 e (Ev.neg c1 (Ev.neg c2 (Ev.pos (show xs.length < 140737488355328 by omega) ?_))))), by rw [hs]; exact hlen _, hi2⟩
        rw [ed]; exact e2
theorem spec_l1Text_ex (b : List Int) (hb : b.length ≤ 4000000) (i h : Int) (hi : curP b i) (n : Int) (h0 : 0 ≤ n) (hn : n ≤ 1000000) :
    ∃ s i' h', Ev (fun k => spec_l1Text.f k b i h n) (s, i', h') ∧ (s.size : Int) ≤ n ∧ curP b i' := by
  obtain ⟨x, i1, h1, e1, _, hi1⟩ := spec_l1Below_ex b hb i h hi 4
  obtain ⟨y, i2, h2, e2, hy, hi2⟩ := spec_l1Below_ex b hb i1 h1 hi1 (n + 1)
  obtain ⟨m, rfl⟩ := Int.eq_ofNat_of_zero_le hy.1
  have hm := hy.2.2 (by omega)
  obtain ⟨s, i3, h3, e3, hs, hi3⟩ := spec_l1Text_l0 b hb x m [] i2 h2 hi2 (by simp; omega)
  refine ⟨s, i3, h3, ?_, by rw [hs]; simp; omega, hi3⟩
  unfold spec_l1Text.f
  rw [w64 (by omega) (by omega)]
  exact Ev.bind0 e1 (Ev.bind0 e2 e3)

theorem spec_DrawHex_ex (l : List Int) (hl : l.length ≤ 4000000) : ∃ s, Ev (fun k => spec_DrawHex.f k l) s ∧ s.size ≤ 40 := by
  obtain ⟨h, e⟩ := spec_l1New_ex l
  obtain ⟨s, i, h2, e2, hs, _⟩ := spec_l1Text_ex l hl 0 h ⟨by omega, by omega⟩ 40 (by omega) (by omega)
  refine ⟨s, ?_, by omega⟩
  unfold spec_DrawHex.f
  exact Ev.bind e (Ev.bind e2 (Ev.now _))

theorem rd_get (l : List Int) (i : Nat) (h : i < l.length) : rd l (i : Int) = l[i] := by
  unfold rd
  rw [Int.toNat_natCast, List.getD_eq_getElem?_getD, List.getElem?_eq_getElem h]; rfl
theorem rd_drop (l : List Int) (i : Nat) (h : i < l.length) : l.drop i = rd l (i : Int) :: l.drop (i + 1) := by
  rw [rd_get l i h]; exact List.drop_eq_getElem_cons h

theorem laws_big_eq (l : List Int) : laws_big.f l = some (decide ((l.length : Int) > 1048576)) := rfl
abbrev u8P (l : List Int) : Prop := ∀ y ∈ l, 0 ≤ y ∧ y ≤ 255
theorem wf8 {x : Int} (h : (Lit.int .u8 x).wf = true) : 0 ≤ x ∧ x ≤ 255 := by
  simp [Lit.wf, IntKind.min, IntKind.max, IntKind.signed, IntKind.bits] at h
  omega
theorem laws_at_eq (l : List Int) (hl : l.length ≤ 1048576) (hu : u8P l) (i : Nat) (hi : i ≤ 1000) : ∃ x, laws_at.f l (i : Int) = some x ∧ 0 ≤ x ∧ x ≤ 255 := by
  unfold laws_at.f
  by_cases c : (i : Int) < (l.length : Int)
  · have := hu l[i] (List.getElem_mem _)
    rw [if_pos c, if_pos (by omega), rd_get l i (by omega), w64 (by omega) (by omega)]
    exact ⟨_, rfl, this.1, this.2⟩
  · rw [if_neg c]
    refine ⟨_, rfl, ?_⟩
    rw [w64 (x := (i : Int) * 37) (by omega) (by omega), w64 (x := (l.length : Int) * 11) (by omega) (by omega), w64 (by omega) (by omega), tmod_nn (by omega)]
    omega
theorem laws_fresh_l0 (l : List Int) (s : Int) (d : Nat) : ∀ (i : Nat) (xs : List Int), i + d = 600 → xs.length ≤ i + 1 → ∃ r, Ev (fun k => laws_fresh.l0 k l s xs (i : Int)) r ∧ r.length ≤ 601 := by
  induction d with
  | zero =>
    intro i xs hi hx
    by_cases c : (i : Int) < (l.length : Int)
    · exact ⟨xs, Ev.step (fun k => by rw [laws_fresh.l0]) (Ev.pos c (Ev.neg (by omega) (Ev.now _))), by omega⟩
    · exact ⟨xs, Ev.step (fun k => by rw [laws_fresh.l0]) (Ev.neg c (Ev.now _)), by omega⟩
  | succ d ih =>
    intro i xs hi hx
    by_cases c : (i : Int) < (l.length : Int)
    · obtain ⟨r, e, hr⟩ := ih (i + 1) (xs ++ [(wrap64 ((wrap64 ((wrap64 (rd l (i : Int))) * 3)) + (wrap64 (s * (wrap64 ((Int.tmod (i : Int) 7) + 1)))))) % 256]) (by omega) (by simp; omega)
      have e1 : ((i + 1 : Nat) : Int) = (i : Int) + 1 := by omega
      rw [e1] at e
      refine ⟨r, Ev.step (fun k => by rw [laws_fresh.l0]) (Ev.pos c (Ev.pos (by omega) (Ev.pos (by omega) (Ev.pos (by omega) ?_)))), hr⟩
      rw [w64 (x := (i : Int) + 1) (by omega) (by omega)]
      exact e
    · exact ⟨xs, Ev.step (fun k => by rw [laws_fresh.l0]) (Ev.neg c (Ev.now _)), by omega⟩
theorem laws_fresh_ex (l : List Int) (s : Int) : ∃ r, Ev (fun k => laws_fresh.f k l s) r ∧ r.length ≤ 601 := by
  unfold laws_fresh.f
  exact laws_fresh_l0 l s 600 0 _ (by omega) (by simp)

theorem rdOf_get (l : List ByteArray) (i : Nat) (h : i < l.length) : rdOf ByteArray.empty l (i : Int) = l[i] := by
  unfold rdOf
  rw [Int.toNat_natCast, List.getD_eq_getElem?_getD, List.getElem?_eq_getElem h]; rfl

/-! the frames of bodies, one behind the other -/
def goodB (b : ByteArray) : Prop := 1 ≤ b.size ∧ b.size ≤ 2000
theorem fix4 (n : Nat) : fixL 4 n = [((n / 256 / 256 / 256 % 256 : Nat) : Int), ((n / 256 / 256 % 256 : Nat) : Int), ((n / 256 % 256 : Nat) : Int), ((n % 256 : Nat) : Int)] := rfl
theorem be_of_head {s : ByteArray} {n : Nat} (hn : n ≤ 4294967295) {xs : List Int} (h : bl s = fixL 4 n ++ xs) : beAcc s 4 0 0 = n := by
  have e0 : bt s 0 = ((n / 256 / 256 / 256 % 256 : Nat) : Int) := by rw [bt_bl, h, fix4]; rfl
  have e1 : bt s (0 + 1) = ((n / 256 / 256 % 256 : Nat) : Int) := by rw [bt_bl, h, fix4]; rfl
  have e2 : bt s (0 + 1 + 1) = ((n / 256 % 256 : Nat) : Int) := by rw [bt_bl, h, fix4]; rfl
  have e3 : bt s (0 + 1 + 1 + 1) = ((n % 256 : Nat) : Int) := by rw [bt_bl, h, fix4]; rfl
  simp only [beAcc, e0, e1, e2, e3]
  omega
theorem fixL_isB : ∀ (w n : Nat), IsB (fixL w n)
  | 0, _ => isB_nil
  | w + 1, n => isB_append (fixL_isB w (n / 256)) (isB_cons (by omega) isB_nil)
theorem frame_bl {b : ByteArray} (h : goodB b) : ∃ t, bl (frameV b) = fixL 4 b.size ++ (t ++ bl b) ∧ t.length = 4 := by
  unfold goodB at h
  refine ⟨bl (strOfNums (fixedV (crcV (strOfNums (fixedV b.size 4) ++ b)) 4)), ?_, ?_⟩
  · unfold frameV
    have hc : (b.size : Int) ≤ 4294967295 := by omega
    rw [if_pos h, bl_append, bl_append, fixedV_4 (n := (b.size : Int)) (by omega) hc, Int.toNat_natCast, bl_strOf (fixL_isB _ _), List.append_assoc]
  · have hr := crcV_range (strOfNums (fixedV b.size 4) ++ b)
    rw [fixedV_4 hr.1 hr.2, bl_strOf (fixL_isB _ _), fixL_length]
theorem frame_size {b : ByteArray} (h : goodB b) : (frameV b).size = 8 + b.size := by
  obtain ⟨t, e, ht⟩ := frame_bl h
  rw [← bl_length, e, List.length_append, List.length_append, fixL_length, ht, bl_length]; omega
theorem unframe_frame {b s : ByteArray} (h : goodB b) {xs : List Int} (e : bl s = bl (frameV b) ++ xs) : unframeV s = (b, 8 + (b.size : Int), 0) := by
  obtain ⟨t, et, ht⟩ := frame_bl h
  have hz := frame_size h
  have hs : s.size = 8 + b.size + xs.length := by rw [← bl_length, e, List.length_append, bl_length, hz]
  have hb : beAcc s 4 0 0 = b.size := be_of_head (n := b.size) (xs := t ++ bl b ++ xs) (by unfold goodB at h; omega) (by rw [e, et]; simp [List.append_assoc])
  have g := h
  unfold goodB at g
  have k : (8 + (b.size : Int)).toNat = 8 + b.size := by omega
  have eb : s.extract 8 (8 + b.size) = b := by
    apply bl_inj
    rw [bl_extract, e, et]
    have : (fixL 4 b.size ++ (t ++ bl b) ++ xs) = (fixL 4 b.size ++ t) ++ (bl b ++ xs) := by simp [List.append_assoc]
    rw [this, List.drop_left' (by rw [List.length_append, fixL_length, ht]), show 8 + b.size - 8 = (bl b).length by rw [bl_length]; omega, List.take_left']
    rfl
  have ef : s.extract 0 (8 + b.size) = frameV b := by
    apply bl_inj
    rw [bl_extract, e, List.drop_zero, show 8 + b.size - 0 = (bl (frameV b)).length by rw [bl_length, hz]; omega, List.take_left']
    rfl
  unfold unframeV
  rw [hb, if_pos (by omega), if_pos (by omega), if_neg (by omega), k, eb, ef, if_pos rfl]
theorem unframe_part {b s : ByteArray} (h : goodB b) {xs : List Int} {r : Nat} (hr : r < 8 + b.size) (e : bl s = (bl (frameV b) ++ xs).take r) : ¬ (unframeV s).2.2 = 0 := by
  obtain ⟨t, et, ht⟩ := frame_bl h
  have hz := frame_size h
  have hs : s.size = r := by rw [← bl_length, e, List.length_take, List.length_append, bl_length, hz]; omega
  unfold unframeV
  by_cases c : 4 ≤ s.size
  · have hb : beAcc s 4 0 0 = b.size := by
      refine be_of_head (n := b.size) (xs := (t ++ bl b ++ xs).take (r - 4)) (by unfold goodB at h; omega) ?_
      rw [e, et, List.append_assoc, List.take_append, fixL_length, List.take_of_length_le (by rw [fixL_length]; omega), List.append_assoc]
    unfold goodB at h
    rw [hb, if_pos c, if_pos (by omega), if_pos (by omega)]
    decide
  · rw [if_neg c]; decide
def tot : List ByteArray → Nat
  | [] => 0
  | b :: B => 8 + b.size + tot B
def joinF : List ByteArray → List Int
  | [] => []
  | b :: B => bl (frameV b) ++ joinF B
def wh : List ByteArray → Nat → Nat
  | [], _ => 0
  | b :: B, r => if 8 + b.size ≤ r then wh B (r - (8 + b.size)) + 1 else 0
theorem joinF_length {B : List ByteArray} (h : ∀ b ∈ B, goodB b) : (joinF B).length = tot B := by
  induction B with
  | nil => rfl
  | cons b B ih =>
    unfold joinF tot
    rw [List.length_append, bl_length, frame_size (h b (by simp)), ih (fun x hx => h x (by simp [hx]))]
theorem wh_le : ∀ (B : List ByteArray) (r : Nat), wh B r ≤ B.length
  | [], _ => Nat.le_refl _
  | b :: B, r => by
    unfold wh
    split
    · have := wh_le B (r - (8 + b.size)); rw [List.length_cons]; omega
    · omega
theorem frFrom_join : ∀ (B : List ByteArray), (∀ b ∈ B, goodB b) → ∀ (s : ByteArray) (P : List Int) (r f : Nat) (acc : List ByteArray), bl s = P ++ (joinF B).take r → r ≤ f →
    frFrom s f P.length acc = (acc ++ B.take (wh B r), ((P.length + tot (B.take (wh B r)) : Nat) : Int))
  | [], _, s, P, r, f, acc, e, hf => by
    have hs : s.size = P.length := by rw [← bl_length, e]; simp [joinF]
    cases f with
    | zero => simp [frFrom, wh, tot]
    | succ f =>
      have hz : (s.extract P.length s.size).size = 0 := by rw [ByteArray.size_extract]; omega
      have : ¬ (unframeV (s.extract P.length s.size)).2.2 = 0 := by unfold unframeV; rw [hz, if_neg (by omega)]; decide
      rw [frFrom, if_neg this]; simp [wh, tot]
  | b :: B, h, s, P, r, f, acc, e, hf => by
    have hb := h b (by simp)
    have hz := frame_size hb
    have et : bl (s.extract P.length s.size) = (bl (frameV b) ++ joinF B).take r := by
      rw [bl_extract, e, List.drop_left' rfl, List.take_of_length_le]
      · rfl
      · rw [← bl_length s, e, List.length_append]; omega
    unfold wh
    by_cases c : 8 + b.size ≤ r
    · rw [if_pos c]
      obtain ⟨f, rfl⟩ : ∃ g, f = g + 1 := ⟨f - 1, by omega⟩
      have e2 : (bl (frameV b) ++ joinF B).take r = bl (frameV b) ++ (joinF B).take (r - (8 + b.size)) := by
        rw [List.take_append, bl_length, hz, List.take_of_length_le (by rw [bl_length, hz]; exact c)]
      have u := unframe_frame hb (et.trans e2)
      rw [frFrom, u, if_pos rfl]
      have k : (8 + (b.size : Int)).toNat = 8 + b.size := by omega
      have g := frFrom_join B (fun x hx => h x (by simp [hx])) s (P ++ bl (frameV b)) (r - (8 + b.size)) f (acc ++ [b]) (by rw [e, joinF, e2, List.append_assoc]) (by omega)
      rw [List.length_append, bl_length, hz] at g
      simp only [k]
      rw [g, List.take_succ_cons, tot]
      simp [Nat.add_assoc]
    · rw [if_neg c]
      have u := unframe_part hb (by omega) et
      cases f with
      | zero => simp [frFrom, tot]
      | succ f => rw [frFrom, if_neg u]; simp [tot]
theorem framesV_join {B : List ByteArray} (h : ∀ b ∈ B, goodB b) {s : ByteArray} (e : bl s = joinF B) (k : Nat) (hk : k ≤ s.size) :
    framesV (s.extract 0 k) = (B.take (wh B k), ((tot (B.take (wh B k)) : Nat) : Int)) := by
  have hs : (s.extract 0 k).size = k := by rw [ByteArray.size_extract]; omega
  unfold framesV
  have g := frFrom_join B h (s.extract 0 k) [] k k [] (by rw [bl_extract, e]; simp) (Nat.le_refl _)
  rw [hs]
  simpa using g
/-- where frames end -/
def endsL (B : List ByteArray) : List Int := (List.range (B.length + 1)).map fun j => ((tot (B.take j) : Nat) : Int)
theorem endsL_length (B : List ByteArray) : (endsL B).length = B.length + 1 := by simp [endsL]
theorem endsL_get (B : List ByteArray) (j : Nat) (h : j ≤ B.length) : rd (endsL B) (j : Int) = ((tot (B.take j) : Nat) : Int) := by
  rw [rd_get _ _ (by rw [endsL_length]; omega)]
  simp [endsL]
theorem tot_append (A B : List ByteArray) : tot (A ++ B) = tot A + tot B := by
  induction A with
  | nil => simp [tot]
  | cons a A ih => simp only [List.cons_append, tot, ih]; omega
theorem endsL_snoc (B : List ByteArray) (b : ByteArray) : endsL (B ++ [b]) = endsL B ++ [((tot (B ++ [b]) : Nat) : Int)] := by
  unfold endsL
  rw [List.length_append, List.length_singleton, List.range_succ, List.map_append]
  congr 1
  · apply List.map_congr_left
    intro j hj
    have := List.mem_range.1 hj
    rw [List.take_append_of_le_length (by omega)]
  · rw [List.map_singleton, List.take_of_length_le (by simp)]
theorem joinF_snoc (B : List ByteArray) (b : ByteArray) : joinF (B ++ [b]) = joinF B ++ bl (frameV b) := by
  induction B with
  | nil => simp [joinF]
  | cons a B ih => simp only [List.cons_append, joinF, ih, List.append_assoc]
theorem tot_take_mono (B : List ByteArray) {i j : Nat} (h : i ≤ j) : tot (B.take i) ≤ tot (B.take j) := by
  have e : B.take j = B.take i ++ (B.take j).drop i := by
    have := List.take_append_drop i (B.take j)
    rw [List.take_take, Nat.min_eq_left h] at this
    exact this.symm
  rw [e, tot_append]; omega
theorem wh_tot : ∀ (B : List ByteArray) (r : Nat), tot (B.take (wh B r)) ≤ r ∧ (wh B r = B.length ∨ r < tot (B.take (wh B r + 1)))
  | [], r => ⟨by simp [tot], .inl rfl⟩
  | b :: B, r => by
    have g := wh_tot B (r - (8 + b.size))
    unfold wh
    by_cases c : 8 + b.size ≤ r
    · rw [if_pos c, List.take_succ_cons, List.take_succ_cons, tot, tot, List.length_cons]
      refine ⟨by omega, ?_⟩
      rcases g.2 with g2 | g2
      · exact .inl (by omega)
      · exact .inr (by omega)
    · rw [if_neg c]
      refine ⟨by simp [tot], .inr ?_⟩
      simp only [Nat.zero_add, List.take_succ_cons, List.take_zero, tot]
      omega
theorem frames_l2 (B : List ByteArray) (hB : B.length ≤ 1048576) (w : Nat) (hw : w ≤ B.length) (d : Nat) : ∀ (i : Nat), i + d = w → Ev (fun k => laws_FnFrames.l2 k B (B.take w) (w : Int) (i : Int)) true := by
  induction d with
  | zero =>
    intro i hi
    refine Ev.step (fun k => by rw [laws_FnFrames.l2]) ?_
    exact Ev.neg (by omega) (Ev.now _)
  | succ d ih =>
    intro i hi
    refine Ev.step (fun k => by rw [laws_FnFrames.l2]) ?_
    have hl : (B.take w).length = w := by rw [List.length_take]; omega
    refine Ev.pos (by omega) (Ev.pos (by omega) (Ev.pos (by omega) (Ev.pos (by omega) (Ev.pos ?_ ?_))))
    · rw [rdOf_get _ _ (by omega), rdOf_get _ _ (by omega), List.getElem_take]
    · have := ih (i + 1) (by omega)
      have e1 : ((i + 1 : Nat) : Int) = (i : Int) + 1 := by omega
      rw [e1] at this
      rw [w64 (by omega) (by omega)]
      exact this
theorem frames_l1 (l : List Int) (B : List ByteArray) (hB : B.length ≤ 1000000) (r : Nat) (d : Nat) : ∀ (i : Nat), i + d = wh B r →
    Ev (fun k => laws_FnFrames.l1 k B (endsL B) (r : Int) (B.take (wh B r)) ((tot (B.take (wh B r)) : Nat) : Int) (i : Int)) true := by
  have hw := wh_le B r
  have ht := wh_tot B r
  induction d with
  | zero =>
    intro i hi
    have : i = wh B r := by omega
    subst this
    have hl : (B.take (wh B r)).length = wh B r := by rw [List.length_take]; omega
    have last : Ev (fun k => laws_FnFrames.j2 k B (endsL B) (B.take (wh B r)) ((tot (B.take (wh B r)) : Nat) : Int) ((wh B r : Nat) : Int)) true := by
      refine Ev.step (fun k => by rw [laws_FnFrames.j2]) ?_
      refine Ev.pos (by omega) (Ev.pos (by omega) (Ev.pos (by rw [endsL_length]; omega) ?_))
      rw [endsL_get _ _ hw]
      refine Ev.step (fun k => by rw [laws_FnFrames.j3]) ?_
      exact Ev.neg (by simp) (frames_l2 B (by omega) (wh B r) hw (wh B r) 0 (by omega))
    refine Ev.step (fun k => by rw [laws_FnFrames.l1]) ?_
    rw [w64 (x := ((wh B r : Nat) : Int) + 1) (by omega) (by omega)]
    by_cases c : ((wh B r : Nat) : Int) + 1 < ((endsL B).length : Int)
    · refine Ev.pos c (Ev.pos (by omega) (Ev.neg ?_ last))
      rw [endsL_length] at c
      rw [show ((wh B r : Nat) : Int) + 1 = ((wh B r + 1 : Nat) : Int) by omega, endsL_get _ _ (by omega)]
      rcases ht.2 with h | h <;> omega
    · exact Ev.neg c last
  | succ d ih =>
    intro i hi
    refine Ev.step (fun k => by rw [laws_FnFrames.l1]) ?_
    have := ih (i + 1) (by omega)
    have e1 : ((i + 1 : Nat) : Int) = (i : Int) + 1 := by omega
    rw [w64 (x := (i : Int) + 1) (by omega) (by omega), ← e1]
    have hm := tot_take_mono B (show i + 1 ≤ wh B r by omega)
    exact Ev.pos (by rw [endsL_length]; omega) (Ev.pos (by omega) (Ev.pos (by rw [endsL_get _ _ (by omega)]; omega) this))
theorem frames_l0 (l : List Int) (hl : l.length ≤ 1048576) (hu : u8P l) (d : Nat) : ∀ (i : Nat) (B : List ByteArray) (s : ByteArray), i + d = 6 → B.length = i → (∀ b ∈ B, 1 ≤ b.size ∧ b.size ≤ 41) → bl s = joinF B →
    Ev (fun k => laws_FnFrames.l0 k l B (endsL B) s (i : Int)) true := by
  have fin (i : Nat) (B : List ByteArray) (s : ByteArray) (hi : i ≤ 6) (hB : B.length = i) (hg : ∀ b ∈ B, 1 ≤ b.size ∧ b.size ≤ 41) (e : bl s = joinF B) (a : Int) (ha : laws_at.f l 0 = some a) (hx : ¬ (i : Int) < wrap64 (1 + (Int.tmod a 5))) :
      Ev (fun k => laws_FnFrames.l0 k l B (endsL B) s (i : Int)) true := by
    have hg' : ∀ b ∈ B, goodB b := fun b hb => by have := hg b hb; unfold goodB; omega
    obtain ⟨b1, h1, r1, r1'⟩ := laws_at_eq l hl hu 1 (by omega)
    obtain ⟨b2, h2, r2, r2'⟩ := laws_at_eq l hl hu 2 (by omega)
    have tb : ∀ (B : List ByteArray), (∀ b ∈ B, 1 ≤ b.size ∧ b.size ≤ 41) → tot B ≤ 49 * B.length := by
      intro B
      induction B with
      | nil => intro _; simp [tot]
      | cons b B ih =>
        intro h
        have h1 := h b (by simp)
        have h2 := ih (fun x hx => h x (by simp [hx]))
        unfold tot
        rw [List.length_cons]; omega
    have hs : s.size = tot B := by rw [← bl_length, e, joinF_length hg']
    have hs2 := tb B hg
    refine Ev.step (fun k => by rw [laws_FnFrames.l0]) ?_
    refine Ev.bind0 ha (Ev.neg hx (Ev.bind0 h1 (Ev.bind0 h2 ?_)))
    rw [w64 (x := (s.size : Int) + 1) (by omega) (by omega), w64 (x := b1 * 256) (by omega) (by omega), w64 (x := b1 * 256 + b2) (by omega) (by omega), tmod_nn (x := b1 * 256 + b2) (by omega)]
    have q1 := Int.emod_nonneg (b1 * 256 + b2) (show (s.size : Int) + 1 ≠ 0 by omega)
    have q2 := Int.emod_lt_of_pos (b1 * 256 + b2) (show 0 < (s.size : Int) + 1 by omega)
    generalize (b1 * 256 + b2) % ((s.size : Int) + 1) = r at q1 q2 ⊢
    obtain ⟨n, rfl⟩ := Int.eq_ofNat_of_zero_le q1
    refine Ev.neg (by omega) (Ev.pos q1 (Ev.pos (by omega) ?_))
    rw [Int.toNat_natCast]
    refine Ev.bind (impl_Frames_ev (s.extract 0 n) (by rw [ByteArray.size_extract]; omega)) ?_
    rw [framesV_join hg' e n (by omega)]
    exact frames_l1 l B (by omega) n (wh B n) 0 (by omega)
  obtain ⟨a, ha, a0, a1⟩ := laws_at_eq l hl hu 0 (by omega)
  have ew : wrap64 (1 + (Int.tmod a 5)) = 1 + a % 5 := by rw [tmod_nn a0, w64 (by omega) (by omega)]
  induction d with
  | zero =>
    intro i B s hi hB hg e
    exact fin i B s (by omega) hB hg e a ha (by rw [ew]; omega)
  | succ d ih =>
    intro i B s hi hB hg e
    by_cases c : (i : Int) < wrap64 (1 + (Int.tmod a 5))
    · refine Ev.step (fun k => by rw [laws_FnFrames.l0]) ?_
      obtain ⟨r, hr, hr2⟩ := laws_fresh_ex l (i : Int)
      obtain ⟨t, ht, ht2⟩ := spec_DrawHex_ex r (by omega)
      have hx : ((⟨#[120]⟩ : ByteArray) ++ t).size = 1 + t.size := by rw [ByteArray.size_append]; rfl
      have hgx : goodB ((⟨#[120]⟩ : ByteArray) ++ t) := by unfold goodB; omega
      have hz := frame_size hgx
      have tb : s.size ≤ 4000000 := by
        have hg' : ∀ b ∈ B, goodB b := fun b hb => by have := hg b hb; unfold goodB; omega
        rw [← bl_length, e, joinF_length hg']
        have : ∀ (B : List ByteArray), (∀ b ∈ B, 1 ≤ b.size ∧ b.size ≤ 41) → tot B ≤ 49 * B.length := by
          intro B
          induction B with
          | nil => intro _; simp [tot]
          | cons b B ih =>
            intro h
            have h1 := h b (by simp)
            have h2 := ih (fun x hx => h x (by simp [hx]))
            unfold tot
            rw [List.length_cons]; omega
        have := this B hg
        omega
      refine Ev.bind0 ha (Ev.pos c (Ev.bind hr (Ev.bind ht (Ev.pos (by omega) (Ev.pos (by omega) (Ev.bind (impl_Frame_ev _ (by omega)) (Ev.pos (by omega) (Ev.pos (by rw [endsL_length]; omega) ?_))))))))
      rw [w64 (x := (i : Int) + 1) (by omega) (by omega)]
      have hj : bl (s ++ frameV ((⟨#[120]⟩ : ByteArray) ++ t)) = joinF (B ++ [(⟨#[120]⟩ : ByteArray) ++ t]) := by rw [bl_append, e, joinF_snoc]
      have hall : ∀ b ∈ B ++ [(⟨#[120]⟩ : ByteArray) ++ t], 1 ≤ b.size ∧ b.size ≤ 41 := by
        intro b hb
        rcases List.mem_append.1 hb with h | h
        · exact hg b h
        · rw [List.mem_singleton.1 h]; omega
      have g := ih (i + 1) (B ++ [(⟨#[120]⟩ : ByteArray) ++ t]) (s ++ frameV ((⟨#[120]⟩ : ByteArray) ++ t)) (by omega) (by simp; omega) hall hj
      have e1 : ((i + 1 : Nat) : Int) = (i : Int) + 1 := by omega
      have e2 : ((tot (B ++ [(⟨#[120]⟩ : ByteArray) ++ t]) : Nat) : Int) = ((s ++ frameV ((⟨#[120]⟩ : ByteArray) ++ t)).size : Int) := by
        rw [← bl_length, hj, joinF_length (fun b hb => by have := hall b hb; unfold goodB; omega)]
      rw [e1, endsL_snoc, e2] at g
      exact g
    · exact fin i B s (by omega) hB hg e a ha c
theorem FnFrames : laws_FnFrames.Pure := by
  intro l hl
  refine Ev.rounds (g := fun k => laws_FnFrames.f k l) ?_
  unfold laws_FnFrames.f
  refine Ev.bind0 (laws_big_eq l) ?_
  by_cases c : (l.length : Int) > 1048576
  · exact Ev.pos (decide_eq_true c) (Ev.now _)
  · refine Ev.neg (by simpa using c) ?_
    have g := frames_l0 l (by omega) (fun y hy => wf8 (hl.2 y hy)) 6 0 [] ⟨#[]⟩ (by omega) rfl (by simp) rfl
    simpa [endsL, tot] using g

end Go.Proofs.Ytbebnkamepcabaa.Pure
