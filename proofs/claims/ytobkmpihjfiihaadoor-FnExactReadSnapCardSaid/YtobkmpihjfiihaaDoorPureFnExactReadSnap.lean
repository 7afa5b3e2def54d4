/- The pure statement of the law FnExactReadSnap is proved: for all arguments within the stated bounds the printed function answers true. Conditions: none beyond those bounds. -/
import Derived.Test.YtobkmpihjfiihaaDoorPFnExactReadSnapx9
import Derived.Laws.BitsLemmas
import Derived.Lib.Strings
namespace Go.Proofs.YtobkmpihjfiihaaDoor.Pure
open Go Go.RowKit Go.Proofs.YtobkmpihjfiihaaDoor.PFnExactReadSnap Go.Proofs.YtobkmpihjfiihaaDoorW.PrintWords Go.Proofs.YtobkmpihjfiihaaDoorW.PrintLast Go.Proofs.YtobkmpihjfiihaaDoorW.PrintMore
set_option linter.unusedVariables false
set_option linter.unusedSimpArgs false

/-! ### Base: rounds, whole numbers, bits, byte strings (no program in sight) -/
theorem Ev.pos {α : Type} {c : Prop} [Decidable c] {g f : Nat → Option α} {r : α} (h : c) (e : Ev g r) : Ev (fun k => if c then g k else f k) r := by
  simpa only [if_pos h] using e
theorem Ev.neg {α : Type} {c : Prop} [Decidable c] {g f : Nat → Option α} {r : α} (h : ¬ c) (e : Ev f r) : Ev (fun k => if c then g k else f k) r := by
  simpa only [if_neg h] using e
theorem Ev.val {α : Type} (r s : α) (h : r = s) : Ev (fun _ => some r) s := by subst h; exact Ev.now _
theorem Ev.val0 {α : Type} {o : Option α} {s : α} (h : o = some s) : Ev (fun _ => o) s := by subst h; exact Ev.now _
theorem Ev.bind0 {α β : Type} {o : Option α} {f : Nat → α → Option β} {a : α} {r : β} (h : o = some a) (k : Ev (fun n => f n a) r) : Ev (fun n => o.bind (f n)) r := by
  subst h; simpa only [Option.bind_some] using k
theorem Ev.and {α β : Type} {g : Nat → Option α} {f : Nat → Option β} {r : α} {s : β} (h : Ev g r) (k : Ev f s) : ∃ K, ∀ n, K ≤ n → g n = some r ∧ f n = some s := by
  obtain ⟨K, h⟩ := h
  obtain ⟨L, k⟩ := k
  exact ⟨max K L, fun n hn => ⟨h n (by omega), k n (by omega)⟩⟩

theorem Ev.ite {α : Type} {c d : Prop} [Decidable c] [Decidable d] {g f : Nat → Option α} {a b : α} (h : c ↔ d) (e : d → Ev g a) (e' : ¬ d → Ev f b) : Ev (fun k => if c then g k else f k) (if d then a else b) := by
  by_cases x : d
  · rw [if_pos x]; exact Ev.pos (h.2 x) (e x)
  · rw [if_neg x]; exact Ev.neg (fun y => x (h.1 y)) (e' x)
theorem w64 {x : Int} (h0 : -9223372036854775808 ≤ x) (h1 : x ≤ 9223372036854775807) : wrap64 x = x := by unfold wrap64; omega
theorem wf64 {x : Int} (h : (Lit.int .i64 x).wf = true) : -9223372036854775808 ≤ x ∧ x ≤ 9223372036854775807 := by
  simp [Lit.wf, IntKind.min, IntKind.max, IntKind.signed, IntKind.bits] at h
  omega
theorem tdiv_nn {x y : Int} (h : 0 ≤ x) : Int.tdiv x y = x / y := Int.tdiv_eq_ediv_of_nonneg h
theorem tmod_nn {x y : Int} (h : 0 ≤ x) : Int.tmod x y = x % y := Int.tmod_eq_emod_of_nonneg h

theorem wraps_i64 (n : Int) (h₀ : 0 ≤ n) (h₁ : n < 2 ^ 63) : IntKind.i64.wrap n = n := by rw [IntKind.wrap_i64]; omega
theorem and_mask (i : Nat) (hi : i ≤ 63) (x : Int) (h0 : 0 ≤ x) (h1 : x < 9223372036854775808) : Go.bits .and .i64 x (2 ^ i - 1) = x % 2 ^ i :=
  bits_mask .i64 63 (by decide) wraps_i64 i hi x h0 h1
theorem and127 {x : Int} (h0 : 0 ≤ x) (h1 : x < 9223372036854775808) : Go.bits .and .i64 x 127 = x % 128 := and_mask 7 (by decide) x h0 h1
theorem and255 {x : Int} (h0 : 0 ≤ x) (h1 : x < 9223372036854775808) : Go.bits .and .i64 x 255 = x % 256 := and_mask 8 (by decide) x h0 h1
theorem and1 {x : Int} (h0 : 0 ≤ x) (h1 : x < 9223372036854775808) : Go.bits .and .i64 x 1 = x % 2 := and_mask 1 (by decide) x h0 h1
theorem or_join (i : Nat) (x y : Int) (hx : 0 ≤ x) (hm : x % 2 ^ i = 0) (hx1 : x < 9223372036854775808) (hy : 0 ≤ y) (hy1 : y < 2 ^ i) (hy2 : y < 9223372036854775808) : Go.bits .or .i64 x y = x + y :=
  bits_join .i64 63 (by decide) wraps_i64 i x y hx hm hx1 hy hy1 hy2
theorem bits_or_comm (k : IntKind) (x y : Int) : Go.bits .or k x y = Go.bits .or k y x := by simp only [Go.bits, BitVec.or_comm]
theorem or_join' (i : Nat) (x y : Int) (hx : 0 ≤ x) (hm : x % 2 ^ i = 0) (hx1 : x < 9223372036854775808) (hy : 0 ≤ y) (hy1 : y < 2 ^ i) (hy2 : y < 9223372036854775808) : Go.bits .or .i64 y x = x + y := by
  rw [bits_or_comm]; exact or_join i x y hx hm hx1 hy hy1 hy2
theorem u8_and127 {x : Int} (h0 : 0 ≤ x) (h1 : x < 256) : Go.bits .and .u8 x 127 = x % 128 := bits_mask .u8 8 (by decide) wraps_u8 7 (by decide) x h0 h1
theorem bits_xor_nat (a b : Nat) (ha : a < 2 ^ 63) (hb : b < 2 ^ 63) : Go.bits .xor .i64 a b = ((a ^^^ b : Nat) : Int) := by
  have hp : 2 ^ 63 ≤ 2 ^ IntKind.i64.bits := Nat.pow_le_pow_right (by decide) (by decide)
  have ha' : a % 2 ^ IntKind.i64.bits = a := Nat.mod_eq_of_lt (Nat.lt_of_lt_of_le ha hp)
  have hb' : b % 2 ^ IntKind.i64.bits = b := Nat.mod_eq_of_lt (Nat.lt_of_lt_of_le hb hp)
  simp only [Go.bits, BitVec.ofInt_natCast, BitVec.toNat_xor, BitVec.toNat_ofNat, ha', hb']
  exact wraps_i64 _ (Int.natCast_nonneg _) (by exact_mod_cast Nat.xor_lt_two_pow ha hb)

theorem wbt (s : ByteArray) (i : Int) : wrap64 (bt s i) = bt s i := by have := bt_range s i; exact w64 (by omega) (by omega)
theorem toList_eq {s t : ByteArray} (h : s = t) : s.toList = t.toList := by rw [h]
theorem strOf_append (xs ys : List Int) : strOfNums xs ++ strOfNums ys = strOfNums (xs ++ ys) := by
  apply ByteArray.ext
  rw [ByteArray.data_append]
  simp [strOfNums]
theorem strOf_size (xs : List Int) : (strOfNums xs).size = xs.length := by simp [strOfNums, ByteArray.size]
theorem strOf_nil : (⟨#[]⟩ : ByteArray) = strOfNums [] := rfl
theorem cast_pow256 (d : Nat) : ((256 ^ d : Nat) : Int) = (256 : Int) ^ d := Int.natCast_pow 256 d
theorem lt_pow256 (m d : Nat) : ((m : Int) < 256 ^ d) = (m < 256 ^ d) := by
  rw [← cast_pow256]; exact propext Int.ofNat_lt
theorem pow256_six (i : Int) (h0 : 0 ≤ i) (h1 : i ≤ 6) : (256 : Int) ^ i.toNat ≤ 281474976710656 := by
  obtain rfl | rfl | rfl | rfl | rfl | rfl | rfl : i = 0 ∨ i = 1 ∨ i = 2 ∨ i = 3 ∨ i = 4 ∨ i = 5 ∨ i = 6 := by omega
  all_goals decide

/-! ### Str: a byte string as the list of its numbers -/
def IsB (xs : List Int) : Prop := ∀ x ∈ xs, 0 ≤ x ∧ x ≤ 255
def bl (s : ByteArray) : List Int := s.data.toList.map fun b => (b.toNat : Int)
theorem bl_isB (s : ByteArray) : IsB (bl s) := by
  intro x hx
  simp only [bl, List.mem_map] at hx
  obtain ⟨b, _, rfl⟩ := hx
  have := b.toNat_lt
  omega
theorem bl_length (s : ByteArray) : (bl s).length = s.size := by unfold bl; rw [List.length_map]; rfl
theorem strOf_bl (s : ByteArray) : strOfNums (bl s) = s := by
  apply ByteArray.ext
  apply Array.ext'
  unfold strOfNums bl
  rw [List.map_map]
  have : ((fun n : Int => UInt8.ofNat n.toNat) ∘ fun b : UInt8 => (b.toNat : Int)) = id := by
    funext b
    simp only [Function.comp_apply, Int.toNat_natCast, UInt8.ofNat_toNat, id]
  rw [this, List.map_id]
theorem bl_strOf {xs : List Int} (h : IsB xs) : bl (strOfNums xs) = xs := by
  induction xs with
  | nil => rfl
  | cons a l ih =>
    have ha := h a (by simp)
    have hl := ih (fun x hx => h x (by simp [hx]))
    simp only [bl, strOfNums, List.map_cons, List.toList_toArray] at hl ⊢
    rw [hl]
    congr 1
    simp only [UInt8.toNat_ofNat']
    omega
theorem bl_append (s t : ByteArray) : bl (s ++ t) = bl s ++ bl t := by simp [bl, ByteArray.data_append]
theorem bl_extract (s : ByteArray) (a b : Nat) : bl (s.extract a b) = ((bl s).drop a).take (b - a) := by
  simp [bl, ByteArray.data_extract, List.extract_eq_take_drop, List.map_take, List.map_drop]
theorem bl_inj {s t : ByteArray} (h : bl s = bl t) : s = t := by rw [← strOf_bl s, ← strOf_bl t, h]
theorem tl_iff (s t : ByteArray) : s.toList = t.toList ↔ s = t := by
  constructor
  · intro h
    rw [Go.Lib.toList_data, Go.Lib.toList_data] at h
    exact ByteArray.ext (Array.ext' h)
  · intro h; rw [h]
theorem bt_bl (s : ByteArray) (i : Int) : bt s i = rd (bl s) i := by
  unfold bt rd bl
  split
  · rename_i h
    have h' : i.toNat < s.data.toList.length := h
    rw [List.getD_eq_getElem?_getD, List.getElem?_map, List.getElem?_eq_getElem h']
    simp only [Option.map_some, Option.getD_some]
    rfl
  · rename_i h
    have h' : ¬ i.toNat < s.data.toList.length := h
    rw [List.getD_eq_getElem?_getD, List.getElem?_map, List.getElem?_eq_none (by omega)]
    rfl
theorem bt_nat (s : ByteArray) (i : Nat) (h : i < s.size) : bt s (i : Int) = (bl s)[i]'(by rw [bl_length]; exact h) := by
  rw [bt_bl]
  unfold rd
  rw [Int.toNat_natCast, List.getD_eq_getElem?_getD, List.getElem?_eq_getElem (by rw [bl_length]; exact h)]
  rfl
theorem isB_nil : IsB [] := fun _ h => by cases h
theorem isB_append {xs ys : List Int} (h : IsB xs) (k : IsB ys) : IsB (xs ++ ys) := fun x hx => (List.mem_append.1 hx).elim (h x) (k x)
theorem isB_cons {x : Int} {ys : List Int} (h : 0 ≤ x ∧ x ≤ 255) (k : IsB ys) : IsB (x :: ys) := by
  intro y hy
  rcases List.mem_cons.1 hy with e | e
  · subst e; exact h
  · exact k y e
theorem strOf_inj {xs ys : List Int} (h : IsB xs) (k : IsB ys) (e : strOfNums xs = strOfNums ys) : xs = ys := by
  rw [← bl_strOf h, ← bl_strOf k, e]
instance instDecEqBytes : DecidableEq ByteArray := fun a b => decidable_of_iff (a.toList = b.toList) (tl_iff a b)
instance instDecMemBytes (x : ByteArray) : (l : List ByteArray) → Decidable (x ∈ l)
  | [] => .isFalse (by simp)
  | y :: l => if h : x = y then .isTrue (by simp [h]) else (match instDecMemBytes x l with
    | .isTrue k => .isTrue (by simp [k])
    | .isFalse k => .isFalse (by simp [h, k]))

/-! ### what Fixed makes, and what ReadFixed reads -/
def fixL : Nat → Nat → List Int
  | 0, _ => []
  | w + 1, n => fixL w (n / 256) ++ [((n % 256 : Nat) : Int)]
theorem fixL_length : ∀ (w n : Nat), (fixL w n).length = w
  | 0, _ => rfl
  | w + 1, n => by simp [fixL, fixL_length w]
theorem set_replicate (i : Nat) (v : Int) (xs : List Int) : (List.replicate (i + 1) 0 ++ xs).set i v = List.replicate i 0 ++ (v :: xs) := by
  rw [List.replicate_succ', List.append_assoc, List.set_append_right _ _ (by simp)]
  simp
/-- What Fixed(n, w) is. -/
def fixedV (n w : Int) : List Int := if 1 ≤ w ∧ w ≤ 7 ∧ 0 ≤ n ∧ n < 256 ^ w.toNat then fixL w.toNat n.toNat else []
def beAcc (s : ByteArray) : Nat → Int → Int → Int
  | 0, _, n => n
  | d + 1, i, n => beAcc s d (i + 1) (n * 256 + bt s i)
/-- What ReadFixed(s, w) is. -/
def readFixedV (s : ByteArray) (w : Int) : Int × Bool := if 1 ≤ w ∧ w ≤ 7 ∧ w ≤ (s.size : Int) then (beAcc s w.toNat 0 0, true) else (0, false)

/-! ### Sha: what both sides make of a text (shaB, wds, wds2, rnds, addsV, rotV: the walk's own words) -/
theorem int_toNat_nat (i : Nat) : (i : Int).toNat = i := Int.toNat_natCast i
theorem rd_nat (l : List Int) (i : Nat) : rd l (i : Int) = l.getD i 0 := by unfold rd; rw [Int.toNat_natCast]
/-- n blocks of a text from place i on. -/
def blkV (p : ByteArray) : Nat → Nat → List Int → List Int
  | 0, _, s => s
  | n + 1, i, s => blkV p n (i + 64) (shaB s (p.extract i (i + 64)))
theorem blkV_add (p : ByteArray) (n : Nat) : ∀ (m i : Nat) (s : List Int), blkV p (n + m) i s = blkV p m (i + 64 * n) (blkV p n i s) := by
  induction n with
  | zero => intro m i s; simp [blkV]
  | succ n ih => intro m i s; rw [show n + 1 + m = (n + m) + 1 by omega]; simp only [blkV]; rw [ih, show i + 64 + 64 * n = i + 64 * (n + 1) by omega]
def U32s (s : List Int) : Prop := s.length = 8 ∧ ∀ x ∈ s, 0 ≤ x ∧ x < 4294967296
theorem shaInit_u : U32s shaInit := by
  refine ⟨rfl, fun x hx => ?_⟩
  simp only [shaInit, List.mem_cons, List.not_mem_nil, or_false] at hx
  omega
def addL (s v : List Int) : Nat → List Int
  | 0 => []
  | n + 1 => addL s v n ++ [(s.getD n 0 + v.getD n 0) % 4294967296]
theorem addL_length (s v : List Int) (n : Nat) : (addL s v n).length = n := by
  induction n with
  | zero => rfl
  | succ n ih => simp [addL, ih]
theorem addL_u (s v : List Int) (n : Nat) : ∀ x ∈ addL s v n, 0 ≤ x ∧ x < 4294967296 := by
  induction n with
  | zero => intro x hx; cases hx
  | succ n ih =>
    intro x hx
    simp only [addL, List.mem_append, List.mem_singleton] at hx
    rcases hx with hx | rfl
    · exact ih x hx
    · omega
theorem addsV_addL (s v : List Int) (h : s.length = 8) : addsV s v 8 = addL s v 8 := by
  obtain ⟨s0, s1, s2, s3, s4, s5, s6, s7, rfl⟩ := eight s h
  rfl
theorem shaB_u (s : List Int) (b : ByteArray) (h : s.length = 8) : U32s (shaB s b) := by
  unfold shaB
  rw [addsV_addL _ _ h]
  exact ⟨addL_length _ _ _, addL_u _ _ _⟩
theorem blkV_u (p : ByteArray) (n : Nat) : ∀ (i : Nat) (s : List Int), U32s s → U32s (blkV p n i s) := by
  induction n with
  | zero => intro i s h; exact h
  | succ n ih => intro i s h; exact ih _ _ (shaB_u _ _ h.1)
theorem blkV_congr (p q : ByteArray) (n : Nat) : ∀ (i j : Nat) (s : List Int), (∀ d, d < n → p.extract (i + 64 * d) (i + 64 * d + 64) = q.extract (j + 64 * d) (j + 64 * d + 64)) → blkV p n i s = blkV q n j s := by
  induction n with
  | zero => intro i j s h; rfl
  | succ n ih =>
    intro i j s h
    simp only [blkV]
    have h0 := h 0 (by omega)
    simp only [Nat.mul_zero, Nat.add_zero] at h0
    rw [h0]
    exact ih _ _ _ fun d hd => by
      have := h (d + 1) (by omega)
      rwa [show i + 64 * (d + 1) = i + 64 + 64 * d by omega, show j + 64 * (d + 1) = j + 64 + 64 * d by omega] at this
/-- The words of a state as a text. -/
def outL : List Int → List Int
  | [] => []
  | x :: r => fixedV x 4 ++ outL r
theorem fixedV_len (n w : Int) : (fixedV n w).length ≤ 7 := by
  unfold fixedV
  split
  · rw [fixL_length]; omega
  · simp
/-- What stands behind a text of n bytes. -/
def zerosV (n : Nat) : Nat := (64 - (n + 9) % 64) % 64
def tailL (n : Nat) : List Int := 128 :: (List.replicate (zerosV n + 1) 0 ++ fixedV (8 * (n : Int)) 7)
def padV (a : ByteArray) : ByteArray := a ++ strOfNums (tailL a.size)
def shaV (a : ByteArray) : ByteArray := strOfNums (outL (blkV (padV a) ((padV a).size / 64) 0 shaInit))
theorem fixedV7_len (n : Nat) (h : n ≤ 140737488351232) : (fixedV (8 * (n : Int)) 7).length = 7 := by
  unfold fixedV
  rw [if_pos (by refine ⟨by omega, by omega, by omega, ?_⟩; have e : (256 : Int) ^ (7 : Int).toNat = 72057594037927936 := by decide
                 rw [e]; omega), fixL_length]
  rfl
theorem tailL_len (n : Nat) (h : n ≤ 140737488351232) : (tailL n).length = zerosV n + 9 := by
  unfold tailL
  rw [List.length_cons, List.length_append, List.length_replicate, fixedV7_len n h]
theorem padV_size (a : ByteArray) (h : a.size ≤ 140737488351232) : (padV a).size = a.size + zerosV a.size + 9 := by
  unfold padV
  rw [ByteArray.size_append, strOf_size, tailL_len _ h]
  omega
theorem zerosV_mod (n : Nat) : (n + zerosV n + 9) % 64 = 0 ∧ zerosV n < 64 := by unfold zerosV; omega

/-! ### what Crc is -/
def crcStep (c : Nat) : Nat := if c % 2 = 1 then (c / 2) ^^^ 2197175160 else c / 2
def crcRounds : Nat → Nat → Nat
  | 0, c => c
  | d + 1, c => crcRounds d (crcStep c)
theorem crcStep_lt {c : Nat} (h : c < 2 ^ 32) : crcStep c < 2 ^ 32 := by
  unfold crcStep
  split
  · exact Nat.xor_lt_two_pow (by omega) (by decide)
  · omega
theorem crcRounds_lt : ∀ (d c : Nat), c < 2 ^ 32 → crcRounds d c < 2 ^ 32
  | 0, _, h => h
  | d + 1, c, h => crcRounds_lt d _ (crcStep_lt h)
def crcFrom (s : ByteArray) : Nat → Nat → Nat → Nat
  | 0, _, c => c
  | d + 1, i, c => crcFrom s d (i + 1) (crcRounds 8 (c ^^^ (bt s i).toNat))
theorem crcIn_lt (s : ByteArray) (i : Nat) {c : Nat} (h : c < 2 ^ 32) : c ^^^ (bt s i).toNat < 2 ^ 32 := by
  have := bt_range s i
  exact Nat.xor_lt_two_pow h (by omega)
theorem crcFrom_lt (s : ByteArray) : ∀ (d i c : Nat), c < 2 ^ 32 → crcFrom s d i c < 2 ^ 32
  | 0, _, _, h => h
  | d + 1, i, c, h => crcFrom_lt s d (i + 1) _ (crcRounds_lt 8 _ (crcIn_lt s i h))
/-- What Crc(s) is. -/
def crcV (s : ByteArray) : Int := 4294967295 - (crcFrom s s.size 0 4294967295 : Nat)
theorem crcV_range (s : ByteArray) : 0 ≤ crcV s ∧ crcV s ≤ 4294967295 := by
  have := crcFrom_lt s s.size 0 4294967295 (by decide)
  unfold crcV; omega

/-- What Frame(b) is. -/
def frameV (b : ByteArray) : ByteArray := if 1 ≤ b.size ∧ b.size ≤ 2000 then (strOfNums (fixedV b.size 4) ++ strOfNums (fixedV (crcV (strOfNums (fixedV b.size 4) ++ b)) 4)) ++ b else strOfNums []
theorem fixedV_4 {n : Int} (h0 : 0 ≤ n) (h1 : n ≤ 4294967295) : fixedV n 4 = fixL 4 n.toNat := by
  unfold fixedV
  have e : (256 : Int) ^ (4 : Int).toNat = 4294967296 := by decide
  rw [if_pos (by rw [e]; omega)]
  rfl
theorem size_append (a b : ByteArray) : (a ++ b).size = a.size + b.size := ByteArray.size_append

theorem beAcc4 (s : ByteArray) : 0 ≤ beAcc s 4 0 0 ∧ beAcc s 4 0 0 ≤ 4294967295 := by
  have h0 := bt_range s 0
  have h1 := bt_range s (0 + 1)
  have h2 := bt_range s (0 + 1 + 1)
  have h3 := bt_range s (0 + 1 + 1 + 1)
  simp only [beAcc]
  omega
theorem readFixed4 (s : ByteArray) : readFixedV s 4 = if 4 ≤ s.size then (beAcc s 4 0 0, true) else (0, false) := by
  unfold readFixedV
  by_cases h : 4 ≤ s.size
  · rw [if_pos h, if_pos (by omega)]; rfl
  · rw [if_neg h, if_neg (by omega)]
/-- What Unframe(s) is. -/
def unframeV (s : ByteArray) : ByteArray × Int × Int :=
  if 4 ≤ s.size then
    (if 1 ≤ beAcc s 4 0 0 ∧ beAcc s 4 0 0 ≤ 2000 then
      (if (s.size : Int) < 8 + beAcc s 4 0 0 then (strOfNums [], 0, 1)
       else if (frameV (s.extract 8 (8 + beAcc s 4 0 0).toNat)).toList = (s.extract 0 (8 + beAcc s 4 0 0).toNat).toList then (s.extract 8 (8 + beAcc s 4 0 0).toNat, 8 + beAcc s 4 0 0, 0) else (strOfNums [], 0, 2))
     else (strOfNums [], 0, 2))
  else (strOfNums [], 0, 1)
theorem extract_le (s : ByteArray) (a b : Nat) : (s.extract a b).size ≤ s.size := by rw [ByteArray.size_extract]; omega

theorem size_zero (s : ByteArray) : s.size = 0 ↔ s = ⟨#[]⟩ := by
  constructor
  · intro h
    apply bl_inj
    have : (bl s).length = 0 := by rw [bl_length]; exact h
    rw [List.eq_nil_of_length_eq_zero this]; rfl
  · intro h; subst h; rfl
theorem tl_nil (s : ByteArray) : (s.toList == ([] : List UInt8)) = decide (s.size = 0) := by
  have e : ([] : List UInt8) = (⟨#[]⟩ : ByteArray).toList := by rw [Go.Lib.toList_data]
  rw [e, Bool.eq_iff_iff, beq_iff_eq, tl_iff, decide_eq_true_iff, size_zero]
theorem tl_nil' (s : ByteArray) : (s.toList = ([] : List UInt8)) = (s.size = 0) := by
  have e : ([] : List UInt8) = (⟨#[]⟩ : ByteArray).toList := by rw [Go.Lib.toList_data]
  rw [e, tl_iff, size_zero]

theorem spec_l1In_eq (a b c : Int) : spec_l1In.f a b c = some (decide (b ≤ a ∧ a ≤ c)) := by
  unfold spec_l1In.f
  by_cases h : a ≥ b
  · rw [if_pos h]; simp [show b ≤ a from h]
  · rw [if_neg h]; simp [show ¬ b ≤ a from h]

theorem impl_within_eq (a b c : Int) : impl_within.f a b c = some (decide (b ≤ a ∧ a ≤ c)) := by
  unfold impl_within.f
  by_cases h : a ≥ b
  · rw [if_pos h]; simp [show b ≤ a from h]
  · rw [if_neg h]; simp [show ¬ b ≤ a from h]

def snapOkV (i t : Int) (d : ByteArray) : Bool := decide ((i = 0 ∧ t = 0 ∧ d.size = 0) ∨ (1 ≤ i ∧ i ≤ 100000 ∧ 1 ≤ t ∧ t ≤ 100000 ∧ d.size ≤ 8000))
theorem spec_SnapOk_eq (i t : Int) (d : ByteArray) : spec_SnapOk.f i t d = some (snapOkV i t d) := by
  unfold spec_SnapOk.f snapOkV
  simp only [spec_l1In_eq, Option.bind_some, tl_nil]
  by_cases h1 : i = 0 <;> by_cases h2 : t = 0 <;> by_cases h3 : (1 ≤ i ∧ i ≤ 100000) <;> by_cases h4 : (1 ≤ t ∧ t ≤ 100000) <;> simp [*] <;> omega
theorem impl_SnapOk_eq (i t : Int) (d : ByteArray) : impl_SnapOk.f i t d = some (snapOkV i t d) := by
  unfold impl_SnapOk.f snapOkV
  simp only [impl_within_eq, Option.bind_some, tl_nil]
  by_cases h1 : i = 0 <;> by_cases h2 : t = 0 <;> by_cases h5 : d.size = 0 <;> by_cases h3 : (1 ≤ i ∧ i ≤ 100000) <;> by_cases h4 : (1 ≤ t ∧ t ≤ 100000) <;> simp [*] <;> omega

theorem outL_len (s : List Int) : (outL s).length ≤ 7 * s.length := by
  induction s with
  | nil => simp [outL]
  | cons x r ih =>
    have := fixedV_len x 4
    simp only [outL, List.length_append, List.length_cons]
    omega
theorem shaV_size (a : ByteArray) : (shaV a).size ≤ 56 := by
  unfold shaV
  rw [strOf_size]
  have h := outL_len (blkV (padV a) ((padV a).size / 64) 0 shaInit)
  rw [(blkV_u (padV a) ((padV a).size / 64) 0 shaInit shaInit_u).1] at h
  exact h
def snapHead (i t : Int) (d : ByteArray) : ByteArray := ((strOfNums (fixedV i 4) ++ strOfNums (fixedV t 4)) ++ strOfNums (fixedV (d.size : Int) 4)) ++ shaV d
def showSnapV (i t : Int) (d : ByteArray) : ByteArray := if snapOkV i t d = true ∧ i ≠ 0 then frameV (snapHead i t d) ++ d else ⟨#[]⟩
theorem snapHead_size (i t : Int) (d : ByteArray) : (snapHead i t d).size ≤ 77 := by
  unfold snapHead
  have h1 := fixedV_len i 4
  have h2 := fixedV_len t 4
  have h3 := fixedV_len (d.size : Int) 4
  have h4 := shaV_size d
  simp only [ByteArray.size_append, strOf_size]
  omega
theorem snapOk_le {i t : Int} {d : ByteArray} (h : snapOkV i t d = true) : d.size ≤ 8000 := by
  unfold snapOkV at h
  have := of_decide_eq_true h
  omega
theorem snapOk_zero {i t : Int} {d : ByteArray} (h : snapOkV i t d = true) : (i == 0 && (t == 0 && (d.toList == ([] : List UInt8)))) = decide (i = 0) := by
  unfold snapOkV at h
  have := of_decide_eq_true h
  rw [tl_nil]
  by_cases c : i = 0
  · have h1 : t = 0 := by omega
    have h2 : d.size = 0 := by omega
    simp [c, h1, h2]
  · simp [c]
/-- What ReadSnap(s) is. -/
def readSnapV (s : ByteArray) : Int × Int × ByteArray × Bool :=
  if (unframeV s).2.2 = 0 ∧ (unframeV s).1.size = 44 ∧ showSnapV (beAcc (unframeV s).1 4 0 0) (beAcc ((unframeV s).1.extract 4 (unframeV s).1.size) 4 0 0) (s.extract (unframeV s).2.1.toNat s.size) = s
  then (beAcc (unframeV s).1 4 0 0, beAcc ((unframeV s).1.extract 4 (unframeV s).1.size) 4 0 0, s.extract (unframeV s).2.1.toNat s.size, true) else (0, 0, ⟨#[]⟩, false)
theorem frameV_le (b : ByteArray) : (frameV b).size ≤ b.size + 14 := by
  unfold frameV
  split
  · have h1 := fixedV_len (b.size : Int) 4
    have h2 := fixedV_len (crcV (strOfNums (fixedV (b.size : Int) 4) ++ b)) 4
    simp only [ByteArray.size_append, strOf_size]
    omega
  · rw [strOf_size]; simp
theorem unframe_ne {s : ByteArray} (h : 0 < (unframeV s).1.size) : (unframeV s).2.2 = 0 := by
  unfold unframeV at h ⊢
  split at h <;> rename_i c1
  · rw [if_pos c1]
    split at h <;> rename_i c2
    · rw [if_pos c2]
      split at h <;> rename_i c3
      · simp [strOf_size] at h
      · rw [if_neg c3]
        split at h <;> rename_i c4
        · rw [if_pos c4]
        · simp [strOf_size] at h
    · simp [strOf_size] at h
  · simp [strOf_size] at h

theorem unframe_ok {s : ByteArray} (h : (unframeV s).2.2 = 0) : 9 ≤ (unframeV s).2.1 ∧ (unframeV s).2.1 ≤ s.size ∧ (((unframeV s).1.size : Int) + 8 = (unframeV s).2.1) ∧ (unframeV s).1.size ≤ 2000 := by
  unfold unframeV at h ⊢
  have hr := beAcc4 s
  generalize beAcc s 4 0 0 = n at h hr ⊢
  split at h
  · rename_i c1
    split at h
    · rename_i c2
      split at h
      · cases h
      · rename_i c3
        split at h
        · rename_i c4
          rw [if_pos c1, if_pos c2, if_neg c3, if_pos c4]
          have e : (s.extract 8 (8 + n).toNat).size = (8 + n).toNat - 8 := by rw [ByteArray.size_extract]; omega
          simp only [e]
          omega
        · cases h
    · cases h
  · cases h
/-- what Frames comes to from place pos on -/
def frFrom (s : ByteArray) : Nat → Nat → List ByteArray → List ByteArray × Int
  | 0, pos, acc => (acc, pos)
  | f + 1, pos, acc => if (unframeV (s.extract pos s.size)).2.2 = 0 then frFrom s f (pos + (unframeV (s.extract pos s.size)).2.1.toNat) (acc ++ [(unframeV (s.extract pos s.size)).1]) else (acc, pos)
def framesV (s : ByteArray) : List ByteArray × Int := frFrom s s.size 0 []
theorem frFrom_len (s : ByteArray) : ∀ (f pos : Nat) (acc : List ByteArray), acc.length ≤ pos → pos ≤ s.size → (frFrom s f pos acc).1.length ≤ s.size
  | 0, pos, acc, h, hp => by simp only [frFrom]; omega
  | f + 1, pos, acc, h, hp => by
    rw [frFrom]
    split
    · rename_i c
      have u := unframe_ok c
      have e : (s.extract pos s.size).size = s.size - pos := by rw [ByteArray.size_extract]; omega
      rw [e] at u
      exact frFrom_len s f _ _ (by rw [List.length_append]; simp; omega) (by omega)
    · simp only; omega
theorem framesV_len (s : ByteArray) : (framesV s).1.length ≤ s.size := frFrom_len s s.size 0 [] (by simp) (by omega)

theorem impl_Fixed_l0 (d : Nat) : ∀ (n : Nat) (xs : List Int), d ≤ 7 → n < 9223372036854775808 →
    Ev (fun k => impl_Fixed.l0 k (n : Int) (List.replicate d 0 ++ xs) ((d : Int) - 1)) (strOfNums (fixL d n ++ xs)) := by
  induction d with
  | zero =>
    intro n xs hd hn
    refine Ev.step (fun k => by rw [impl_Fixed.l0]) ?_
    exact Ev.neg (by omega) (Ev.val _ _ (by simp [fixL]))
  | succ d ih =>
    intro n xs hd hn
    refine Ev.step (fun k => by rw [impl_Fixed.l0]) ?_
    refine Ev.pos (by omega) (Ev.pos (by omega) (Ev.pos (by simp; omega) ?_))
    have e1 : (Go.bits .and .i64 (n : Int) 255) % 256 = ((n % 256 : Nat) : Int) := by rw [and255 (by omega) (by omega)]; omega
    have e2 : (n : Int) / 256 = ((n / 256 : Nat) : Int) := by omega
    have e3 : ((d + 1 : Nat) : Int) - 1 = (d : Int) := by omega
    rw [e1, e2, e3, w64 (by omega) (by omega), Int.toNat_natCast, set_replicate]
    have := ih (n / 256) (((n % 256 : Nat) : Int) :: xs) (by omega) (by omega)
    simpa [fixL, List.append_assoc] using this
theorem impl_Fixed_ev (n w : Int) (hn : n ≤ 9223372036854775807) : Ev (fun k => impl_Fixed.f k n w) (strOfNums (fixedV n w)) := by
  unfold impl_Fixed.f fixedV
  refine Ev.bind0 (impl_within_eq _ _ _) ?_
  by_cases c : 1 ≤ w ∧ w ≤ 7
  · refine Ev.pos (by simp; omega) ?_
    by_cases c2 : n < 0
    · refine Ev.pos c2 ?_
      refine Ev.step (fun k => by rw [impl_Fixed.j0]) ?_
      refine Ev.pos rfl (Ev.val _ _ ?_)
      rw [if_neg (by omega)]; rfl
    · obtain ⟨m, rfl⟩ := Int.eq_ofNat_of_zero_le (show 0 ≤ n by omega)
      obtain ⟨d, rfl⟩ := Int.eq_ofNat_of_zero_le (show 0 ≤ w by omega)
      have e1 : wrap64 (8 * (d : Int)) = ((8 * d : Nat) : Int) := by rw [w64 (by omega) (by omega)]; omega
      have e2 : shl .i64 1 ((8 * d : Nat) : Int) = ((256 ^ d : Nat) : Int) := by
        obtain rfl | rfl | rfl | rfl | rfl | rfl | rfl : d = 1 ∨ d = 2 ∨ d = 3 ∨ d = 4 ∨ d = 5 ∨ d = 6 ∨ d = 7 := by omega
        all_goals decide
      rw [e1, e2]
      refine Ev.neg c2 (Ev.pos (by omega) ?_)
      refine Ev.step (fun k => by rw [impl_Fixed.j0]) ?_
      have e3 : ((m : Int) < 256 ^ (d : Int).toNat) = (m < 256 ^ d) := by rw [Int.toNat_natCast, lt_pow256]
      by_cases c3 : m < 256 ^ d
      · refine Ev.neg (by simp only [decide_eq_true_eq]; omega) (Ev.pos (by omega) (Ev.pos (by simp; omega) ?_))
        rw [if_pos (by rw [e3]; exact ⟨by omega, by omega, by omega, c3⟩), w64 (by omega) (by omega), Int.toNat_natCast, Int.toNat_natCast]
        simpa using impl_Fixed_l0 d m [] (by omega) (by omega)
      · refine Ev.pos (by simp only [decide_eq_true_eq]; omega) (Ev.val _ _ ?_)
        rw [if_neg (by rw [e3]; omega)]; rfl
  · refine Ev.neg (by simp; omega) ?_
    refine Ev.step (fun k => by rw [impl_Fixed.j0]) ?_
    refine Ev.pos rfl (Ev.val _ _ ?_)
    rw [if_neg (by omega)]; rfl

theorem impl_Crc_l1 (s : ByteArray) (i : Nat) (r : Int) (d : Nat) : ∀ (c : Nat) (j : Int), c < 2 ^ 32 → 8 - j = d → 0 ≤ j → i < 9223372036854775807 →
    Ev (fun k => impl_Crc.l0 k s ((crcRounds d c : Nat) : Int) ((i + 1 : Nat) : Int)) r → Ev (fun k => impl_Crc.l1 k s (c : Int) (i : Int) j) r := by
  induction d with
  | zero =>
    intro c j hc hd hj hi h
    refine Ev.step (fun k => by rw [impl_Crc.l1]) (Ev.neg (by omega) ?_)
    rw [w64 (by omega) (by omega)]
    exact h
  | succ d ih =>
    intro c j hc hd hj hi h
    have hlt := crcStep_lt hc
    refine Ev.step (fun k => by rw [impl_Crc.l1]) (Ev.pos (by omega) ?_)
    rw [and1 (by omega) (by omega), w64 (x := j + 1) (by omega) (by omega)]
    have g := ih (crcStep c) (j + 1) hlt (by omega) (by omega) hi h
    by_cases o : c % 2 = 1
    · refine Ev.pos (by omega) ?_
      have e : Go.bits .xor .i64 ((c : Int) / 2) 2197175160 = ((crcStep c : Nat) : Int) := by
        rw [show ((c : Int) / 2) = ((c / 2 : Nat) : Int) by omega, show (2197175160 : Int) = ((2197175160 : Nat) : Int) from rfl, bits_xor_nat _ _ (by omega) (by decide)]
        unfold crcStep; rw [if_pos o]
      rw [e]; exact g
    · refine Ev.neg (by omega) ?_
      have e : (c : Int) / 2 = ((crcStep c : Nat) : Int) := by unfold crcStep; rw [if_neg o]; omega
      rw [e]; exact g
theorem impl_Crc_l0 (s : ByteArray) (hs : s.size ≤ 140737488351232) (d : Nat) : ∀ (i c : Nat), c < 2 ^ 32 → s.size - i = d → i ≤ s.size →
    Ev (fun k => impl_Crc.l0 k s (c : Int) (i : Int)) (4294967295 - (crcFrom s d i c : Nat)) := by
  induction d with
  | zero =>
    intro i c hc hd hi
    exact Ev.step (fun k => by rw [impl_Crc.l0]) (Ev.neg (by omega) (Ev.val _ _ (by simp only [crcFrom]; rw [w64 (by omega) (by omega)])))
  | succ d ih =>
    intro i c hc hd hi
    have hb := bt_range s i
    refine Ev.step (fun k => by rw [impl_Crc.l0]) (Ev.pos (by omega) (Ev.pos (by omega) ?_))
    rw [wbt, show bt s (i : Int) = ((bt s i).toNat : Int) by omega, bits_xor_nat _ _ (by omega) (by omega)]
    exact impl_Crc_l1 s i _ 8 _ 0 (crcIn_lt s i hc) (by omega) (by omega) (by omega) (ih (i + 1) _ (crcRounds_lt 8 _ (crcIn_lt s i hc)) (by omega) (by omega))
theorem impl_Crc_ev (s : ByteArray) (hs : s.size ≤ 140737488351232) : Ev (fun k => impl_Crc.f k s) (crcV s) := by
  unfold impl_Crc.f
  exact impl_Crc_l0 s hs s.size 0 4294967295 (by decide) (by omega) (by omega)

theorem impl_Frame_ev (b : ByteArray) (hb : b.size ≤ 140737488351232) : Ev (fun k => impl_Frame.f k b) (frameV b) := by
  unfold impl_Frame.f frameV
  refine Ev.bind0 (impl_within_eq _ _ _) ?_
  by_cases c : 1 ≤ b.size ∧ b.size ≤ 2000
  · rw [if_pos c]
    have h4 : (strOfNums (fixedV (b.size : Int) 4)).size = 4 := by rw [strOf_size, fixedV_4 (by omega) (by omega), fixL_length]
    have hc := crcV_range (strOfNums (fixedV (b.size : Int) 4) ++ b)
    have h5 : (strOfNums (fixedV (crcV (strOfNums (fixedV (b.size : Int) 4) ++ b)) 4)).size = 4 := by rw [strOf_size, fixedV_4 hc.1 hc.2, fixL_length]
    refine Ev.pos (by simp; omega) (Ev.bind (impl_Fixed_ev _ _ (by omega)) (Ev.pos (by omega) ?_))
    refine Ev.bind (impl_Crc_ev _ (by rw [size_append]; omega)) (Ev.bind (impl_Fixed_ev _ _ (by omega)) ?_)
    exact Ev.pos (by omega) (Ev.pos (by rw [size_append]; omega) (Ev.now _))
  · rw [if_neg c]
    exact Ev.neg (by simp; omega) (Ev.now _)

theorem impl_Sha_pre_ev (a : ByteArray) (h : a.size ≤ 140737488351232) : Ev (fun k => impl_Sha.pre k a) (padV a) := by
  unfold impl_Sha.pre
  have e1 : wrap64 ((a.size : Int) + 9) = ((a.size + 9 : Nat) : Int) := by rw [w64 (by omega) (by omega)]; omega
  have e2 : Int.tmod ((a.size + 9 : Nat) : Int) 64 = (((a.size + 9) % 64 : Nat) : Int) := by rw [tmod_nn (by omega)]; omega
  have e3 : wrap64 (64 - (((a.size + 9) % 64 : Nat) : Int)) = ((64 - (a.size + 9) % 64 : Nat) : Int) := by rw [w64 (by omega) (by omega)]; omega
  have e4 : Int.tmod ((64 - (a.size + 9) % 64 : Nat) : Int) 64 = ((zerosV a.size : Nat) : Int) := by rw [tmod_nn (by omega)]; unfold zerosV; omega
  have hz := zerosV_mod a.size
  have e5 : wrap64 (((zerosV a.size : Nat) : Int) + 1) = ((zerosV a.size + 1 : Nat) : Int) := by rw [w64 (by omega) (by omega)]; omega
  simp only [e1, e2, e3, e4, e5]
  have e6 : wrap64 (8 * (a.size : Int)) = 8 * (a.size : Int) := w64 (by omega) (by omega)
  rw [e6, int_toNat_nat]
  have hs : (⟨#[128]⟩ : ByteArray).size = 1 := rfl
  refine Ev.pos (by omega) (Ev.pos (by omega) (Ev.pos (by omega) (Ev.bind0 rfl (Ev.pos ?_ (Ev.bind (impl_Fixed_ev _ _ (by omega)) (Ev.pos ?_ (Ev.val _ _ ?_)))))))
  · rw [ByteArray.size_append, strOf_size, List.length_replicate, hs]; omega
  · have := fixedV_len (8 * (a.size : Int)) 7
    rw [ByteArray.size_append, ByteArray.size_append, strOf_size, strOf_size, List.length_replicate, hs]; omega
  · unfold padV tailL
    rw [show (⟨#[128]⟩ : ByteArray) = strOfNums [128] from rfl]
    simp only [ByteArray.append_assoc, strOf_append]
    rfl
theorem impl_Sha_l0_ev (p : ByteArray) (n : Nat) : ∀ (i : Nat) (s : List Int), p.size = i + 64 * n → Ev (fun k => impl_Sha.l0 k s p i) (blkV p n i s) := by
  induction n with
  | zero =>
    intro i s h
    refine Ev.step (fun k => by rw [impl_Sha.l0]) ?_
    exact Ev.neg (by omega) (Ev.now _)
  | succ n ih =>
    intro i s h
    refine Ev.step (fun k => by rw [impl_Sha.l0]) ?_
    exact Ev.pos (by omega) (Ev.pos (by omega) (ih _ _ (by omega)))
theorem impl_Sha_l1_ev (s : List Int) (h8 : s.length = 8) (hs : ∀ x ∈ s, 0 ≤ x ∧ x < 4294967296) (n : Nat) : ∀ (i : Nat) (o : List Int), s.length = i + n → o.length ≤ 7 * i → i ≤ 8 → n ≤ 8 →
    Ev (fun k => impl_Sha.l1 k s n i (strOfNums o)) (strOfNums (o ++ outL (s.drop i))) := by
  induction n with
  | zero =>
    intro i o h ho hi hn
    refine Ev.val _ _ ?_
    rw [List.drop_of_length_le (by omega)]
    simp [outL]
  | succ n ih =>
    intro i o h ho hi hn
    have hl : i < s.length := by omega
    have hx := hs _ (List.getElem_mem hl)
    have e : s.getD i 0 = s[i] := by simp [List.getElem?_eq_getElem hl]
    have hd : s.drop i = s[i] :: s.drop (i + 1) := List.drop_eq_getElem_cons hl
    have h4 := fixedV_len (s[i]) 4
    simp only [impl_Sha.l1]
    rw [e]
    have hf := impl_Fixed_ev s[i] 4 (by omega)
    have hz : (strOfNums o).size + (strOfNums (fixedV s[i] 4)).size ≤ 9223372036854775807 := by
      rw [strOf_size, strOf_size]
      omega
    refine Ev.bind hf (Ev.pos hz ?_)
    rw [strOf_append]
    have := ih (i + 1) (o ++ fixedV s[i] 4) (by omega) (by rw [List.length_append]; omega) (by omega) (by omega)
    rw [hd]
    simpa [outL, List.append_assoc] using this
theorem impl_Sha_ev (a : ByteArray) (h : a.size ≤ 140737488351232) : Ev (fun k => impl_Sha.f k a) (shaV a) := by
  unfold impl_Sha.f
  have hp := padV_size a h
  have hz := zerosV_mod a.size
  have hu := blkV_u (padV a) ((padV a).size / 64) 0 shaInit shaInit_u
  refine Ev.bind (impl_Sha_pre_ev a h) (Ev.bind (impl_Sha_l0_ev (padV a) ((padV a).size / 64) 0 shaInit (by omega)) (Ev.pos ⟨hu.1, hu.2, by omega⟩ ?_))
  have := impl_Sha_l1_ev _ hu.1 hu.2 8 0 [] (by rw [hu.1]) (by simp) (by omega) (by omega)
  rw [List.drop_zero, List.nil_append] at this
  exact this

theorem impl_ShowSnap_j0 (i t : Int) (d : ByteArray) (hi : i ≤ 9223372036854775807) (ht : t ≤ 9223372036854775807) (hd : d.size ≤ 8000) : Ev (fun k => impl_ShowSnap.j0 k false i t d) (frameV (snapHead i t d) ++ d) := by
  refine Ev.step (fun k => by rw [impl_ShowSnap.j0]) ?_
  have h1 := fixedV_len i 4
  have h2 := fixedV_len t 4
  have h3 := fixedV_len (d.size : Int) 4
  have h4 := shaV_size d
  have h5 := snapHead_size i t d
  have h6 := frameV_le (snapHead i t d)
  refine Ev.neg (by simp) (Ev.bind (impl_Fixed_ev i 4 hi) (Ev.bind (impl_Fixed_ev t 4 ht) (Ev.pos (by simp only [strOf_size]; omega) (Ev.bind (impl_Fixed_ev _ 4 (by omega)) (Ev.pos (by simp only [ByteArray.size_append, strOf_size]; omega)
    (Ev.bind (impl_Sha_ev d (by omega)) (Ev.pos (by simp only [ByteArray.size_append, strOf_size]; omega) (Ev.bind (impl_Frame_ev (snapHead i t d) (by omega)) (Ev.pos (by omega) (Ev.now _))))))))))
theorem impl_ShowSnap_ev (i t : Int) (d : ByteArray) (hi : i ≤ 9223372036854775807) (ht : t ≤ 9223372036854775807) : Ev (fun k => impl_ShowSnap.f k i t d) (showSnapV i t d) := by
  unfold impl_ShowSnap.f showSnapV
  refine Ev.bind0 (impl_SnapOk_eq i t d) ?_
  by_cases c : snapOkV i t d = true
  · refine Ev.pos c ?_
    have hd := snapOk_le c
    rw [snapOk_zero c]
    by_cases z : i = 0
    · rw [decide_eq_true z, if_neg (by simp [z])]
      refine Ev.step (fun k => by rw [impl_ShowSnap.j0]) ?_
      exact Ev.pos rfl (Ev.now _)
    · rw [decide_eq_false z, if_pos ⟨c, z⟩]
      exact impl_ShowSnap_j0 i t d hi ht hd
  · refine Ev.neg c ?_
    rw [if_neg (by simp [c])]
    refine Ev.step (fun k => by rw [impl_ShowSnap.j0]) ?_
    exact Ev.pos rfl (Ev.now _)

theorem impl_ReadFixed_l0 (s : ByteArray) (d : Nat) : ∀ (w i n : Int), 0 ≤ i → w - i = d → w ≤ 7 → w ≤ (s.size : Int) → 0 ≤ n → n < 256 ^ i.toNat →
    Ev (fun k => impl_ReadFixed.l0 k s w n i) (beAcc s d i n, true) := by
  induction d with
  | zero =>
    intro w i n hi hd hw hs hn hn2
    refine Ev.step (fun k => by rw [impl_ReadFixed.l0]) ?_
    exact Ev.neg (by omega) (Ev.now _)
  | succ d ih =>
    intro w i n hi hd hw hs hn hn2
    refine Ev.step (fun k => by rw [impl_ReadFixed.l0]) ?_
    refine Ev.pos (by omega) (Ev.pos (by omega) (Ev.pos (by omega) ?_))
    have hb := bt_range s i
    have h6 := pow256_six i hi (by omega)
    have h7 : (256 : Int) ^ (i + 1).toNat = 256 ^ i.toNat * 256 := by
      rw [show (i + 1).toNat = i.toNat + 1 by omega, Int.pow_succ]
    rw [wbt, w64 (x := n * 256) (by omega) (by omega), or_join 8 (n * 256) (bt s i) (by omega) (by omega) (by omega) (by omega) (by omega) (by omega), w64 (by omega) (by omega)]
    exact ih w (i + 1) (n * 256 + bt s i) (by omega) (by omega) hw hs (by omega) (by omega)
theorem impl_ReadFixed_ev (s : ByteArray) (w : Int) : Ev (fun k => impl_ReadFixed.f k s w) (readFixedV s w) := by
  unfold impl_ReadFixed.f readFixedV
  refine Ev.bind0 (impl_within_eq _ _ _) ?_
  by_cases c : 1 ≤ w ∧ w ≤ 7
  · refine Ev.pos (by simp; omega) ?_
    refine Ev.step (fun k => by rw [impl_ReadFixed.j0]) ?_
    by_cases c2 : w ≤ (s.size : Int)
    · rw [if_pos (by omega)]
      exact Ev.neg (by simp; omega) (impl_ReadFixed_l0 s w.toNat w 0 0 (by omega) (by omega) (by omega) c2 (by omega) (by simp))
    · rw [if_neg (by omega)]
      exact Ev.pos (by simp; omega) (Ev.now _)
  · rw [if_neg (by omega)]
    refine Ev.neg (by simp; omega) ?_
    refine Ev.step (fun k => by rw [impl_ReadFixed.j0]) ?_
    exact Ev.pos rfl (Ev.now _)

theorem impl_Unframe_ev (s : ByteArray) (hs : s.size ≤ 140737488351232) : Ev (fun k => impl_Unframe.f k s) (unframeV s) := by
  have hr := beAcc4 s
  unfold impl_Unframe.f unframeV
  refine Ev.bind (impl_ReadFixed_ev s 4) ?_
  rw [readFixed4]
  by_cases c : 4 ≤ s.size
  · rw [if_pos c, if_pos c]
    refine Ev.pos rfl ?_
    simp only []
    generalize beAcc s 4 0 0 = n at hr
    refine Ev.bind0 (impl_within_eq _ _ _) ?_
    by_cases c1 : 1 ≤ n ∧ n ≤ 2000
    · rw [if_pos c1, w64 (by omega) (by omega)]
      refine Ev.pos (by simpa using c1) ?_
      by_cases c2 : (s.size : Int) < 8 + n
      · rw [if_pos c2]; exact Ev.pos c2 (Ev.now _)
      · rw [if_neg c2]
        refine Ev.neg c2 (Ev.pos (by omega) (Ev.pos (by omega) ?_))
        refine Ev.bind (impl_Frame_ev _ (by have := extract_le s 8 (8 + n).toNat; omega)) (Ev.pos (by omega) ?_)
        by_cases c3 : (frameV (s.extract 8 (8 + n).toNat)).toList = (s.extract 0 (8 + n).toNat).toList
        · refine Ev.pos c3 ?_; rw [if_pos c3]; exact Ev.now _
        · refine Ev.neg c3 ?_; rw [if_neg c3]; exact Ev.now _
    · rw [if_neg c1]
      exact Ev.neg (by simpa using c1) (Ev.now _)
  · rw [if_neg c, if_neg c]
    exact Ev.neg (by simp) (Ev.now _)

theorem impl_ReadSnap_ev (s : ByteArray) (hs : s.size ≤ 140737488351232) : Ev (fun k => impl_ReadSnap.f k s) (readSnapV s) := by
  unfold impl_ReadSnap.f readSnapV
  refine Ev.bind (impl_Unframe_ev s hs) ?_
  have hbad : ¬ ((unframeV s).2.2 = 0 ∧ (unframeV s).1.size = 44) → Ev (fun k => impl_ReadSnap.j0 k s (unframeV s).1 (unframeV s).2.1 true)
      (if (unframeV s).2.2 = 0 ∧ (unframeV s).1.size = 44 ∧ showSnapV (beAcc (unframeV s).1 4 0 0) (beAcc ((unframeV s).1.extract 4 (unframeV s).1.size) 4 0 0) (s.extract (unframeV s).2.1.toNat s.size) = s
        then (beAcc (unframeV s).1 4 0 0, beAcc ((unframeV s).1.extract 4 (unframeV s).1.size) 4 0 0, s.extract (unframeV s).2.1.toNat s.size, true) else (0, 0, ⟨#[]⟩, false)) := by
    intro h
    rw [if_neg (fun g => h ⟨g.1, g.2.1⟩)]
    refine Ev.step (fun k => by rw [impl_ReadSnap.j0]) ?_
    exact Ev.pos rfl (Ev.now _)
  by_cases hu : (unframeV s).2.2 = 0
  · have ho := unframe_ok hu
    refine Ev.pos hu ?_
    by_cases c : (unframeV s).1.size = 44
    · have e : (((unframeV s).1.size : Int) != 44) = false := by rw [c]; rfl
      rw [e]
      refine Ev.step (fun k => by rw [impl_ReadSnap.j0]) ?_
      have e1 : readFixedV (unframeV s).1 4 = (beAcc (unframeV s).1 4 0 0, true) := by rw [readFixed4, if_pos (by omega)]
      have e2 : readFixedV ((unframeV s).1.extract 4 (unframeV s).1.size) 4 = (beAcc ((unframeV s).1.extract 4 (unframeV s).1.size) 4 0 0, true) := by
        rw [readFixed4, if_pos (by rw [ByteArray.size_extract]; omega)]
      have hb1 := beAcc4 (unframeV s).1
      have hb2 := beAcc4 ((unframeV s).1.extract 4 (unframeV s).1.size)
      refine Ev.neg (by simp) (Ev.pos (by omega) (Ev.pos (by omega) (Ev.bind (impl_ReadFixed_ev _ _) (Ev.pos (by omega) (Ev.bind (impl_ReadFixed_ev _ _) ?_)))))
      rw [e1, e2]
      refine Ev.bind (impl_ShowSnap_ev _ _ _ (by simp only; omega) (by simp only; omega)) ?_
      exact Ev.ite (by rw [tl_iff]; exact ⟨fun h => ⟨hu, c, h⟩, fun h => h.2.2⟩) (fun _ => Ev.now _) (fun _ => Ev.now _)
    · have e : (((unframeV s).1.size : Int) != 44) = true := by simp; omega
      rw [e]
      exact hbad fun h => c h.2
  · exact Ev.neg hu (hbad fun h => hu h.1)

theorem spec_Fixed_l0 (d : Nat) : ∀ (n : Nat) (w i : Int) (xs : List Int), 0 ≤ i → w - i = d → w ≤ 7 → xs.length ≤ i → n < 9223372036854775808 →
    Ev (fun k => spec_Fixed.l0 k (n : Int) w (strOfNums xs) i) (strOfNums (if n < 256 ^ d then fixL d n ++ xs else [])) := by
  induction d with
  | zero =>
    intro n w i xs hi hd hw hx hn
    refine Ev.step (fun k => by rw [spec_Fixed.l0]) ?_
    refine Ev.neg (by omega) ?_
    by_cases c : n = 0
    · subst c
      exact Ev.neg (by omega) (Ev.val _ _ (by simp [fixL]))
    · refine Ev.pos (by omega) (Ev.val _ _ ?_)
      rw [if_neg (by simp; omega)]; rfl
  | succ d ih =>
    intro n w i xs hi hd hw hx hn
    refine Ev.step (fun k => by rw [spec_Fixed.l0]) ?_
    refine Ev.pos (by omega) (Ev.bind (Ev.now _) (Ev.pos (by rw [strOf_size, strOf_size]; simp; omega) ?_))
    have e1 : (Int.tmod (n : Int) 256) % 256 = ((n % 256 : Nat) : Int) := by rw [tmod_nn (by omega)]; omega
    have e2 : wrap64 (Int.tdiv (n : Int) 256) = ((n / 256 : Nat) : Int) := by rw [tdiv_nn (by omega), w64 (by omega) (by omega)]; omega
    rw [e1, e2, w64 (by omega) (by omega), strOf_append]
    have := ih (n / 256) w (i + 1) ([((n % 256 : Nat) : Int)] ++ xs) (by omega) (by omega) hw (by simp; omega) (by omega)
    have e3 : (n / 256 < 256 ^ d) = (n < 256 ^ (d + 1)) := by
      rw [Nat.pow_succ, Nat.div_lt_iff_lt_mul (by decide)]
    simp only [e3] at this
    simpa [fixL, List.append_assoc] using this
theorem spec_Fixed_ev (n w : Int) (hn : n ≤ 9223372036854775807) : Ev (fun k => spec_Fixed.f k n w) (strOfNums (fixedV n w)) := by
  unfold spec_Fixed.f fixedV
  refine Ev.bind0 (spec_l1In_eq _ _ _) ?_
  by_cases c : 1 ≤ w ∧ w ≤ 7
  · refine Ev.pos (by simp; omega) ?_
    refine Ev.step (fun k => by rw [spec_Fixed.j0]) ?_
    by_cases c2 : n < 0
    · refine Ev.pos (by simpa using c2) (Ev.val _ _ ?_)
      rw [if_neg (by omega)]; rfl
    · obtain ⟨m, rfl⟩ := Int.eq_ofNat_of_zero_le (show 0 ≤ n by omega)
      obtain ⟨d, rfl⟩ := Int.eq_ofNat_of_zero_le (show 0 ≤ w by omega)
      refine Ev.neg (by simp) ?_
      rw [strOf_nil]
      have := spec_Fixed_l0 d m (d : Int) 0 [] (by omega) (by omega) (by omega) (by simp) (by omega)
      have e : (m < 256 ^ d) = (1 ≤ (d : Int) ∧ (d : Int) ≤ 7 ∧ 0 ≤ (m : Int) ∧ (m : Int) < 256 ^ (d : Int).toNat) := by
        rw [Int.toNat_natCast, lt_pow256]; apply propext; omega
      simp only [e] at this
      simpa using this
  · refine Ev.neg (by simp; omega) ?_
    refine Ev.step (fun k => by rw [spec_Fixed.j0]) ?_
    refine Ev.pos rfl (Ev.val _ _ ?_)
    rw [if_neg (by omega)]; rfl

theorem spec_Crc_l1 (s : ByteArray) (i : Nat) (r : Int) (d : Nat) : ∀ (c : Nat) (j : Int), c < 2 ^ 32 → 8 - j = d → 0 ≤ j → i < 9223372036854775807 →
    Ev (fun k => spec_Crc.l0 k s ((crcRounds d c : Nat) : Int) ((i + 1 : Nat) : Int)) r → Ev (fun k => spec_Crc.l1 k s (c : Int) (i : Int) j) r := by
  induction d with
  | zero =>
    intro c j hc hd hj hi h
    refine Ev.step (fun k => by rw [spec_Crc.l1]) (Ev.neg (by omega) ?_)
    rw [w64 (by omega) (by omega)]
    exact h
  | succ d ih =>
    intro c j hc hd hj hi h
    have hlt := crcStep_lt hc
    refine Ev.step (fun k => by rw [spec_Crc.l1]) (Ev.pos (by omega) ?_)
    rw [tmod_nn (by omega), tdiv_nn (by omega), w64 (x := (c : Int) / 2) (by omega) (by omega), w64 (x := j + 1) (by omega) (by omega)]
    have g := ih (crcStep c) (j + 1) hlt (by omega) (by omega) hi h
    by_cases o : c % 2 = 1
    · refine Ev.pos (by omega) ?_
      have e : Go.bits .xor .i64 ((c : Int) / 2) 2197175160 = ((crcStep c : Nat) : Int) := by
        rw [show ((c : Int) / 2) = ((c / 2 : Nat) : Int) by omega, show (2197175160 : Int) = ((2197175160 : Nat) : Int) from rfl, bits_xor_nat _ _ (by omega) (by decide)]
        unfold crcStep; rw [if_pos o]
      rw [e]; exact g
    · refine Ev.neg (by omega) ?_
      have e : (c : Int) / 2 = ((crcStep c : Nat) : Int) := by unfold crcStep; rw [if_neg o]; omega
      rw [e]; exact g
theorem spec_Crc_l0 (s : ByteArray) (hs : s.size ≤ 140737488351232) (d : Nat) : ∀ (i c : Nat), c < 2 ^ 32 → s.size - i = d → i ≤ s.size →
    Ev (fun k => spec_Crc.l0 k s (c : Int) (i : Int)) (4294967295 - (crcFrom s d i c : Nat)) := by
  induction d with
  | zero =>
    intro i c hc hd hi
    exact Ev.step (fun k => by rw [spec_Crc.l0]) (Ev.neg (by omega) (Ev.val _ _ (by simp only [crcFrom]; rw [w64 (by omega) (by omega)])))
  | succ d ih =>
    intro i c hc hd hi
    have hb := bt_range s i
    refine Ev.step (fun k => by rw [spec_Crc.l0]) (Ev.pos (by omega) (Ev.pos (by omega) ?_))
    rw [wbt, show bt s (i : Int) = ((bt s i).toNat : Int) by omega, bits_xor_nat _ _ (by omega) (by omega)]
    exact spec_Crc_l1 s i _ 8 _ 0 (crcIn_lt s i hc) (by omega) (by omega) (by omega) (ih (i + 1) _ (crcRounds_lt 8 _ (crcIn_lt s i hc)) (by omega) (by omega))
theorem spec_Crc_ev (s : ByteArray) (hs : s.size ≤ 140737488351232) : Ev (fun k => spec_Crc.f k s) (crcV s) := by
  unfold spec_Crc.f
  exact spec_Crc_l0 s hs s.size 0 4294967295 (by decide) (by omega) (by omega)

theorem spec_Frame_ev (b : ByteArray) (hb : b.size ≤ 140737488351232) : Ev (fun k => spec_Frame.f k b) (frameV b) := by
  have no : ¬ (1 ≤ b.size ∧ b.size ≤ 2000) → Ev (fun k => spec_Frame.j0 k b true) (frameV b) := by
    intro h
    refine Ev.step (fun k => by rw [spec_Frame.j0]) ?_
    unfold frameV
    rw [if_neg h]
    exact Ev.pos rfl (Ev.now _)
  unfold spec_Frame.f
  by_cases c : (b.size : Int) = 0
  · exact Ev.pos c (no (by omega))
  · refine Ev.neg c ?_
    by_cases c2 : (b.size : Int) > 2000
    · rw [decide_eq_true c2]; exact no (by omega)
    · rw [decide_eq_false c2]
      refine Ev.step (fun k => by rw [spec_Frame.j0]) ?_
      unfold frameV
      rw [if_pos (by omega)]
      have h4 : (strOfNums (fixedV (b.size : Int) 4)).size = 4 := by rw [strOf_size, fixedV_4 (by omega) (by omega), fixL_length]
      have hc := crcV_range (strOfNums (fixedV (b.size : Int) 4) ++ b)
      have h5 : (strOfNums (fixedV (crcV (strOfNums (fixedV (b.size : Int) 4) ++ b)) 4)).size = 4 := by rw [strOf_size, fixedV_4 hc.1 hc.2, fixL_length]
      refine Ev.neg (by simp) (Ev.bind (spec_Fixed_ev _ _ (by omega)) (Ev.pos (by omega) ?_))
      refine Ev.bind (spec_Crc_ev _ (by rw [size_append]; omega)) (Ev.bind (spec_Fixed_ev _ _ (by omega)) ?_)
      exact Ev.pos (by omega) (Ev.pos (by rw [size_append]; omega) (Ev.now _))

theorem turn_eq (x m : Int) (hm : m ∈ [7, 18, 17, 19, 6, 11, 25, 2, 13, 22]) : spec_l2Turn.f x m = some (rotV x (-m)) := by
  have hb : 0 ≤ m ∧ m ≤ 32 := by
    simp only [List.mem_cons, List.not_mem_nil, or_false] at hm
    omega
  have hw : ∀ n : Int, 0 ≤ n → n ≤ 32 → IntKind.u64.wrap n = n := fun n h0 h1 => by
    have e : IntKind.u64.wrap n = n % 18446744073709551616 := by simp [IntKind.wrap, IntKind.bits, IntKind.signed]
    rw [e]; omega
  unfold spec_l2Turn.f rotV
  rw [w64 (x := 32 - m) (by omega) (by omega), hw m hb.1 hb.2, hw (32 - m) (by omega) (by omega), if_pos (by omega), if_pos (by omega), Int.neg_neg, show 32 + -m = 32 - m by omega, bits_or_comm]
theorem l2_l3 (h v : List Int) (hh : h.length = 8) (hv : v.length = 8) (d : Nat) : ∀ (i : Nat), i + d = 8 → Ev (fun k => spec_l2Block.l3 k h v (addL h v i) (i : Int)) (addL h v 8) := by
  induction d with
  | zero =>
    intro i hi
    refine Ev.step (fun k => by rw [spec_l2Block.l3]) ?_
    obtain rfl : i = 8 := by omega
    exact Ev.neg (by omega) (Ev.now _)
  | succ d ih =>
    intro i hi
    refine Ev.step (fun k => by rw [spec_l2Block.l3]) ?_
    have hl := addL_length h v i
    refine Ev.pos (by omega) (Ev.pos (by omega) (Ev.pos (by omega) (Ev.pos (by omega) (Ev.pos (by omega) ?_))))
    rw [rd_nat, rd_nat, w64 (by omega) (by omega)]
    exact ih (i + 1) (by omega)
theorem l2_l2 (t h x : List Int) (hh : h.length = 8) (ht : t.length = 64) (hx : x.length = 64) (d : Nat) : ∀ (i : Nat), i + d = 64 → Ev (fun k => spec_l2Block.l2 k h t x (rnds t x h i) (i : Int)) (addL h (rnds t x h 64) 8) := by
  induction d with
  | zero =>
    intro i hi
    refine Ev.step (fun k => by rw [spec_l2Block.l2]) ?_
    obtain rfl : i = 64 := by omega
    exact Ev.neg (by omega) (l2_l3 h _ hh (rnds_len _ _ _ hh 64) 8 0 (by omega))
  | succ d ih =>
    intro i hi
    refine Ev.step (fun k => by rw [spec_l2Block.l2]) ?_
    have hs : rnds t x h (i + 1) = rndV (t.getD i 0) (x.getD i 0) (rnds t x h i) := rfl
    obtain ⟨v0, v1, v2, v3, v4, v5, v6, v7, ev⟩ := eight _ (rnds_len t x h hh i)
    have g := ih (i + 1) (by omega)
    rw [hs, ev] at g
    rw [ev]
    have r0 : rd [v0, v1, v2, v3, v4, v5, v6, v7] 0 = v0 := rfl
    have r1 : rd [v0, v1, v2, v3, v4, v5, v6, v7] 1 = v1 := rfl
    have r2 : rd [v0, v1, v2, v3, v4, v5, v6, v7] 2 = v2 := rfl
    have r3 : rd [v0, v1, v2, v3, v4, v5, v6, v7] 3 = v3 := rfl
    have r4 : rd [v0, v1, v2, v3, v4, v5, v6, v7] 4 = v4 := rfl
    have r5 : rd [v0, v1, v2, v3, v4, v5, v6, v7] 5 = v5 := rfl
    have r6 : rd [v0, v1, v2, v3, v4, v5, v6, v7] 6 = v6 := rfl
    have r7 : rd [v0, v1, v2, v3, v4, v5, v6, v7] 7 = v7 := rfl
    simp only [r0, r1, r2, r3, r4, r5, r6, r7, rd_nat, List.length_cons, List.length_nil]
    rw [w64 (x := (i : Int) + 1) (by omega) (by omega)]
    refine Ev.pos (by omega) (Ev.pos (by decide) (Ev.bind0 (turn_eq _ _ (by decide)) (Ev.bind0 (turn_eq _ _ (by decide)) (Ev.bind0 (turn_eq _ _ (by decide)) (Ev.pos (by decide) (Ev.pos (by decide) (Ev.pos (by decide) (Ev.pos (by omega) (Ev.pos (by omega) (Ev.pos (by omega) (Ev.pos (by decide)
      (Ev.bind0 (turn_eq _ _ (by decide)) (Ev.bind0 (turn_eq _ _ (by decide)) (Ev.bind0 (turn_eq _ _ (by decide)) (Ev.pos (by decide) (Ev.pos (by decide) (Ev.pos (by decide) ?_)))))))))))))))))
    have e : rndV (t.getD i 0) (x.getD i 0) [v0, v1, v2, v3, v4, v5, v6, v7] = [(rndT (t.getD i 0) (x.getD i 0) v0 v1 v2 v3 v4 v5 v6 v7 + rndY v0 v1 v2 + rndM v0 v1 v2) % 4294967296, v0, v1, v2, (v3 + rndT (t.getD i 0) (x.getD i 0) v0 v1 v2 v3 v4 v5 v6 v7) % 4294967296, v4, v5, v6] := rfl
    rw [e] at g
    simp only [rndT, rndY, rndM] at g
    simp only [Int.emod_add_emod, Int.add_emod_emod] at g ⊢
    simp only [← Int.add_assoc] at g ⊢
    exact g
theorem l2_l1 (b : ByteArray) (t h : List Int) (hh : h.length = 8) (ht : t.length = 64) (d : Nat) : ∀ (i : Nat), i + d = 48 → Ev (fun k => spec_l2Block.l1 k h t (wds2 b i) ((16 + i : Nat) : Int)) (addL h (rnds t (wds2 b 48) h 64) 8) := by
  induction d with
  | zero =>
    intro i hi
    refine Ev.step (fun k => by rw [spec_l2Block.l1]) ?_
    obtain rfl : i = 48 := by omega
    have hl := wds2_len b 48
    obtain ⟨x, hx⟩ : ∃ x, wds2 b 48 = x := ⟨_, rfl⟩
    rw [hx] at hl ⊢
    refine Ev.neg (by omega) ?_
    refine Ev.bind0 rfl ?_
    refine Ev.pos (by rw [List.length_nil]; omega) ?_
    rw [List.nil_append]
    exact l2_l2 t h x hh ht hl 64 0 (by omega)
  | succ d ih =>
    intro i hi
    refine Ev.step (fun k => by rw [spec_l2Block.l1]) ?_
    have hl := wds2_len b i
    have e15 : wrap64 (((16 + i : Nat) : Int) - 15) = ((16 + i - 15 : Nat) : Int) := by rw [w64 (by omega) (by omega)]; omega
    have e2 : wrap64 (((16 + i : Nat) : Int) - 2) = ((16 + i - 2 : Nat) : Int) := by rw [w64 (by omega) (by omega)]; omega
    have e16 : wrap64 (((16 + i : Nat) : Int) - 16) = ((16 + i - 16 : Nat) : Int) := by rw [w64 (by omega) (by omega)]; omega
    have e7 : wrap64 (((16 + i : Nat) : Int) - 7) = ((16 + i - 7 : Nat) : Int) := by rw [w64 (by omega) (by omega)]; omega
    have e1 : wrap64 (((16 + i : Nat) : Int) + 1) = ((16 + (i + 1) : Nat) : Int) := by rw [w64 (by omega) (by omega)]; omega
    simp only [e15, e2, e16, e7, e1, rd_nat]
    clear e15 e2 e16 e7 e1
    refine Ev.pos (by omega) (Ev.pos (by omega) (Ev.pos (by omega) (Ev.bind0 (turn_eq _ _ (by decide)) (Ev.bind0 (turn_eq _ _ (by decide)) (Ev.pos (by omega) (Ev.pos (by omega) (Ev.bind0 (turn_eq _ _ (by decide)) (Ev.bind0 (turn_eq _ _ (by decide)) (Ev.pos (by omega) (Ev.pos (by omega) (Ev.pos (by omega) (Ev.pos (by omega) (Ev.pos (by omega) ?_)))))))))))))
    have g := ih (i + 1) (by omega)
    have e : wds2 b (i + 1) = wds2 b i ++ [nextW (wds2 b i)] := rfl
    rw [e, nextW_eq hl rfl rfl rfl rfl] at g
    simp only [Int.emod_add_emod, Int.add_emod_emod] at g ⊢
    exact g
theorem l2_l0 (b : ByteArray) (hb : b.size = 64) (t h : List Int) (hh : h.length = 8) (ht : t.length = 64) (d : Nat) : ∀ (i : Nat), i + d = 16 → Ev (fun k => spec_l2Block.l0 k h t b (wds b i) (i : Int)) (addL h (rnds t (wds2 b 48) h 64) 8) := by
  induction d with
  | zero =>
    intro i hi
    refine Ev.step (fun k => by rw [spec_l2Block.l0]) ?_
    obtain rfl : i = 16 := by omega
    exact Ev.neg (by omega) (l2_l1 b t h hh ht 48 0 (by omega))
  | succ d ih =>
    intro i hi
    refine Ev.step (fun k => by rw [spec_l2Block.l0]) ?_
    have hl := wds_len b i
    have e0 : wrap64 (4 * (i : Int)) = 4 * (i : Int) := w64 (by omega) (by omega)
    have e1 : wrap64 (4 * (i : Int) + 1) = 4 * (i : Int) + 1 := w64 (by omega) (by omega)
    have e2 : wrap64 (4 * (i : Int) + 2) = 4 * (i : Int) + 2 := w64 (by omega) (by omega)
    have e3 : wrap64 (4 * (i : Int) + 3) = 4 * (i : Int) + 3 := w64 (by omega) (by omega)
    simp only [e0, e1, e2, e3]
    clear e0 e1 e2 e3
    rw [w64 (x := (i : Int) + 1) (by omega) (by omega)]
    refine Ev.pos (by omega) (Ev.pos (by omega) (Ev.pos (by omega) (Ev.pos (by omega) (Ev.pos (by omega) (Ev.pos (by omega) (Ev.pos (by omega) (Ev.pos (by omega) (Ev.pos (by omega) (Ev.pos (by omega) ?_)))))))))
    exact ih (i + 1) (by omega)
theorem spec_l2Block_ev (h : List Int) (b : ByteArray) (hh : h.length = 8) (hb : b.size = 64) : Ev (fun k => spec_l2Block.f k h shaTab b) (shaB h b) := by
  unfold spec_l2Block.f shaB
  rw [addsV_addL _ _ hh]
  exact l2_l0 b hb shaTab h hh rfl 16 0 (by omega)

theorem spec_Sha_l3_ev (s : List Int) (h8 : s.length = 8) (hs : ∀ x ∈ s, 0 ≤ x ∧ x < 4294967296) (n : Nat) : ∀ (i : Nat) (o : List Int), s.length = i + n → o.length ≤ 7 * i →
    Ev (fun k => spec_Sha.l3 k s (strOfNums o) (i : Int)) (strOfNums (o ++ outL (s.drop i))) := by
  induction n with
  | zero =>
    intro i o h ho
    refine Ev.step (fun k => by rw [spec_Sha.l3]) ?_
    refine Ev.neg (by omega) (Ev.val _ _ ?_)
    rw [List.drop_of_length_le (by omega)]
    simp [outL]
  | succ n ih =>
    intro i o h ho
    have hl : i < s.length := by omega
    have hx := hs _ (List.getElem_mem hl)
    have e : s.getD i 0 = s[i] := by simp [List.getElem?_eq_getElem hl]
    have hd : s.drop i = s[i] :: s.drop (i + 1) := List.drop_eq_getElem_cons hl
    have h4 := fixedV_len (s[i]) 4
    have hf := spec_Fixed_ev s[i] 4 (by omega)
    have hz : (strOfNums o).size + (strOfNums (fixedV s[i] 4)).size ≤ 9223372036854775807 := by
      rw [strOf_size, strOf_size]
      omega
    refine Ev.step (fun k => by rw [spec_Sha.l3]) ?_
    rw [rd_nat, e, w64 (x := s[i]) (by omega) (by omega), w64 (x := (i : Int) + 1) (by omega) (by omega)]
    refine Ev.pos (by omega) (Ev.pos (by omega) (Ev.pos (by omega) (Ev.bind hf (Ev.pos hz ?_))))
    rw [strOf_append]
    have := ih (i + 1) (o ++ fixedV s[i] 4) (by omega) (by rw [List.length_append]; omega)
    rw [hd]
    simpa [outL, List.append_assoc] using this
theorem spec_Sha_l2_ev (p : ByteArray) (hp : p.size ≤ 281474976710656) (n : Nat) : ∀ (i : Nat) (s : List Int), U32s s → p.size = i + 64 * n → Ev (fun k => spec_Sha.l2 k s shaTab p (i : Int)) (strOfNums (outL (blkV p n i s))) := by
  induction n with
  | zero =>
    intro i s hs h
    refine Ev.step (fun k => by rw [spec_Sha.l2]) ?_
    rw [w64 (by omega) (by omega)]
    refine Ev.neg (by omega) ?_
    have := spec_Sha_l3_ev s hs.1 hs.2 8 0 [] (by rw [hs.1]) (by simp)
    rw [List.drop_zero, List.nil_append] at this
    exact this
  | succ n ih =>
    intro i s hs h
    refine Ev.step (fun k => by rw [spec_Sha.l2]) ?_
    rw [w64 (by omega) (by omega)]
    have e1 : ((i : Int) + 64).toNat = i + 64 := by omega
    rw [e1, int_toNat_nat]
    refine Ev.pos (by omega) (Ev.pos (by omega) (Ev.pos (by omega) (Ev.bind (spec_l2Block_ev s _ hs.1 (by simp; omega)) ?_)))
    exact ih (i + 64) _ (shaB_u _ _ hs.1) (by omega)
theorem spec_Sha_l1_ev (a tl : ByteArray) (at_ : Nat) (r : ByteArray) (n : Nat) (hat : at_ ≤ a.size) (ha : a.size ≤ 140737488351232) (ht : tl.size ≤ 140737488351232) :
    ∀ (i : Nat) (s : List Int), U32s s → at_ = i + 64 * n → Ev (fun k => spec_Sha.l2 k (blkV a n i s) shaTab (a.extract at_ a.size ++ tl) 0) r → Ev (fun k => spec_Sha.l1 k a s shaTab tl (at_ : Int) (i : Int)) r := by
  induction n with
  | zero =>
    intro i s hs h hr
    refine Ev.step (fun k => by rw [spec_Sha.l1]) ?_
    rw [int_toNat_nat]
    refine Ev.neg (by omega) (Ev.pos (by omega) (Ev.pos (by omega) (Ev.pos (by simp; omega) hr)))
  | succ n ih =>
    intro i s hs h hr
    refine Ev.step (fun k => by rw [spec_Sha.l1]) ?_
    rw [w64 (by omega) (by omega)]
    have e1 : ((i : Int) + 64).toNat = i + 64 := by omega
    rw [e1, int_toNat_nat]
    refine Ev.pos (by omega) (Ev.pos (by omega) (Ev.pos (by omega) (Ev.pos (by omega) (Ev.bind (spec_l2Block_ev s _ hs.1 (by simp; omega)) ?_))))
    exact ih (i + 64) _ (shaB_u _ _ hs.1) (by omega) hr
theorem spec_Sha_l0_ev (a : ByteArray) (ha : a.size ≤ 140737488351232) (r : ByteArray) (hr : Ev (fun k => spec_Sha.l1 k a shaInit shaTab (strOfNums (tailL a.size)) ((a.size / 64 * 64 : Nat) : Int) 0) r) (d : Nat) :
    ∀ (j : Nat), j + d = zerosV a.size → Ev (fun k => spec_Sha.l0 k a shaInit shaTab (128 :: List.replicate j 0)) r := by
  have hz := zerosV_mod a.size
  induction d with
  | zero =>
    intro j hj
    refine Ev.step (fun k => by rw [spec_Sha.l0]) ?_
    have e1 : wrap64 ((a.size : Int) + ((128 :: List.replicate j (0 : Int)).length : Int)) = ((a.size + 1 + j : Nat) : Int) := by rw [List.length_cons, List.length_replicate, w64 (by omega) (by omega)]; omega
    have e2 : wrap64 (8 * (a.size : Int)) = 8 * (a.size : Int) := w64 (by omega) (by omega)
    have e3 : wrap64 ((wrap64 ((a.size : Int) / 64)) * 64) = ((a.size / 64 * 64 : Nat) : Int) := by
      rw [w64 (x := (a.size : Int) / 64) (by omega) (by omega), w64 (by omega) (by omega)]; omega
    rw [e1, e2, e3, tmod_nn (by omega)]
    clear e1 e2 e3
    have h7 := fixedV_len (8 * (a.size : Int)) 7
    refine Ev.pos (by omega) (Ev.bind0 rfl (Ev.pos ?_ (Ev.bind (spec_Fixed_ev _ _ (by omega)) (Ev.pos ?_ ?_))))
    · rw [strOf_size, strOf_size, List.length_cons, List.length_replicate]; simp; omega
    · rw [strOf_append, strOf_size, strOf_size, List.length_append, List.length_cons, List.length_replicate]; simp; omega
    · rw [strOf_append, strOf_append]
      have e : 128 :: List.replicate j (0 : Int) ++ [0] ++ fixedV (8 * (a.size : Int)) 7 = tailL a.size := by
        obtain rfl : j = zerosV a.size := by omega
        unfold tailL
        rw [List.replicate_succ']
        simp
      rw [e]
      exact hr
  | succ d ih =>
    intro j hj
    refine Ev.step (fun k => by rw [spec_Sha.l0]) ?_
    have e1 : wrap64 ((a.size : Int) + ((128 :: List.replicate j (0 : Int)).length : Int)) = ((a.size + 1 + j : Nat) : Int) := by rw [List.length_cons, List.length_replicate, w64 (by omega) (by omega)]; omega
    rw [e1, tmod_nn (by omega)]
    clear e1
    refine Ev.neg (by omega) (Ev.pos (by rw [List.length_cons, List.length_replicate]; omega) ?_)
    have e : 128 :: List.replicate j (0 : Int) ++ [0] = 128 :: List.replicate (j + 1) 0 := by rw [List.replicate_succ']; simp
    rw [e]
    exact ih (j + 1) (by omega)
theorem ext_left (a t : ByteArray) (i j : Nat) (h : j ≤ a.size) : (a ++ t).extract i j = a.extract i j := by
  apply bl_inj
  rw [bl_extract, bl_extract, bl_append]
  have hl := bl_length a
  apply List.ext_getElem?
  intro q
  simp only [List.getElem?_take, List.getElem?_drop]
  by_cases c : q < j - i
  · rw [if_pos c, if_pos c, List.getElem?_append_left (by omega)]
  · rw [if_neg c, if_neg c]
theorem ext_right (a t : ByteArray) (z i j : Nat) (hz : z ≤ a.size) : (a.extract z a.size ++ t).extract i j = (a ++ t).extract (z + i) (z + j) := by
  apply bl_inj
  rw [bl_extract, bl_extract, bl_append, bl_append, bl_extract]
  have hl := bl_length a
  have e : ((bl a).drop z).take (a.size - z) = (bl a).drop z := List.take_of_length_le (by rw [List.length_drop]; omega)
  rw [e, ← List.drop_append_of_le_length (by omega), List.drop_drop, show z + j - (z + i) = j - i by omega]
theorem spec_Sha_ev (a : ByteArray) (h : a.size ≤ 140737488351232) : Ev (fun k => spec_Sha.f k a) (shaV a) := by
  unfold spec_Sha.f
  refine Ev.bind0 (a := shaInit) rfl (Ev.bind0 (a := shaTab) rfl ?_)
  have hp := padV_size a h
  have hz := zerosV_mod a.size
  have htl := tailL_len a.size h
  refine spec_Sha_l0_ev a h _ ?_ (zerosV a.size) 0 (by omega)
  have hu := blkV_u a (a.size / 64) 0 shaInit shaInit_u
  have ht : (strOfNums (tailL a.size)).size = zerosV a.size + 9 := by rw [strOf_size, htl]
  refine spec_Sha_l1_ev a _ (a.size / 64 * 64) _ (a.size / 64) (by omega) h (by omega) 0 shaInit shaInit_u (by omega) ?_
  have hr : (a.extract (a.size / 64 * 64) a.size ++ strOfNums (tailL a.size)).size = (padV a).size - a.size / 64 * 64 := by
    rw [ByteArray.size_append, ByteArray.size_extract, ht]; omega
  have g := spec_Sha_l2_ev (a.extract (a.size / 64 * 64) a.size ++ strOfNums (tailL a.size)) (by omega) ((padV a).size / 64 - a.size / 64) 0 _ hu (by omega)
  have e1 : blkV a (a.size / 64) 0 shaInit = blkV (padV a) (a.size / 64) 0 shaInit := blkV_congr _ _ _ _ _ _ fun d hd => (ext_left a _ _ _ (by omega)).symm
  have e2 : ∀ s, blkV (a.extract (a.size / 64 * 64) a.size ++ strOfNums (tailL a.size)) ((padV a).size / 64 - a.size / 64) 0 s = blkV (padV a) ((padV a).size / 64 - a.size / 64) (0 + 64 * (a.size / 64)) s := fun s =>
    blkV_congr _ _ _ _ _ _ fun d hd => by
      rw [ext_right _ _ _ _ _ (by omega)]
      unfold padV
      congr 1 <;> omega
  have e3 : (padV a).size / 64 = a.size / 64 + ((padV a).size / 64 - a.size / 64) := by omega
  unfold shaV
  rw [e3, blkV_add, ← e1, ← e2]
  exact g

theorem spec_ShowSnap_j0 (i t : Int) (d : ByteArray) (hi : i ≤ 9223372036854775807) (ht : t ≤ 9223372036854775807) (hd : d.size ≤ 8000) : Ev (fun k => spec_ShowSnap.j0 k false i t d) (frameV (snapHead i t d) ++ d) := by
  refine Ev.step (fun k => by rw [spec_ShowSnap.j0]) ?_
  have h1 := fixedV_len i 4
  have h2 := fixedV_len t 4
  have h3 := fixedV_len (d.size : Int) 4
  have h4 := shaV_size d
  have h5 := snapHead_size i t d
  have h6 := frameV_le (snapHead i t d)
  refine Ev.neg (by simp) (Ev.bind (spec_Fixed_ev i 4 hi) (Ev.bind (spec_Fixed_ev t 4 ht) (Ev.pos (by simp only [strOf_size]; omega) (Ev.bind (spec_Fixed_ev _ 4 (by omega)) (Ev.pos (by simp only [ByteArray.size_append, strOf_size]; omega)
    (Ev.bind (spec_Sha_ev d (by omega)) (Ev.pos (by simp only [ByteArray.size_append, strOf_size]; omega) (Ev.bind (spec_Frame_ev (snapHead i t d) (by omega)) (Ev.pos (by omega) (Ev.now _))))))))))
theorem spec_ShowSnap_ev (i t : Int) (d : ByteArray) (hi : i ≤ 9223372036854775807) (ht : t ≤ 9223372036854775807) : Ev (fun k => spec_ShowSnap.f k i t d) (showSnapV i t d) := by
  unfold spec_ShowSnap.f showSnapV
  refine Ev.bind0 (spec_SnapOk_eq i t d) ?_
  by_cases c : snapOkV i t d = true
  · refine Ev.pos c ?_
    have hd := snapOk_le c
    rw [show (i == 0) = decide (i = 0) from rfl]
    by_cases z : i = 0
    · rw [decide_eq_true z, if_neg (by simp [z])]
      refine Ev.step (fun k => by rw [spec_ShowSnap.j0]) ?_
      exact Ev.pos rfl (Ev.now _)
    · rw [decide_eq_false z, if_pos ⟨c, z⟩]
      exact spec_ShowSnap_j0 i t d hi ht hd
  · refine Ev.neg c ?_
    rw [if_neg (by simp [c])]
    refine Ev.step (fun k => by rw [spec_ShowSnap.j0]) ?_
    exact Ev.pos rfl (Ev.now _)

theorem spec_ReadFixed_l0 (s : ByteArray) (d : Nat) : ∀ (w i n : Int), 0 ≤ i → w - i = d → w ≤ 7 → w ≤ (s.size : Int) → 0 ≤ n → n < 256 ^ i.toNat →
    Ev (fun k => spec_ReadFixed.l0 k s w n i) (beAcc s d i n, true) := by
  induction d with
  | zero =>
    intro w i n hi hd hw hs hn hn2
    refine Ev.step (fun k => by rw [spec_ReadFixed.l0]) ?_
    exact Ev.neg (by omega) (Ev.now _)
  | succ d ih =>
    intro w i n hi hd hw hs hn hn2
    refine Ev.step (fun k => by rw [spec_ReadFixed.l0]) ?_
    refine Ev.pos (by omega) (Ev.pos (by omega) (Ev.pos (by omega) ?_))
    have hb := bt_range s i
    have h6 := pow256_six i hi (by omega)
    have h7 : (256 : Int) ^ (i + 1).toNat = 256 ^ i.toNat * 256 := by
      rw [show (i + 1).toNat = i.toNat + 1 by omega, Int.pow_succ]
    rw [wbt, w64 (x := n * 256) (by omega) (by omega), w64 (x := n * 256 + bt s i) (by omega) (by omega), w64 (by omega) (by omega)]
    exact ih w (i + 1) (n * 256 + bt s i) (by omega) (by omega) hw hs (by omega) (by omega)
theorem spec_ReadFixed_ev (s : ByteArray) (w : Int) : Ev (fun k => spec_ReadFixed.f k s w) (readFixedV s w) := by
  unfold spec_ReadFixed.f readFixedV
  refine Ev.bind0 (spec_l1In_eq _ _ _) ?_
  by_cases c : 1 ≤ w ∧ w ≤ 7
  · refine Ev.pos (by simp; omega) ?_
    refine Ev.step (fun k => by rw [spec_ReadFixed.j0]) ?_
    by_cases c2 : w ≤ (s.size : Int)
    · rw [if_pos (by omega)]
      exact Ev.neg (by simp; omega) (spec_ReadFixed_l0 s w.toNat w 0 0 (by omega) (by omega) (by omega) c2 (by omega) (by simp))
    · rw [if_neg (by omega)]
      exact Ev.pos (by simp; omega) (Ev.now _)
  · rw [if_neg (by omega)]
    refine Ev.neg (by simp; omega) ?_
    refine Ev.step (fun k => by rw [spec_ReadFixed.j0]) ?_
    exact Ev.pos rfl (Ev.now _)

theorem spec_Unframe_ev (s : ByteArray) (hs : s.size ≤ 140737488351232) : Ev (fun k => spec_Unframe.f k s) (unframeV s) := by
  have hr := beAcc4 s
  unfold spec_Unframe.f unframeV
  refine Ev.bind (spec_ReadFixed_ev s 4) ?_
  rw [readFixed4]
  by_cases c : 4 ≤ s.size
  · rw [if_pos c, if_pos c]
    refine Ev.pos rfl ?_
    simp only []
    generalize beAcc s 4 0 0 = n at hr
    have bad : ¬ (1 ≤ n ∧ n ≤ 2000) → Ev (fun k => spec_Unframe.j0 k s n true) (if 1 ≤ n ∧ n ≤ 2000 then (if (s.size : Int) < 8 + n then (strOfNums [], 0, 1) else if (frameV (s.extract 8 (8 + n).toNat)).toList = (s.extract 0 (8 + n).toNat).toList then (s.extract 8 (8 + n).toNat, 8 + n, 0) else (strOfNums [], 0, 2)) else (strOfNums [], 0, 2)) := by
      intro h
      refine Ev.step (fun k => by rw [spec_Unframe.j0]) ?_
      rw [if_neg h]
      exact Ev.pos rfl (Ev.now _)
    by_cases c0 : n = 0
    · exact Ev.pos c0 (bad (by omega))
    · refine Ev.neg c0 ?_
      by_cases c1 : n > 2000
      · rw [decide_eq_true c1]; exact bad (by omega)
      · rw [decide_eq_false c1, if_pos (show 1 ≤ n ∧ n ≤ 2000 by omega)]
        refine Ev.step (fun k => by rw [spec_Unframe.j0]) ?_
        rw [w64 (by omega) (by omega)]
        refine Ev.neg (by simp) ?_
        by_cases c2 : (s.size : Int) < 8 + n
        · rw [if_pos c2]; exact Ev.pos c2 (Ev.now _)
        · rw [if_neg c2]
          refine Ev.neg c2 (Ev.pos (by omega) (Ev.pos (by omega) ?_))
          refine Ev.bind (spec_Frame_ev _ (by have := extract_le s 8 (8 + n).toNat; omega)) (Ev.pos (by omega) ?_)
          by_cases c3 : (frameV (s.extract 8 (8 + n).toNat)).toList = (s.extract 0 (8 + n).toNat).toList
          · refine Ev.pos c3 ?_; rw [if_pos c3]; exact Ev.now _
          · refine Ev.neg c3 ?_; rw [if_neg c3]; exact Ev.now _
  · rw [if_neg c, if_neg c]
    exact Ev.neg (by simp) (Ev.now _)

theorem spec_ReadSnap_ev (s : ByteArray) (hs : s.size ≤ 140737488351232) : Ev (fun k => spec_ReadSnap.f k s) (readSnapV s) := by
  unfold spec_ReadSnap.f readSnapV
  refine Ev.bind (spec_Unframe_ev s hs) (Ev.bind (spec_ReadFixed_ev _ _) ?_)
  by_cases c : (unframeV s).1.size = 44
  · have hu : (unframeV s).2.2 = 0 := unframe_ne (by rw [c]; omega)
    have ho := unframe_ok hu
    rw [c] at ho
    refine Ev.pos (by omega) ?_
    have hw : wrap64 ((s.size : Int) - (unframeV s).2.1) = (s.size : Int) - (unframeV s).2.1 := w64 (by omega) (by omega)
    rw [hw]
    clear hw
    refine Ev.step (fun k => by rw [spec_ReadSnap.j0]) ?_
    have e1 : readFixedV (unframeV s).1 4 = (beAcc (unframeV s).1 4 0 0, true) := by rw [readFixed4, if_pos (by omega)]
    have e2 : readFixedV ((unframeV s).1.extract 4 (unframeV s).1.size) 4 = (beAcc ((unframeV s).1.extract 4 (unframeV s).1.size) 4 0 0, true) := by
      rw [readFixed4, if_pos (by rw [ByteArray.size_extract]; omega)]
    rw [e1]
    have hb1 := beAcc4 (unframeV s).1
    have hb2 := beAcc4 ((unframeV s).1.extract 4 (unframeV s).1.size)
    have hx : (s.extract (unframeV s).2.1.toNat s.size).size = s.size - (unframeV s).2.1.toNat := by rw [ByteArray.size_extract]; omega
    by_cases d : (s.size : Int) - (unframeV s).2.1 > 8000
    · refine Ev.pos (decide_eq_true d) (Ev.val _ _ ?_)
      rw [if_neg]
      rintro ⟨_, _, h⟩
      have hn : ¬ (snapOkV (beAcc (unframeV s).1 4 0 0) (beAcc ((unframeV s).1.extract 4 (unframeV s).1.size) 4 0 0) (s.extract (unframeV s).2.1.toNat s.size) = true ∧ beAcc (unframeV s).1 4 0 0 ≠ 0) := by
        rintro ⟨h1, _⟩
        have := snapOk_le h1
        omega
      unfold showSnapV at h
      rw [if_neg hn] at h
      have : s.size = 0 := by rw [← h]; rfl
      omega
    · refine Ev.neg (by rw [decide_eq_false d]; simp) (Ev.pos (by omega) (Ev.bind (spec_ReadFixed_ev _ _) ?_))
      rw [e2]
      refine Ev.pos (by omega) (Ev.pos (by omega) (Ev.bind (spec_ShowSnap_ev _ _ _ (by simp only; omega) (by simp only; omega)) ?_))
      refine Ev.ite (by rw [tl_iff]; exact ⟨fun h => ⟨hu, c, h⟩, fun h => h.2.2⟩) (fun _ => Ev.now _) (fun _ => Ev.now _)
  · refine Ev.neg (by omega) ?_
    refine Ev.step (fun k => by rw [spec_ReadSnap.j0]) ?_
    refine Ev.pos rfl (Ev.val _ _ ?_)
    rw [if_neg (by rintro ⟨_, h, _⟩; exact c h)]

theorem FnExactReadSnap : laws_FnExactReadSnap.Pure := by
  intro a0 h0
  refine Ev.rounds (g := fun k => laws_FnExactReadSnap.f k a0) ?_
  unfold laws_FnExactReadSnap.f laws_eqSnap.f
  by_cases c : (a0.size : Int) > 1048576
  · exact Ev.pos c (Ev.now _)
  · refine Ev.neg c (Ev.bind (spec_ReadSnap_ev a0 h0) (Ev.bind (impl_ReadSnap_ev a0 h0) ?_))
    refine Ev.bind0 (a := true) ?_ (Ev.pos rfl (Ev.neg (by simp) (Ev.now _)))
    rw [if_pos rfl, if_pos rfl, if_pos rfl]

end Go.Proofs.YtobkmpihjfiihaaDoor.Pure
