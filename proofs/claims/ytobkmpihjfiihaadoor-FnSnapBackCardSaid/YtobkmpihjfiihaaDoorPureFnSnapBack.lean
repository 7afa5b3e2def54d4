/- The pure statement of the law FnSnapBack is proved: for all arguments within the stated bounds the printed function answers true. Conditions: none beyond those bounds. -/
import Derived.Test.YtobkmpihjfiihaaDoorPFnSnapBackx7
import Derived.Laws.BitsLemmas
import Derived.Lib.Strings
namespace Go.Proofs.YtobkmpihjfiihaaDoor.Pure
open Go Go.RowKit Go.Proofs.YtobkmpihjfiihaaDoor.PFnSnapBack Go.Proofs.YtobkmpihjfiihaaDoorW.PrintWords Go.Proofs.YtobkmpihjfiihaaDoorW.PrintLast Go.Proofs.YtobkmpihjfiihaaDoorW.PrintMore
set_option linter.unusedVariables false
set_option linter.unusedSimpArgs false

/-! ### Base: rounds, whole numbers, bits, byte strings (no program in sight) -/
theorem Ev.pos {α : Type} {c : Prop} [Decidable c] {g f : Nat → Option α} {r : α} (h : c) (e : Ev g r) : Ev (fun k => if c then g k else f k) r := by
  simpa only [if_pos h] using e
theorem Ev.neg {α : Type} {c : Prop} [Decidable c] {g f : Nat → Option α} {r : α} (h : ¬ c) (e : Ev f r) : Ev (fun k => if c then g k else f k) r := by
  simpa only [if_neg h] using e
theorem Ev.val {α : Type} (r s : α) (h : r = s) : Ev (fun _ => some r) s := by subst h; exact Ev.now _
theorem Ev.val0 {α : Type} {o : Option α} {s : α} (h : o = some s) : Ev (fun _ => o) s := by subst h; exact Ev.now _
theorem Ev.bind0 {α β : Type} {o : Option α} {f : Nat → α → Option β} {a : α} {r : β} (h : o = some a) (k : Ev (fun n => f n a) r) : Ev (fun n => o.bind (f n)) r := by
  subst h; simpa only [Option.bind_some] using k
theorem Ev.and {α β : Type} {g : Nat → Option α} {f : Nat → Option β} {r : α} {s : β} (h : Ev g r) (k : Ev f s) : ∃ K, ∀ n, K ≤ n → g n = some r ∧ f n = some s := by
  obtain ⟨K, h⟩ := h
  obtain ⟨L, k⟩ := k
  exact ⟨max K L, fun n hn => ⟨h n (by omega), k n (by omega)⟩⟩

theorem Ev.ite {α : Type} {c d : Prop} [Decidable c] [Decidable d] {g f : Nat → Option α} {a b : α} (h : c ↔ d) (e : d → Ev g a) (e' : ¬ d → Ev f b) : Ev (fun k => if c then g k else f k) (if d then a else b) := by
  by_cases x : d
  · rw [if_pos x]; exact Ev.pos (h.2 x) (e x)
  · rw [if_neg x]; exact Ev.neg (fun y => x (h.1 y)) (e' x)
theorem w64 {x : Int} (h0 : -9223372036854775808 ≤ x) (h1 : x ≤ 9223372036854775807) : wrap64 x = x := by unfold wrap64; omega
theorem wf64 {x : Int} (h : (Lit.int .i64 x).wf = true) : -9223372036854775808 ≤ x ∧ x ≤ 9223372036854775807 := by
  simp [Lit.wf, IntKind.min, IntKind.max, IntKind.signed, IntKind.bits] at h
  omega
theorem tdiv_nn {x y : Int} (h : 0 ≤ x) : Int.tdiv x y = x / y := Int.tdiv_eq_ediv_of_nonneg h
theorem tmod_nn {x y : Int} (h : 0 ≤ x) : Int.tmod x y = x % y := Int.tmod_eq_emod_of_nonneg h

theorem wraps_i64 (n : Int) (h₀ : 0 ≤ n) (h₁ : n < 2 ^ 63) : IntKind.i64.wrap n = n := by rw [IntKind.wrap_i64]; omega
theorem and_mask (i : Nat) (hi : i ≤ 63) (x : Int) (h0 : 0 ≤ x) (h1 : x < 9223372036854775808) : Go.bits .and .i64 x (2 ^ i - 1) = x % 2 ^ i :=
  bits_mask .i64 63 (by decide) wraps_i64 i hi x h0 h1
theorem and127 {x : Int} (h0 : 0 ≤ x) (h1 : x < 9223372036854775808) : Go.bits .and .i64 x 127 = x % 128 := and_mask 7 (by decide) x h0 h1
theorem and255 {x : Int} (h0 : 0 ≤ x) (h1 : x < 9223372036854775808) : Go.bits .and .i64 x 255 = x % 256 := and_mask 8 (by decide) x h0 h1
theorem and1 {x : Int} (h0 : 0 ≤ x) (h1 : x < 9223372036854775808) : Go.bits .and .i64 x 1 = x % 2 := and_mask 1 (by decide) x h0 h1
theorem or_join (i : Nat) (x y : Int) (hx : 0 ≤ x) (hm : x % 2 ^ i = 0) (hx1 : x < 9223372036854775808) (hy : 0 ≤ y) (hy1 : y < 2 ^ i) (hy2 : y < 9223372036854775808) : Go.bits .or .i64 x y = x + y :=
  bits_join .i64 63 (by decide) wraps_i64 i x y hx hm hx1 hy hy1 hy2
theorem bits_or_comm (k : IntKind) (x y : Int) : Go.bits .or k x y = Go.bits .or k y x := by simp only [Go.bits, BitVec.or_comm]
theorem or_join' (i : Nat) (x y : Int) (hx : 0 ≤ x) (hm : x % 2 ^ i = 0) (hx1 : x < 9223372036854775808) (hy : 0 ≤ y) (hy1 : y < 2 ^ i) (hy2 : y < 9223372036854775808) : Go.bits .or .i64 y x = x + y := by
  rw [bits_or_comm]; exact or_join i x y hx hm hx1 hy hy1 hy2
theorem u8_and127 {x : Int} (h0 : 0 ≤ x) (h1 : x < 256) : Go.bits .and .u8 x 127 = x % 128 := bits_mask .u8 8 (by decide) wraps_u8 7 (by decide) x h0 h1
theorem bits_xor_nat (a b : Nat) (ha : a < 2 ^ 63) (hb : b < 2 ^ 63) : Go.bits .xor .i64 a b = ((a ^^^ b : Nat) : Int) := by
  have hp : 2 ^ 63 ≤ 2 ^ IntKind.i64.bits := Nat.pow_le_pow_right (by decide) (by decide)
  have ha' : a % 2 ^ IntKind.i64.bits = a := Nat.mod_eq_of_lt (Nat.lt_of_lt_of_le ha hp)
  have hb' : b % 2 ^ IntKind.i64.bits = b := Nat.mod_eq_of_lt (Nat.lt_of_lt_of_le hb hp)
  simp only [Go.bits, BitVec.ofInt_natCast, BitVec.toNat_xor, BitVec.toNat_ofNat, ha', hb']
  exact wraps_i64 _ (Int.natCast_nonneg _) (by exact_mod_cast Nat.xor_lt_two_pow ha hb)

theorem wbt (s : ByteArray) (i : Int) : wrap64 (bt s i) = bt s i := by have := bt_range s i; exact w64 (by omega) (by omega)
theorem toList_eq {s t : ByteArray} (h : s = t) : s.toList = t.toList := by rw [h]
theorem strOf_append (xs ys : List Int) : strOfNums xs ++ strOfNums ys = strOfNums (xs ++ ys) := by
  apply ByteArray.ext
  rw [ByteArray.data_append]
  simp [strOfNums]
theorem strOf_size (xs : List Int) : (strOfNums xs).size = xs.length := by simp [strOfNums, ByteArray.size]
theorem strOf_nil : (⟨#[]⟩ : ByteArray) = strOfNums [] := rfl
theorem cast_pow256 (d : Nat) : ((256 ^ d : Nat) : Int) = (256 : Int) ^ d := Int.natCast_pow 256 d
theorem lt_pow256 (m d : Nat) : ((m : Int) < 256 ^ d) = (m < 256 ^ d) := by
  rw [← cast_pow256]; exact propext Int.ofNat_lt
theorem pow256_six (i : Int) (h0 : 0 ≤ i) (h1 : i ≤ 6) : (256 : Int) ^ i.toNat ≤ 281474976710656 := by
  obtain rfl | rfl | rfl | rfl | rfl | rfl | rfl : i = 0 ∨ i = 1 ∨ i = 2 ∨ i = 3 ∨ i = 4 ∨ i = 5 ∨ i = 6 := by omega
  all_goals decide

/-! ### Str: a byte string as the list of its numbers -/
def IsB (xs : List Int) : Prop := ∀ x ∈ xs, 0 ≤ x ∧ x ≤ 255
def bl (s : ByteArray) : List Int := s.data.toList.map fun b => (b.toNat : Int)
theorem bl_isB (s : ByteArray) : IsB (bl s) := by
  intro x hx
  simp only [bl, List.mem_map] at hx
  obtain ⟨b, _, rfl⟩ := hx
  have := b.toNat_lt
  omega
theorem bl_length (s : ByteArray) : (bl s).length = s.size := by unfold bl; rw [List.length_map]; rfl
theorem strOf_bl (s : ByteArray) : strOfNums (bl s) = s := by
  apply ByteArray.ext
  apply Array.ext'
  unfold strOfNums bl
  rw [List.map_map]
  have : ((fun n : Int => UInt8.ofNat n.toNat) ∘ fun b : UInt8 => (b.toNat : Int)) = id := by
    funext b
    simp only [Function.comp_apply, Int.toNat_natCast, UInt8.ofNat_toNat, id]
  rw [this, List.map_id]
theorem bl_strOf {xs : List Int} (h : IsB xs) : bl (strOfNums xs) = xs := by
  induction xs with
  | nil => rfl
  | cons a l ih =>
    have ha := h a (by simp)
    have hl := ih (fun x hx => h x (by simp [hx]))
    simp only [bl, strOfNums, List.map_cons, List.toList_toArray] at hl ⊢
    rw [hl]
    congr 1
    simp only [UInt8.toNat_ofNat']
    omega
theorem bl_append (s t : ByteArray) : bl (s ++ t) = bl s ++ bl t := by simp [bl, ByteArray.data_append]
theorem bl_extract (s : ByteArray) (a b : Nat) : bl (s.extract a b) = ((bl s).drop a).take (b - a) := by
  simp [bl, ByteArray.data_extract, List.extract_eq_take_drop, List.map_take, List.map_drop]
theorem bl_inj {s t : ByteArray} (h : bl s = bl t) : s = t := by rw [← strOf_bl s, ← strOf_bl t, h]
theorem tl_iff (s t : ByteArray) : s.toList = t.toList ↔ s = t := by
  constructor
  · intro h
    rw [Go.Lib.toList_data, Go.Lib.toList_data] at h
    exact ByteArray.ext (Array.ext' h)
  · intro h; rw [h]
theorem bt_bl (s : ByteArray) (i : Int) : bt s i = rd (bl s) i := by
  unfold bt rd bl
  split
  · rename_i h
    have h' : i.toNat < s.data.toList.length := h
    rw [List.getD_eq_getElem?_getD, List.getElem?_map, List.getElem?_eq_getElem h']
    simp only [Option.map_some, Option.getD_some]
    rfl
  · rename_i h
    have h' : ¬ i.toNat < s.data.toList.length := h
    rw [List.getD_eq_getElem?_getD, List.getElem?_map, List.getElem?_eq_none (by omega)]
    rfl
theorem bt_nat (s : ByteArray) (i : Nat) (h : i < s.size) : bt s (i : Int) = (bl s)[i]'(by rw [bl_length]; exact h) := by
  rw [bt_bl]
  unfold rd
  rw [Int.toNat_natCast, List.getD_eq_getElem?_getD, List.getElem?_eq_getElem (by rw [bl_length]; exact h)]
  rfl
theorem isB_nil : IsB [] := fun _ h => by cases h
theorem isB_append {xs ys : List Int} (h : IsB xs) (k : IsB ys) : IsB (xs ++ ys) := fun x hx => (List.mem_append.1 hx).elim (h x) (k x)
theorem isB_cons {x : Int} {ys : List Int} (h : 0 ≤ x ∧ x ≤ 255) (k : IsB ys) : IsB (x :: ys) := by
  intro y hy
  rcases List.mem_cons.1 hy with e | e
  · subst e; exact h
  · exact k y e
theorem strOf_inj {xs ys : List Int} (h : IsB xs) (k : IsB ys) (e : strOfNums xs = strOfNums ys) : xs = ys := by
  rw [← bl_strOf h, ← bl_strOf k, e]
instance instDecEqBytes : DecidableEq ByteArray := fun a b => decidable_of_iff (a.toList = b.toList) (tl_iff a b)
instance instDecMemBytes (x : ByteArray) : (l : List ByteArray) → Decidable (x ∈ l)
  | [] => .isFalse (by simp)
  | y :: l => if h : x = y then .isTrue (by simp [h]) else (match instDecMemBytes x l with
    | .isTrue k => .isTrue (by simp [k])
    | .isFalse k => .isFalse (by simp [h, k]))

/-! ### what Fixed makes, and what ReadFixed reads -/
def fixL : Nat → Nat → List Int
  | 0, _ => []
  | w + 1, n => fixL w (n / 256) ++ [((n % 256 : Nat) : Int)]
theorem fixL_length : ∀ (w n : Nat), (fixL w n).length = w
  | 0, _ => rfl
  | w + 1, n => by simp [fixL, fixL_length w]
theorem set_replicate (i : Nat) (v : Int) (xs : List Int) : (List.replicate (i + 1) 0 ++ xs).set i v = List.replicate i 0 ++ (v :: xs) := by
  rw [List.replicate_succ', List.append_assoc, List.set_append_right _ _ (by simp)]
  simp
/-- What Fixed(n, w) is. -/
def fixedV (n w : Int) : List Int := if 1 ≤ w ∧ w ≤ 7 ∧ 0 ≤ n ∧ n < 256 ^ w.toNat then fixL w.toNat n.toNat else []
def beAcc (s : ByteArray) : Nat → Int → Int → Int
  | 0, _, n => n
  | d + 1, i, n => beAcc s d (i + 1) (n * 256 + bt s i)
/-- What ReadFixed(s, w) is. -/
def readFixedV (s : ByteArray) (w : Int) : Int × Bool := if 1 ≤ w ∧ w ≤ 7 ∧ w ≤ (s.size : Int) then (beAcc s w.toNat 0 0, true) else (0, false)

/-! ### Sha: what both sides make of a text (shaB, wds, wds2, rnds, addsV, rotV: the walk's own words) -/
theorem int_toNat_nat (i : Nat) : (i : Int).toNat = i := Int.toNat_natCast i
theorem rd_nat (l : List Int) (i : Nat) : rd l (i : Int) = l.getD i 0 := by unfold rd; rw [Int.toNat_natCast]
/-- n blocks of a text from place i on. -/
def blkV (p : ByteArray) : Nat → Nat → List Int → List Int
  | 0, _, s => s
  | n + 1, i, s => blkV p n (i + 64) (shaB s (p.extract i (i + 64)))
theorem blkV_add (p : ByteArray) (n : Nat) : ∀ (m i : Nat) (s : List Int), blkV p (n + m) i s = blkV p m (i + 64 * n) (blkV p n i s) := by
  induction n with
  | zero => intro m i s; simp [blkV]
  | succ n ih => intro m i s; rw [show n + 1 + m = (n + m) + 1 by omega]; simp only [blkV]; rw [ih, show i + 64 + 64 * n = i + 64 * (n + 1) by omega]
def U32s (s : List Int) : Prop := s.length = 8 ∧ ∀ x ∈ s, 0 ≤ x ∧ x < 4294967296
theorem shaInit_u : U32s shaInit := by
  refine ⟨rfl, fun x hx => ?_⟩
  simp only [shaInit, List.mem_cons, List.not_mem_nil, or_false] at hx
  omega
def addL (s v : List Int) : Nat → List Int
  | 0 => []
  | n + 1 => addL s v n ++ [(s.getD n 0 + v.getD n 0) % 4294967296]
theorem addL_length (s v : List Int) (n : Nat) : (addL s v n).length = n := by
  induction n with
  | zero => rfl
  | succ n ih => simp [addL, ih]
theorem addL_u (s v : List Int) (n : Nat) : ∀ x ∈ addL s v n, 0 ≤ x ∧ x < 4294967296 := by
  induction n with
  | zero => intro x hx; cases hx
  | succ n ih =>
    intro x hx
    simp only [addL, List.mem_append, List.mem_singleton] at hx
    rcases hx with hx | rfl
    · exact ih x hx
    · omega
theorem addsV_addL (s v : List Int) (h : s.length = 8) : addsV s v 8 = addL s v 8 := by
  obtain ⟨s0, s1, s2, s3, s4, s5, s6, s7, rfl⟩ := eight s h
  rfl
theorem shaB_u (s : List Int) (b : ByteArray) (h : s.length = 8) : U32s (shaB s b) := by
  unfold shaB
  rw [addsV_addL _ _ h]
  exact ⟨addL_length _ _ _, addL_u _ _ _⟩
theorem blkV_u (p : ByteArray) (n : Nat) : ∀ (i : Nat) (s : List Int), U32s s → U32s (blkV p n i s) := by
  induction n with
  | zero => intro i s h; exact h
  | succ n ih => intro i s h; exact ih _ _ (shaB_u _ _ h.1)
theorem blkV_congr (p q : ByteArray) (n : Nat) : ∀ (i j : Nat) (s : List Int), (∀ d, d < n → p.extract (i + 64 * d) (i + 64 * d + 64) = q.extract (j + 64 * d) (j + 64 * d + 64)) → blkV p n i s = blkV q n j s := by
  induction n with
  | zero => intro i j s h; rfl
  | succ n ih =>
    intro i j s h
    simp only [blkV]
    have h0 := h 0 (by omega)
    simp only [Nat.mul_zero, Nat.add_zero] at h0
    rw [h0]
    exact ih _ _ _ fun d hd => by
      have := h (d + 1) (by omega)
      rwa [show i + 64 * (d + 1) = i + 64 + 64 * d by omega, show j + 64 * (d + 1) = j + 64 + 64 * d by omega] at this
/-- The words of a state as a text. -/
def outL : List Int → List Int
  | [] => []
  | x :: r => fixedV x 4 ++ outL r
theorem fixedV_len (n w : Int) : (fixedV n w).length ≤ 7 := by
  unfold fixedV
  split
  · rw [fixL_length]; omega
  · simp
/-- What stands behind a text of n bytes. -/
def zerosV (n : Nat) : Nat := (64 - (n + 9) % 64) % 64
def tailL (n : Nat) : List Int := 128 :: (List.replicate (zerosV n + 1) 0 ++ fixedV (8 * (n : Int)) 7)
def padV (a : ByteArray) : ByteArray := a ++ strOfNums (tailL a.size)
def shaV (a : ByteArray) : ByteArray := strOfNums (outL (blkV (padV a) ((padV a).size / 64) 0 shaInit))
theorem fixedV7_len (n : Nat) (h : n ≤ 140737488351232) : (fixedV (8 * (n : Int)) 7).length = 7 := by
  unfold fixedV
  rw [if_pos (by refine ⟨by omega, by omega, by omega, ?_⟩; have e : (256 : Int) ^ (7 : Int).toNat = 72057594037927936 := by decide
                 rw [e]; omega), fixL_length]
  rfl
theorem tailL_len (n : Nat) (h : n ≤ 140737488351232) : (tailL n).length = zerosV n + 9 := by
  unfold tailL
  rw [List.length_cons, List.length_append, List.length_replicate, fixedV7_len n h]
theorem padV_size (a : ByteArray) (h : a.size ≤ 140737488351232) : (padV a).size = a.size + zerosV a.size + 9 := by
  unfold padV
  rw [ByteArray.size_append, strOf_size, tailL_len _ h]
  omega
theorem zerosV_mod (n : Nat) : (n + zerosV n + 9) % 64 = 0 ∧ zerosV n < 64 := by unfold zerosV; omega

/-! ### what Crc is -/
def crcStep (c : Nat) : Nat := if c % 2 = 1 then (c / 2) ^^^ 2197175160 else c / 2
def crcRounds : Nat → Nat → Nat
  | 0, c => c
  | d + 1, c => crcRounds d (crcStep c)
theorem crcStep_lt {c : Nat} (h : c < 2 ^ 32) : crcStep c < 2 ^ 32 := by
  unfold crcStep
  split
  · exact Nat.xor_lt_two_pow (by omega) (by decide)
  · omega
theorem crcRounds_lt : ∀ (d c : Nat), c < 2 ^ 32 → crcRounds d c < 2 ^ 32
  | 0, _, h => h
  | d + 1, c, h => crcRounds_lt d _ (crcStep_lt h)
def crcFrom (s : ByteArray) : Nat → Nat → Nat → Nat
  | 0, _, c => c
  | d + 1, i, c => crcFrom s d (i + 1) (crcRounds 8 (c ^^^ (bt s i).toNat))
theorem crcIn_lt (s : ByteArray) (i : Nat) {c : Nat} (h : c < 2 ^ 32) : c ^^^ (bt s i).toNat < 2 ^ 32 := by
  have := bt_range s i
  exact Nat.xor_lt_two_pow h (by omega)
theorem crcFrom_lt (s : ByteArray) : ∀ (d i c : Nat), c < 2 ^ 32 → crcFrom s d i c < 2 ^ 32
  | 0, _, _, h => h
  | d + 1, i, c, h => crcFrom_lt s d (i + 1) _ (crcRounds_lt 8 _ (crcIn_lt s i h))
/-- What Crc(s) is. -/
def crcV (s : ByteArray) : Int := 4294967295 - (crcFrom s s.size 0 4294967295 : Nat)
theorem crcV_range (s : ByteArray) : 0 ≤ crcV s ∧ crcV s ≤ 4294967295 := by
  have := crcFrom_lt s s.size 0 4294967295 (by decide)
  unfold crcV; omega

/-- What Frame(b) is. -/
def frameV (b : ByteArray) : ByteArray := if 1 ≤ b.size ∧ b.size ≤ 2000 then (strOfNums (fixedV b.size 4) ++ strOfNums (fixedV (crcV (strOfNums (fixedV b.size 4) ++ b)) 4)) ++ b else strOfNums []
theorem fixedV_4 {n : Int} (h0 : 0 ≤ n) (h1 : n ≤ 4294967295) : fixedV n 4 = fixL 4 n.toNat := by
  unfold fixedV
  have e : (256 : Int) ^ (4 : Int).toNat = 4294967296 := by decide
  rw [if_pos (by rw [e]; omega)]
  rfl
theorem size_append (a b : ByteArray) : (a ++ b).size = a.size + b.size := ByteArray.size_append

theorem beAcc4 (s : ByteArray) : 0 ≤ beAcc s 4 0 0 ∧ beAcc s 4 0 0 ≤ 4294967295 := by
  have h0 := bt_range s 0
  have h1 := bt_range s (0 + 1)
  have h2 := bt_range s (0 + 1 + 1)
  have h3 := bt_range s (0 + 1 + 1 + 1)
  simp only [beAcc]
  omega
theorem readFixed4 (s : ByteArray) : readFixedV s 4 = if 4 ≤ s.size then (beAcc s 4 0 0, true) else (0, false) := by
  unfold readFixedV
  by_cases h : 4 ≤ s.size
  · rw [if_pos h, if_pos (by omega)]; rfl
  · rw [if_neg h, if_neg (by omega)]
/-- What Unframe(s) is. -/
def unframeV (s : ByteArray) : ByteArray × Int × Int :=
  if 4 ≤ s.size then
    (if 1 ≤ beAcc s 4 0 0 ∧ beAcc s 4 0 0 ≤ 2000 then
      (if (s.size : Int) < 8 + beAcc s 4 0 0 then (strOfNums [], 0, 1)
       else if (frameV (s.extract 8 (8 + beAcc s 4 0 0).toNat)).toList = (s.extract 0 (8 + beAcc s 4 0 0).toNat).toList then (s.extract 8 (8 + beAcc s 4 0 0).toNat, 8 + beAcc s 4 0 0, 0) else (strOfNums [], 0, 2))
     else (strOfNums [], 0, 2))
  else (strOfNums [], 0, 1)
theorem extract_le (s : ByteArray) (a b : Nat) : (s.extract a b).size ≤ s.size := by rw [ByteArray.size_extract]; omega

theorem size_zero (s : ByteArray) : s.size = 0 ↔ s = ⟨#[]⟩ := by
  constructor
  · intro h
    apply bl_inj
    have : (bl s).length = 0 := by rw [bl_length]; exact h
    rw [List.eq_nil_of_length_eq_zero this]; rfl
  · intro h; subst h; rfl
theorem tl_nil (s : ByteArray) : (s.toList == ([] : List UInt8)) = decide (s.size = 0) := by
  have e : ([] : List UInt8) = (⟨#[]⟩ : ByteArray).toList := by rw [Go.Lib.toList_data]
  rw [e, Bool.eq_iff_iff, beq_iff_eq, tl_iff, decide_eq_true_iff, size_zero]
theorem tl_nil' (s : ByteArray) : (s.toList = ([] : List UInt8)) = (s.size = 0) := by
  have e : ([] : List UInt8) = (⟨#[]⟩ : ByteArray).toList := by rw [Go.Lib.toList_data]
  rw [e, tl_iff, size_zero]

theorem spec_l1In_eq (a b c : Int) : spec_l1In.f a b c = some (decide (b ≤ a ∧ a ≤ c)) := by
  unfold spec_l1In.f
  by_cases h : a ≥ b
  · rw [if_pos h]; simp [show b ≤ a from h]
  · rw [if_neg h]; simp [show ¬ b ≤ a from h]

theorem impl_within_eq (a b c : Int) : impl_within.f a b c = some (decide (b ≤ a ∧ a ≤ c)) := by
  unfold impl_within.f
  by_cases h : a ≥ b
  · rw [if_pos h]; simp [show b ≤ a from h]
  · rw [if_neg h]; simp [show ¬ b ≤ a from h]

def snapOkV (i t : Int) (d : ByteArray) : Bool := decide ((i = 0 ∧ t = 0 ∧ d.size = 0) ∨ (1 ≤ i ∧ i ≤ 100000 ∧ 1 ≤ t ∧ t ≤ 100000 ∧ d.size ≤ 8000))
theorem spec_SnapOk_eq (i t : Int) (d : ByteArray) : spec_SnapOk.f i t d = some (snapOkV i t d) := by
  unfold spec_SnapOk.f snapOkV
  simp only [spec_l1In_eq, Option.bind_some, tl_nil]
  by_cases h1 : i = 0 <;> by_cases h2 : t = 0 <;> by_cases h3 : (1 ≤ i ∧ i ≤ 100000) <;> by_cases h4 : (1 ≤ t ∧ t ≤ 100000) <;> simp [*] <;> omega
theorem impl_SnapOk_eq (i t : Int) (d : ByteArray) : impl_SnapOk.f i t d = some (snapOkV i t d) := by
  unfold impl_SnapOk.f snapOkV
  simp only [impl_within_eq, Option.bind_some, tl_nil]
  by_cases h1 : i = 0 <;> by_cases h2 : t = 0 <;> by_cases h5 : d.size = 0 <;> by_cases h3 : (1 ≤ i ∧ i ≤ 100000) <;> by_cases h4 : (1 ≤ t ∧ t ≤ 100000) <;> simp [*] <;> omega

theorem outL_len (s : List Int) : (outL s).length ≤ 7 * s.length := by
  induction s with
  | nil => simp [outL]
  | cons x r ih =>
    have := fixedV_len x 4
    simp only [outL, List.length_append, List.length_cons]
    omega
theorem shaV_size (a : ByteArray) : (shaV a).size ≤ 56 := by
  unfold shaV
  rw [strOf_size]
  have h := outL_len (blkV (padV a) ((padV a).size / 64) 0 shaInit)
  rw [(blkV_u (padV a) ((padV a).size / 64) 0 shaInit shaInit_u).1] at h
  exact h
def snapHead (i t : Int) (d : ByteArray) : ByteArray := ((strOfNums (fixedV i 4) ++ strOfNums (fixedV t 4)) ++ strOfNums (fixedV (d.size : Int) 4)) ++ shaV d
def showSnapV (i t : Int) (d : ByteArray) : ByteArray := if snapOkV i t d = true ∧ i ≠ 0 then frameV (snapHead i t d) ++ d else ⟨#[]⟩
theorem snapHead_size (i t : Int) (d : ByteArray) : (snapHead i t d).size ≤ 77 := by
  unfold snapHead
  have h1 := fixedV_len i 4
  have h2 := fixedV_len t 4
  have h3 := fixedV_len (d.size : Int) 4
  have h4 := shaV_size d
  simp only [ByteArray.size_append, strOf_size]
  omega
theorem snapOk_le {i t : Int} {d : ByteArray} (h : snapOkV i t d = true) : d.size ≤ 8000 := by
  unfold snapOkV at h
  have := of_decide_eq_true h
  omega
theorem snapOk_zero {i t : Int} {d : ByteArray} (h : snapOkV i t d = true) : (i == 0 && (t == 0 && (d.toList == ([] : List UInt8)))) = decide (i = 0) := by
  unfold snapOkV at h
  have := of_decide_eq_true h
  rw [tl_nil]
  by_cases c : i = 0
  · have h1 : t = 0 := by omega
    have h2 : d.size = 0 := by omega
    simp [c, h1, h2]
  · simp [c]
/-- What ReadSnap(s) is. -/
def readSnapV (s : ByteArray) : Int × Int × ByteArray × Bool :=
  if (unframeV s).2.2 = 0 ∧ (unframeV s).1.size = 44 ∧ showSnapV (beAcc (unframeV s).1 4 0 0) (beAcc ((unframeV s).1.extract 4 (unframeV s).1.size) 4 0 0) (s.extract (unframeV s).2.1.toNat s.size) = s
  then (beAcc (unframeV s).1 4 0 0, beAcc ((unframeV s).1.extract 4 (unframeV s).1.size) 4 0 0, s.extract (unframeV s).2.1.toNat s.size, true) else (0, 0, ⟨#[]⟩, false)
theorem frameV_le (b : ByteArray) : (frameV b).size ≤ b.size + 14 := by
  unfold frameV
  split
  · have h1 := fixedV_len (b.size : Int) 4
    have h2 := fixedV_len (crcV (strOfNums (fixedV (b.size : Int) 4) ++ b)) 4
    simp only [ByteArray.size_append, strOf_size]
    omega
  · rw [strOf_size]; simp
theorem unframe_ne {s : ByteArray} (h : 0 < (unframeV s).1.size) : (unframeV s).2.2 = 0 := by
  unfold unframeV at h ⊢
  split at h <;> rename_i c1
  · rw [if_pos c1]
    split at h <;> rename_i c2
    · rw [if_pos c2]
      split at h <;> rename_i c3
      · simp [strOf_size] at h
      · rw [if_neg c3]
        split at h <;> rename_i c4
        · rw [if_pos c4]
        · simp [strOf_size] at h
    · simp [strOf_size] at h
  · simp [strOf_size] at h

theorem unframe_ok {s : ByteArray} (h : (unframeV s).2.2 = 0) : 9 ≤ (unframeV s).2.1 ∧ (unframeV s).2.1 ≤ s.size ∧ (((unframeV s).1.size : Int) + 8 = (unframeV s).2.1) ∧ (unframeV s).1.size ≤ 2000 := by
  unfold unframeV at h ⊢
  have hr := beAcc4 s
  generalize beAcc s 4 0 0 = n at h hr ⊢
  split at h
  · rename_i c1
    split at h
    · rename_i c2
      split at h
      · cases h
      · rename_i c3
        split at h
        · rename_i c4
          rw [if_pos c1, if_pos c2, if_neg c3, if_pos c4]
          have e : (s.extract 8 (8 + n).toNat).size = (8 + n).toNat - 8 := by rw [ByteArray.size_extract]; omega
          simp only [e]
          omega
        · cases h
    · cases h
  · cases h
/-- what Frames comes to from place pos on -/
def frFrom (s : ByteArray) : Nat → Nat → List ByteArray → List ByteArray × Int
  | 0, pos, acc => (acc, pos)
  | f + 1, pos, acc => if (unframeV (s.extract pos s.size)).2.2 = 0 then frFrom s f (pos + (unframeV (s.extract pos s.size)).2.1.toNat) (acc ++ [(unframeV (s.extract pos s.size)).1]) else (acc, pos)
def framesV (s : ByteArray) : List ByteArray × Int := frFrom s s.size 0 []
theorem frFrom_len (s : ByteArray) : ∀ (f pos : Nat) (acc : List ByteArray), acc.length ≤ pos → pos ≤ s.size → (frFrom s f pos acc).1.length ≤ s.size
  | 0, pos, acc, h, hp => by simp only [frFrom]; omega
  | f + 1, pos, acc, h, hp => by
    rw [frFrom]
    split
    · rename_i c
      have u := unframe_ok c
      have e : (s.extract pos s.size).size = s.size - pos := by rw [ByteArray.size_extract]; omega
      rw [e] at u
      exact frFrom_len s f _ _ (by rw [List.length_append]; simp; omega) (by omega)
    · simp only; omega
theorem framesV_len (s : ByteArray) : (framesV s).1.length ≤ s.size := frFrom_len s s.size 0 [] (by simp) (by omega)

theorem impl_Fixed_l0 (d : Nat) : ∀ (n : Nat) (xs : List Int), d ≤ 7 → n < 9223372036854775808 →
    Ev (fun k => impl_Fixed.l0 k (n : Int) (List.replicate d 0 ++ xs) ((d : Int) - 1)) (strOfNums (fixL d n ++ xs)) := by
  induction d with
  | zero =>
    intro n xs hd hn
    refine Ev.step (fun k => by rw [impl_Fixed.l0]) ?_
    exact Ev.neg (by omega) (Ev.val _ _ (by simp [fixL]))
  | succ d ih =>
    intro n xs hd hn
    refine Ev.step (fun k => by rw [impl_Fixed.l0]) ?_
    refine Ev.pos (by omega) (Ev.pos (by omega) (Ev.pos (by simp; omega) ?_))
    have e1 : (Go.bits .and .i64 (n : Int) 255) % 256 = ((n % 256 : Nat) : Int) := by rw [and255 (by omega) (by omega)]; omega
    have e2 : (n : Int) / 256 = ((n / 256 : Nat) : Int) := by omega
    have e3 : ((d + 1 : Nat) : Int) - 1 = (d : Int) := by omega
    rw [e1, e2, e3, w64 (by omega) (by omega), Int.toNat_natCast, set_replicate]
    have := ih (n / 256) (((n % 256 : Nat) : Int) :: xs) (by omega) (by omega)
    simpa [fixL, List.append_assoc] using this
theorem impl_Fixed_ev (n w : Int) (hn : n ≤ 9223372036854775807) : Ev (fun k => impl_Fixed.f k n w) (strOfNums (fixedV n w)) := by
  unfold impl_Fixed.f fixedV
  refine Ev.bind0 (impl_within_eq _ _ _) ?_
  by_cases c : 1 ≤ w ∧ w ≤ 7
  · refine Ev.pos (by simp; omega) ?_
    by_cases c2 : n < 0
    · refine Ev.pos c2 ?_
      refine Ev.step (fun k => by rw [impl_Fixed.j0]) ?_
      refine Ev.pos rfl (Ev.val _ _ ?_)
      rw [if_neg (by omega)]; rfl
    · obtain ⟨m, rfl⟩ := Int.eq_ofNat_of_zero_le (show 0 ≤ n by omega)
      obtain ⟨d, rfl⟩ := Int.eq_ofNat_of_zero_le (show 0 ≤ w by omega)
      have e1 : wrap64 (8 * (d : Int)) = ((8 * d : Nat) : Int) := by rw [w64 (by omega) (by omega)]; omega
      have e2 : shl .i64 1 ((8 * d : Nat) : Int) = ((256 ^ d : Nat) : Int) := by
        obtain rfl | rfl | rfl | rfl | rfl | rfl | rfl : d = 1 ∨ d = 2 ∨ d = 3 ∨ d = 4 ∨ d = 5 ∨ d = 6 ∨ d = 7 := by omega
        all_goals decide
      rw [e1, e2]
      refine Ev.neg c2 (Ev.pos (by omega) ?_)
      refine Ev.step (fun k => by rw [impl_Fixed.j0]) ?_
      have e3 : ((m : Int) < 256 ^ (d : Int).toNat) = (m < 256 ^ d) := by rw [Int.toNat_natCast, lt_pow256]
      by_cases c3 : m < 256 ^ d
      · refine Ev.neg (by simp only [decide_eq_true_eq]; omega) (Ev.pos (by omega) (Ev.pos (by simp; omega) ?_))
        rw [if_pos (by rw [e3]; exact ⟨by omega, by omega, by omega, c3⟩), w64 (by omega) (by omega), Int.toNat_natCast, Int.toNat_natCast]
        simpa using impl_Fixed_l0 d m [] (by omega) (by omega)
      · refine Ev.pos (by simp only [decide_eq_true_eq]; omega) (Ev.val _ _ ?_)
        rw [if_neg (by rw [e3]; omega)]; rfl
  · refine Ev.neg (by simp; omega) ?_
    refine Ev.step (fun k => by rw [impl_Fixed.j0]) ?_
    refine Ev.pos rfl (Ev.val _ _ ?_)
    rw [if_neg (by omega)]; rfl

theorem impl_Crc_l1 (s : ByteArray) (i : Nat) (r : Int) (d : Nat) : ∀ (c : Nat) (j : Int), c < 2 ^ 32 → 8 - j = d → 0 ≤ j → i < 9223372036854775807 →
    Ev (fun k => impl_Crc.l0 k s ((crcRounds d c : Nat) : Int) ((i + 1 : Nat) : Int)) r → Ev (fun k => impl_Crc.l1 k s (c : Int) (i : Int) j) r := by
  induction d with
  | zero =>
    intro c j hc hd hj hi h
    refine Ev.step (fun k => by rw [impl_Crc.l1]) (Ev.neg (by omega) ?_)
    rw [w64 (by omega) (by omega)]
    exact h
  | succ d ih =>
    intro c j hc hd hj hi h
    have hlt := crcStep_lt hc
    refine Ev.step (fun k => by rw [impl_Crc.l1]) (Ev.pos (by omega) ?_)
    rw [and1 (by omega) (by omega), w64 (x := j + 1) (by omega) (by omega)]
    have g := ih (crcStep c) (j + 1) hlt (by omega) (by omega) hi h
    by_cases o : c % 2 = 1
    · refine Ev.pos (by omega) ?_
      have e : Go.bits .xor .i64 ((c : Int) / 2) 2197175160 = ((crcStep c : Nat) : Int) := by
        rw [show ((c : Int) / 2) = ((c / 2 : Nat) : Int) by omega, show (2197175160 : Int) = ((2197175160 : Nat) : Int) from rfl, bits_xor_nat _ _ (by omega) (by decide)]
        unfold crcStep; rw [if_pos o]
      rw [e]; exact g
    · refine Ev.neg (by omega) ?_
      have e : (c : Int) / 2 = ((crcStep c : Nat) : Int) := by unfold crcStep; rw [if_neg o]; omega
      rw [e]; exact g
theorem impl_Crc_l0 (s : ByteArray) (hs : s.size ≤ 140737488351232) (d : Nat) : ∀ (i c : Nat), c < 2 ^ 32 → s.size - i = d → i ≤ s.size →
    Ev (fun k => impl_Crc.l0 k s (c : Int) (i : Int)) (4294967295 - (crcFrom s d i c : Nat)) := by
  induction d with
  | zero =>
    intro i c hc hd hi
    exact Ev.step (fun k => by rw [impl_Crc.l0]) (Ev.neg (by omega) (Ev.val _ _ (by simp only [crcFrom]; rw [w64 (by omega) (by omega)])))
  | succ d ih =>
    intro i c hc hd hi
    have hb := bt_range s i
    refine Ev.step (fun k => by rw [impl_Crc.l0]) (Ev.pos (by omega) (Ev.pos (by omega) ?_))
    rw [wbt, show bt s (i : Int) = ((bt s i).toNat : Int) by omega, bits_xor_nat _ _ (by omega) (by omega)]
    exact impl_Crc_l1 s i _ 8 _ 0 (crcIn_lt s i hc) (by omega) (by omega) (by omega) (ih (i + 1) _ (crcRounds_lt 8 _ (crcIn_lt s i hc)) (by omega) (by omega))
theorem impl_Crc_ev (s : ByteArray) (hs : s.size ≤ 140737488351232) : Ev (fun k => impl_Crc.f k s) (crcV s) := by
  unfold impl_Crc.f
  exact impl_Crc_l0 s hs s.size 0 4294967295 (by decide) (by omega) (by omega)

theorem impl_Frame_ev (b : ByteArray) (hb : b.size ≤ 140737488351232) : Ev (fun k => impl_Frame.f k b) (frameV b) := by
  unfold impl_Frame.f frameV
  refine Ev.bind0 (impl_within_eq _ _ _) ?_
  by_cases c : 1 ≤ b.size ∧ b.size ≤ 2000
  · rw [if_pos c]
    have h4 : (strOfNums (fixedV (b.size : Int) 4)).size = 4 := by rw [strOf_size, fixedV_4 (by omega) (by omega), fixL_length]
    have hc := crcV_range (strOfNums (fixedV (b.size : Int) 4) ++ b)
    have h5 : (strOfNums (fixedV (crcV (strOfNums (fixedV (b.size : Int) 4) ++ b)) 4)).size = 4 := by rw [strOf_size, fixedV_4 hc.1 hc.2, fixL_length]
    refine Ev.pos (by simp; omega) (Ev.bind (impl_Fixed_ev _ _ (by omega)) (Ev.pos (by omega) ?_))
    refine Ev.bind (impl_Crc_ev _ (by rw [size_append]; omega)) (Ev.bind (impl_Fixed_ev _ _ (by omega)) ?_)
    exact Ev.pos (by omega) (Ev.pos (by rw [size_append]; omega) (Ev.now _))
  · rw [if_neg c]
    exact Ev.neg (by simp; omega) (Ev.now _)

theorem impl_Sha_pre_ev (a : ByteArray) (h : a.size ≤ 140737488351232) : Ev (fun k => impl_Sha.pre k a) (padV a) := by
  unfold impl_Sha.pre
  have e1 : wrap64 ((a.size : Int) + 9) = ((a.size + 9 : Nat) : Int) := by rw [w64 (by omega) (by omega)]; omega
  have e2 : Int.tmod ((a.size + 9 : Nat) : Int) 64 = (((a.size + 9) % 64 : Nat) : Int) := by rw [tmod_nn (by omega)]; omega
  have e3 : wrap64 (64 - (((a.size + 9) % 64 : Nat) : Int)) = ((64 - (a.size + 9) % 64 : Nat) : Int) := by rw [w64 (by omega) (by omega)]; omega
  have e4 : Int.tmod ((64 - (a.size + 9) % 64 : Nat) : Int) 64 = ((zerosV a.size : Nat) : Int) := by rw [tmod_nn (by omega)]; unfold zerosV; omega
  have hz := zerosV_mod a.size
  have e5 : wrap64 (((zerosV a.size : Nat) : Int) + 1) = ((zerosV a.size + 1 : Nat) : Int) := by rw [w64 (by omega) (by omega)]; omega
  simp only [e1, e2, e3, e4, e5]
  have e6 : wrap64 (8 * (a.size : Int)) = 8 * (a.size : Int) := w64 (by omega) (by omega)
  rw [e6, int_toNat_nat]
  have hs : (⟨#[128]⟩ : ByteArray).size = 1 := rfl
  refine Ev.pos (by omega) (Ev.pos (by omega) (Ev.pos (by omega) (Ev.bind0 rfl (Ev.pos ?_ (Ev.bind (impl_Fixed_ev _ _ (by omega)) (Ev.pos ?_ (Ev.val _ _ ?_)))))))
  · rw [ByteArray.size_append, strOf_size, List.length_replicate, hs]; omega
  · have := fixedV_len (8 * (a.size : Int)) 7
    rw [ByteArray.size_append, ByteArray.size_append, strOf_size, strOf_size, List.length_replicate, hs]; omega
  · unfold padV tailL
    rw [show (⟨#[128]⟩ : ByteArray) = strOfNums [128] from rfl]
    simp only [ByteArray.append_assoc, strOf_append]
    rfl
theorem impl_Sha_l0_ev (p : ByteArray) (n : Nat) : ∀ (i : Nat) (s : List Int), p.size = i + 64 * n → Ev (fun k => impl_Sha.l0 k s p i) (blkV p n i s) := by
  induction n with
  | zero =>
    intro i s h
    refine Ev.step (fun k => by rw [impl_Sha.l0]) ?_
    exact Ev.neg (by omega) (Ev.now _)
  | succ n ih =>
    intro i s h
    refine Ev.step (fun k => by rw [impl_Sha.l0]) ?_
    exact Ev.pos (by omega) (Ev.pos (by omega) (ih _ _ (by omega)))
theorem impl_Sha_l1_ev (s : List Int) (h8 : s.length = 8) (hs : ∀ x ∈ s, 0 ≤ x ∧ x < 4294967296) (n : Nat) : ∀ (i : Nat) (o : List Int), s.length = i + n → o.length ≤ 7 * i → i ≤ 8 → n ≤ 8 →
    Ev (fun k => impl_Sha.l1 k s n i (strOfNums o)) (strOfNums (o ++ outL (s.drop i))) := by
  induction n with
  | zero =>
    intro i o h ho hi hn
    refine Ev.val _ _ ?_
    rw [List.drop_of_length_le (by omega)]
    simp [outL]
  | succ n ih =>
    intro i o h ho hi hn
    have hl : i < s.length := by omega
    have hx := hs _ (List.getElem_mem hl)
    have e : s.getD i 0 = s[i] := by simp [List.getElem?_eq_getElem hl]
    have hd : s.drop i = s[i] :: s.drop (i + 1) := List.drop_eq_getElem_cons hl
    have h4 := fixedV_len (s[i]) 4
    simp only [impl_Sha.l1]
    rw [e]
    have hf := impl_Fixed_ev s[i] 4 (by omega)
    have hz : (strOfNums o).size + (strOfNums (fixedV s[i] 4)).size ≤ 9223372036854775807 := by
      rw [strOf_size, strOf_size]
      omega
    refine Ev.bind hf (Ev.pos hz ?_)
    rw [strOf_append]
    have := ih (i + 1) (o ++ fixedV s[i] 4) (by omega) (by rw [List.length_append]; omega) (by omega) (by omega)
    rw [hd]
    simpa [outL, List.append_assoc] using this
theorem impl_Sha_ev (a : ByteArray) (h : a.size ≤ 140737488351232) : Ev (fun k => impl_Sha.f k a) (shaV a) := by
  unfold impl_Sha.f
  have hp := padV_size a h
  have hz := zerosV_mod a.size
  have hu := blkV_u (padV a) ((padV a).size / 64) 0 shaInit shaInit_u
  refine Ev.bind (impl_Sha_pre_ev a h) (Ev.bind (impl_Sha_l0_ev (padV a) ((padV a).size / 64) 0 shaInit (by omega)) (Ev.pos ⟨hu.1, hu.2, by omega⟩ ?_))
  have := impl_Sha_l1_ev _ hu.1 hu.2 8 0 [] (by rw [hu.1]) (by simp) (by omega) (by omega)
  rw [List.drop_zero, List.nil_append] at this
  exact this

theorem impl_ShowSnap_j0 (i t : Int) (d : ByteArray) (hi : i ≤ 9223372036854775807) (ht : t ≤ 9223372036854775807) (hd : d.size ≤ 8000) : Ev (fun k => impl_ShowSnap.j0 k false i t d) (frameV (snapHead i t d) ++ d) := by
  refine Ev.step (fun k => by rw [impl_ShowSnap.j0]) ?_
  have h1 := fixedV_len i 4
  have h2 := fixedV_len t 4
  have h3 := fixedV_len (d.size : Int) 4
  have h4 := shaV_size d
  have h5 := snapHead_size i t d
  have h6 := frameV_le (snapHead i t d)
  refine Ev.neg (by simp) (Ev.bind (impl_Fixed_ev i 4 hi) (Ev.bind (impl_Fixed_ev t 4 ht) (Ev.pos (by simp only [strOf_size]; omega) (Ev.bind (impl_Fixed_ev _ 4 (by omega)) (Ev.pos (by simp only [ByteArray.size_append, strOf_size]; omega)
    (Ev.bind (impl_Sha_ev d (by omega)) (Ev.pos (by simp only [ByteArray.size_append, strOf_size]; omega) (Ev.bind (impl_Frame_ev (snapHead i t d) (by omega)) (Ev.pos (by omega) (Ev.now _))))))))))
theorem impl_ShowSnap_ev (i t : Int) (d : ByteArray) (hi : i ≤ 9223372036854775807) (ht : t ≤ 9223372036854775807) : Ev (fun k => impl_ShowSnap.f k i t d) (showSnapV i t d) := by
  unfold impl_ShowSnap.f showSnapV
  refine Ev.bind0 (impl_SnapOk_eq i t d) ?_
  by_cases c : snapOkV i t d = true
  · refine Ev.pos c ?_
    have hd := snapOk_le c
    rw [snapOk_zero c]
    by_cases z : i = 0
    · rw [decide_eq_true z, if_neg (by simp [z])]
      refine Ev.step (fun k => by rw [impl_ShowSnap.j0]) ?_
      exact Ev.pos rfl (Ev.now _)
    · rw [decide_eq_false z, if_pos ⟨c, z⟩]
      exact impl_ShowSnap_j0 i t d hi ht hd
  · refine Ev.neg c ?_
    rw [if_neg (by simp [c])]
    refine Ev.step (fun k => by rw [impl_ShowSnap.j0]) ?_
    exact Ev.pos rfl (Ev.now _)

theorem impl_ReadFixed_l0 (s : ByteArray) (d : Nat) : ∀ (w i n : Int), 0 ≤ i → w - i = d → w ≤ 7 → w ≤ (s.size : Int) → 0 ≤ n → n < 256 ^ i.toNat →
    Ev (fun k => impl_ReadFixed.l0 k s w n i) (beAcc s d i n, true) := by
  induction d with
  | zero =>
    intro w i n hi hd hw hs hn hn2
    refine Ev.step (fun k => by rw [impl_ReadFixed.l0]) ?_
    exact Ev.neg (by omega) (Ev.now _)
  | succ d ih =>
    intro w i n hi hd hw hs hn hn2
    refine Ev.step (fun k => by rw [impl_ReadFixed.l0]) ?_
    refine Ev.pos (by omega) (Ev.pos (by omega) (Ev.pos (by omega) ?_))
    have hb := bt_range s i
    have h6 := pow256_six i hi (by omega)
    have h7 : (256 : Int) ^ (i + 1).toNat = 256 ^ i.toNat * 256 := by
      rw [show (i + 1).toNat = i.toNat + 1 by omega, Int.pow_succ]
    rw [wbt, w64 (x := n * 256) (by omega) (by omega), or_join 8 (n * 256) (bt s i) (by omega) (by omega) (by omega) (by omega) (by omega) (by omega), w64 (by omega) (by omega)]
    exact ih w (i + 1) (n * 256 + bt s i) (by omega) (by omega) hw hs (by omega) (by omega)
theorem impl_ReadFixed_ev (s : ByteArray) (w : Int) : Ev (fun k => impl_ReadFixed.f k s w) (readFixedV s w) := by
  unfold impl_ReadFixed.f readFixedV
  refine Ev.bind0 (impl_within_eq _ _ _) ?_
  by_cases c : 1 ≤ w ∧ w ≤ 7
  · refine Ev.pos (by simp; omega) ?_
    refine Ev.step (fun k => by rw [impl_ReadFixed.j0]) ?_
    by_cases c2 : w ≤ (s.size : Int)
    · rw [if_pos (by omega)]
      exact Ev.neg (by simp; omega) (impl_ReadFixed_l0 s w.toNat w 0 0 (by omega) (by omega) (by omega) c2 (by omega) (by simp))
    · rw [if_neg (by omega)]
      exact Ev.pos (by simp; omega) (Ev.now _)
  · rw [if_neg (by omega)]
    refine Ev.neg (by simp; omega) ?_
    refine Ev.step (fun k => by rw [impl_ReadFixed.j0]) ?_
    exact Ev.pos rfl (Ev.now _)

theorem impl_Unframe_ev (s : ByteArray) (hs : s.size ≤ 140737488351232) : Ev (fun k => impl_Unframe.f k s) (unframeV s) := by
  have hr := beAcc4 s
  unfold impl_Unframe.f unframeV
  refine Ev.bind (impl_ReadFixed_ev s 4) ?_
  rw [readFixed4]
  by_cases c : 4 ≤ s.size
  · rw [if_pos c, if_pos c]
    refine Ev.pos rfl ?_
    simp only []
    generalize beAcc s 4 0 0 = n at hr
    refine Ev.bind0 (impl_within_eq _ _ _) ?_
    by_cases c1 : 1 ≤ n ∧ n ≤ 2000
    · rw [if_pos c1, w64 (by omega) (by omega)]
      refine Ev.pos (by simpa using c1) ?_
      by_cases c2 : (s.size : Int) < 8 + n
      · rw [if_pos c2]; exact Ev.pos c2 (Ev.now _)
      · rw [if_neg c2]
        refine Ev.neg c2 (Ev.pos (by omega) (Ev.pos (by omega) ?_))
        refine Ev.bind (impl_Frame_ev _ (by have := extract_le s 8 (8 + n).toNat; omega)) (Ev.pos (by omega) ?_)
        by_cases c3 : (frameV (s.extract 8 (8 + n).toNat)).toList = (s.extract 0 (8 + n).toNat).toList
        · refine Ev.pos c3 ?_; rw [if_pos c3]; exact Ev.now _
        · refine Ev.neg c3 ?_; rw [if_neg c3]; exact Ev.now _
    · rw [if_neg c1]
      exact Ev.neg (by simpa using c1) (Ev.now _)
  · rw [if_neg c, if_neg c]
    exact Ev.neg (by simp) (Ev.now _)

theorem impl_ReadSnap_ev (s : ByteArray) (hs : s.size ≤ 140737488351232) : Ev (fun k => impl_ReadSnap.f k s) (readSnapV s) := by
  unfold impl_ReadSnap.f readSnapV
  refine Ev.bind (impl_Unframe_ev s hs) ?_
  have hbad : ¬ ((unframeV s).2.2 = 0 ∧ (unframeV s).1.size = 44) → Ev (fun k => impl_ReadSnap.j0 k s (unframeV s).1 (unframeV s).2.1 true)
      (if (unframeV s).2.2 = 0 ∧ (unframeV s).1.size = 44 ∧ showSnapV (beAcc (unframeV s).1 4 0 0) (beAcc ((unframeV s).1.extract 4 (unframeV s).1.size) 4 0 0) (s.extract (unframeV s).2.1.toNat s.size) = s
        then (beAcc (unframeV s).1 4 0 0, beAcc ((unframeV s).1.extract 4 (unframeV s).1.size) 4 0 0, s.extract (unframeV s).2.1.toNat s.size, true) else (0, 0, ⟨#[]⟩, false)) := by
    intro h
    rw [if_neg (fun g => h ⟨g.1, g.2.1⟩)]
    refine Ev.step (fun k => by rw [impl_ReadSnap.j0]) ?_
    exact Ev.pos rfl (Ev.now _)
  by_cases hu : (unframeV s).2.2 = 0
  · have ho := unframe_ok hu
    refine Ev.pos hu ?_
    by_cases c : (unframeV s).1.size = 44
    · have e : (((unframeV s).1.size : Int) != 44) = false := by rw [c]; rfl
      rw [e]
      refine Ev.step (fun k => by rw [impl_ReadSnap.j0]) ?_
      have e1 : readFixedV (unframeV s).1 4 = (beAcc (unframeV s).1 4 0 0, true) := by rw [readFixed4, if_pos (by omega)]
      have e2 : readFixedV ((unframeV s).1.extract 4 (unframeV s).1.size) 4 = (beAcc ((unframeV s).1.extract 4 (unframeV s).1.size) 4 0 0, true) := by
        rw [readFixed4, if_pos (by rw [ByteArray.size_extract]; omega)]
      have hb1 := beAcc4 (unframeV s).1
      have hb2 := beAcc4 ((unframeV s).1.extract 4 (unframeV s).1.size)
      refine Ev.neg (by simp) (Ev.pos (by omega) (Ev.pos (by omega) (Ev.bind (impl_ReadFixed_ev _ _) (Ev.pos (by omega) (Ev.bind (impl_ReadFixed_ev _ _) ?_)))))
      rw [e1, e2]
      refine Ev.bind (impl_ShowSnap_ev _ _ _ (by simp only; omega) (by simp only; omega)) ?_
      exact Ev.ite (by rw [tl_iff]; exact ⟨fun h => ⟨hu, c, h⟩, fun h => h.2.2⟩) (fun _ => Ev.now _) (fun _ => Ev.now _)
    · have e : (((unframeV s).1.size : Int) != 44) = true := by simp; omega
      rw [e]
      exact hbad fun h => c h.2
  · exact Ev.neg hu (hbad fun h => hu h.1)

theorem spec_l1New_ex (l : List Int) : ∃ h, Ev (fun k => spec_l1New.f k l) (l, 0, h) := by
  have key : ∀ (d i : Nat) (h : Int), i + d = 4000 → ∃ h', Ev (fun k => spec_l1New.l0 k l h (i : Int)) (l, 0, h') := by
    intro d
    induction d with
    | zero =>
      intro i h hi
      by_cases c : (i : Int) < (l.length : Int)
      · exact ⟨h, Ev.step (fun k => by rw [spec_l1New.l0]) (Ev.pos c (Ev.neg (by omega) (Ev.now _)))⟩
      · exact ⟨h, Ev.step (fun k => by rw [spec_l1New.l0]) (Ev.neg c (Ev.now _))⟩
    | succ d ih =>
      intro i h hi
      by_cases c : (i : Int) < (l.length : Int)
      · obtain ⟨h', e⟩ := ih (i + 1) (Go.bits .and .i64 (wrap64 ((wrap64 ((wrap64 (h * 131)) + (wrap64 (rd l (i : Int))))) + 7)) 1073741823) (by omega)
        have e1 : ((i + 1 : Nat) : Int) = (i : Int) + 1 := by omega
        rw [e1] at e
        refine ⟨h', Ev.step (fun k => by rw [spec_l1New.l0]) (Ev.pos c (Ev.pos (by omega) (Ev.pos (by omega) ?_)))⟩
        rw [w64 (x := (i : Int) + 1) (by omega) (by omega)]
        exact e
      · exact ⟨h, Ev.step (fun k => by rw [spec_l1New.l0]) (Ev.neg c (Ev.now _))⟩
  unfold spec_l1New.f
  exact key 4000 0 _ (by omega)

theorem and255_range (x : Int) : 0 ≤ Go.bits .and .i64 x 255 ∧ Go.bits .and .i64 x 255 ≤ 255 := by
  have h : ((BitVec.ofInt IntKind.i64.bits x &&& BitVec.ofInt IntKind.i64.bits 255).toNat : Int) ≤ 255 := by
    have e : (BitVec.ofInt IntKind.i64.bits (255 : Int)).toNat = 255 := by decide
    rw [BitVec.toNat_and, e]
    have := @Nat.and_le_right (BitVec.ofInt IntKind.i64.bits x).toNat 255
    omega
  simp only [Go.bits]
  rw [wraps_i64 _ (Int.natCast_nonneg _) (by omega)]
  exact ⟨Int.natCast_nonneg _, h⟩
/-- a place in what a draw reads -/
abbrev curP (b : List Int) (i : Int) : Prop := 0 ≤ i ∧ i ≤ b.length
theorem spec_l1Byte_ex (b : List Int) (hb : b.length ≤ 4000000) (i h : Int) (hi : curP b i) : ∃ x i' h', spec_l1Byte.f b i h = some (x, i', h') ∧ (0 ≤ x ∧ x ≤ 255) ∧ curP b i' := by
  unfold spec_l1Byte.f
  by_cases c : i < (b.length : Int)
  · rw [if_pos c, if_pos hi.1]
    exact ⟨_, _, _, rfl, and255_range _, by rw [w64 (by omega) (by omega)]; exact ⟨by omega, by omega⟩⟩
  · rw [if_neg c]
    exact ⟨_, _, _, rfl, and255_range _, hi⟩

theorem spec_l1Below_ex (b : List Int) (hb : b.length ≤ 4000000) (i h : Int) (hi : curP b i) (n : Int) : ∃ x i' h', spec_l1Below.f b i h n = some (x, i', h') ∧ (0 ≤ x ∧ (n ≤ 0 → x = 0) ∧ (0 < n → x < n)) ∧ curP b i' := by
  unfold spec_l1Below.f
  by_cases c : n ≤ 0
  · rw [if_pos c]; exact ⟨0, i, h, rfl, ⟨by omega, fun _ => rfl, fun e => by omega⟩, hi⟩
  · rw [if_neg c]
    by_cases c2 : n ≤ 256
    · rw [if_pos c2]
      obtain ⟨x, i', h', e, hx, hi'⟩ := spec_l1Byte_ex b hb i h hi
      rw [e]
      simp only [Option.bind_some]
      rw [if_neg (show ¬ n = 0 by omega)]
      refine ⟨_, _, _, rfl, ?_, hi'⟩
      rw [tmod_nn hx.1]
      have h1 := Int.emod_nonneg x (show n ≠ 0 by omega)
      have h2 := Int.emod_lt_of_pos x (show 0 < n by omega)
      exact ⟨h1, fun e => by omega, fun _ => h2⟩
    · rw [if_neg c2]
      obtain ⟨x, i1, h1, e1, hx, hi1⟩ := spec_l1Byte_ex b hb i h hi
      obtain ⟨y, i2, h2, e2, hy, hi2⟩ := spec_l1Byte_ex b hb i1 h1 hi1
      obtain ⟨z, i3, h3, e3, hz, hi3⟩ := spec_l1Byte_ex b hb i2 h2 hi2
      obtain ⟨w, i4, h4, e4, hw, hi4⟩ := spec_l1Byte_ex b hb i3 h3 hi3
      simp only [e1, e2, e3, e4, Option.bind_some]
      rw [if_neg (show ¬ n = 0 by omega)]
      refine ⟨_, _, _, rfl, ?_, hi4⟩
      rw [w64 (x := x * 16777216) (by omega) (by omega), w64 (x := y * 65536) (by omega) (by omega), w64 (x := z * 256) (by omega) (by omega), w64 (x := x * 16777216 + y * 65536) (by omega) (by omega), w64 (x := x * 16777216 + y * 65536 + z * 256) (by omega) (by omega), w64 (x := x * 16777216 + y * 65536 + z * 256 + w) (by omega) (by omega), tmod_nn (by omega)]
      have g1 := Int.emod_nonneg (x * 16777216 + y * 65536 + z * 256 + w) (show n ≠ 0 by omega)
      have g2 := Int.emod_lt_of_pos (x * 16777216 + y * 65536 + z * 256 + w) (show 0 < n by omega)
      exact ⟨g1, fun e => by omega, fun _ => g2⟩

theorem spec_l1Text_l0 (b : List Int) (hb : b.length ≤ 4000000) (md : Int) (d : Nat) : ∀ (xs : List Int) (i h : Int), curP b i → xs.length + d ≤ 1048576 →
    ∃ s i' h', Ev (fun k => spec_l1Text.l0 k xs md (d : Int) b i h) (s, i', h') ∧ s.size = xs.length + d ∧ curP b i' := by
  induction d with
  | zero =>
    intro xs i h hi _
    exact ⟨_, _, _, Ev.step (fun k => by rw [spec_l1Text.l0]) (Ev.neg (by omega) (Ev.now _)), by rw [strOf_size]; rfl, hi⟩
  | succ d ih =>
    intro xs i h hi hx
    obtain ⟨x, i', h', e, hr, hi'⟩ := spec_l1Byte_ex b hb i h hi
    have ed : wrap64 (((d + 1 : Nat) : Int) - 1) = (d : Int) := by rw [w64 (by omega) (by omega)]; omega
    have go (v : Int) := ih (xs ++ [v]) i' h' hi' (by simp; omega)
    have hlen (v : Int) : (xs ++ [v]).length + d = xs.length + (d + 1) := by simp; omega
    by_cases c1 : md = 1
    · by_cases c2 : md = 2
      · omega
      · obtain ⟨s, i2, h2, e2, hs, hi2⟩ := go ((Int.tmod x 2) % 256)
        refine ⟨s, i2, h2, Ev.step (fun k => by rw [spec_l1Text.l0]) (Ev.pos (by omega) (Ev.bind0 e (Ev.pos c1 (Ev.neg c2 (Ev.pos (show xs.length < 140737488355328 by omega) ?_))))), by rw [hs]; exact hlen _, hi2⟩
        rw [ed]; exact e2
    · by_cases c2 : md = 2
      · obtain ⟨s, i2, h2, e2, hs, hi2⟩ := go ((wrap64 (97 + (Int.tmod x 4))) % 256)
        refine ⟨s, i2, h2, Ev.step (fun k => by rw [spec_l1Text.l0]) (Ev.pos (by omega) (Ev.bind0 e (Ev.neg c1 (Ev.pos c2 (Ev.pos (show xs.length < 140737488355328 by omega) ?_))))), by rw [hs]; exact hlen _, hi2⟩
        rw [ed]; exact e2
      · obtain ⟨s, i2, h2, e2, hs, hi2⟩ := go (x % 256)
        refine ⟨s, i2, h2, Ev.step (fun k => by rw [spec_l1Text.l0]) (Ev.pos (by omega) (Ev.bind0 e (Ev.neg c1 (Ev.neg c2 (Ev.pos (show xs.length < 140737488355328 by omega) ?_))))), by rw [hs]; exact hlen _, hi2⟩
        rw [ed]; exact e2
theorem spec_l1Text_ex (b : List Int) (hb : b.length ≤ 4000000) (i h : Int) (hi : curP b i) (n : Int) (h0 : 0 ≤ n) (hn : n ≤ 1000000) :
    ∃ s i' h', Ev (fun k => spec_l1Text.f k b i h n) (s, i', h') ∧ (s.size : Int) ≤ n ∧ curP b i' := by
  obtain ⟨x, i1, h1, e1, _, hi1⟩ := spec_l1Below_ex b hb i h hi 4
  obtain ⟨y, i2, h2, e2, hy, hi2⟩ := spec_l1Below_ex b hb i1 h1 hi1 (n + 1)
  obtain ⟨m, rfl⟩ := Int.eq_ofNat_of_zero_le hy.1
  have hm := hy.2.2 (by omega)
  obtain ⟨s, i3, h3, e3, hs, hi3⟩ := spec_l1Text_l0 b hb x m [] i2 h2 hi2 (by simp; omega)
  refine ⟨s, i3, h3, ?_, by rw [hs]; simp; omega, hi3⟩
  unfold spec_l1Text.f
  rw [w64 (by omega) (by omega)]
  exact Ev.bind0 e1 (Ev.bind0 e2 e3)

theorem spec_l1Once_ex (b : List Int) (hb : b.length ≤ 4000000) (i h : Int) (hi : curP b i) (n : Int) : ∃ x i' h', spec_l1Once.f b i h n = some (x, i', h') ∧ curP b i' := by
  obtain ⟨x, i1, h1, e, hx, hi1⟩ := spec_l1Below_ex b hb i h hi n
  refine ⟨x == 0, i1, h1, ?_, hi1⟩
  unfold spec_l1Once.f; rw [e]; rfl

theorem rd_get (l : List Int) (i : Nat) (h : i < l.length) : rd l (i : Int) = l[i] := by
  unfold rd
  rw [Int.toNat_natCast, List.getD_eq_getElem?_getD, List.getElem?_eq_getElem h]; rfl
theorem rd_drop (l : List Int) (i : Nat) (h : i < l.length) : l.drop i = rd l (i : Int) :: l.drop (i + 1) := by
  rw [rd_get l i h]; exact List.drop_eq_getElem_cons h

theorem spec_l1PickInt_ex (b : List Int) (hb : b.length ≤ 4000000) (i h : Int) (hi : curP b i) (l : List Int) (hl : 0 < l.length) : ∃ x i' h', spec_l1PickInt.f b i h l = some (x, i', h') ∧ x ∈ l ∧ curP b i' := by
  obtain ⟨x, i1, h1, e, hx, hi1⟩ := spec_l1Below_ex b hb i h hi (l.length : Int)
  have hx2 := hx.2.2 (by omega)
  obtain ⟨n, rfl⟩ := Int.eq_ofNat_of_zero_le hx.1
  refine ⟨rd l (n : Int), i1, h1, ?_, ?_, hi1⟩
  · unfold spec_l1PickInt.f
    rw [e]
    simp only [Option.bind_some]
    rw [if_pos hx.1, if_pos hx2]
  · rw [rd_get l n (by omega)]; exact List.getElem_mem _

def snapR (i t : Int) (d : ByteArray) : Prop := -1 ≤ i ∧ i ≤ 100001 ∧ -1 ≤ t ∧ t ≤ 100001 ∧ d.size ≤ 8001
theorem spec_l6Snap_l0_ex (b : List Int) (i h x y : Int) (s : ByteArray) (n : Nat) (hn : n ≤ 8001) (d : Nat) : ∀ (xs : List Int), xs.length + d = n →
    ∃ r, Ev (fun k => spec_l6Snap.l0 k (n : Int) xs b i h x y s) (x, y, r, i, h) ∧ r.size ≤ 8001 := by
  induction d with
  | zero =>
    intro xs hx
    refine ⟨strOfNums xs, Ev.step (fun k => by rw [spec_l6Snap.l0]) (Ev.neg (by omega) (Ev.now _)), ?_⟩
    rw [strOf_size]; omega
  | succ d ih =>
    intro xs hx
    obtain ⟨r, e, hr⟩ := ih (xs ++ [(xs.length : Int) % 7]) (by rw [List.length_append]; simp; omega)
    exact ⟨r, Ev.step (fun k => by rw [spec_l6Snap.l0]) (Ev.pos (by omega) (Ev.pos (by omega) e)), hr⟩
theorem spec_l6Snap_ex (b : List Int) (hb : b.length ≤ 4000000) (i h : Int) (hi : curP b i) : ∃ x y s i' h', Ev (fun k => spec_l6Snap.f k b i h) (x, y, s, i', h') ∧ snapR x y s ∧ curP b i' := by
  unfold spec_l6Snap.f snapR
  obtain ⟨o1, i1, h1, e1, hi1⟩ := spec_l1Once_ex b hb i h hi 8
  cases o1 with
  | true => exact ⟨0, 0, ⟨#[]⟩, i1, h1, Ev.bind0 e1 (Ev.pos rfl (Ev.now _)), ⟨by omega, by omega, by omega, by omega, by decide⟩, hi1⟩
  | false =>
    obtain ⟨x, i2, h2, e2, hx, hi2⟩ := spec_l1Below_ex b hb i1 h1 hi1 12
    obtain ⟨y, i3, h3, e3, hy, hi3⟩ := spec_l1Below_ex b hb i2 h2 hi2 6
    obtain ⟨s, i4, h4, e4, hs, hi4⟩ := spec_l1Text_ex b hb i3 h3 hi3 30 (by omega) (by omega)
    obtain ⟨o2, i5, h5, e5, hi5⟩ := spec_l1Once_ex b hb i4 h4 hi4 40
    have hx2 := hx.2.2 (by omega)
    have hy2 := hy.2.2 (by omega)
    have w1 : wrap64 (1 + x) = 1 + x := w64 (by omega) (by omega)
    have w2 : wrap64 (1 + y) = 1 + y := w64 (by omega) (by omega)
    cases o2 with
    | true =>
      obtain ⟨z, i6, h6, e6, hz, hi6⟩ := spec_l1Below_ex b hb i5 h5 hi5 2
      have hz2 := hz.2.2 (by omega)
      obtain ⟨r, er, hr⟩ := spec_l6Snap_l0_ex b i6 h6 (1 + x) (1 + y) s (8000 + z).toNat (by omega) (8000 + z).toNat [] (by simp)
      have w3 : wrap64 (8000 + z) = (((8000 + z).toNat : Nat) : Int) := by rw [w64 (by omega) (by omega)]; omega
      refine ⟨1 + x, 1 + y, r, i6, h6, Ev.bind0 e1 (Ev.neg (by simp) (Ev.bind0 e2 (Ev.bind0 e3 (Ev.bind e4 (Ev.bind0 e5 (Ev.pos rfl (Ev.bind0 e6 ?_))))))), ⟨by omega, by omega, by omega, by omega, hr⟩, hi6⟩
      simp only [w1, w2, w3]
      exact er
    | false =>
      refine ⟨1 + x, 1 + y, s, i5, h5, Ev.bind0 e1 (Ev.neg (by simp) (Ev.bind0 e2 (Ev.bind0 e3 (Ev.bind e4 (Ev.bind0 e5 (Ev.neg (by simp) ?_)))))), ⟨by omega, by omega, by omega, by omega, by omega⟩, hi5⟩
      simp only [w1, w2]
      exact Ev.now _
theorem pick_r {x : Int} (h : x ∈ ([-1, 0, 1, 100000, 100001] : List Int)) : -1 ≤ x ∧ x ≤ 100001 := by
  simp only [List.mem_cons, List.not_mem_nil, or_false] at h
  omega
theorem spec_l6AnySnap_ex (b : List Int) (hb : b.length ≤ 4000000) (i h : Int) (hi : curP b i) : ∃ x y s i' h', Ev (fun k => spec_l6AnySnap.f k b i h) (x, y, s, i', h') ∧ snapR x y s ∧ curP b i' := by
  unfold spec_l6AnySnap.f
  obtain ⟨x, y, s, i1, h1, e1, hr, hi1⟩ := spec_l6Snap_ex b hb i h hi
  obtain ⟨o2, i2, h2, e2, hi2⟩ := spec_l1Once_ex b hb i1 h1 hi1 8
  have step : ∀ (x' i3 h3 : Int), curP b i3 → -1 ≤ x' ∧ x' ≤ 100001 → ∃ a c s' i' h', Ev (fun k => spec_l6AnySnap.j0 k b i3 h3 x' y s) (a, c, s', i', h') ∧ snapR a c s' ∧ curP b i' := by
    intro x' i3 h3 hi3 hx'
    obtain ⟨o4, i4, h4, e4, hi4⟩ := spec_l1Once_ex b hb i3 h3 hi3 8
    unfold snapR at hr ⊢
    cases o4 with
    | true =>
      obtain ⟨z, i5, h5, e5, hz, hi5⟩ := spec_l1PickInt_ex b hb i4 h4 hi4 [-1, 0, 1, 100000, 100001] (by decide)
      have hz2 := pick_r hz
      refine ⟨x', z, s, i5, h5, Ev.step (fun k => by rw [spec_l6AnySnap.j0]) ?_, ⟨by omega, by omega, by omega, by omega, hr.2.2.2.2⟩, hi5⟩
      exact Ev.bind0 e4 (Ev.pos rfl (Ev.bind0 e5 (Ev.now _)))
    | false =>
      refine ⟨x', y, s, i4, h4, Ev.step (fun k => by rw [spec_l6AnySnap.j0]) ?_, ⟨by omega, by omega, by omega, by omega, hr.2.2.2.2⟩, hi4⟩
      exact Ev.bind0 e4 (Ev.neg (by simp) (Ev.now _))
  cases o2 with
  | true =>
    obtain ⟨z, i3, h3, e3, hz, hi3⟩ := spec_l1PickInt_ex b hb i2 h2 hi2 [-1, 0, 1, 100000, 100001] (by decide)
    obtain ⟨a, c, s', i', h', e, hr', hi'⟩ := step z i3 h3 hi3 (pick_r hz)
    exact ⟨a, c, s', i', h', Ev.bind e1 (Ev.bind0 e2 (Ev.pos rfl (Ev.bind0 e3 e))), hr', hi'⟩
  | false =>
    obtain ⟨a, c, s', i', h', e, hr', hi'⟩ := step x i2 h2 hi2 ⟨hr.1, hr.2.1⟩
    exact ⟨a, c, s', i', h', Ev.bind e1 (Ev.bind0 e2 (Ev.neg (by simp) e)), hr', hi'⟩
theorem spec_DrawShowSnap_ex (l : List Int) (hl : l.length ≤ 4000000) : ∃ x y s, Ev (fun k => spec_DrawShowSnap.f k l) (x, y, s) ∧ snapR x y s := by
  obtain ⟨h, e⟩ := spec_l1New_ex l
  obtain ⟨x, y, s, i, h2, e2, hr, _⟩ := spec_l6AnySnap_ex l hl 0 h ⟨by omega, by omega⟩
  refine ⟨x, y, s, ?_, hr⟩
  unfold spec_DrawShowSnap.f
  exact Ev.bind e (Ev.bind e2 (Ev.now _))

/-! a frame is read as its body (as in FnFrames) -/
def goodB (b : ByteArray) : Prop := 1 ≤ b.size ∧ b.size ≤ 2000
theorem fix4 (n : Nat) : fixL 4 n = [((n / 256 / 256 / 256 % 256 : Nat) : Int), ((n / 256 / 256 % 256 : Nat) : Int), ((n / 256 % 256 : Nat) : Int), ((n % 256 : Nat) : Int)] := rfl
theorem be_of_head {s : ByteArray} {n : Nat} (hn : n ≤ 4294967295) {xs : List Int} (h : bl s = fixL 4 n ++ xs) : beAcc s 4 0 0 = n := by
  have e0 : bt s 0 = ((n / 256 / 256 / 256 % 256 : Nat) : Int) := by rw [bt_bl, h, fix4]; rfl
  have e1 : bt s (0 + 1) = ((n / 256 / 256 % 256 : Nat) : Int) := by rw [bt_bl, h, fix4]; rfl
  have e2 : bt s (0 + 1 + 1) = ((n / 256 % 256 : Nat) : Int) := by rw [bt_bl, h, fix4]; rfl
  have e3 : bt s (0 + 1 + 1 + 1) = ((n % 256 : Nat) : Int) := by rw [bt_bl, h, fix4]; rfl
  simp only [beAcc, e0, e1, e2, e3]
  omega
theorem fixL_isB : ∀ (w n : Nat), IsB (fixL w n)
  | 0, _ => isB_nil
  | w + 1, n => isB_append (fixL_isB w (n / 256)) (isB_cons (by omega) isB_nil)
theorem frame_bl {b : ByteArray} (h : goodB b) : ∃ t, bl (frameV b) = fixL 4 b.size ++ (t ++ bl b) ∧ t.length = 4 := by
  unfold goodB at h
  refine ⟨bl (strOfNums (fixedV (crcV (strOfNums (fixedV b.size 4) ++ b)) 4)), ?_, ?_⟩
  · unfold frameV
    have hc : (b.size : Int) ≤ 4294967295 := by omega
    rw [if_pos h, bl_append, bl_append, fixedV_4 (n := (b.size : Int)) (by omega) hc, Int.toNat_natCast, bl_strOf (fixL_isB _ _), List.append_assoc]
  · have hr := crcV_range (strOfNums (fixedV b.size 4) ++ b)
    rw [fixedV_4 hr.1 hr.2, bl_strOf (fixL_isB _ _), fixL_length]
theorem frame_size {b : ByteArray} (h : goodB b) : (frameV b).size = 8 + b.size := by
  obtain ⟨t, e, ht⟩ := frame_bl h
  rw [← bl_length, e, List.length_append, List.length_append, fixL_length, ht, bl_length]; omega
theorem unframe_frame {b s : ByteArray} (h : goodB b) {xs : List Int} (e : bl s = bl (frameV b) ++ xs) : unframeV s = (b, 8 + (b.size : Int), 0) := by
  obtain ⟨t, et, ht⟩ := frame_bl h
  have hz := frame_size h
  have hs : s.size = 8 + b.size + xs.length := by rw [← bl_length, e, List.length_append, bl_length, hz]
  have hb : beAcc s 4 0 0 = b.size := be_of_head (n := b.size) (xs := t ++ bl b ++ xs) (by unfold goodB at h; omega) (by rw [e, et]; simp [List.append_assoc])
  have g := h
  unfold goodB at g
  have k : (8 + (b.size : Int)).toNat = 8 + b.size := by omega
  have eb : s.extract 8 (8 + b.size) = b := by
    apply bl_inj
    rw [bl_extract, e, et]
    have : (fixL 4 b.size ++ (t ++ bl b) ++ xs) = (fixL 4 b.size ++ t) ++ (bl b ++ xs) := by simp [List.append_assoc]
    rw [this, List.drop_left' (by rw [List.length_append, fixL_length, ht]), show 8 + b.size - 8 = (bl b).length by rw [bl_length]; omega, List.take_left']
    rfl
  have ef : s.extract 0 (8 + b.size) = frameV b := by
    apply bl_inj
    rw [bl_extract, e, List.drop_zero, show 8 + b.size - 0 = (bl (frameV b)).length by rw [bl_length, hz]; omega, List.take_left']
    rfl
  unfold unframeV
  rw [hb, if_pos (by omega), if_pos (by omega), if_neg (by omega), k, eb, ef, if_pos rfl]
theorem unframe_part {b s : ByteArray} (h : goodB b) {xs : List Int} {r : Nat} (hr : r < 8 + b.size) (e : bl s = (bl (frameV b) ++ xs).take r) : ¬ (unframeV s).2.2 = 0 := by
  obtain ⟨t, et, ht⟩ := frame_bl h
  have hz := frame_size h
  have hs : s.size = r := by rw [← bl_length, e, List.length_take, List.length_append, bl_length, hz]; omega
  unfold unframeV
  by_cases c : 4 ≤ s.size
  · have hb : beAcc s 4 0 0 = b.size := by
      refine be_of_head (n := b.size) (xs := (t ++ bl b ++ xs).take (r - 4)) (by unfold goodB at h; omega) ?_
      rw [e, et, List.append_assoc, List.take_append, fixL_length, List.take_of_length_le (by rw [fixL_length]; omega), List.append_assoc]
    unfold goodB at h
    rw [hb, if_pos c, if_pos (by omega), if_pos (by omega)]
    decide
  · rw [if_neg c]; decide

theorem fixedV_4' {n : Int} (h0 : 0 ≤ n) (h1 : n ≤ 4294967295) : bl (strOfNums (fixedV n 4)) = fixL 4 n.toNat := by rw [fixedV_4 h0 h1, bl_strOf (fixL_isB _ _)]
theorem outL_isB : ∀ s, (∀ x ∈ s, 0 ≤ x ∧ x < 4294967296) → IsB (outL s) ∧ (outL s).length = 4 * s.length
  | [], _ => ⟨isB_nil, rfl⟩
  | x :: r, h => by
    have hx := h x (by simp)
    have ih := outL_isB r (fun y hy => h y (by simp [hy]))
    have e : fixedV x 4 = fixL 4 x.toNat := fixedV_4 hx.1 (by omega)
    refine ⟨?_, ?_⟩
    · simp only [outL, e]; exact isB_append (fixL_isB _ _) ih.1
    · simp only [outL, e, List.length_append, fixL_length, ih.2, List.length_cons]; omega
theorem shaV_bl (a : ByteArray) : (bl (shaV a)).length = 32 := by
  have hu := blkV_u (padV a) ((padV a).size / 64) 0 shaInit shaInit_u
  have h := outL_isB _ hu.2
  unfold shaV
  rw [bl_strOf h.1, h.2, hu.1]
/-- The head of a snapshot, as numbers. -/
theorem head_bl {i t : Int} {d : ByteArray} (hi : 0 ≤ i ∧ i ≤ 100001) (ht : 0 ≤ t ∧ t ≤ 100001) (hd : d.size ≤ 8001) :
    bl (snapHead i t d) = fixL 4 i.toNat ++ (fixL 4 t.toNat ++ (fixL 4 d.size ++ bl (shaV d))) := by
  unfold snapHead
  rw [bl_append, bl_append, bl_append, fixedV_4' (by omega) (by omega), fixedV_4' (by omega) (by omega), fixedV_4' (n := (d.size : Int)) (by omega) (by omega), Int.toNat_natCast]
  simp [List.append_assoc]
theorem head_size {i t : Int} {d : ByteArray} (hi : 0 ≤ i ∧ i ≤ 100001) (ht : 0 ≤ t ∧ t ≤ 100001) (hd : d.size ≤ 8001) : (snapHead i t d).size = 44 := by
  rw [← bl_length, head_bl hi ht hd]
  simp only [List.length_append, fixL_length, shaV_bl]
theorem snapOk_r {i t : Int} {d : ByteArray} (h : snapOkV i t d = true) (hz : i ≠ 0) : (1 ≤ i ∧ i ≤ 100000) ∧ (1 ≤ t ∧ t ≤ 100000) ∧ d.size ≤ 8000 := by
  unfold snapOkV at h
  have := of_decide_eq_true h
  omega
theorem fix4_inj {a b : Nat} (ha : a ≤ 100000) (hb : b ≤ 100000) (h : fixL 4 a = fixL 4 b) : a = b := by
  rw [fix4, fix4] at h
  simp only [List.cons.injEq, and_true] at h
  omega
/-- A text that is shown tells how long its data are. -/
theorem snap_len {i t : Int} {d x : ByteArray} (h : snapOkV i t d = true) (hz : i ≠ 0) (hx : x.size ≤ 8001) (e : showSnapV i t x = frameV (snapHead i t d) ++ x) : x.size = d.size := by
  obtain ⟨hi, ht, hd⟩ := snapOk_r h hz
  have s1 : (snapHead i t d).size = 44 := head_size ⟨by omega, by omega⟩ ⟨by omega, by omega⟩ (by omega)
  have s2 : (snapHead i t x).size = 44 := head_size ⟨by omega, by omega⟩ ⟨by omega, by omega⟩ hx
  have f1 := frame_size (b := snapHead i t d) ⟨by omega, by omega⟩
  unfold showSnapV at e
  split at e
  · have e' := congrArg bl e
    rw [bl_append, bl_append] at e'
    have e2 := List.append_cancel_right e'
    obtain ⟨t1, g1, l1⟩ := frame_bl (b := snapHead i t d) ⟨by omega, by omega⟩
    obtain ⟨t2, g2, l2⟩ := frame_bl (b := snapHead i t x) ⟨by omega, by omega⟩
    rw [g1, g2, s1, s2] at e2
    have e3 := List.append_cancel_left e2
    have e4 := (List.append_inj e3 (by omega)).2
    rw [head_bl ⟨by omega, by omega⟩ ⟨by omega, by omega⟩ hx, head_bl ⟨by omega, by omega⟩ ⟨by omega, by omega⟩ (by omega : d.size ≤ 8001)] at e4
    have e5 := List.append_cancel_left (List.append_cancel_left e4)
    have e6 := (List.append_inj e5 (by rw [fixL_length, fixL_length])).1
    exact fix4_inj (by omega) (by omega) e6
  · have := congrArg ByteArray.size e
    rw [ByteArray.size_append, f1, show (⟨#[]⟩ : ByteArray).size = 0 from rfl] at this
    omega
theorem read_head {i t : Int} {d x s : ByteArray} (h : snapOkV i t d = true) (hz : i ≠ 0) (e : s = frameV (snapHead i t d) ++ x) :
    readSnapV s = if showSnapV i t x = s then (i, t, x, true) else (0, 0, ⟨#[]⟩, false) := by
  obtain ⟨hi, ht, hd⟩ := snapOk_r h hz
  have s1 : (snapHead i t d).size = 44 := head_size ⟨by omega, by omega⟩ ⟨by omega, by omega⟩ (by omega)
  have hb := head_bl (i := i) (t := t) (d := d) ⟨by omega, by omega⟩ ⟨by omega, by omega⟩ (by omega)
  have f1 := frame_size (b := snapHead i t d) ⟨by omega, by omega⟩
  have u := unframe_frame (b := snapHead i t d) (s := s) (xs := bl x) ⟨by omega, by omega⟩ (by rw [e, bl_append])
  have k1 : beAcc (snapHead i t d) 4 0 0 = i := by
    rw [be_of_head (n := i.toNat) (by omega) hb]; omega
  have k2 : beAcc ((snapHead i t d).extract 4 (snapHead i t d).size) 4 0 0 = t := by
    rw [be_of_head (n := t.toNat) (by omega) (xs := fixL 4 d.size ++ bl (shaV d)) ?_]
    · omega
    · rw [bl_extract, hb, List.drop_left' (by rw [fixL_length]), List.take_of_length_le]
      simp only [List.length_append, fixL_length, shaV_bl]
      omega
  have hsz : s.size = 52 + x.size := by rw [e, ByteArray.size_append, f1]; omega
  have k3 : s.extract ((8 : Int) + ((snapHead i t d).size : Int)).toNat s.size = x := by
    apply bl_inj
    rw [bl_extract, e, bl_append, List.drop_left' (by rw [bl_length]; omega), List.take_of_length_le]
    rw [bl_length, ByteArray.size_append]; omega
  unfold readSnapV
  rw [u]
  dsimp only
  rw [k1, k2, k3]
  simp only [s1, true_and]
theorem FnSnapBack : laws_FnSnapBack.Pure := by
  intro l hl
  refine Ev.rounds (g := fun k => laws_FnSnapBack.f k l) ?_
  unfold laws_FnSnapBack.f laws_big.f
  refine Ev.bind0 rfl ?_
  by_cases c : (l.length : Int) > 1048576
  · exact Ev.pos (decide_eq_true c) (Ev.now _)
  refine Ev.neg (by rw [decide_eq_false c]; simp) ?_
  obtain ⟨i, t, d, ed, hr⟩ := spec_DrawShowSnap_ex l (by omega)
  unfold snapR at hr
  refine Ev.bind ed (Ev.bind (impl_ShowSnap_ev i t d (by omega) (by omega)) ?_)
  have fl : ∀ x : ByteArray, (frameV (snapHead i t x)).size ≤ 91 := fun x => by
    have h1 := frameV_le (snapHead i t x)
    have h2 := snapHead_size i t x
    omega
  have hT : (showSnapV i t d).size ≤ 9000 := by
    unfold showSnapV
    split
    · have := fl d
      rw [ByteArray.size_append]; omega
    · exact Nat.zero_le _
  refine Ev.bind (impl_ReadSnap_ev _ (by omega)) (Ev.bind0 (spec_SnapOk_eq i t d) ?_)
  have hbad : showSnapV i t d = ⟨#[]⟩ → Ev (fun k => laws_FnSnapBack.j0 k (showSnapV i t d) (readSnapV (showSnapV i t d)).2.2.2 true i t d (readSnapV (showSnapV i t d)).1 (readSnapV (showSnapV i t d)).2.1 (readSnapV (showSnapV i t d)).2.2.1) true := by
    intro h
    have h2 : (readSnapV (⟨#[]⟩ : ByteArray)).2.2.2 = false := by
      unfold readSnapV
      rw [if_neg]
      rintro ⟨h1, _⟩
      exact absurd h1 (by decide)
    refine Ev.step (fun k => by rw [laws_FnSnapBack.j0]) ?_
    refine Ev.pos rfl (Ev.pos (by rw [h, tl_nil']; rfl) (Ev.val _ _ ?_))
    rw [h, h2]; rfl
  by_cases ok : snapOkV i t d = true
  · refine Ev.pos ok ?_
    by_cases z : i = 0
    · have e : showSnapV i t d = ⟨#[]⟩ := by unfold showSnapV; rw [if_neg (fun g => g.2 z)]
      rw [show (i == 0) = true by simp [z]]
      exact hbad e
    · rw [show (i == 0) = false by simp [z]]
      have e : showSnapV i t d = frameV (snapHead i t d) ++ d := by unfold showSnapV; rw [if_pos ⟨ok, z⟩]
      obtain ⟨hi, ht, hd⟩ := snapOk_r ok z
      have s1 : (snapHead i t d).size = 44 := head_size ⟨by omega, by omega⟩ ⟨by omega, by omega⟩ (by omega)
      have f1 := frame_size (b := snapHead i t d) ⟨by omega, by omega⟩
      have hsz : (showSnapV i t d).size = 52 + d.size := by rw [e, ByteArray.size_append, f1]; omega
      have r0 : readSnapV (showSnapV i t d) = (i, t, d, true) := by rw [read_head ok z e, if_pos rfl]
      have hne : ¬ (showSnapV i t d).toList = ([] : List UInt8) := by rw [tl_nil']; omega
      have hw : wrap64 (((showSnapV i t d).size : Int) - 1) = (((showSnapV i t d).size - 1 : Nat) : Int) := by rw [w64 (by omega) (by omega)]; omega
      refine Ev.step (fun k => by rw [laws_FnSnapBack.j0]) ?_
      rw [hw, int_toNat_nat]
      clear hw
      refine Ev.neg (by simp) (Ev.neg hne (Ev.pos (by omega) (Ev.pos (by omega) ?_)))
      refine Ev.bind (impl_ReadSnap_ev _ (by rw [ByteArray.size_extract]; omega)) (Ev.pos (by omega) (Ev.bind (impl_ReadSnap_ev _ (by rw [ByteArray.size_append, show (⟨#[120]⟩ : ByteArray).size = 1 from rfl]; omega)) ?_))
      have r1 : (readSnapV ((showSnapV i t d).extract 0 ((showSnapV i t d).size - 1))).2.2.2 = false := by
        by_cases d0 : d.size = 0
        · have hp : ¬ (unframeV ((showSnapV i t d).extract 0 ((showSnapV i t d).size - 1))).2.2 = 0 := by
            refine unframe_part (b := snapHead i t d) (xs := bl d) (r := (showSnapV i t d).size - 1) ⟨by omega, by omega⟩ (by omega) ?_
            rw [bl_extract, List.drop_zero, Nat.sub_zero, ← bl_append, ← e]
          unfold readSnapV
          rw [if_neg (fun g => hp g.1)]
        · have hx : (d.extract 0 (d.size - 1)).size = d.size - 1 := by rw [ByteArray.size_extract]; omega
          have e2 : (showSnapV i t d).extract 0 ((showSnapV i t d).size - 1) = frameV (snapHead i t d) ++ d.extract 0 (d.size - 1) := by
            apply bl_inj
            rw [bl_extract, bl_append, bl_extract, List.drop_zero, List.drop_zero, Nat.sub_zero, Nat.sub_zero, hsz, e, bl_append, List.take_append, bl_length, f1, List.take_of_length_le (by rw [bl_length, f1]; omega)]
            congr 2
            omega
          rw [read_head ok z e2, if_neg]
          intro h
          rw [e2] at h
          have := snap_len ok z (by omega) h
          omega
      have r2 : (readSnapV (showSnapV i t d ++ (⟨#[120]⟩ : ByteArray))).2.2.2 = false := by
        have hx : (d ++ (⟨#[120]⟩ : ByteArray)).size = d.size + 1 := by rw [ByteArray.size_append]; rfl
        have e2 : showSnapV i t d ++ (⟨#[120]⟩ : ByteArray) = frameV (snapHead i t d) ++ (d ++ (⟨#[120]⟩ : ByteArray)) := by rw [e, ByteArray.append_assoc]
        rw [read_head ok z e2, if_neg]
        intro h
        rw [e2] at h
        have := snap_len ok z (by omega) h
        omega
      rw [r0, r1, r2]
      refine Ev.pos rfl (Ev.pos ?_ (Ev.neg (by simp) (Ev.now _)))
      simp
  · refine Ev.neg ok ?_
    have e : showSnapV i t d = ⟨#[]⟩ := by unfold showSnapV; rw [if_neg (fun g => ok g.1)]
    exact hbad e

end Go.Proofs.YtobkmpihjfiihaaDoor.Pure
