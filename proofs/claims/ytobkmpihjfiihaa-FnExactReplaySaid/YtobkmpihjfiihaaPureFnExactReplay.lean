/- The pure statement of the law FnExactReplay is proved: for all arguments within the stated bounds the printed function answers true. Conditions: none beyond those bounds. -/
import Derived.Test.YtobkmpihjfiihaaPFnExactReplayx17
import Derived.Laws.BitsLemmas
import Derived.Lib.Strings
namespace Go.Proofs.Ytobkmpihjfiihaa.Pure
open Go Go.RowKit Go.Proofs.Ytobkmpihjfiihaa.PFnExactReplay Go.Proofs.YtobkmpihjfiihaaW.PrintWords Go.Proofs.YtobkmpihjfiihaaW.PrintLast Go.Proofs.YtobkmpihjfiihaaW.PrintMore
set_option linter.unusedVariables false
set_option linter.unusedSimpArgs false

/-! ### Base: rounds, whole numbers, bits, byte strings (no program in sight) -/
theorem Ev.pos {α : Type} {c : Prop} [Decidable c] {g f : Nat → Option α} {r : α} (h : c) (e : Ev g r) : Ev (fun k => if c then g k else f k) r := by
 simpa only [if_pos h] using e
theorem Ev.neg {α : Type} {c : Prop} [Decidable c] {g f : Nat → Option α} {r : α} (h : ¬ c) (e : Ev f r) : Ev (fun k => if c then g k else f k) r := by
 simpa only [if_neg h] using e
theorem Ev.val {α : Type} (r s : α) (h : r = s) : Ev (fun _ => some r) s := by subst h; exact Ev.now _
theorem Ev.bind0 {α β : Type} {o : Option α} {f : Nat → α → Option β} {a : α} {r : β} (h : o = some a) (k : Ev (fun n => f n a) r) : Ev (fun n => o.bind (f n)) r := by
 subst h; simpa only [Option.bind_some] using k
theorem Ev.and {α β : Type} {g : Nat → Option α} {f : Nat → Option β} {r : α} {s : β} (h : Ev g r) (k : Ev f s) : ∃ K, ∀ n, K ≤ n → g n = some r ∧ f n = some s := by
 obtain ⟨K, h⟩ := h
 obtain ⟨L, k⟩ := k
 exact ⟨max K L, fun n hn => ⟨h n (by omega), k n (by omega)⟩⟩

theorem Ev.ite {α : Type} {c d : Prop} [Decidable c] [Decidable d] {g f : Nat → Option α} {a b : α} (h : c ↔ d) (e : d → Ev g a) (e' : ¬ d → Ev f b) : Ev (fun k => if c then g k else f k) (if d then a else b) := by
 by_cases x : d
 ·rw [if_pos x]; exact Ev.pos (h.2 x) (e x)
 ·rw [if_neg x]; exact Ev.neg (fun y => x (h.1 y)) (e' x)
theorem w64 {x : Int} (h0 : -9223372036854775808 ≤ x) (h1 : x ≤ 9223372036854775807) : wrap64 x = x := by unfold wrap64; omega
theorem tdiv_nn {x y : Int} (h : 0 ≤ x) : Int.tdiv x y = x / y := Int.tdiv_eq_ediv_of_nonneg h
theorem tmod_nn {x y : Int} (h : 0 ≤ x) : Int.tmod x y = x % y := Int.tmod_eq_emod_of_nonneg h

theorem wraps_i64 (n : Int) (h₀ : 0 ≤ n) (h₁ : n < 2 ^ 63) : IntKind.i64.wrap n = n := by rw [IntKind.wrap_i64]; omega
theorem and_mask (i : Nat) (hi : i ≤ 63) (x : Int) (h0 : 0 ≤ x) (h1 : x < 9223372036854775808) : Go.bits .and .i64 x (2 ^ i - 1) = x % 2 ^ i :=
 bits_mask .i64 63 (by decide) wraps_i64 i hi x h0 h1
theorem and127 {x : Int} (h0 : 0 ≤ x) (h1 : x < 9223372036854775808) : Go.bits .and .i64 x 127 = x % 128 := and_mask 7 (by decide) x h0 h1
theorem and255 {x : Int} (h0 : 0 ≤ x) (h1 : x < 9223372036854775808) : Go.bits .and .i64 x 255 = x % 256 := and_mask 8 (by decide) x h0 h1
theorem and1 {x : Int} (h0 : 0 ≤ x) (h1 : x < 9223372036854775808) : Go.bits .and .i64 x 1 = x % 2 := and_mask 1 (by decide) x h0 h1
theorem or_join (i : Nat) (x y : Int) (hx : 0 ≤ x) (hm : x % 2 ^ i = 0) (hx1 : x < 9223372036854775808) (hy : 0 ≤ y) (hy1 : y < 2 ^ i) (hy2 : y < 9223372036854775808) : Go.bits .or .i64 x y = x + y :=
 bits_join .i64 63 (by decide) wraps_i64 i x y hx hm hx1 hy hy1 hy2
theorem bits_or_comm (k : IntKind) (x y : Int) : Go.bits .or k x y = Go.bits .or k y x := by simp only [Go.bits, BitVec.or_comm]
theorem or_join' (i : Nat) (x y : Int) (hx : 0 ≤ x) (hm : x % 2 ^ i = 0) (hx1 : x < 9223372036854775808) (hy : 0 ≤ y) (hy1 : y < 2 ^ i) (hy2 : y < 9223372036854775808) : Go.bits .or .i64 y x = x + y := by
 rw [bits_or_comm]; exact or_join i x y hx hm hx1 hy hy1 hy2
theorem u8_and127 {x : Int} (h0 : 0 ≤ x) (h1 : x < 256) : Go.bits .and .u8 x 127 = x % 128 := bits_mask .u8 8 (by decide) wraps_u8 7 (by decide) x h0 h1
theorem bits_xor_nat (a b : Nat) (ha : a < 2 ^ 63) (hb : b < 2 ^ 63) : Go.bits .xor .i64 a b = ((a ^^^ b : Nat) : Int) := by
 have hp : 2 ^ 63 ≤ 2 ^ IntKind.i64.bits := Nat.pow_le_pow_right (by decide) (by decide)
 have ha' : a % 2 ^ IntKind.i64.bits = a := Nat.mod_eq_of_lt (Nat.lt_of_lt_of_le ha hp)
 have hb' : b % 2 ^ IntKind.i64.bits = b := Nat.mod_eq_of_lt (Nat.lt_of_lt_of_le hb hp)
 simp only [Go.bits, BitVec.ofInt_natCast, BitVec.toNat_xor, BitVec.toNat_ofNat, ha', hb']
 exact wraps_i64 _ (Int.natCast_nonneg _) (by exact_mod_cast Nat.xor_lt_two_pow ha hb)

theorem wbt (s : ByteArray) (i : Int) : wrap64 (bt s i) = bt s i := by have := bt_range s i; exact w64 (by omega) (by omega)
theorem strOf_append (xs ys : List Int) : strOfNums xs ++ strOfNums ys = strOfNums (xs ++ ys) := by
 apply ByteArray.ext
 rw [ByteArray.data_append]
 simp [strOfNums]
theorem strOf_size (xs : List Int) : (strOfNums xs).size = xs.length := by simp [strOfNums, ByteArray.size]
theorem strOf_nil : (⟨#[]⟩ : ByteArray) = strOfNums [] := rfl
theorem cast_pow256 (d : Nat) : ((256 ^ d : Nat) : Int) = (256 : Int) ^ d := Int.natCast_pow 256 d
theorem lt_pow256 (m d : Nat) : ((m : Int) < 256 ^ d) = (m < 256 ^ d) := by
 rw [← cast_pow256]; exact propext Int.ofNat_lt
theorem pow256_six (i : Int) (h0 : 0 ≤ i) (h1 : i ≤ 6) : (256 : Int) ^ i.toNat ≤ 281474976710656 := by
 obtain rfl | rfl | rfl | rfl | rfl | rfl | rfl : i = 0 ∨ i = 1 ∨ i = 2 ∨ i = 3 ∨ i = 4 ∨ i = 5 ∨ i = 6 := by omega
 all_goals decide

/-! ### Str: a byte string as the list of its numbers -/
def IsB (xs : List Int) : Prop := ∀ x ∈ xs, 0 ≤ x ∧ x ≤ 255
def bl (s : ByteArray) : List Int := s.data.toList.map fun b => (b.toNat : Int)
theorem bl_length (s : ByteArray) : (bl s).length = s.size := by unfold bl; rw [List.length_map]; rfl
theorem strOf_bl (s : ByteArray) : strOfNums (bl s) = s := by
 apply ByteArray.ext
 apply Array.ext'
 unfold strOfNums bl
 rw [List.map_map]
 have : ((fun n : Int => UInt8.ofNat n.toNat) ∘ fun b : UInt8 => (b.toNat : Int)) = id := by
  funext b
  simp only [Function.comp_apply, Int.toNat_natCast, UInt8.ofNat_toNat, id]
 rw [this, List.map_id]
theorem bl_strOf {xs : List Int} (h : IsB xs) : bl (strOfNums xs) = xs := by
 induction xs with
 | nil => rfl
 | cons a l ih =>
  have ha := h a (by simp)
  have hl := ih (fun x hx => h x (by simp [hx]))
  simp only [bl, strOfNums, List.map_cons, List.toList_toArray] at hl ⊢
  rw [hl]
  congr 1
  simp only [UInt8.toNat_ofNat']
  omega
theorem bl_extract (s : ByteArray) (a b : Nat) : bl (s.extract a b) = ((bl s).drop a).take (b - a) := by
 simp [bl, ByteArray.data_extract, List.extract_eq_take_drop, List.map_take, List.map_drop]
theorem bl_inj {s t : ByteArray} (h : bl s = bl t) : s = t := by rw [← strOf_bl s, ← strOf_bl t, h]
theorem tl_iff (s t : ByteArray) : s.toList = t.toList ↔ s = t := by
 constructor
 ·intro h
  rw [Go.Lib.toList_data, Go.Lib.toList_data] at h
  exact ByteArray.ext (Array.ext' h)
 ·intro h; rw [h]
theorem bt_bl (s : ByteArray) (i : Int) : bt s i = rd (bl s) i := by
 unfold bt rd bl
 split
 ·rename_i h
  have h' : i.toNat < s.data.toList.length := h
  rw [List.getD_eq_getElem?_getD, List.getElem?_map, List.getElem?_eq_getElem h']
  simp only [Option.map_some, Option.getD_some]
  rfl
 ·rename_i h
  have h' : ¬ i.toNat < s.data.toList.length := h
  rw [List.getD_eq_getElem?_getD, List.getElem?_map, List.getElem?_eq_none (by omega)]
  rfl
theorem bt_nat (s : ByteArray) (i : Nat) (h : i < s.size) : bt s (i : Int) = (bl s)[i]'(by rw [bl_length]; exact h) := by
 rw [bt_bl]
 unfold rd
 rw [Int.toNat_natCast, List.getD_eq_getElem?_getD, List.getElem?_eq_getElem (by rw [bl_length]; exact h)]
 rfl
theorem isB_nil : IsB [] := fun _ h => by cases h
theorem isB_cons {x : Int} {ys : List Int} (h : 0 ≤ x ∧ x ≤ 255) (k : IsB ys) : IsB (x :: ys) := by
 intro y hy
 rcases List.mem_cons.1 hy with e | e
 ·subst e; exact h
 ·exact k y e
instance instDecEqBytes : DecidableEq ByteArray := fun a b => decidable_of_iff (a.toList = b.toList) (tl_iff a b)
instance instDecMemBytes (x : ByteArray) : (l : List ByteArray) → Decidable (x ∈ l)
 | [] => .isFalse (by simp)
 | y :: l => if h : x = y then .isTrue (by simp [h]) else (match instDecMemBytes x l with
  | .isTrue k => .isTrue (by simp [k])
  | .isFalse k => .isFalse (by simp [h, k]))

theorem size_zero (s : ByteArray) : s.size = 0 ↔ s = ⟨#[]⟩ := by
 constructor
 ·intro h
  apply bl_inj
  have : (bl s).length = 0 := by rw [bl_length]; exact h
  rw [List.eq_nil_of_length_eq_zero this]; rfl
 ·intro h; subst h; rfl
theorem tl_nil (s : ByteArray) : (s.toList == ([] : List UInt8)) = decide (s.size = 0) := by
 have e : ([] : List UInt8) = (⟨#[]⟩ : ByteArray).toList := by rw [Go.Lib.toList_data]
 rw [e, Bool.eq_iff_iff, beq_iff_eq, tl_iff, decide_eq_true_iff, size_zero]
theorem tl_nil' (s : ByteArray) : (s.toList = ([] : List UInt8)) = (s.size = 0) := by
 have e : ([] : List UInt8) = (⟨#[]⟩ : ByteArray).toList := by rw [Go.Lib.toList_data]
 rw [e, tl_iff, size_zero]

abbrev baseP (i t : Int) : Prop := (i = 0 ∧ t = 0) ∨ (1 ≤ i ∧ i ≤ 100000 ∧ 1 ≤ t ∧ t ≤ 100000)
abbrev recOkP (kd tm ix vt : Int) (n : Nat) : Prop :=
 (kd = 1 ∧ 0 ≤ tm ∧ tm ≤ 100000 ∧ -1 ≤ vt ∧ vt ≤ 4 ∧ ix = 0 ∧ n = 0) ∨ (kd = 2 ∧ 1 ≤ tm ∧ tm ≤ 100000 ∧ 1 ≤ ix ∧ ix ≤ 100000 ∧ vt = 0 ∧ n ≤ 900) ∨
 (kd = 3 ∧ tm = 0 ∧ 1 ≤ ix ∧ ix ≤ 100000 ∧ vt = 0 ∧ n = 0) ∨ (kd = 4 ∧ baseP ix tm ∧ vt = 0 ∧ n = 0)

/-! ### logs -/
def entOk : List (Int × ByteArray) → Int → Int → Bool
 | [], _, _ => true
 | e :: l, last, tm => decide (1 ≤ e.1 ∧ last ≤ e.1 ∧ e.1 ≤ tm ∧ e.2.size ≤ 900) && entOk l e.1 tm
abbrev walP (tm vt bs btm : Int) (n : Nat) : Prop := 0 ≤ tm ∧ tm ≤ 100000 ∧ -1 ≤ vt ∧ vt ≤ 4 ∧ baseP bs btm ∧ btm ≤ tm ∧ n ≤ 60 ∧ bs + (n : Int) ≤ 100000
def walOkV (tm vt bs btm : Int) (es : List (Int × ByteArray)) : Bool := decide (walP tm vt bs btm es.length) && entOk es btm tm

abbrev EI := S146
def ens (l : List EI) : List (Int × ByteArray) := l.map fun p => (p.f0, p.f1)
theorem ens_length (l : List EI) : (ens l).length = l.length := by simp [ens]
theorem rdE_get (l : List EI) (i : Nat) (h : i < l.length) : rd_T146 l (i : Int) = l[i] := by
 unfold rd_T146
 rw [Int.toNat_natCast, List.getD_eq_getElem?_getD, List.getElem?_eq_getElem h]; rfl
theorem rdE_drop (l : List EI) (i : Nat) (h : i < l.length) : l.drop i = rd_T146 l (i : Int) :: l.drop (i + 1) := by
 rw [rdE_get l i h]; exact List.drop_eq_getElem_cons h

/-! ### a record done on a log -/
def lastT (btm : Int) (l : List EI) : Int := if l.length = 0 then btm else (rd_T146 l ((l.length : Int) - 1)).f0
abbrev fitsP (tm vt bs btm : Int) (l : List EI) (kd rt ix rv : Int) : Prop :=
 (kd = 1 ∧ (tm < rt ∨ (rt = tm ∧ (vt = -1 ∨ rv = vt)))) ∨ (kd = 2 ∧ ix = bs + (l.length : Int) + 1 ∧ l.length < 60 ∧ lastT btm l ≤ rt ∧ rt ≤ tm) ∨ (kd = 3 ∧ bs < ix ∧ ix ≤ bs + (l.length : Int))
abbrev StepT := Int × Int × Int × Int × List EI × Bool
def doneV (tm vt bs btm : Int) (l : List EI) (kd rt ix rv : Int) (d : ByteArray) : StepT :=
 if kd = 1 then (rt, rv, bs, btm, l, true) else if kd = 2 then (tm, vt, bs, btm, l ++ [⟨rt, d⟩], true) else (tm, vt, bs, btm, l.take (ix - bs - 1).toNat, true)
def walStepV (tm vt bs btm : Int) (l : List EI) (kd rt ix rv : Int) (d : ByteArray) : StepT :=
 if walOkV tm vt bs btm (ens l) = true then (if recOkP kd rt ix rv d.size ∧ fitsP tm vt bs btm l kd rt ix rv then doneV tm vt bs btm l kd rt ix rv d else (tm, vt, bs, btm, l, false)) else (0, 0, 0, 0, [], false)
theorem walOk_all {tm vt bs btm : Int} {l : List EI} (h : walOkV tm vt bs btm (ens l) = true) : walP tm vt bs btm l.length ∧ 0 ≤ bs ∧ bs ≤ 100000 := by
 unfold walOkV at h
 rw [Bool.and_eq_true, decide_eq_true_iff, ens_length] at h
 refine ⟨h.1, ?_⟩
 have := h.1.2.2.2.2.1
 unfold baseP at this
 omega

/-! ### what Var makes -/
def varL (n : Nat) : List Int := if n < 128 then [(n : Int)] else ((n % 128 + 128 : Nat) : Int) :: varL (n / 128)
termination_by n
decreasing_by omega

theorem varL_small {n : Nat} (h : n < 128) : varL n = [(n : Int)] := by rw [varL, if_pos h]
theorem varL_big {n : Nat} (h : ¬ n < 128) : varL n = ((n % 128 + 128 : Nat) : Int) :: varL (n / 128) := by rw [varL, if_neg h]
theorem varL_isB (n : Nat) : IsB (varL n) := by
 induction n using Nat.strongRecOn with
 | ind n ih =>
 by_cases c : n < 128
 ·rw [varL_small c]; exact isB_cons (by omega) isB_nil
 ·rw [varL_big c]; exact isB_cons (by omega) (ih _ (by omega))
theorem varL_pos (n : Nat) : 0 < (varL n).length := by
 rw [varL]; split <;> simp
/-- All bytes but the last are 128 or more; the last is less. -/
theorem varL_shape (n : Nat) : ∀ (j : Nat) (h : j < (varL n).length), (j + 1 = (varL n).length → (varL n)[j] < 128) ∧ (j + 1 < (varL n).length → 128 ≤ (varL n)[j]) := by
 induction n using Nat.strongRecOn with
 | ind n ih =>
 intro j h
 by_cases c : n < 128
 ·have e := varL_small c
  simp only [e, List.length_singleton] at h ⊢
  obtain rfl : j = 0 := by omega
  simp
  omega
 ·have e := varL_big c
  simp only [e, List.length_cons] at h ⊢
  cases j with
  | zero =>
   have := varL_pos (n / 128)
   simp only [List.getElem_cons_zero]
   exact ⟨fun k => by omega, fun _ => by omega⟩
  | succ j =>
   simp only [List.getElem_cons_succ]
   have := ih (n / 128) (by omega) j (by omega)
   exact ⟨fun k => this.1 (by omega), fun k => this.2 (by omega)⟩
/-- A beginning of a text that is a Var: where the bytes are less than 128. -/
theorem var_at {s : ByteArray} {n k : Nat} (hk : k ≤ s.size) (h : (strOfNums (varL n)).toList = (s.extract 0 k).toList) :
  0 < k ∧ ∀ j, j < k → (j + 1 = k → bt s (j : Int) < 128) ∧ (j + 1 < k → 128 ≤ bt s (j : Int)) := by
 have e := (tl_iff _ _).1 h
 have e2 : varL n = (bl s).take k := by
  have := congrArg bl e
  rw [bl_strOf (varL_isB n), bl_extract] at this
  simpa using this
 have hl : (varL n).length = k := by rw [e2, List.length_take, bl_length]; omega
 refine ⟨by have := varL_pos n; omega, fun j hj => ?_⟩
 have hs := varL_shape n j (by omega)
 have hb : bt s (j : Int) = (varL n)[j]'(by omega) := by
  rw [bt_nat s j (by omega)]
  simp only [e2, List.getElem_take]
 rw [hb]
 exact ⟨fun h => hs.1 (by omega), fun h => hs.2 (by omega)⟩

/-! ### what ReadVar tells -/
def lev (s : ByteArray) : Nat → Nat
 | 0 => 0
 | k + 1 => lev s k + ((bt s (k : Int)).toNat % 128) * 128 ^ k
theorem lev_lt (s : ByteArray) : ∀ k, lev s k < 128 ^ k
 | 0 => by simp [lev]
 | k + 1 => by
  have h := lev_lt s k
  have h2 : (bt s (k : Int)).toNat % 128 ≤ 127 := by omega
  have h3 : ((bt s (k : Int)).toNat % 128) * 128 ^ k ≤ 127 * 128 ^ k := Nat.mul_le_mul_right _ h2
  rw [lev, Nat.pow_succ]
  omega
theorem lev_le {s : ByteArray} {k : Nat} (h : k ≤ 7) : lev s k ≤ 562949953421311 := by
 have h1 := lev_lt s k
 have h2 : 128 ^ k ≤ 128 ^ 7 := Nat.pow_le_pow_right (by decide) h
 have h3 : (128 : Nat) ^ 7 = 562949953421312 := by decide
 omega
def isVarAt (s : ByteArray) (k : Nat) : Prop := (strOfNums (varL (lev s k))).toList = (s.extract 0 k).toList
instance (s : ByteArray) (k : Nat) : Decidable (isVarAt s k) := inferInstanceAs (Decidable (_ = _))
/-- The first byte below 128 ends it. -/
def rvFrom (s : ByteArray) : Nat → Nat → Int × Int
 | 0, _ => (0, 0)
 | d + 1, i => if i < s.size then (if bt s (i : Int) < 128 then (if isVarAt s (i + 1) then ((lev s (i + 1) : Nat), ((i + 1 : Nat) : Int)) else (0, 0)) else rvFrom s d (i + 1)) else (0, 0)
/-- What ReadVar(s) is. -/
def readVarV (s : ByteArray) : Int × Int := rvFrom s 7 0
/-- Each beginning is tried. -/
def rvTry (s : ByteArray) : Nat → Nat → Int × Int
 | 0, _ => (0, 0)
 | d + 1, i => if i < s.size then (if isVarAt s (i + 1) then ((lev s (i + 1) : Nat), ((i + 1 : Nat) : Int)) else rvTry s d (i + 1)) else (0, 0)
theorem rvTry_none (s : ByteArray) (j : Nat) (hj : bt s (j : Int) < 128) : ∀ (d i : Nat), j < i → rvTry s d i = (0, 0)
 | 0, _, _ => rfl
 | d + 1, i, h => by
  rw [rvTry]
  split
  ·rename_i hi
   rw [if_neg ?_]
   ·exact rvTry_none s j hj d (i + 1) (by omega)
   ·intro hv
    have := ((var_at (by omega) hv).2 j (by omega)).2 (by omega)
    omega
  ·rfl
theorem rv_same (s : ByteArray) : ∀ (d i : Nat), rvTry s d i = rvFrom s d i
 | 0, _ => rfl
 | d + 1, i => by
  rw [rvTry, rvFrom]
  split
  ·rename_i hi
   by_cases c : bt s (i : Int) < 128
   ·rw [if_pos c]
    split
    ·rfl
    ·exact rvTry_none s i c d (i + 1) (by omega)
   ·rw [if_neg c, if_neg ?_]
    ·exact rv_same s d (i + 1)
    ·intro hv
     have := ((var_at (by omega) hv).2 i (by omega)).1 rfl
     omega
  ·rfl

theorem varL_le7 {n : Nat} (h : n ≤ 562949953421311) : (varL n).length ≤ 7 := by
 have : ∀ (k n : Nat), n < 128 ^ (k + 1) → (varL n).length ≤ k + 1 := by
  intro k
  induction k with
  | zero => intro n h; rw [varL_small (by simpa using h)]; simp
  | succ k ih =>
   intro n h
   by_cases c : n < 128
   ·rw [varL_small c]; simp
   ·rw [varL_big c]
    have := ih (n / 128) (by rw [Nat.pow_succ] at h; omega)
    simpa using this
 exact this 6 n (by omega)

/-! a number's bytes are read as it -/
theorem rv_cases (s : ByteArray) : ∀ (d i : Nat), i + d ≤ 7 → (rvFrom s d i).2 = 0 ∨ ∃ k, k ≤ 7 ∧ k ≤ s.size ∧ rvFrom s d i = (((lev s k : Nat) : Int), (k : Int)) ∧ isVarAt s k
 | 0, _, _ => .inl rfl
 | d + 1, i, h => by
  rw [rvFrom]
  split
  ·split
   ·split
    ·rename_i c
     exact .inr ⟨i + 1, by omega, by omega, rfl, c⟩
    ·exact .inl rfl
   ·exact rv_cases s d (i + 1) (by omega)
  ·exact .inl rfl

/-! ### what is left of a text -/
abbrev tl (s : ByteArray) (a : Nat) : ByteArray := s.extract a s.size
theorem tl_bl (s : ByteArray) (a : Nat) : bl (tl s a) = (bl s).drop a := by
 rw [bl_extract, List.take_of_length_le (by rw [List.length_drop, bl_length]; omega)]
theorem tl_size (s : ByteArray) (a : Nat) : (tl s a).size = s.size - a := by
 rw [← bl_length, tl_bl, List.length_drop, bl_length]
theorem tl_tl (s : ByteArray) (a b : Nat) : tl (tl s a) b = tl s (a + b) := by
 apply bl_inj
 rw [tl_bl, tl_bl, tl_bl, List.drop_drop]
theorem rv_range (s : ByteArray) : 0 ≤ (readVarV s).2 ∧ (readVarV s).2 ≤ s.size ∧ (readVarV s).2 ≤ 7 ∧ ((readVarV s).2 ≠ 0 → 0 ≤ (readVarV s).1 ∧ (readVarV s).1 ≤ 562949953421311) := by
 rcases rv_cases s 7 0 (by omega) with h | ⟨k, h7, hs, e, _⟩
 ·have h' : (readVarV s).2 = 0 := h
  rw [h']; exact ⟨by omega, by omega, by omega, fun h => absurd rfl h⟩
 ·have e' : readVarV s = (((lev s k : Nat) : Int), (k : Int)) := e
  rw [e']
  have := lev_le (s := s) h7
  exact ⟨by simp only; omega, by simp only; omega, by simp only; omega, fun _ => ⟨by simp only; omega, by simp only; omega⟩⟩

/-- What ShowRec(r) is. -/
def showRecV (kd tm ix vt : Int) (d : ByteArray) : ByteArray := if recOkP kd tm ix vt d.size then strOfNums ([kd] ++ varL tm.toNat ++ varL ix.toNat ++ varL (vt + 1).toNat) ++ d else strOfNums []

abbrev RecT := Int × Int × Int × Int × ByteArray × Bool
def zeroR : RecT := (0, 0, 0, 0, ⟨#[]⟩, false)
def rrEnd (s : ByteArray) (p q v : Int × Int) (d : ByteArray) : RecT :=
 if (showRecV (bt s 0) p.1 q.1 (v.1 - 1) d).toList = s.toList then (bt s 0, p.1, q.1, v.1 - 1, d, true) else zeroR
def readRecV (s : ByteArray) : RecT :=
 if s.size = 0 then zeroR
 else
  let p := readVarV (tl s 1)
  let q := readVarV (tl s (1 + p.2.toNat))
  let v := readVarV (tl s (1 + p.2.toNat + q.2.toNat))
  if p.2 = 0 then zeroR else if q.2 = 0 then zeroR else if v.2 = 0 then zeroR else rrEnd s p q v (tl s (1 + p.2.toNat + q.2.toNat + v.2.toNat))
theorem showRecV_size (kd tm ix vt : Int) (d : ByteArray) : (showRecV kd tm ix vt d).size ≤ 922 := by
 unfold showRecV
 split
 ·rename_i c
  have h1 := varL_le7 (n := tm.toNat) (by unfold recOkP baseP at c; omega)
  have h2 := varL_le7 (n := ix.toNat) (by unfold recOkP baseP at c; omega)
  have h3 := varL_le7 (n := (vt + 1).toNat) (by unfold recOkP baseP at c; omega)
  have hd : d.size ≤ 900 := by unfold recOkP at c; omega
  rw [ByteArray.size_append, strOf_size]
  simp only [List.length_append, List.length_singleton]
  omega
 ·rw [strOf_size]; simp
theorem rrEnd_large {s : ByteArray} (hs : 2000 < s.size) (p q v : Int × Int) (d : ByteArray) : rrEnd s p q v d = zeroR := by
 unfold rrEnd
 rw [if_neg]
 intro h
 have h2 := showRecV_size (bt s 0) p.1 q.1 (v.1 - 1) d
 rw [(tl_iff _ _).1 h] at h2
 omega

/-! ### what Fixed makes, and what ReadFixed reads -/
def fixL : Nat → Nat → List Int
 | 0, _ => []
 | w + 1, n => fixL w (n / 256) ++ [((n % 256 : Nat) : Int)]
theorem fixL_length : ∀ (w n : Nat), (fixL w n).length = w
 | 0, _ => rfl
 | w + 1, n => by simp [fixL, fixL_length w]
theorem set_replicate (i : Nat) (v : Int) (xs : List Int) : (List.replicate (i + 1) 0 ++ xs).set i v = List.replicate i 0 ++ (v :: xs) := by
 rw [List.replicate_succ', List.append_assoc, List.set_append_right _ _ (by simp)]
 simp
/-- What Fixed(n, w) is. -/
def fixedV (n w : Int) : List Int := if 1 ≤ w ∧ w ≤ 7 ∧ 0 ≤ n ∧ n < 256 ^ w.toNat then fixL w.toNat n.toNat else []
def beAcc (s : ByteArray) : Nat → Int → Int → Int
 | 0, _, n => n
 | d + 1, i, n => beAcc s d (i + 1) (n * 256 + bt s i)
/-- What ReadFixed(s, w) is. -/
def readFixedV (s : ByteArray) (w : Int) : Int × Bool := if 1 ≤ w ∧ w ≤ 7 ∧ w ≤ (s.size : Int) then (beAcc s w.toNat 0 0, true) else (0, false)

/-! ### what Crc is -/
def crcStep (c : Nat) : Nat := if c % 2 = 1 then (c / 2) ^^^ 2197175160 else c / 2
def crcRounds : Nat → Nat → Nat
 | 0, c => c
 | d + 1, c => crcRounds d (crcStep c)
theorem crcStep_lt {c : Nat} (h : c < 2 ^ 32) : crcStep c < 2 ^ 32 := by
 unfold crcStep
 split
 ·exact Nat.xor_lt_two_pow (by omega) (by decide)
 ·omega
theorem crcRounds_lt : ∀ (d c : Nat), c < 2 ^ 32 → crcRounds d c < 2 ^ 32
 | 0, _, h => h
 | d + 1, c, h => crcRounds_lt d _ (crcStep_lt h)
def crcFrom (s : ByteArray) : Nat → Nat → Nat → Nat
 | 0, _, c => c
 | d + 1, i, c => crcFrom s d (i + 1) (crcRounds 8 (c ^^^ (bt s i).toNat))
theorem crcIn_lt (s : ByteArray) (i : Nat) {c : Nat} (h : c < 2 ^ 32) : c ^^^ (bt s i).toNat < 2 ^ 32 := by
 have := bt_range s i
 exact Nat.xor_lt_two_pow h (by omega)
theorem crcFrom_lt (s : ByteArray) : ∀ (d i c : Nat), c < 2 ^ 32 → crcFrom s d i c < 2 ^ 32
 | 0, _, _, h => h
 | d + 1, i, c, h => crcFrom_lt s d (i + 1) _ (crcRounds_lt 8 _ (crcIn_lt s i h))
/-- What Crc(s) is. -/
def crcV (s : ByteArray) : Int := 4294967295 - (crcFrom s s.size 0 4294967295 : Nat)
theorem crcV_range (s : ByteArray) : 0 ≤ crcV s ∧ crcV s ≤ 4294967295 := by
 have := crcFrom_lt s s.size 0 4294967295 (by decide)
 unfold crcV; omega

/-- What Frame(b) is. -/
def frameV (b : ByteArray) : ByteArray := if 1 ≤ b.size ∧ b.size ≤ 2000 then (strOfNums (fixedV b.size 4) ++ strOfNums (fixedV (crcV (strOfNums (fixedV b.size 4) ++ b)) 4)) ++ b else strOfNums []
theorem fixedV_4 {n : Int} (h0 : 0 ≤ n) (h1 : n ≤ 4294967295) : fixedV n 4 = fixL 4 n.toNat := by
 unfold fixedV
 have e : (256 : Int) ^ (4 : Int).toNat = 4294967296 := by decide
 rw [if_pos (by rw [e]; omega)]
 rfl
theorem size_append (a b : ByteArray) : (a ++ b).size = a.size + b.size := ByteArray.size_append

theorem beAcc4 (s : ByteArray) : 0 ≤ beAcc s 4 0 0 ∧ beAcc s 4 0 0 ≤ 4294967295 := by
 have h0 := bt_range s 0
 have h1 := bt_range s (0 + 1)
 have h2 := bt_range s (0 + 1 + 1)
 have h3 := bt_range s (0 + 1 + 1 + 1)
 simp only [beAcc]
 omega
theorem readFixed4 (s : ByteArray) : readFixedV s 4 = if 4 ≤ s.size then (beAcc s 4 0 0, true) else (0, false) := by
 unfold readFixedV
 by_cases h : 4 ≤ s.size
 ·rw [if_pos h, if_pos (by omega)]; rfl
 ·rw [if_neg h, if_neg (by omega)]
/-- What Unframe(s) is. -/
def unframeV (s : ByteArray) : ByteArray × Int × Int :=
 if 4 ≤ s.size then
  (if 1 ≤ beAcc s 4 0 0 ∧ beAcc s 4 0 0 ≤ 2000 then
   (if (s.size : Int) < 8 + beAcc s 4 0 0 then (strOfNums [], 0, 1)
    else if (frameV (s.extract 8 (8 + beAcc s 4 0 0).toNat)).toList = (s.extract 0 (8 + beAcc s 4 0 0).toNat).toList then (s.extract 8 (8 + beAcc s 4 0 0).toNat, 8 + beAcc s 4 0 0, 0) else (strOfNums [], 0, 2))
   else (strOfNums [], 0, 2))
 else (strOfNums [], 0, 1)
theorem extract_le (s : ByteArray) (a b : Nat) : (s.extract a b).size ≤ s.size := by rw [ByteArray.size_extract]; omega

theorem unframe_ok {s : ByteArray} (h : (unframeV s).2.2 = 0) : 9 ≤ (unframeV s).2.1 ∧ (unframeV s).2.1 ≤ s.size ∧ (((unframeV s).1.size : Int) + 8 = (unframeV s).2.1) ∧ (unframeV s).1.size ≤ 2000 := by
 unfold unframeV at h ⊢
 have hr := beAcc4 s
 generalize beAcc s 4 0 0 = n at h hr ⊢
 split at h
 ·rename_i c1
  split at h
  ·rename_i c2
   split at h
   ·cases h
   ·rename_i c3
    split at h
    ·rename_i c4
     rw [if_pos c1, if_pos c2, if_neg c3, if_pos c4]
     have e : (s.extract 8 (8 + n).toNat).size = (8 + n).toNat - 8 := by rw [ByteArray.size_extract]; omega
     simp only [e]
     omega
    ·cases h
  ·cases h
 ·cases h
/-- what Frames comes to from place pos on -/
def frFrom (s : ByteArray) : Nat → Nat → List ByteArray → List ByteArray × Int
 | 0, pos, acc => (acc, pos)
 | f + 1, pos, acc => if (unframeV (s.extract pos s.size)).2.2 = 0 then frFrom s f (pos + (unframeV (s.extract pos s.size)).2.1.toNat) (acc ++ [(unframeV (s.extract pos s.size)).1]) else (acc, pos)
def framesV (s : ByteArray) : List ByteArray × Int := frFrom s s.size 0 []
theorem frFrom_len (s : ByteArray) : ∀ (f pos : Nat) (acc : List ByteArray), acc.length ≤ pos → pos ≤ s.size → (frFrom s f pos acc).1.length ≤ s.size
 | 0, pos, acc, h, hp => by simp only [frFrom]; omega
 | f + 1, pos, acc, h, hp => by
  rw [frFrom]
  split
  ·rename_i c
   have u := unframe_ok c
   have e : (s.extract pos s.size).size = s.size - pos := by rw [ByteArray.size_extract]; omega
   rw [e] at u
   exact frFrom_len s f _ _ (by rw [List.length_append]; simp; omega) (by omega)
  ·simp only; omega
theorem framesV_len (s : ByteArray) : (framesV s).1.length ≤ s.size := frFrom_len s s.size 0 [] (by simp) (by omega)

/-! ### a log's text done again -/
theorem readRecV_ok {s : ByteArray} (h : (readRecV s).2.2.2.2.2 = true) : recOkP (readRecV s).1 (readRecV s).2.1 (readRecV s).2.2.1 (readRecV s).2.2.2.1 (readRecV s).2.2.2.2.1.size := by
 unfold readRecV at h ⊢
 by_cases c0 : s.size = 0
 ·rw [if_pos c0] at h; cases h
 ·rw [if_neg c0] at h ⊢
  simp only at h ⊢
  split at h
  ·cases h
  ·split at h
   ·cases h
   ·split at h
    ·cases h
    ·rename_i c1 c2 c3
     rw [if_neg c1, if_neg c2, if_neg c3]
     unfold rrEnd at h ⊢
     split at h
     ·rename_i c4
      rw [if_pos c4]
      simp only
      by_cases c5 : recOkP (bt s 0) (readVarV (tl s 1)).1 (readVarV (tl s (1 + (readVarV (tl s 1)).2.toNat))).1 ((readVarV (tl s (1 + (readVarV (tl s 1)).2.toNat + (readVarV (tl s (1 + (readVarV (tl s 1)).2.toNat))).2.toNat))).1 - 1) (tl s (1 + (readVarV (tl s 1)).2.toNat + (readVarV (tl s (1 + (readVarV (tl s 1)).2.toNat))).2.toNat + (readVarV (tl s (1 + (readVarV (tl s 1)).2.toNat + (readVarV (tl s (1 + (readVarV (tl s 1)).2.toNat))).2.toNat))).2.toNat)).size
      ·exact c5
      ·exfalso
       unfold showRecV at c4
       rw [if_neg c5] at c4
       have e := (tl_iff _ _).1 c4
       rw [← e, strOf_size] at c0
       exact c0 rfl
     ·cases h
theorem frFrom_size (s : ByteArray) : ∀ (f pos : Nat) (acc : List ByteArray), (∀ b ∈ acc, b.size ≤ 2000) → ∀ b ∈ (frFrom s f pos acc).1, b.size ≤ 2000
 | 0, pos, acc, h => by simpa only [frFrom] using h
 | f + 1, pos, acc, h => by
  rw [frFrom]
  split
  ·rename_i c
   have u := unframe_ok c
   refine frFrom_size s f _ _ (fun b hb => ?_)
   rcases List.mem_append.1 hb with hb | hb
   ·exact h b hb
   ·rw [List.mem_singleton] at hb; subst hb; exact u.2.2.2
  ·exact h
theorem framesV_size (s : ByteArray) : ∀ b ∈ (framesV s).1, b.size ≤ 2000 := frFrom_size s s.size 0 [] (by simp)
def lastE : List EI → Int → Int
 | [], b => b
 | e :: l, _ => lastE l e.f0
theorem lastT_eq : ∀ (l : List EI) (b : Int), lastT b l = lastE l b
 | [], b => rfl
 | [e], b => by
  unfold lastT
  rw [if_neg (by simp), show ((([e] : List EI).length : Int) - 1) = ((0 : Nat) : Int) by simp, rdE_get [e] 0 (by simp)]
  rfl
 | e :: f :: l, b => by
  have ih := lastT_eq (f :: l) e.f0
  unfold lastT at ih ⊢
  rw [if_neg (by simp)] at ih ⊢
  have e1 : (((e :: f :: l : List EI).length : Int) - 1) = ((l.length + 1 : Nat) : Int) := by simp
  have e2 : (((f :: l : List EI).length : Int) - 1) = ((l.length : Nat) : Int) := by simp
  rw [e2, rdE_get (f :: l) l.length (by simp)] at ih
  rw [e1, rdE_get (e :: f :: l) (l.length + 1) (by simp)]
  rw [List.getElem_cons_succ]
  exact ih
theorem entOk_mono {tm tm2 : Int} (h : tm ≤ tm2) : ∀ (es : List (Int × ByteArray)) (b : Int), entOk es b tm = true → entOk es b tm2 = true
 | [], _, _ => rfl
 | e :: es, b, h1 => by
  unfold entOk at h1 ⊢
  rw [Bool.and_eq_true, decide_eq_true_iff] at h1 ⊢
  exact ⟨⟨h1.1.1, h1.1.2.1, by omega, h1.1.2.2.2⟩, entOk_mono h es _ h1.2⟩
theorem entOk_take {tm : Int} : ∀ (es : List (Int × ByteArray)) (b : Int) (n : Nat), entOk es b tm = true → entOk (es.take n) b tm = true
 | [], _, n, _ => by rw [List.take_nil]; rfl
 | e :: es, b, 0, _ => rfl
 | e :: es, b, n + 1, h1 => by
  rw [List.take_succ_cons]
  unfold entOk at h1 ⊢
  rw [Bool.and_eq_true] at h1 ⊢
  exact ⟨h1.1, entOk_take es _ n h1.2⟩
theorem entOk_snoc {tm rt : Int} {d : ByteArray} (h0 : 1 ≤ rt) (h1 : rt ≤ tm) (hd : d.size ≤ 900) : ∀ (l : List EI) (b : Int), entOk (ens l) b tm = true → lastE l b ≤ rt → entOk (ens (l ++ [⟨rt, d⟩])) b tm = true
 | [], b, _, h3 => by
  unfold lastE at h3
  simp only [ens, List.nil_append, List.map_cons, List.map_nil, entOk, Bool.and_true, decide_eq_true_iff]
  exact ⟨h0, h3, h1, hd⟩
 | e :: l, b, h2, h3 => by
  unfold lastE at h3
  simp only [ens, List.cons_append, List.map_cons, entOk, Bool.and_eq_true] at h2 ⊢
  exact ⟨h2.1, entOk_snoc h0 h1 hd l _ h2.2 h3⟩
theorem doneV_ok {tm vt bs btm : Int} {l : List EI} (h : walOkV tm vt bs btm (ens l) = true) {kd rt ix rv : Int} {d : ByteArray} (hr : recOkP kd rt ix rv d.size) (hf : fitsP tm vt bs btm l kd rt ix rv) :
  walOkV (doneV tm vt bs btm l kd rt ix rv d).1 (doneV tm vt bs btm l kd rt ix rv d).2.1 (doneV tm vt bs btm l kd rt ix rv d).2.2.1 (doneV tm vt bs btm l kd rt ix rv d).2.2.2.1 (ens (doneV tm vt bs btm l kd rt ix rv d).2.2.2.2.1) = true := by
 have hw := (walOk_all h).1
 unfold walOkV at h
 rw [Bool.and_eq_true] at h
 have he := h.2
 unfold doneV walOkV
 by_cases k1 : kd = 1
 ·rw [if_pos k1]
  have ht : tm ≤ rt := by unfold fitsP at hf; omega
  rw [Bool.and_eq_true, decide_eq_true_iff, ens_length]
  refine ⟨?_, entOk_mono ht _ _ he⟩
  unfold walP at hw ⊢
  unfold recOkP at hr
  dsimp only
  refine ⟨by omega, by omega, by omega, by omega, hw.2.2.2.2.1, by omega, by omega, by omega⟩
 ·rw [if_neg k1]
  by_cases k2 : kd = 2
  ·rw [if_pos k2]
   have hf2 : ix = bs + (l.length : Int) + 1 ∧ l.length < 60 ∧ lastT btm l ≤ rt ∧ rt ≤ tm := by unfold fitsP at hf; omega
   have hr2 : 1 ≤ rt ∧ ix ≤ 100000 ∧ d.size ≤ 900 := by unfold recOkP at hr; omega
   rw [lastT_eq] at hf2
   rw [Bool.and_eq_true, decide_eq_true_iff, ens_length]
   refine ⟨?_, entOk_snoc hr2.1 hf2.2.2.2 hr2.2.2 l btm he hf2.2.2.1⟩
   unfold walP at hw ⊢
   simp only [List.length_append, List.length_singleton]
   refine ⟨by omega, by omega, by omega, by omega, hw.2.2.2.2.1, by omega, by omega, by omega⟩
  ·rw [if_neg k2]
   rw [Bool.and_eq_true, decide_eq_true_iff, ens_length]
   have e : ens (l.take (ix - bs - 1).toNat) = (ens l).take (ix - bs - 1).toNat := by unfold ens; rw [List.map_take]
   refine ⟨?_, by simp only; rw [e]; exact entOk_take _ _ _ he⟩
   unfold walP at hw ⊢
   simp only [List.length_take]
   refine ⟨by omega, by omega, by omega, by omega, hw.2.2.2.2.1, by omega, by omega, by omega⟩
abbrev RpT := Int × Int × Int × Int × List EI × Int × Bool
def rpL : List ByteArray → Int → Int → Int → Int → List EI → Int → RpT
 | [], tm, vt, bs, btm, l, at_ => (tm, vt, bs, btm, l, at_, true)
 | b :: rest, tm, vt, bs, btm, l, at_ =>
  if (readRecV b).2.2.2.2.2 = true ∧ fitsP tm vt bs btm l (readRecV b).1 (readRecV b).2.1 (readRecV b).2.2.1 (readRecV b).2.2.2.1 then
   rpL rest (doneV tm vt bs btm l (readRecV b).1 (readRecV b).2.1 (readRecV b).2.2.1 (readRecV b).2.2.2.1 (readRecV b).2.2.2.2.1).1
    (doneV tm vt bs btm l (readRecV b).1 (readRecV b).2.1 (readRecV b).2.2.1 (readRecV b).2.2.2.1 (readRecV b).2.2.2.2.1).2.1
    (doneV tm vt bs btm l (readRecV b).1 (readRecV b).2.1 (readRecV b).2.2.1 (readRecV b).2.2.2.1 (readRecV b).2.2.2.2.1).2.2.1
    (doneV tm vt bs btm l (readRecV b).1 (readRecV b).2.1 (readRecV b).2.2.1 (readRecV b).2.2.2.1 (readRecV b).2.2.2.2.1).2.2.2.1
    (doneV tm vt bs btm l (readRecV b).1 (readRecV b).2.1 (readRecV b).2.2.1 (readRecV b).2.2.2.1 (readRecV b).2.2.2.2.1).2.2.2.2.1 (at_ + 8 + (b.size : Int))
  else (tm, vt, bs, btm, l, at_, true)
theorem walOk_len {tm vt bs btm : Int} {l : List EI} (h : walOkV tm vt bs btm (ens l) = true) : l.length ≤ 60 := by
 have := (walOk_all h).1
 unfold walP at this
 omega
theorem rpL_len : ∀ (bs' : List ByteArray) (tm vt bs btm : Int) (l : List EI) (at_ : Int), walOkV tm vt bs btm (ens l) = true → (rpL bs' tm vt bs btm l at_).2.2.2.2.1.length ≤ 60
 | [], _, _, _, _, l, _, h => walOk_len h
 | b :: rest, tm, vt, bs, btm, l, at_, h => by
  unfold rpL
  split
  ·rename_i c
   exact rpL_len rest _ _ _ _ _ _ (doneV_ok h (readRecV_ok c.1) c.2)
  ·exact walOk_len h
def rpOf : List ByteArray → RpT
 | [] => (0, 0, 0, 0, [], 0, false)
 | b :: rest => if (readRecV b).2.2.2.2.2 = true ∧ (readRecV b).1 = 4 then rpL rest (readRecV b).2.1 (-1) (readRecV b).2.2.1 (readRecV b).2.1 [] (8 + (b.size : Int)) else (0, 0, 0, 0, [], 0, false)
def replayV (s : ByteArray) : RpT := rpOf (framesV s).1
theorem base_ok {kd tm ix vt : Int} {n : Nat} (h : recOkP kd tm ix vt n) (k : kd = 4) : walOkV tm (-1) ix tm (ens []) = true := by
 unfold walOkV
 rw [Bool.and_eq_true, decide_eq_true_iff]
 refine ⟨?_, rfl⟩
 have hb : baseP ix tm := by unfold recOkP at h; rcases h with h | h | h | h <;> first | exact absurd h.1 (by omega) | exact h.2.1
 have h2 : 0 ≤ tm ∧ tm ≤ 100000 ∧ ix ≤ 100000 := by unfold baseP at hb; omega
 show walP tm (-1) ix tm 0
 unfold walP
 exact ⟨h2.1, h2.2.1, by omega, by omega, hb, Int.le_refl _, by omega, by omega⟩
theorem replayV_len (s : ByteArray) : (replayV s).2.2.2.2.1.length ≤ 60 := by
 unfold replayV
 cases (framesV s).1 with
 | nil => simp [rpOf]
 | cons b rest =>
  rw [rpOf]
  split
  ·rename_i c
   exact rpL_len _ _ _ _ _ _ _ (base_ok (readRecV_ok c.1) c.2)
  ·simp

theorem rdOf_get (l : List ByteArray) (i : Nat) (h : i < l.length) : rdOf ByteArray.empty l (i : Int) = l[i] := by
 unfold rdOf
 rw [Int.toNat_natCast, List.getD_eq_getElem?_getD, List.getElem?_eq_getElem h]; rfl

theorem spec_l1In_eq (a b c : Int) : spec_l1In.f a b c = some (decide (b ≤ a ∧ a ≤ c)) := by
 unfold spec_l1In.f
 by_cases h : a ≥ b
 ·rw [if_pos h]; simp [show b ≤ a from h]
 ·rw [if_neg h]; simp [show ¬ b ≤ a from h]

theorem spec_Fixed_l0 (d : Nat) : ∀ (n : Nat) (w i : Int) (xs : List Int), 0 ≤ i → w - i = d → w ≤ 7 → xs.length ≤ i → n < 9223372036854775808 →
  Ev (fun k => spec_Fixed.l0 k (n : Int) w (strOfNums xs) i) (strOfNums (if n < 256 ^ d then fixL d n ++ xs else [])) := by
 induction d with
 | zero =>
  intro n w i xs hi hd hw hx hn
  refine Ev.step (fun k => by rw [spec_Fixed.l0]) ?_
  refine Ev.neg (by omega) ?_
  by_cases c : n = 0
  ·subst c
   exact Ev.neg (by omega) (Ev.val _ _ (by simp [fixL]))
  ·refine Ev.pos (by omega) (Ev.val _ _ ?_)
   rw [if_neg (by simp; omega)]; rfl
 | succ d ih =>
  intro n w i xs hi hd hw hx hn
  refine Ev.step (fun k => by rw [spec_Fixed.l0]) ?_
  refine Ev.pos (by omega) (Ev.bind (Ev.now _) (Ev.pos (by rw [strOf_size, strOf_size]; simp; omega) ?_))
  have e1 : (Int.tmod (n : Int) 256) % 256 = ((n % 256 : Nat) : Int) := by rw [tmod_nn (by omega)]; omega
  have e2 : wrap64 (Int.tdiv (n : Int) 256) = ((n / 256 : Nat) : Int) := by rw [tdiv_nn (by omega), w64 (by omega) (by omega)]; omega
  rw [e1, e2, w64 (by omega) (by omega), strOf_append]
  have := ih (n / 256) w (i + 1) ([((n % 256 : Nat) : Int)] ++ xs) (by omega) (by omega) hw (by simp; omega) (by omega)
  have e3 : (n / 256 < 256 ^ d) = (n < 256 ^ (d + 1)) := by
   rw [Nat.pow_succ, Nat.div_lt_iff_lt_mul (by decide)]
  simp only [e3] at this
  simpa [fixL, List.append_assoc] using this
theorem spec_Fixed_ev (n w : Int) (hn : n ≤ 9223372036854775807) : Ev (fun k => spec_Fixed.f k n w) (strOfNums (fixedV n w)) := by
 unfold spec_Fixed.f fixedV
 refine Ev.bind0 (spec_l1In_eq _ _ _) ?_
 by_cases c : 1 ≤ w ∧ w ≤ 7
 ·refine Ev.pos (by simp; omega) ?_
  refine Ev.step (fun k => by rw [spec_Fixed.j0]) ?_
  by_cases c2 : n < 0
  ·refine Ev.pos (by simpa using c2) (Ev.val _ _ ?_)
   rw [if_neg (by omega)]; rfl
  ·obtain ⟨m, rfl⟩ := Int.eq_ofNat_of_zero_le (show 0 ≤ n by omega)
   obtain ⟨d, rfl⟩ := Int.eq_ofNat_of_zero_le (show 0 ≤ w by omega)
   refine Ev.neg (by simp) ?_
   rw [strOf_nil]
   have := spec_Fixed_l0 d m (d : Int) 0 [] (by omega) (by omega) (by omega) (by simp) (by omega)
   have e : (m < 256 ^ d) = (1 ≤ (d : Int) ∧ (d : Int) ≤ 7 ∧ 0 ≤ (m : Int) ∧ (m : Int) < 256 ^ (d : Int).toNat) := by
    rw [Int.toNat_natCast, lt_pow256]; apply propext; omega
   simp only [e] at this
   simpa using this
 ·refine Ev.neg (by simp; omega) ?_
  refine Ev.step (fun k => by rw [spec_Fixed.j0]) ?_
  refine Ev.pos rfl (Ev.val _ _ ?_)
  rw [if_neg (by omega)]; rfl

theorem spec_Crc_l1 (s : ByteArray) (i : Nat) (r : Int) (d : Nat) : ∀ (c : Nat) (j : Int), c < 2 ^ 32 → 8 - j = d → 0 ≤ j → i < 9223372036854775807 →
  Ev (fun k => spec_Crc.l0 k s ((crcRounds d c : Nat) : Int) ((i + 1 : Nat) : Int)) r → Ev (fun k => spec_Crc.l1 k s (c : Int) (i : Int) j) r := by
 induction d with
 | zero =>
  intro c j hc hd hj hi h
  refine Ev.step (fun k => by rw [spec_Crc.l1]) (Ev.neg (by omega) ?_)
  rw [w64 (by omega) (by omega)]
  exact h
 | succ d ih =>
  intro c j hc hd hj hi h
  have hlt := crcStep_lt hc
  refine Ev.step (fun k => by rw [spec_Crc.l1]) (Ev.pos (by omega) ?_)
  rw [tmod_nn (by omega), tdiv_nn (by omega), w64 (x := (c : Int) / 2) (by omega) (by omega), w64 (x := j + 1) (by omega) (by omega)]
  have g := ih (crcStep c) (j + 1) hlt (by omega) (by omega) hi h
  by_cases o : c % 2 = 1
  ·refine Ev.pos (by omega) ?_
   have e : Go.bits .xor .i64 ((c : Int) / 2) 2197175160 = ((crcStep c : Nat) : Int) := by
    rw [show ((c : Int) / 2) = ((c / 2 : Nat) : Int) by omega, show (2197175160 : Int) = ((2197175160 : Nat) : Int) from rfl, bits_xor_nat _ _ (by omega) (by decide)]
    unfold crcStep; rw [if_pos o]
   rw [e]; exact g
  ·refine Ev.neg (by omega) ?_
   have e : (c : Int) / 2 = ((crcStep c : Nat) : Int) := by unfold crcStep; rw [if_neg o]; omega
   rw [e]; exact g
theorem spec_Crc_l0 (s : ByteArray) (hs : s.size ≤ 140737488351232) (d : Nat) : ∀ (i c : Nat), c < 2 ^ 32 → s.size - i = d → i ≤ s.size →
  Ev (fun k => spec_Crc.l0 k s (c : Int) (i : Int)) (4294967295 - (crcFrom s d i c : Nat)) := by
 induction d with
 | zero =>
  intro i c hc hd hi
  exact Ev.step (fun k => by rw [spec_Crc.l0]) (Ev.neg (by omega) (Ev.val _ _ (by simp only [crcFrom]; rw [w64 (by omega) (by omega)])))
 | succ d ih =>
  intro i c hc hd hi
  have hb := bt_range s i
  refine Ev.step (fun k => by rw [spec_Crc.l0]) (Ev.pos (by omega) (Ev.pos (by omega) ?_))
  rw [wbt, show bt s (i : Int) = ((bt s i).toNat : Int) by omega, bits_xor_nat _ _ (by omega) (by omega)]
  exact spec_Crc_l1 s i _ 8 _ 0 (crcIn_lt s i hc) (by omega) (by omega) (by omega) (ih (i + 1) _ (crcRounds_lt 8 _ (crcIn_lt s i hc)) (by omega) (by omega))
theorem spec_Crc_ev (s : ByteArray) (hs : s.size ≤ 140737488351232) : Ev (fun k => spec_Crc.f k s) (crcV s) := by
 unfold spec_Crc.f
 exact spec_Crc_l0 s hs s.size 0 4294967295 (by decide) (by omega) (by omega)

theorem spec_Frame_ev (b : ByteArray) (hb : b.size ≤ 140737488351232) : Ev (fun k => spec_Frame.f k b) (frameV b) := by
 have no : ¬ (1 ≤ b.size ∧ b.size ≤ 2000) → Ev (fun k => spec_Frame.j0 k b true) (frameV b) := by
  intro h
  refine Ev.step (fun k => by rw [spec_Frame.j0]) ?_
  unfold frameV
  rw [if_neg h]
  exact Ev.pos rfl (Ev.now _)
 unfold spec_Frame.f
 by_cases c : (b.size : Int) = 0
 ·exact Ev.pos c (no (by omega))
 ·refine Ev.neg c ?_
  by_cases c2 : (b.size : Int) > 2000
  ·rw [decide_eq_true c2]; exact no (by omega)
  ·rw [decide_eq_false c2]
   refine Ev.step (fun k => by rw [spec_Frame.j0]) ?_
   unfold frameV
   rw [if_pos (by omega)]
   have h4 : (strOfNums (fixedV (b.size : Int) 4)).size = 4 := by rw [strOf_size, fixedV_4 (by omega) (by omega), fixL_length]
   have hc := crcV_range (strOfNums (fixedV (b.size : Int) 4) ++ b)
   have h5 : (strOfNums (fixedV (crcV (strOfNums (fixedV (b.size : Int) 4) ++ b)) 4)).size = 4 := by rw [strOf_size, fixedV_4 hc.1 hc.2, fixL_length]
   refine Ev.neg (by simp) (Ev.bind (spec_Fixed_ev _ _ (by omega)) (Ev.pos (by omega) ?_))
   refine Ev.bind (spec_Crc_ev _ (by rw [size_append]; omega)) (Ev.bind (spec_Fixed_ev _ _ (by omega)) ?_)
   exact Ev.pos (by omega) (Ev.pos (by rw [size_append]; omega) (Ev.now _))

theorem spec_ReadFixed_l0 (s : ByteArray) (d : Nat) : ∀ (w i n : Int), 0 ≤ i → w - i = d → w ≤ 7 → w ≤ (s.size : Int) → 0 ≤ n → n < 256 ^ i.toNat →
  Ev (fun k => spec_ReadFixed.l0 k s w n i) (beAcc s d i n, true) := by
 induction d with
 | zero =>
  intro w i n hi hd hw hs hn hn2
  refine Ev.step (fun k => by rw [spec_ReadFixed.l0]) ?_
  exact Ev.neg (by omega) (Ev.now _)
 | succ d ih =>
  intro w i n hi hd hw hs hn hn2
  refine Ev.step (fun k => by rw [spec_ReadFixed.l0]) ?_
  refine Ev.pos (by omega) (Ev.pos (by omega) (Ev.pos (by omega) ?_))
  have hb := bt_range s i
  have h6 := pow256_six i hi (by omega)
  have h7 : (256 : Int) ^ (i + 1).toNat = 256 ^ i.toNat * 256 := by
   rw [show (i + 1).toNat = i.toNat + 1 by omega, Int.pow_succ]
  rw [wbt, w64 (x := n * 256) (by omega) (by omega), w64 (x := n * 256 + bt s i) (by omega) (by omega), w64 (by omega) (by omega)]
  exact ih w (i + 1) (n * 256 + bt s i) (by omega) (by omega) hw hs (by omega) (by omega)
theorem spec_ReadFixed_ev (s : ByteArray) (w : Int) : Ev (fun k => spec_ReadFixed.f k s w) (readFixedV s w) := by
 unfold spec_ReadFixed.f readFixedV
 refine Ev.bind0 (spec_l1In_eq _ _ _) ?_
 by_cases c : 1 ≤ w ∧ w ≤ 7
 ·refine Ev.pos (by simp; omega) ?_
  refine Ev.step (fun k => by rw [spec_ReadFixed.j0]) ?_
  by_cases c2 : w ≤ (s.size : Int)
  ·rw [if_pos (by omega)]
   exact Ev.neg (by simp; omega) (spec_ReadFixed_l0 s w.toNat w 0 0 (by omega) (by omega) (by omega) c2 (by omega) (by simp))
  ·rw [if_neg (by omega)]
   exact Ev.pos (by simp; omega) (Ev.now _)
 ·rw [if_neg (by omega)]
  refine Ev.neg (by simp; omega) ?_
  refine Ev.step (fun k => by rw [spec_ReadFixed.j0]) ?_
  exact Ev.pos rfl (Ev.now _)

theorem spec_Unframe_ev (s : ByteArray) (hs : s.size ≤ 140737488351232) : Ev (fun k => spec_Unframe.f k s) (unframeV s) := by
 have hr := beAcc4 s
 unfold spec_Unframe.f unframeV
 refine Ev.bind (spec_ReadFixed_ev s 4) ?_
 rw [readFixed4]
 by_cases c : 4 ≤ s.size
 ·rw [if_pos c, if_pos c]
  refine Ev.pos rfl ?_
  simp only []
  generalize beAcc s 4 0 0 = n at hr
  have bad : ¬ (1 ≤ n ∧ n ≤ 2000) → Ev (fun k => spec_Unframe.j0 k s n true) (if 1 ≤ n ∧ n ≤ 2000 then (if (s.size : Int) < 8 + n then (strOfNums [], 0, 1) else if (frameV (s.extract 8 (8 + n).toNat)).toList = (s.extract 0 (8 + n).toNat).toList then (s.extract 8 (8 + n).toNat, 8 + n, 0) else (strOfNums [], 0, 2)) else (strOfNums [], 0, 2)) := by
   intro h
   refine Ev.step (fun k => by rw [spec_Unframe.j0]) ?_
   rw [if_neg h]
   exact Ev.pos rfl (Ev.now _)
  by_cases c0 : n = 0
  ·exact Ev.pos c0 (bad (by omega))
  ·refine Ev.neg c0 ?_
   by_cases c1 : n > 2000
   ·rw [decide_eq_true c1]; exact bad (by omega)
   ·rw [decide_eq_false c1, if_pos (show 1 ≤ n ∧ n ≤ 2000 by omega)]
    refine Ev.step (fun k => by rw [spec_Unframe.j0]) ?_
    rw [w64 (by omega) (by omega)]
    refine Ev.neg (by simp) ?_
    by_cases c2 : (s.size : Int) < 8 + n
    ·rw [if_pos c2]; exact Ev.pos c2 (Ev.now _)
    ·rw [if_neg c2]
     refine Ev.neg c2 (Ev.pos (by omega) (Ev.pos (by omega) ?_))
     refine Ev.bind (spec_Frame_ev _ (by have := extract_le s 8 (8 + n).toNat; omega)) (Ev.pos (by omega) ?_)
     by_cases c3 : (frameV (s.extract 8 (8 + n).toNat)).toList = (s.extract 0 (8 + n).toNat).toList
     ·refine Ev.pos c3 ?_; rw [if_pos c3]; exact Ev.now _
     ·refine Ev.neg c3 ?_; rw [if_neg c3]; exact Ev.now _
 ·rw [if_neg c, if_neg c]
  exact Ev.neg (by simp) (Ev.now _)

theorem spec_Frames_l0 (s : ByteArray) (hs : s.size ≤ 1048576) (f : Nat) : ∀ (pos : Nat) (acc : List ByteArray), pos ≤ s.size → s.size ≤ pos + f → acc.length ≤ pos →
  Ev (fun k => spec_Frames.l0 k s acc (pos : Int)) (frFrom s f pos acc) := by
 induction f with
 | zero =>
  intro pos acc hp hf ha
  refine Ev.step (fun k => by rw [spec_Frames.l0]) ?_
  exact Ev.neg (by omega) (Ev.now _)
 | succ f ih =>
  intro pos acc hp hf ha
  refine Ev.step (fun k => by rw [spec_Frames.l0]) ?_
  rw [frFrom]
  have e : (s.extract pos s.size).size = s.size - pos := by rw [ByteArray.size_extract]; omega
  by_cases c : (pos : Int) < (s.size : Int)
  ·refine Ev.pos c (Ev.pos (by omega) (Ev.pos (by omega) ?_))
   rw [Int.toNat_natCast]
   refine Ev.bind (spec_Unframe_ev _ (by omega)) ?_
   refine Ev.ite Iff.rfl (fun h => ?_) (fun _ => Ev.now _)
   have u := unframe_ok h
   rw [e] at u
   refine Ev.pos (by omega) ?_
   rw [w64 (by omega) (by omega)]
   have := ih (pos + (unframeV (s.extract pos s.size)).2.1.toNat) (acc ++ [(unframeV (s.extract pos s.size)).1]) (by omega) (by omega) (by rw [List.length_append]; simp; omega)
   have e1 : ((pos + (unframeV (s.extract pos s.size)).2.1.toNat : Nat) : Int) = (pos : Int) + (unframeV (s.extract pos s.size)).2.1 := by omega
   rw [e1] at this
   exact this
  ·have h : ¬ (unframeV (s.extract pos s.size)).2.2 = 0 := by
    intro h
    have u := unframe_ok h
    rw [e] at u
    omega
   rw [if_neg h]
   exact Ev.neg c (Ev.now _)
theorem spec_Frames_ev (s : ByteArray) (hs : s.size ≤ 1048576) : Ev (fun k => spec_Frames.f k s) (framesV s) := by
 unfold spec_Frames.f framesV
 exact spec_Frames_l0 s hs s.size 0 [] (by omega) (by omega) (by simp)

theorem impl_within_eq (a b c : Int) : impl_within.f a b c = some (decide (b ≤ a ∧ a ≤ c)) := by
 unfold impl_within.f
 by_cases h : a ≥ b
 ·rw [if_pos h]; simp [show b ≤ a from h]
 ·rw [if_neg h]; simp [show ¬ b ≤ a from h]

theorem impl_Fixed_l0 (d : Nat) : ∀ (n : Nat) (xs : List Int), d ≤ 7 → n < 9223372036854775808 →
  Ev (fun k => impl_Fixed.l0 k (n : Int) (List.replicate d 0 ++ xs) ((d : Int) - 1)) (strOfNums (fixL d n ++ xs)) := by
 induction d with
 | zero =>
  intro n xs hd hn
  refine Ev.step (fun k => by rw [impl_Fixed.l0]) ?_
  exact Ev.neg (by omega) (Ev.val _ _ (by simp [fixL]))
 | succ d ih =>
  intro n xs hd hn
  refine Ev.step (fun k => by rw [impl_Fixed.l0]) ?_
  refine Ev.pos (by omega) (Ev.pos (by omega) (Ev.pos (by simp; omega) ?_))
  have e1 : (Go.bits .and .i64 (n : Int) 255) % 256 = ((n % 256 : Nat) : Int) := by rw [and255 (by omega) (by omega)]; omega
  have e2 : (n : Int) / 256 = ((n / 256 : Nat) : Int) := by omega
  have e3 : ((d + 1 : Nat) : Int) - 1 = (d : Int) := by omega
  rw [e1, e2, e3, w64 (by omega) (by omega), Int.toNat_natCast, set_replicate]
  have := ih (n / 256) (((n % 256 : Nat) : Int) :: xs) (by omega) (by omega)
  simpa [fixL, List.append_assoc] using this
theorem impl_Fixed_ev (n w : Int) (hn : n ≤ 9223372036854775807) : Ev (fun k => impl_Fixed.f k n w) (strOfNums (fixedV n w)) := by
 unfold impl_Fixed.f fixedV
 refine Ev.bind0 (impl_within_eq _ _ _) ?_
 by_cases c : 1 ≤ w ∧ w ≤ 7
 ·refine Ev.pos (by simp; omega) ?_
  by_cases c2 : n < 0
  ·refine Ev.pos c2 ?_
   refine Ev.step (fun k => by rw [impl_Fixed.j0]) ?_
   refine Ev.pos rfl (Ev.val _ _ ?_)
   rw [if_neg (by omega)]; rfl
  ·obtain ⟨m, rfl⟩ := Int.eq_ofNat_of_zero_le (show 0 ≤ n by omega)
   obtain ⟨d, rfl⟩ := Int.eq_ofNat_of_zero_le (show 0 ≤ w by omega)
   have e1 : wrap64 (8 * (d : Int)) = ((8 * d : Nat) : Int) := by rw [w64 (by omega) (by omega)]; omega
   have e2 : shl .i64 1 ((8 * d : Nat) : Int) = ((256 ^ d : Nat) : Int) := by
    obtain rfl | rfl | rfl | rfl | rfl | rfl | rfl : d = 1 ∨ d = 2 ∨ d = 3 ∨ d = 4 ∨ d = 5 ∨ d = 6 ∨ d = 7 := by omega
    all_goals decide
   rw [e1, e2]
   refine Ev.neg c2 (Ev.pos (by omega) ?_)
   refine Ev.step (fun k => by rw [impl_Fixed.j0]) ?_
   have e3 : ((m : Int) < 256 ^ (d : Int).toNat) = (m < 256 ^ d) := by rw [Int.toNat_natCast, lt_pow256]
   by_cases c3 : m < 256 ^ d
   ·refine Ev.neg (by simp only [decide_eq_true_eq]; omega) (Ev.pos (by omega) (Ev.pos (by simp; omega) ?_))
    rw [if_pos (by rw [e3]; exact ⟨by omega, by omega, by omega, c3⟩), w64 (by omega) (by omega), Int.toNat_natCast, Int.toNat_natCast]
    simpa using impl_Fixed_l0 d m [] (by omega) (by omega)
   ·refine Ev.pos (by simp only [decide_eq_true_eq]; omega) (Ev.val _ _ ?_)
    rw [if_neg (by rw [e3]; omega)]; rfl
 ·refine Ev.neg (by simp; omega) ?_
  refine Ev.step (fun k => by rw [impl_Fixed.j0]) ?_
  refine Ev.pos rfl (Ev.val _ _ ?_)
  rw [if_neg (by omega)]; rfl

theorem impl_Crc_l1 (s : ByteArray) (i : Nat) (r : Int) (d : Nat) : ∀ (c : Nat) (j : Int), c < 2 ^ 32 → 8 - j = d → 0 ≤ j → i < 9223372036854775807 →
  Ev (fun k => impl_Crc.l0 k s ((crcRounds d c : Nat) : Int) ((i + 1 : Nat) : Int)) r → Ev (fun k => impl_Crc.l1 k s (c : Int) (i : Int) j) r := by
 induction d with
 | zero =>
  intro c j hc hd hj hi h
  refine Ev.step (fun k => by rw [impl_Crc.l1]) (Ev.neg (by omega) ?_)
  rw [w64 (by omega) (by omega)]
  exact h
 | succ d ih =>
  intro c j hc hd hj hi h
  have hlt := crcStep_lt hc
  refine Ev.step (fun k => by rw [impl_Crc.l1]) (Ev.pos (by omega) ?_)
  rw [and1 (by omega) (by omega), w64 (x := j + 1) (by omega) (by omega)]
  have g := ih (crcStep c) (j + 1) hlt (by omega) (by omega) hi h
  by_cases o : c % 2 = 1
  ·refine Ev.pos (by omega) ?_
   have e : Go.bits .xor .i64 ((c : Int) / 2) 2197175160 = ((crcStep c : Nat) : Int) := by
    rw [show ((c : Int) / 2) = ((c / 2 : Nat) : Int) by omega, show (2197175160 : Int) = ((2197175160 : Nat) : Int) from rfl, bits_xor_nat _ _ (by omega) (by decide)]
    unfold crcStep; rw [if_pos o]
   rw [e]; exact g
  ·refine Ev.neg (by omega) ?_
   have e : (c : Int) / 2 = ((crcStep c : Nat) : Int) := by unfold crcStep; rw [if_neg o]; omega
   rw [e]; exact g
theorem impl_Crc_l0 (s : ByteArray) (hs : s.size ≤ 140737488351232) (d : Nat) : ∀ (i c : Nat), c < 2 ^ 32 → s.size - i = d → i ≤ s.size →
  Ev (fun k => impl_Crc.l0 k s (c : Int) (i : Int)) (4294967295 - (crcFrom s d i c : Nat)) := by
 induction d with
 | zero =>
  intro i c hc hd hi
  exact Ev.step (fun k => by rw [impl_Crc.l0]) (Ev.neg (by omega) (Ev.val _ _ (by simp only [crcFrom]; rw [w64 (by omega) (by omega)])))
 | succ d ih =>
  intro i c hc hd hi
  have hb := bt_range s i
  refine Ev.step (fun k => by rw [impl_Crc.l0]) (Ev.pos (by omega) (Ev.pos (by omega) ?_))
  rw [wbt, show bt s (i : Int) = ((bt s i).toNat : Int) by omega, bits_xor_nat _ _ (by omega) (by omega)]
  exact impl_Crc_l1 s i _ 8 _ 0 (crcIn_lt s i hc) (by omega) (by omega) (by omega) (ih (i + 1) _ (crcRounds_lt 8 _ (crcIn_lt s i hc)) (by omega) (by omega))
theorem impl_Crc_ev (s : ByteArray) (hs : s.size ≤ 140737488351232) : Ev (fun k => impl_Crc.f k s) (crcV s) := by
 unfold impl_Crc.f
 exact impl_Crc_l0 s hs s.size 0 4294967295 (by decide) (by omega) (by omega)

theorem impl_Frame_ev (b : ByteArray) (hb : b.size ≤ 140737488351232) : Ev (fun k => impl_Frame.f k b) (frameV b) := by
 unfold impl_Frame.f frameV
 refine Ev.bind0 (impl_within_eq _ _ _) ?_
 by_cases c : 1 ≤ b.size ∧ b.size ≤ 2000
 ·rw [if_pos c]
  have h4 : (strOfNums (fixedV (b.size : Int) 4)).size = 4 := by rw [strOf_size, fixedV_4 (by omega) (by omega), fixL_length]
  have hc := crcV_range (strOfNums (fixedV (b.size : Int) 4) ++ b)
  have h5 : (strOfNums (fixedV (crcV (strOfNums (fixedV (b.size : Int) 4) ++ b)) 4)).size = 4 := by rw [strOf_size, fixedV_4 hc.1 hc.2, fixL_length]
  refine Ev.pos (by simp; omega) (Ev.bind (impl_Fixed_ev _ _ (by omega)) (Ev.pos (by omega) ?_))
  refine Ev.bind (impl_Crc_ev _ (by rw [size_append]; omega)) (Ev.bind (impl_Fixed_ev _ _ (by omega)) ?_)
  exact Ev.pos (by omega) (Ev.pos (by rw [size_append]; omega) (Ev.now _))
 ·rw [if_neg c]
  exact Ev.neg (by simp; omega) (Ev.now _)

theorem impl_ReadFixed_l0 (s : ByteArray) (d : Nat) : ∀ (w i n : Int), 0 ≤ i → w - i = d → w ≤ 7 → w ≤ (s.size : Int) → 0 ≤ n → n < 256 ^ i.toNat →
  Ev (fun k => impl_ReadFixed.l0 k s w n i) (beAcc s d i n, true) := by
 induction d with
 | zero =>
  intro w i n hi hd hw hs hn hn2
  refine Ev.step (fun k => by rw [impl_ReadFixed.l0]) ?_
  exact Ev.neg (by omega) (Ev.now _)
 | succ d ih =>
  intro w i n hi hd hw hs hn hn2
  refine Ev.step (fun k => by rw [impl_ReadFixed.l0]) ?_
  refine Ev.pos (by omega) (Ev.pos (by omega) (Ev.pos (by omega) ?_))
  have hb := bt_range s i
  have h6 := pow256_six i hi (by omega)
  have h7 : (256 : Int) ^ (i + 1).toNat = 256 ^ i.toNat * 256 := by
   rw [show (i + 1).toNat = i.toNat + 1 by omega, Int.pow_succ]
  rw [wbt, w64 (x := n * 256) (by omega) (by omega), or_join 8 (n * 256) (bt s i) (by omega) (by omega) (by omega) (by omega) (by omega) (by omega), w64 (by omega) (by omega)]
  exact ih w (i + 1) (n * 256 + bt s i) (by omega) (by omega) hw hs (by omega) (by omega)
theorem impl_ReadFixed_ev (s : ByteArray) (w : Int) : Ev (fun k => impl_ReadFixed.f k s w) (readFixedV s w) := by
 unfold impl_ReadFixed.f readFixedV
 refine Ev.bind0 (impl_within_eq _ _ _) ?_
 by_cases c : 1 ≤ w ∧ w ≤ 7
 ·refine Ev.pos (by simp; omega) ?_
  refine Ev.step (fun k => by rw [impl_ReadFixed.j0]) ?_
  by_cases c2 : w ≤ (s.size : Int)
  ·rw [if_pos (by omega)]
   exact Ev.neg (by simp; omega) (impl_ReadFixed_l0 s w.toNat w 0 0 (by omega) (by omega) (by omega) c2 (by omega) (by simp))
  ·rw [if_neg (by omega)]
   exact Ev.pos (by simp; omega) (Ev.now _)
 ·rw [if_neg (by omega)]
  refine Ev.neg (by simp; omega) ?_
  refine Ev.step (fun k => by rw [impl_ReadFixed.j0]) ?_
  exact Ev.pos rfl (Ev.now _)

theorem impl_Unframe_ev (s : ByteArray) (hs : s.size ≤ 140737488351232) : Ev (fun k => impl_Unframe.f k s) (unframeV s) := by
 have hr := beAcc4 s
 unfold impl_Unframe.f unframeV
 refine Ev.bind (impl_ReadFixed_ev s 4) ?_
 rw [readFixed4]
 by_cases c : 4 ≤ s.size
 ·rw [if_pos c, if_pos c]
  refine Ev.pos rfl ?_
  simp only []
  generalize beAcc s 4 0 0 = n at hr
  refine Ev.bind0 (impl_within_eq _ _ _) ?_
  by_cases c1 : 1 ≤ n ∧ n ≤ 2000
  ·rw [if_pos c1, w64 (by omega) (by omega)]
   refine Ev.pos (by simpa using c1) ?_
   by_cases c2 : (s.size : Int) < 8 + n
   ·rw [if_pos c2]; exact Ev.pos c2 (Ev.now _)
   ·rw [if_neg c2]
    refine Ev.neg c2 (Ev.pos (by omega) (Ev.pos (by omega) ?_))
    refine Ev.bind (impl_Frame_ev _ (by have := extract_le s 8 (8 + n).toNat; omega)) (Ev.pos (by omega) ?_)
    by_cases c3 : (frameV (s.extract 8 (8 + n).toNat)).toList = (s.extract 0 (8 + n).toNat).toList
    ·refine Ev.pos c3 ?_; rw [if_pos c3]; exact Ev.now _
    ·refine Ev.neg c3 ?_; rw [if_neg c3]; exact Ev.now _
  ·rw [if_neg c1]
   exact Ev.neg (by simpa using c1) (Ev.now _)
 ·rw [if_neg c, if_neg c]
  exact Ev.neg (by simp) (Ev.now _)

theorem impl_Frames_l0 (s : ByteArray) (hs : s.size ≤ 1048576) (f : Nat) : ∀ (pos : Nat) (acc : List ByteArray), pos ≤ s.size → s.size ≤ pos + f → acc.length ≤ pos →
  Ev (fun k => impl_Frames.l0 k s acc (pos : Int)) (frFrom s f pos acc) := by
 induction f with
 | zero =>
  intro pos acc hp hf ha
  refine Ev.step (fun k => by rw [impl_Frames.l0]) ?_
  have e : (s.extract pos s.size).size = s.size - pos := by rw [ByteArray.size_extract]; omega
  refine Ev.pos (by omega) (Ev.pos (by omega) ?_)
  rw [Int.toNat_natCast]
  refine Ev.bind (impl_Unframe_ev _ (by omega)) (Ev.neg ?_ (Ev.now _))
  intro h
  have u := unframe_ok h
  rw [e] at u
  omega
 | succ f ih =>
  intro pos acc hp hf ha
  refine Ev.step (fun k => by rw [impl_Frames.l0]) ?_
  rw [frFrom]
  have e : (s.extract pos s.size).size = s.size - pos := by rw [ByteArray.size_extract]; omega
  refine Ev.pos (by omega) (Ev.pos (by omega) ?_)
  rw [Int.toNat_natCast]
  refine Ev.bind (impl_Unframe_ev _ (by omega)) ?_
  refine Ev.ite Iff.rfl (fun h => ?_) (fun _ => Ev.now _)
  have u := unframe_ok h
  rw [e] at u
  refine Ev.pos (by omega) ?_
  rw [w64 (by omega) (by omega)]
  have := ih (pos + (unframeV (s.extract pos s.size)).2.1.toNat) (acc ++ [(unframeV (s.extract pos s.size)).1]) (by omega) (by omega) (by rw [List.length_append]; simp; omega)
  have e1 : ((pos + (unframeV (s.extract pos s.size)).2.1.toNat : Nat) : Int) = (pos : Int) + (unframeV (s.extract pos s.size)).2.1 := by omega
  rw [e1] at this
  exact this
theorem impl_Frames_ev (s : ByteArray) (hs : s.size ≤ 1048576) : Ev (fun k => impl_Frames.f k s) (framesV s) := by
 unfold impl_Frames.f framesV
 exact impl_Frames_l0 s hs s.size 0 [] (by omega) (by omega) (by simp)

theorem spec_Var_l0 (n : Nat) : ∀ (xs : List Int), xs.length + n / 128 < 140737488355328 → n < 9223372036854775808 →
  Ev (fun k => spec_Var.l0 k (n : Int) xs) (strOfNums (xs ++ varL n)) := by
 induction n using Nat.strongRecOn with
 | ind n ih =>
 intro xs h1 h2
 refine Ev.step (fun k => by rw [spec_Var.l0]) ?_
 rw [varL]
 by_cases c : n < 128
 ·rw [if_pos c]
  refine Ev.neg (by omega) (Ev.pos (by omega) (Ev.val _ _ ?_))
  rw [Int.emod_eq_of_lt (by omega) (by omega)]
 ·rw [if_neg c]
  refine Ev.pos (by omega) (Ev.pos (by omega) ?_)
  have e1 : wrap64 (Int.tdiv (n : Int) 128) = ((n / 128 : Nat) : Int) := by rw [tdiv_nn (by omega), w64 (by omega) (by omega)]; omega
  have e2 : (wrap64 (128 + Int.tmod (n : Int) 128)) % 256 = ((n % 128 + 128 : Nat) : Int) := by rw [tmod_nn (by omega), w64 (by omega) (by omega)]; omega
  rw [e1, e2]
  have := ih (n / 128) (by omega) (xs ++ [((n % 128 + 128 : Nat) : Int)]) (by simp; omega) (by omega)
  simpa [List.append_assoc] using this
theorem spec_Var_in (n : Nat) (h : n ≤ 562949953421311) : Ev (fun k => spec_Var.f k (n : Int)) (strOfNums (varL n)) := by
 unfold spec_Var.f
 refine Ev.bind0 (spec_l1In_eq _ _ _) (Ev.pos (by simp; omega) ?_)
 simpa using spec_Var_l0 n [] (by simp; omega) (by omega)
theorem spec_ReadVar_l1 (s : ByteArray) (x4 : Int) (r : Int × Int) (m : Nat) : ∀ (n e : Nat), n < 128 ^ e → e + m ≤ 7 → m ≤ s.size →
  Ev (fun k => spec_ReadVar.l1 k s x4 ((n * 128 ^ m + lev s m : Nat) : Int) (-1)) r → Ev (fun k => spec_ReadVar.l1 k s x4 (n : Int) ((m : Int) - 1)) r := by
 induction m with
 | zero =>
  intro n e hn he hm h
  simpa [lev] using h
 | succ m ih =>
  intro n e hn he hm h
  have hb := bt_range s (m : Int)
  have h7 : 128 ^ e ≤ 128 ^ 6 := Nat.pow_le_pow_right (by decide) (by omega)
  have h6 : (128 : Nat) ^ 6 = 4398046511104 := by decide
  refine Ev.step (fun k => by rw [spec_ReadVar.l1]) ?_
  have e0 : ((m + 1 : Nat) : Int) - 1 = (m : Int) := by omega
  rw [e0]
  refine Ev.pos (by omega) (Ev.pos (by omega) (Ev.pos (by omega) ?_))
  have e1 : wrap64 (wrap64 ((n : Int) * 128) + Int.tmod (wrap64 (bt s (m : Int))) 128) = ((n * 128 + (bt s (m : Int)).toNat % 128 : Nat) : Int) := by
   rw [wbt, tmod_nn (by omega), w64 (x := (n : Int) * 128) (by omega) (by omega), w64 (by omega) (by omega)]
   omega
  rw [e1, w64 (by omega) (by omega)]
  refine ih _ (e + 1) (by rw [Nat.pow_succ]; omega) (by omega) (by omega) ?_
  have e2 : (n * 128 + (bt s (m : Int)).toNat % 128) * 128 ^ m + lev s m = n * 128 ^ (m + 1) + lev s (m + 1) := by
   rw [lev, Nat.pow_succ, Nat.add_mul, Nat.mul_assoc, Nat.mul_comm 128 (128 ^ m)]
   omega
  rw [e2]
  exact h
theorem spec_ReadVar_l0 (s : ByteArray) (hs : s.size ≤ 140737488351232) (d : Nat) : ∀ (i : Nat), i + d = 7 → Ev (fun k => spec_ReadVar.l0 k s ((i + 1 : Nat) : Int)) (rvTry s d i) := by
 induction d with
 | zero =>
  intro i hi
  refine Ev.step (fun k => by rw [spec_ReadVar.l0]) ?_
  refine Ev.neg (by omega) ?_
  refine Ev.step (fun k => by rw [spec_ReadVar.j1]) ?_
  exact Ev.neg (by simp) (Ev.now _)
 | succ d ih =>
  intro i hi
  refine Ev.step (fun k => by rw [spec_ReadVar.l0]) ?_
  refine Ev.pos (by omega) ?_
  refine Ev.step (fun k => by rw [spec_ReadVar.j1]) ?_
  rw [rvTry]
  by_cases c : i < s.size
  ·rw [if_pos c]
   refine Ev.pos (by simp; omega) ?_
   rw [w64 (x := ((i + 1 : Nat) : Int) - 1) (by omega) (by omega)]
   refine spec_ReadVar_l1 s _ _ (i + 1) 0 0 (by simp) (by omega) (by omega) ?_
   rw [Nat.zero_mul, Nat.zero_add]
   refine Ev.step (fun k => by rw [spec_ReadVar.l1]) ?_
   refine Ev.neg (by omega) (Ev.bind (spec_Var_in _ (lev_le (by omega))) (Ev.pos (by omega) (Ev.pos (by omega) ?_)))
   rw [Int.toNat_natCast]
   by_cases v : isVarAt s (i + 1)
   ·rw [if_pos v]
    exact Ev.pos v (Ev.now _)
   ·rw [if_neg v]
    refine Ev.neg v ?_
    rw [w64 (by omega) (by omega)]
    exact ih (i + 1) (by omega)
  ·rw [if_neg c]
   exact Ev.neg (by simp; omega) (Ev.now _)
theorem spec_ReadVar_ev (s : ByteArray) (hs : s.size ≤ 140737488351232) : Ev (fun k => spec_ReadVar.f k s) (readVarV s) := by
 unfold spec_ReadVar.f readVarV
 rw [← rv_same]
 exact spec_ReadVar_l0 s hs 7 0 rfl

theorem spec_l5Based_eq (i t : Int) : spec_l5Based.f i t = some (decide (baseP i t)) := by
 unfold spec_l5Based.f baseP
 simp only [spec_l1In_eq, Option.bind_some, decide_eq_true_eq]
 repeat' split
 all_goals (simp only [Option.some.injEq]; rw [Bool.eq_iff_iff]; simp only [decide_eq_true_eq, beq_iff_eq, Bool.false_eq_true, false_iff, true_iff]; omega)

theorem spec_RecOk_eq (kd tm ix vt : Int) (d : ByteArray) : spec_RecOk.f kd tm ix vt d = some (decide (recOkP kd tm ix vt d.size)) := by
 unfold spec_RecOk.f recOkP
 simp only [spec_l1In_eq, spec_l5Based_eq, Option.bind_some, tl_nil, decide_eq_true_eq]
 repeat' split
 all_goals (simp only [Option.some.injEq]; rw [Bool.eq_iff_iff]; simp only [decide_eq_true_eq, Bool.false_eq_true, false_iff, true_iff, baseP] at *; omega)

theorem spec_ShowRec_ev (kd tm ix vt : Int) (d : ByteArray) (hd : d.size ≤ 9223372036854775000) : Ev (fun k => spec_ShowRec.f k kd tm ix vt d) (showRecV kd tm ix vt d) := by
 unfold spec_ShowRec.f showRecV
 refine Ev.bind0 (spec_RecOk_eq _ _ _ _ _) ?_
 by_cases c : recOkP kd tm ix vt d.size
 ·rw [if_pos c]
  have c2 : 1 ≤ kd ∧ kd ≤ 4 ∧ 0 ≤ tm ∧ tm ≤ 100000 ∧ 0 ≤ ix ∧ ix ≤ 100000 ∧ -1 ≤ vt ∧ vt ≤ 4 := by unfold recOkP baseP at c; omega
  obtain ⟨n, rfl⟩ := Int.eq_ofNat_of_zero_le c2.2.2.1
  obtain ⟨m, rfl⟩ := Int.eq_ofNat_of_zero_le c2.2.2.2.2.1
  obtain ⟨q, hq⟩ := Int.eq_ofNat_of_zero_le (show 0 ≤ vt + 1 by omega)
  have h1 := varL_le7 (n := n) (by omega)
  have h2 := varL_le7 (n := m) (by omega)
  have h3 := varL_le7 (n := q) (by omega)
  refine Ev.pos (decide_eq_true c) (Ev.bind0 rfl ?_)
  rw [w64 (by omega) (by omega), hq, Int.emod_eq_of_lt (by omega) (by omega)]
  refine Ev.bind (spec_Var_in n (by omega)) ?_
  refine Ev.pos (by rw [strOf_size, strOf_size]; simp; omega) ?_
  refine Ev.bind (spec_Var_in m (by omega)) ?_
  rw [strOf_append]
  refine Ev.pos (by rw [strOf_size, strOf_size]; simp; omega) ?_
  refine Ev.bind (spec_Var_in q (by omega)) ?_
  rw [strOf_append]
  refine Ev.pos (by rw [strOf_size, strOf_size]; simp; omega) ?_
  rw [strOf_append]
  refine Ev.pos (by rw [strOf_size]; simp; omega) ?_
  refine Ev.val _ _ ?_
  simp only [Int.toNat_natCast]
 ·rw [if_neg c]
  exact Ev.neg (by rw [decide_eq_false c]; simp) (Ev.now _)

theorem spec_ReadRec_j0 (s : ByteArray) (h0 : 0 < s.size) (hs : s.size ≤ 2000) : Ev (fun k => spec_ReadRec.j0 k s false) (readRecV s) := by
 have r1 := rv_range (tl s 1)
 have e1 := spec_ReadVar_ev (tl s 1) (by rw [tl_size]; omega)
 have r2 := rv_range (tl s (1 + (readVarV (tl s 1)).2.toNat))
 have e2 := spec_ReadVar_ev (tl s (1 + (readVarV (tl s 1)).2.toNat)) (by rw [tl_size]; omega)
 rw [tl_size] at r1 r2
 unfold readRecV
 rw [if_neg (by omega)]
 simp only
 generalize readVarV (tl s 1) = p at *
 have r3 := rv_range (tl s (1 + p.2.toNat + (readVarV (tl s (1 + p.2.toNat))).2.toNat))
 have e3 := spec_ReadVar_ev (tl s (1 + p.2.toNat + (readVarV (tl s (1 + p.2.toNat))).2.toNat)) (by rw [tl_size]; omega)
 rw [tl_size] at r3
 generalize readVarV (tl s (1 + p.2.toNat)) = q at *
 generalize readVarV (tl s (1 + p.2.toNat + q.2.toNat)) = v at *
 have a1 : wrap64 (1 + p.2) = ((1 + p.2.toNat : Nat) : Int) := by rw [w64 (by omega) (by omega)]; omega
 have a2 : wrap64 (((1 + p.2.toNat : Nat) : Int) + q.2) = ((1 + p.2.toNat + q.2.toNat : Nat) : Int) := by rw [w64 (by omega) (by omega)]; omega
 have a3 : wrap64 (((1 + p.2.toNat + q.2.toNat : Nat) : Int) + v.2) = ((1 + p.2.toNat + q.2.toNat + v.2.toNat : Nat) : Int) := by rw [w64 (by omega) (by omega)]; omega
 refine Ev.step (fun k => by rw [spec_ReadRec.j0]) ?_
 refine Ev.neg (by simp) (Ev.pos (by omega) (Ev.pos (by omega) (Ev.bind e1 ?_)))
 rw [a1, Int.toNat_natCast]
 refine Ev.pos (Int.natCast_nonneg _) (Ev.pos (by omega) (Ev.bind e2 ?_))
 rw [a2, Int.toNat_natCast]
 refine Ev.pos (Int.natCast_nonneg _) (Ev.pos (by omega) (Ev.bind e3 ?_))
 rw [a3, Int.toNat_natCast]
 clear a1 a2 a3
 refine Ev.pos (Int.natCast_nonneg _) (Ev.pos (by omega) ?_)
 refine Ev.ite Iff.rfl (fun _ => Ev.now _) (fun c1 => Ev.ite Iff.rfl (fun _ => Ev.now _) (fun c2 => Ev.ite Iff.rfl (fun _ => Ev.now _) (fun c3 => ?_)))
 have hv := r3.2.2.2 c3
 rw [wbt, w64 (x := v.1 - 1) (by omega) (by omega)]
 unfold rrEnd
 refine Ev.bind (spec_ShowRec_ev _ _ _ _ _ (by rw [tl_size]; omega)) (Ev.ite Iff.rfl (fun _ => Ev.now _) (fun _ => Ev.now _))
theorem spec_ReadRec_ev (s : ByteArray) (hs : s.size ≤ 1048576) : Ev (fun k => spec_ReadRec.f k s) (readRecV s) := by
 unfold spec_ReadRec.f
 have jt : Ev (fun k => spec_ReadRec.j0 k s true) zeroR := by
  refine Ev.step (fun k => by rw [spec_ReadRec.j0]) ?_
  exact Ev.pos rfl (Ev.now _)
 by_cases c0 : s.size = 0
 ·have e : readRecV s = zeroR := by unfold readRecV; rw [if_pos c0]
  rw [e]
  exact Ev.pos (by omega) jt
 ·refine Ev.neg (by omega) ?_
  by_cases c1 : (s.size : Int) > 2000
  ·have e : readRecV s = zeroR := by
    unfold readRecV
    rw [if_neg c0]
    simp only [rrEnd_large (show 2000 < s.size by omega)]
    repeat' split
    all_goals rfl
   rw [e, decide_eq_true c1]
   exact jt
  ·rw [decide_eq_false c1]
   exact spec_ReadRec_j0 s (by omega) (by omega)

theorem impl_Var_l0 (n : Nat) : ∀ (xs : List Int), xs.length + n / 128 < 140737488355328 → n < 9223372036854775808 →
  Ev (fun k => impl_Var.l0 k (n : Int) xs) (strOfNums (xs ++ varL n)) := by
 induction n using Nat.strongRecOn with
 | ind n ih =>
 intro xs h1 h2
 refine Ev.step (fun k => by rw [impl_Var.l0]) ?_
 rw [varL]
 by_cases c : n < 128
 ·rw [if_pos c]
  refine Ev.neg (by omega) (Ev.pos (by omega) (Ev.val _ _ ?_))
  rw [Int.emod_eq_of_lt (by omega) (by omega)]
 ·rw [if_neg c]
  refine Ev.pos (by omega) (Ev.pos (by omega) ?_)
  have e1 : ((n : Int) / 128) = ((n / 128 : Nat) : Int) := by omega
  have e2 : (Go.bits .or .i64 (Go.bits .and .i64 (n : Int) 127) 128) % 256 = ((n % 128 + 128 : Nat) : Int) := by
   rw [and127 (by omega) (by omega), or_join' 7 128 _ (by omega) (by omega) (by omega) (by omega) (by omega) (by omega)]; omega
  rw [e1, e2]
  have := ih (n / 128) (by omega) (xs ++ [((n % 128 + 128 : Nat) : Int)]) (by simp; omega) (by omega)
  simpa [List.append_assoc] using this
theorem impl_Var_in (n : Nat) (h : n ≤ 562949953421311) : Ev (fun k => impl_Var.f k (n : Int)) (strOfNums (varL n)) := by
 unfold impl_Var.f
 refine Ev.bind0 (impl_within_eq _ _ _) (Ev.pos (by simp; omega) ?_)
 simpa using impl_Var_l0 n [] (by simp; omega) (by omega)
theorem readVar_or (n b i : Nat) (hi : i ≤ 6) (hn : n < 128 ^ i) (hb : b < 128) :
  Go.bits .or .i64 (n : Int) (shl .i64 (b : Int) (wrap64 (7 * (i : Int)))) = ((n + b * 128 ^ i : Nat) : Int) := by
 have hp : (2 : Nat) ^ (7 * i) = 128 ^ i := by rw [Nat.pow_mul]
 have h7 : 128 ^ i ≤ 128 ^ 6 := Nat.pow_le_pow_right (by decide) hi
 have h6 : (128 : Nat) ^ 6 = 4398046511104 := by decide
 have hm : b * 128 ^ i ≤ 127 * 128 ^ i := Nat.mul_le_mul_right _ (by omega)
 have e1 : shl .i64 (b : Int) (wrap64 (7 * (i : Int))) = ((b * 128 ^ i : Nat) : Int) := by
  rw [w64 (by omega) (by omega)]
  unfold shl
  have : min (7 * (i : Int)).toNat IntKind.i64.bits = 7 * i := by
   have : IntKind.i64.bits = 64 := rfl
   omega
  rw [this]
  have e : (b : Int) * 2 ^ (7 * i) = ((b * 128 ^ i : Nat) : Int) := by
   rw [← hp]; simp
  rw [e]
  exact wraps_i64 _ (by omega) (by omega)
 rw [e1, or_join' (7 * i) ((b * 128 ^ i : Nat) : Int) (n : Int) (by omega) ?_ (by omega) (by omega) ?_ (by omega)]
 ·omega
 ·have e : (2 : Int) ^ (7 * i) = ((128 ^ i : Nat) : Int) := by rw [← hp]; simp
  rw [e, ← Int.natCast_emod, Nat.mul_mod_left]; rfl
 ·have e : (2 : Int) ^ (7 * i) = ((128 ^ i : Nat) : Int) := by rw [← hp]; simp
  rw [e]; omega
theorem impl_ReadVar_l0 (s : ByteArray) (hs : s.size ≤ 140737488351232) (d : Nat) : ∀ (i : Nat), i + d = 7 → Ev (fun k => impl_ReadVar.l0 k s ((lev s i : Nat) : Int) (i : Int)) (rvFrom s d i) := by
 induction d with
 | zero =>
  intro i hi
  refine Ev.step (fun k => by rw [impl_ReadVar.l0]) ?_
  have fin : Ev (fun k => impl_ReadVar.j1 k s ((lev s i : Nat) : Int) (i : Int) false) (rvFrom s 0 i) := by
   refine Ev.step (fun k => by rw [impl_ReadVar.j1]) ?_
   exact Ev.neg (by simp) (Ev.now _)
  by_cases c : (i : Int) < (s.size : Int)
  ·refine Ev.pos c ?_
   rw [show decide ((i : Int) < 7) = false by simp; omega]
   exact fin
  ·exact Ev.neg c fin
 | succ d ih =>
  intro i hi
  have hb := bt_range s (i : Int)
  refine Ev.step (fun k => by rw [impl_ReadVar.l0]) ?_
  rw [rvFrom]
  by_cases c : i < s.size
  ·rw [if_pos c]
   refine Ev.pos (by omega) ?_
   refine Ev.step (fun k => by rw [impl_ReadVar.j1]) ?_
   have eb : wrap64 (Go.bits .and .u8 (bt s (i : Int)) 127) = (((bt s (i : Int)).toNat % 128 : Nat) : Int) := by
    rw [u8_and127 hb.1 (by omega), w64 (by omega) (by omega)]; omega
   have ev : Go.bits .or .i64 ((lev s i : Nat) : Int) (shl .i64 (wrap64 (Go.bits .and .u8 (bt s (i : Int)) 127)) (wrap64 (7 * (i : Int)))) = ((lev s (i + 1) : Nat) : Int) := by
    rw [eb, readVar_or _ _ i (by omega) (lev_lt s i) (by omega)]
    rfl
   rw [ev, w64 (x := (i : Int) + 1) (by omega) (by omega), w64 (x := 7 * (i : Int)) (by omega) (by omega)]
   have e1 : (i : Int) + 1 = ((i + 1 : Nat) : Int) := by omega
   rw [e1, Int.toNat_natCast]
   refine Ev.pos (by simp; omega) (Ev.pos (by omega) (Ev.pos (by omega) (Ev.pos (by omega) ?_)))
   by_cases l : bt s (i : Int) < 128
   ·rw [if_pos l]
    refine Ev.pos l (Ev.bind (impl_Var_in _ (lev_le (by omega))) (Ev.pos (by omega) (Ev.pos (by omega) ?_)))
    by_cases v : isVarAt s (i + 1)
    ·rw [if_pos v]
     exact Ev.pos v (Ev.now _)
    ·rw [if_neg v]
     exact Ev.neg v (Ev.now _)
   ·rw [if_neg l]
    refine Ev.neg l ?_
    exact ih (i + 1) (by omega)
  ·rw [if_neg c]
   refine Ev.neg (by omega) ?_
   refine Ev.step (fun k => by rw [impl_ReadVar.j1]) ?_
   exact Ev.neg (by simp) (Ev.now _)
theorem impl_ReadVar_ev (s : ByteArray) (hs : s.size ≤ 140737488351232) : Ev (fun k => impl_ReadVar.f k s) (readVarV s) := by
 unfold impl_ReadVar.f readVarV
 exact impl_ReadVar_l0 s hs 7 0 rfl

def numV (s : ByteArray) (bad : Bool) : Int × ByteArray × Bool := if bad = true then (0, s, true) else if (readVarV s).2 = 0 then (0, s, true) else ((readVarV s).1, tl s (readVarV s).2.toNat, bad)
theorem impl_scan_num_ev (s : ByteArray) (bad : Bool) (hs : s.size ≤ 140737488351232) : Ev (fun k => impl_scan_num.f k s bad) (numV s bad) := by
 have hr := rv_range s
 unfold impl_scan_num.f numV
 refine Ev.bind (impl_ReadVar_ev s hs) (Ev.ite Iff.rfl (fun _ => Ev.now _) (fun _ => Ev.ite Iff.rfl (fun _ => Ev.now _) (fun _ => ?_)))
 exact Ev.pos hr.1 (Ev.pos hr.2.1 (Ev.now _))
theorem impl_scan_cut_eq (s : ByteArray) (n : Int) (h0 : 0 ≤ n) (h1 : n ≤ s.size) : impl_scan_cut.f s false n = some (s.extract 0 n.toNat, tl s n.toNat, false) := by
 unfold impl_scan_cut.f
 rw [if_neg (by simp), impl_within_eq]
 simp only [Option.bind_some]
 rw [decide_eq_true (show 0 ≤ n ∧ n ≤ (s.size : Int) from ⟨h0, h1⟩), if_pos rfl, if_pos h0, if_pos h1]
theorem impl_scan_cut_no (s : ByteArray) (n : Int) (h1 : ¬ n ≤ s.size) : impl_scan_cut.f s false n = some (⟨#[]⟩, s, true) := by
 unfold impl_scan_cut.f
 rw [if_neg (by simp), impl_within_eq]
 simp only [Option.bind_some]
 rw [decide_eq_false (show ¬ (0 ≤ n ∧ n ≤ (s.size : Int)) from fun h => h1 h.2), if_neg (by simp)]

theorem impl_isTerm_eq (n : Int) : impl_isTerm.f n = some (decide (0 ≤ n ∧ n ≤ 100000)) := by
 unfold impl_isTerm.f; simp only [impl_within_eq, Option.bind_some]
theorem impl_isVote_eq (n : Int) : impl_isVote.f n = some (decide (-1 ≤ n ∧ n ≤ 4)) := by
 unfold impl_isVote.f; simp only [impl_within_eq, Option.bind_some]
theorem impl_isBase_eq (i t : Int) : impl_isBase.f i t = some (decide (baseP i t)) := by
 unfold impl_isBase.f baseP
 simp only [impl_within_eq, Option.bind_some, decide_eq_true_eq]
 repeat' split
 all_goals (simp only [Option.some.injEq]; rw [Bool.eq_iff_iff]; simp only [decide_eq_true_eq, Bool.false_eq_true, false_iff, true_iff]; omega)

theorem impl_RecOk_eq (kd tm ix vt : Int) (d : ByteArray) : impl_RecOk.f kd tm ix vt d = some (decide (recOkP kd tm ix vt d.size)) := by
 unfold impl_RecOk.f recOkP
 simp only [impl_within_eq, impl_isTerm_eq, impl_isVote_eq, impl_isBase_eq, Option.bind_some, tl_nil, decide_eq_true_eq, Bool.and_eq_true, beq_iff_eq]
 repeat' split
 all_goals (simp only [Option.some.injEq]; rw [Bool.eq_iff_iff]; simp only [decide_eq_true_eq, beq_iff_eq, Bool.false_eq_true, false_iff, true_iff, baseP] at *; omega)

theorem impl_ShowRec_ev (kd tm ix vt : Int) (d : ByteArray) (hd : d.size ≤ 9223372036854775000) : Ev (fun k => impl_ShowRec.f k kd tm ix vt d) (showRecV kd tm ix vt d) := by
 unfold impl_ShowRec.f showRecV
 refine Ev.bind0 (impl_RecOk_eq _ _ _ _ _) ?_
 by_cases c : recOkP kd tm ix vt d.size
 ·rw [if_pos c]
  have c2 : 1 ≤ kd ∧ kd ≤ 4 ∧ 0 ≤ tm ∧ tm ≤ 100000 ∧ 0 ≤ ix ∧ ix ≤ 100000 ∧ -1 ≤ vt ∧ vt ≤ 4 := by unfold recOkP baseP at c; omega
  obtain ⟨n, rfl⟩ := Int.eq_ofNat_of_zero_le c2.2.2.1
  obtain ⟨m, rfl⟩ := Int.eq_ofNat_of_zero_le c2.2.2.2.2.1
  obtain ⟨q, hq⟩ := Int.eq_ofNat_of_zero_le (show 0 ≤ vt + 1 by omega)
  have h1 := varL_le7 (n := n) (by omega)
  have h2 := varL_le7 (n := m) (by omega)
  have h3 := varL_le7 (n := q) (by omega)
  refine Ev.pos (decide_eq_true c) (Ev.bind0 rfl ?_)
  rw [w64 (by omega) (by omega), hq, Int.emod_eq_of_lt (by omega) (by omega)]
  refine Ev.bind (impl_Var_in n (by omega)) ?_
  refine Ev.pos (by rw [strOf_size, strOf_size]; simp; omega) ?_
  refine Ev.bind (impl_Var_in m (by omega)) ?_
  rw [strOf_append]
  refine Ev.pos (by rw [strOf_size, strOf_size]; simp; omega) ?_
  refine Ev.bind (impl_Var_in q (by omega)) ?_
  rw [strOf_append]
  refine Ev.pos (by rw [strOf_size, strOf_size]; simp; omega) ?_
  rw [strOf_append]
  refine Ev.pos (by rw [strOf_size]; simp; omega) ?_
  refine Ev.val _ _ ?_
  simp only [Int.toNat_natCast]
 ·rw [if_neg c]
  exact Ev.neg (by rw [decide_eq_false c]; simp) (Ev.now _)

theorem impl_scan_byte_eq (s : ByteArray) (h : 0 < s.size) : impl_scan_byte.f s false = some (bt s 0, tl s 1, false) := by
 unfold impl_scan_byte.f
 rw [impl_scan_cut_eq s 1 (by omega) (by omega)]
 simp only [Option.bind_some]
 have hz : (s.extract 0 (1 : Int).toNat).size = 1 := by
  rw [ByteArray.size_extract]; show min 1 s.size - 0 = 1; omega
 rw [if_neg (by rw [tl_nil']; omega), if_pos (by omega), wbt]
 have e : bt (s.extract 0 (1 : Int).toNat) 0 = bt s 0 := by
  rw [bt_bl, bt_bl, bl_extract]
  have hb : 0 < (bl s).length := by rw [bl_length]; exact h
  show rd (List.take 1 (List.drop 0 (bl s))) 0 = rd (bl s) 0
  rw [List.drop_zero]
  cases hl : bl s with
  | nil => rw [hl] at hb; simp at hb
  | cons b l => rfl
 rw [e]; rfl
theorem impl_scan_byte_no (s : ByteArray) (h : s.size = 0) : impl_scan_byte.f s false = some (0, s, true) := by
 unfold impl_scan_byte.f
 rw [impl_scan_cut_no s 1 (by omega)]
 simp only [Option.bind_some]
 rw [if_pos (by rw [tl_nil']; rfl)]
theorem impl_ReadRec_ev (s : ByteArray) (hs : s.size ≤ 1048576) : Ev (fun k => impl_ReadRec.f k s) (readRecV s) := by
 have bad (t : ByteArray) (ht : t.size ≤ 1048576) : Ev (fun k => impl_scan_num.f k t true) (0, t, true) := by
  have := impl_scan_num_ev t true (by omega)
  unfold numV at this
  rw [if_pos rfl] at this
  exact this
 have good (t : ByteArray) (ht : t.size ≤ 1048576) (h : ¬ (readVarV t).2 = 0) : Ev (fun k => impl_scan_num.f k t false) ((readVarV t).1, tl t (readVarV t).2.toNat, false) := by
  have := impl_scan_num_ev t false (by omega)
  unfold numV at this
  rw [if_neg (by simp), if_neg h] at this
  exact this
 have none (t : ByteArray) (ht : t.size ≤ 1048576) (h : (readVarV t).2 = 0) : Ev (fun k => impl_scan_num.f k t false) (0, t, true) := by
  have := impl_scan_num_ev t false (by omega)
  unfold numV at this
  rw [if_neg (by simp), if_pos h] at this
  exact this
 unfold impl_ReadRec.f
 by_cases c0 : s.size = 0
 ·have e : readRecV s = zeroR := by unfold readRecV; rw [if_pos c0]
  rw [e]
  exact Ev.bind0 (impl_scan_byte_no s c0) (Ev.bind (bad s hs) (Ev.bind (bad s hs) (Ev.bind (bad s hs) (Ev.pos rfl (Ev.now _)))))
 ·refine Ev.bind0 (impl_scan_byte_eq s (by omega)) ?_
  unfold readRecV
  rw [if_neg c0]
  simp only
  have z1 : (tl s 1).size ≤ 1048576 := by rw [tl_size]; omega
  by_cases c1 : (readVarV (tl s 1)).2 = 0
  ·rw [if_pos c1]
   exact Ev.bind (none _ z1 c1) (Ev.bind (bad _ z1) (Ev.bind (bad _ z1) (Ev.pos rfl (Ev.now _))))
  ·rw [if_neg c1]
   refine Ev.bind (good _ z1 c1) ?_
   simp only
   rw [tl_tl]
   generalize readVarV (tl s 1) = p at *
   have z2 : (tl s (1 + p.2.toNat)).size ≤ 1048576 := by rw [tl_size]; omega
   by_cases c2 : (readVarV (tl s (1 + p.2.toNat))).2 = 0
   ·rw [if_pos c2]
    exact Ev.bind (none _ z2 c2) (Ev.bind (bad _ z2) (Ev.pos rfl (Ev.now _)))
   ·rw [if_neg c2]
    refine Ev.bind (good _ z2 c2) ?_
    simp only
    rw [tl_tl]
    generalize readVarV (tl s (1 + p.2.toNat)) = q at *
    have z3 : (tl s (1 + p.2.toNat + q.2.toNat)).size ≤ 1048576 := by rw [tl_size]; omega
    have r3 := rv_range (tl s (1 + p.2.toNat + q.2.toNat))
    by_cases c3 : (readVarV (tl s (1 + p.2.toNat + q.2.toNat))).2 = 0
    ·rw [if_pos c3]
     exact Ev.bind (none _ z3 c3) (Ev.pos rfl (Ev.now _))
    ·rw [if_neg c3]
     refine Ev.bind (good _ z3 c3) ?_
     simp only
     rw [tl_tl]
     have hv := r3.2.2.2 c3
     generalize readVarV (tl s (1 + p.2.toNat + q.2.toNat)) = v at *
     rw [w64 (x := v.1 - 1) (by omega) (by omega)]
     unfold rrEnd
     refine Ev.neg (by simp) (Ev.neg (by rw [tl_nil']; exact c0) (Ev.bind (impl_ShowRec_ev _ _ _ _ _ (by rw [tl_size]; omega)) (Ev.ite Iff.rfl (fun _ => Ev.now _) (fun _ => Ev.now _))))

theorem spec_WalOk_l0 (tm vt bs btm : Int) (l : List EI) (hl : l.length ≤ 60) (d : Nat) : ∀ (i : Nat) (last : Int), i + d = l.length →
  Ev (fun k => spec_WalOk.l0 k last (i : Int) tm vt bs btm l) (entOk (ens (l.drop i)) last tm) := by
 induction d with
 | zero =>
  intro i last hi
  refine Ev.step (fun k => by rw [spec_WalOk.l0]) ?_
  rw [List.drop_eq_nil_of_le (by omega)]
  exact Ev.neg (by omega) (Ev.now _)
 | succ d ih =>
  intro i last hi
  refine Ev.step (fun k => by rw [spec_WalOk.l0]) ?_
  rw [rdE_drop l i (by omega)]
  have R := ih (i + 1) ((rd_T146 l (i : Int)).f0) (by omega)
  generalize rd_T146 l (i : Int) = e at R
  have e1 : ((i + 1 : Nat) : Int) = (i : Int) + 1 := by omega
  rw [e1] at R
  simp only [ens, List.map_cons, entOk]
  refine Ev.pos (by omega) (Ev.pos (by omega) ?_)
  by_cases c : 1 ≤ e.f0 ∧ last ≤ e.f0 ∧ e.f0 ≤ tm ∧ e.f1.size ≤ 900
  ·rw [decide_eq_true c, Bool.true_and, w64 (by omega) (by omega)]
   exact Ev.neg (by omega) (Ev.neg (by omega) (Ev.neg (by omega) (Ev.neg (by omega) R)))
  ·rw [decide_eq_false c, Bool.false_and]
   by_cases c1 : e.f0 < 1
   ·exact Ev.pos c1 (Ev.now _)
   ·refine Ev.neg c1 ?_
    by_cases c2 : e.f0 < last
    ·exact Ev.pos c2 (Ev.now _)
    ·refine Ev.neg c2 ?_
     by_cases c3 : e.f0 > tm
     ·exact Ev.pos c3 (Ev.now _)
     ·exact Ev.neg c3 (Ev.pos (by omega) (Ev.now _))
theorem spec_WalOk_ev (tm vt bs btm : Int) (l : List EI) (hl : l.length ≤ 1048576) : Ev (fun k => spec_WalOk.f k tm vt bs btm l) (walOkV tm vt bs btm (ens l)) := by
 have bad : ¬ walP tm vt bs btm (ens l).length → Ev (fun k => spec_WalOk.j0 k true tm vt bs btm l) (walOkV tm vt bs btm (ens l)) := by
  intro h
  refine Ev.step (fun k => by rw [spec_WalOk.j0]) ?_
  unfold walOkV
  rw [decide_eq_false h, Bool.false_and]
  exact Ev.pos rfl (Ev.now _)
 rw [ens_length] at bad
 unfold spec_WalOk.f
 refine Ev.bind0 (spec_l1In_eq _ _ _) ?_
 by_cases c1 : 0 ≤ tm ∧ tm ≤ 100000
 ·refine Ev.pos (decide_eq_true c1) (Ev.bind0 (spec_l1In_eq _ _ _) ?_)
  by_cases c2 : -1 ≤ vt ∧ vt ≤ 4
  ·refine Ev.pos (decide_eq_true c2) (Ev.bind0 (spec_l5Based_eq _ _) ?_)
   by_cases c3 : baseP bs btm
   ·refine Ev.pos (decide_eq_true c3) ?_
    have hb : 0 ≤ bs ∧ bs ≤ 100000 := by unfold baseP at c3; omega
    by_cases c4 : btm > tm
    ·exact Ev.pos c4 (bad (fun h => by have := h.2.2.2.2.2.1; omega))
    ·refine Ev.neg c4 ?_
     by_cases c5 : (l.length : Int) > 60
     ·exact Ev.pos c5 (bad (fun h => by have := h.2.2.2.2.2.2.1; omega))
     ·refine Ev.neg c5 ?_
      rw [w64 (by omega) (by omega)]
      by_cases c6 : bs + (l.length : Int) > 100000
      ·rw [decide_eq_true c6]; exact bad (fun h => by have := h.2.2.2.2.2.2.2; omega)
      ·rw [decide_eq_false c6]
       refine Ev.step (fun k => by rw [spec_WalOk.j0]) ?_
       unfold walOkV
       rw [ens_length, decide_eq_true (show walP tm vt bs btm l.length from ⟨c1.1, c1.2, c2.1, c2.2, c3, by omega, by omega, by omega⟩), Bool.true_and]
       exact Ev.neg (by simp) (spec_WalOk_l0 tm vt bs btm l (by omega) l.length 0 btm (by omega))
   ·exact Ev.neg (by rw [decide_eq_false c3]; simp) (bad (fun h => c3 h.2.2.2.2.1))
  ·exact Ev.neg (by rw [decide_eq_false c2]; simp) (bad (fun h => c2 ⟨h.2.2.1, h.2.2.2.1⟩))
 ·exact Ev.neg (by rw [decide_eq_false c1]; simp) (bad (fun h => c1 ⟨h.1, h.2.1⟩))

theorem spec_l5LastTerm_eq (tm vt bs btm : Int) (l : List EI) (hl : l.length ≤ 1048576) : spec_l5LastTerm.f tm vt bs btm l = some (lastT btm l) := by
 unfold spec_l5LastTerm.f lastT
 by_cases c : l.length = 0
 ·rw [if_pos (by omega), if_pos c]
 ·rw [if_neg (by omega), if_neg c, w64 (by omega) (by omega), if_pos (by omega), if_pos (by omega)]
theorem spec_l5Fits_eq (tm vt bs btm : Int) (l : List EI) (hl : l.length ≤ 1048576) (hb : 0 ≤ bs ∧ bs ≤ 100000) (kd rt ix rv : Int) (d : ByteArray) :
  spec_l5Fits.f tm vt bs btm l kd rt ix rv d = some (decide (fitsP tm vt bs btm l kd rt ix rv)) := by
 unfold spec_l5Fits.f
 rw [spec_l5LastTerm_eq _ _ _ _ _ hl, w64 (x := bs + (l.length : Int)) (by omega) (by omega), w64 (x := bs + (l.length : Int) + 1) (by omega) (by omega)]
 simp only [Option.bind_some]
 repeat' split
 all_goals (simp only [Option.some.injEq]; rw [Bool.eq_iff_iff]; simp only [decide_eq_true_eq, Bool.false_eq_true, false_iff, true_iff, beq_iff_eq, fitsP] at *; omega)

theorem spec_WalStep_ev (tm vt bs btm : Int) (l : List EI) (hl : l.length ≤ 1048576) (kd rt ix rv : Int) (d : ByteArray) :
  Ev (fun k => spec_WalStep.f k tm vt bs btm l kd rt ix rv d) (walStepV tm vt bs btm l kd rt ix rv d) := by
 unfold spec_WalStep.f walStepV
 refine Ev.bind (spec_WalOk_ev tm vt bs btm l hl) (Ev.ite Iff.rfl (fun c => ?_) (fun _ => Ev.now _))
 have h := walOk_all c
 have hc : spec_l5Copy.f tm vt bs btm l = some (tm, vt, bs, btm, l) := by
  unfold spec_l5Copy.f
  simp only [Option.bind_some, List.nil_append, List.length_nil]
  rw [if_pos (by omega)]
 refine Ev.bind0 hc (Ev.bind0 (spec_RecOk_eq _ _ _ _ _) ?_)
 have bad : Ev (fun k => spec_WalStep.j0 k true tm vt bs btm l kd rt ix rv d) (tm, vt, bs, btm, l, false) := by
  refine Ev.step (fun k => by rw [spec_WalStep.j0]) ?_
  exact Ev.pos rfl (Ev.now _)
 by_cases c1 : recOkP kd rt ix rv d.size
 ·refine Ev.pos (decide_eq_true c1) (Ev.bind0 (spec_l5Fits_eq tm vt bs btm l hl h.2 kd rt ix rv d) ?_)
  by_cases c2 : fitsP tm vt bs btm l kd rt ix rv
  ·rw [if_pos ⟨c1, c2⟩, decide_eq_true c2]
   unfold doneV
   refine Ev.step (fun k => by rw [spec_WalStep.j0]) ?_
   refine Ev.neg (by simp) (Ev.ite Iff.rfl (fun _ => Ev.now _) (fun c3 => Ev.ite Iff.rfl (fun _ => Ev.pos (by first | omega | (dsimp only; omega)) (Ev.now _)) (fun c4 => ?_)))
   have c5 : bs < ix ∧ ix ≤ bs + (l.length : Int) := by unfold fitsP at c2; omega
   rw [w64 (x := ix - bs) (by omega) (by omega), w64 (x := ix - bs - 1) (by omega) (by omega)]
   exact Ev.pos (by first | omega | (dsimp only; omega)) (Ev.pos (by first | omega | (dsimp only; omega)) (Ev.now _))
  ·rw [if_neg (fun e => c2 e.2), decide_eq_false c2]
   exact bad
 ·rw [if_neg (fun e => c1 e.1)]
  exact Ev.neg (by simpa using c1) bad

theorem impl_endTerm_eq (tm vt bs btm : Int) (l : List EI) (hl : l.length ≤ 1048576) : impl_Wal_endTerm.f tm vt bs btm l = some (lastT btm l) := by
 unfold impl_Wal_endTerm.f lastT
 by_cases c : l.length = 0
 ·rw [if_neg (by omega), if_pos c]
 ·rw [if_pos (by omega), if_neg c, w64 (by omega) (by omega), if_pos (by omega), if_pos (by omega)]
theorem impl_end_eq (tm vt bs btm : Int) (l : List EI) (hl : l.length ≤ 1048576) (hb : 0 ≤ bs ∧ bs ≤ 100000) : impl_Wal_end.f tm vt bs btm l = some (bs + (l.length : Int)) := by
 unfold impl_Wal_end.f
 rw [w64 (by omega) (by omega)]

theorem laws_eqEntryS_l0 (a : List EI) (ha : a.length ≤ 1048576) (d : Nat) : ∀ (i : Nat), i + d = a.length → Ev (fun k => laws_eqEntryS.l0 k a a (i : Int)) true := by
 induction d with
 | zero =>
  intro i hi
  refine Ev.step (fun k => by rw [laws_eqEntryS.l0]) ?_
  exact Ev.neg (by omega) (Ev.now _)
 | succ d ih =>
  intro i hi
  refine Ev.step (fun k => by rw [laws_eqEntryS.l0]) ?_
  refine Ev.pos (by omega) (Ev.pos (by omega) (Ev.pos (by omega) ?_))
  refine Ev.bind0 (a := true) (by unfold laws_eqEntry.f; rw [if_pos rfl, if_pos rfl]) (Ev.pos rfl ?_)
  have := ih (i + 1) (by omega)
  have e1 : ((i + 1 : Nat) : Int) = (i : Int) + 1 := by omega
  rw [e1] at this
  rw [w64 (by omega) (by omega)]
  exact this
theorem laws_eqWal_ev (a b c d : Int) (l : List EI) (hl : l.length ≤ 1048576) : Ev (fun k => laws_eqWal.f k a b c d l a b c d l) true := by
 unfold laws_eqWal.f laws_eqEntryS.f
 refine Ev.pos rfl (Ev.pos rfl (Ev.pos rfl (Ev.pos rfl ?_)))
 refine Ev.bind (a := true) (Ev.pos rfl ?_) (Ev.pos rfl (Ev.now _))
 exact laws_eqEntryS_l0 l hl l.length 0 (by omega)

/-! ### what Dec makes -/
def decL (n : Nat) : List Int := if n = 0 then [] else decL (n / 10) ++ [((48 + n % 10 : Nat) : Int)]
termination_by n
decreasing_by omega
theorem decL_zero : decL 0 = [] := by rw [decL]; rfl
theorem decL_pos {n : Nat} (h : n ≠ 0) : decL n = decL (n / 10) ++ [((48 + n % 10 : Nat) : Int)] := by rw [decL, if_neg h]
theorem decL_le : ∀ (k n : Nat), n < 10 ^ k → (decL n).length ≤ k
 | 0, n, h => by
  have : n = 0 := by simpa using h
  subst this; rw [decL_zero]; simp
 | k + 1, n, h => by
  by_cases c : n = 0
  ·subst c; rw [decL_zero]; simp
  ·rw [decL_pos c, List.length_append]
   have := decL_le k (n / 10) (by rw [Nat.pow_succ] at h; omega)
   simpa using this
theorem decL_20 {n : Nat} (h : n ≤ 9223372036854775808) : (decL n).length ≤ 20 := decL_le 20 n (by omega)

/-- the mark that the laws write -/
def markT (a : Int) : ByteArray := strOfNums (109 :: decL a.toNat)
theorem laws_markText_l0 (n : Nat) : ∀ (xs : List Int), n ≤ 9223372036854775807 → xs.length + (decL n).length ≤ 20 → Ev (fun k => laws_markText.l0 k (n : Int) (strOfNums xs)) (strOfNums (109 :: (decL n ++ xs))) := by
 induction n using Nat.strongRecOn with
 | ind n ih =>
 intro xs hn hl
 refine Ev.step (fun k => by rw [laws_markText.l0]) ?_
 by_cases c : n = 0
 ·subst c
  refine Ev.neg (by omega) (Ev.pos (by rw [strOf_size]; omega) ?_)
  rw [show (⟨#[109]⟩ : ByteArray) = strOfNums [109] from rfl, strOf_append, decL_zero]
  exact Ev.now _
 ·rw [decL_pos c, List.length_append, List.length_singleton] at hl
  have g := ih (n / 10) (by omega) ([((48 + n % 10 : Nat) : Int)] ++ xs) (by omega) (by rw [List.length_append, List.length_singleton]; omega)
  refine Ev.pos (by omega) (Ev.bind0 rfl (Ev.pos (by rw [strOf_size, strOf_size, List.length_singleton]; omega) ?_))
  have e1 : wrap64 (Int.tdiv (n : Int) 10) = ((n / 10 : Nat) : Int) := by rw [tdiv_nn (by omega), w64 (by omega) (by omega)]; omega
  have e2 : (wrap64 (48 + Int.tmod (n : Int) 10)) % 256 = ((48 + n % 10 : Nat) : Int) := by rw [tmod_nn (by omega), w64 (by omega) (by omega)]; omega
  have e4 : decL n ++ xs = decL (n / 10) ++ ([((48 + n % 10 : Nat) : Int)] ++ xs) := by rw [decL_pos c, List.append_assoc]
  rw [e1, e2, strOf_append, e4]
  exact g
theorem laws_markText_ev (a : Int) (h0 : 0 < a) (h1 : a ≤ 9223372036854775807) : Ev (fun k => laws_markText.f k a) (markT a) := by
 unfold laws_markText.f markT
 refine Ev.neg (by omega) ?_
 obtain ⟨n, rfl⟩ := Int.eq_ofNat_of_zero_le (show 0 ≤ a by omega)
 have := laws_markText_l0 n [] (by omega) (by simpa using decL_20 (by omega))
 rw [List.append_nil] at this
 exact this

/-! what the laws' marks leave in entries, and that they are found again -/
def mkE : Nat → Int → List EI
 | 0, _ => []
 | d + 1, a => ⟨a, markT (a + 1)⟩ :: mkE d (a + 2)
theorem rdE_mid (M : List EI) (x : EI) (L : List EI) : rd_T146 (M ++ x :: L) (M.length : Int) = x := by
 rw [rdE_get _ M.length (by simp)]
 simp
theorem laws_markE_l0 : ∀ (R M : List EI) (a : Int), M.length + R.length ≤ 4194304 → 0 ≤ a → a + 2 * R.length ≤ 40000000 →
  Ev (fun k => laws_markEntryS.l0 k (M ++ R) a (M.length : Int)) (a + 2 * (R.length : Int), M ++ mkE R.length a)
 | [], M, a, hl, h0, ha => by
  refine Ev.step (fun k => by rw [laws_markEntryS.l0]) ?_
  exact Ev.neg (by simp) (Ev.val _ _ (by simp [mkE]))
 | x :: R, M, a, hl, h0, ha => by
  rw [List.length_cons] at hl ha
  have g := laws_markE_l0 R (M ++ [⟨a, markT (a + 1)⟩]) (a + 2) (by simp; omega) (by omega) (by omega)
  refine Ev.step (fun k => by rw [laws_markEntryS.l0]) ?_
  have e1 : (M ++ x :: R).set (M.length : Int).toNat ⟨a, (rd_T146 (M ++ x :: R) (M.length : Int)).f1⟩ = M ++ ⟨a, x.f1⟩ :: R := by
   rw [rdE_mid, Int.toNat_natCast, List.set_append_right _ _ (Nat.le_refl _), Nat.sub_self, List.set_cons_zero]
  refine Ev.pos (by simp; omega) (Ev.pos (by omega) (Ev.bind0 rfl ?_))
  rw [e1, w64 (x := a + 1) (by omega) (by omega)]
  refine Ev.bind (laws_markText_ev (a + 1) (by omega) (by omega)) ?_
  rw [rdE_mid, Int.toNat_natCast, List.set_append_right _ _ (Nat.le_refl _), Nat.sub_self, List.set_cons_zero, w64 (x := a + 1 + 1) (by omega) (by omega), w64 (x := (M.length : Int) + 1) (by omega) (by omega)]
  have e2 : (((M ++ [(⟨a, markT (a + 1)⟩ : EI)]).length : Nat) : Int) = (M.length : Int) + 1 := by simp
  rw [e2, List.append_assoc, List.append_assoc] at g
  rw [show a + 1 + 1 = a + 2 by omega, List.length_cons, show a + 2 * ((R.length + 1 : Nat) : Int) = a + 2 + 2 * (R.length : Int) by omega]
  exact g

theorem laws_markWal_ev (tm vt bs btm : Int) (l : List EI) (a : Int) (hl : l.length ≤ 4194304) (h0 : 0 ≤ a) (ha : a ≤ 10000000) : Ev (fun k => laws_markWal.f k tm vt bs btm l a) (a + 2 * (l.length : Int), mkE l.length a) := by
 have h := laws_markE_l0 l [] a (by simpa using hl) h0 (by omega)
 unfold laws_markWal.f laws_markEntryS.f
 exact Ev.bind h (Ev.now _)

theorem laws_heldE_l0 : ∀ (d : Nat) (M : List EI) (a : Int), M.length + d ≤ 4194304 → 0 ≤ a → a + 2 * d ≤ 40000000 →
  Ev (fun k => laws_heldEntryS.l0 k (M ++ mkE d a) a (M.length : Int)) (a + 2 * (d : Int))
 | 0, M, a, hl, h0, ha => by
  refine Ev.step (fun k => by rw [laws_heldEntryS.l0]) ?_
  exact Ev.neg (by simp [mkE]) (Ev.val _ _ (by simp))
 | d + 1, M, a, hl, h0, ha => by
  have g := laws_heldE_l0 d (M ++ [⟨a, markT (a + 1)⟩]) (a + 2) (by simp; omega) (by omega) (by omega)
  refine Ev.step (fun k => by rw [laws_heldEntryS.l0]) ?_
  unfold mkE
  have e2 : (((M ++ [(⟨a, markT (a + 1)⟩ : EI)]).length : Nat) : Int) = (M.length : Int) + 1 := by simp
  rw [e2, List.append_assoc] at g
  rw [rdE_mid, w64 (x := a + 1) (by omega) (by omega), w64 (x := a + 1 + 1) (by omega) (by omega), w64 (x := (M.length : Int) + 1) (by omega) (by omega)]
  rw [show a + 1 + 1 = a + 2 by omega, show a + 2 * ((d + 1 : Nat) : Int) = a + 2 + 2 * (d : Int) by omega]
  refine Ev.pos (by simp; omega) (Ev.pos (by omega) (Ev.pos rfl (Ev.bind (laws_markText_ev (a + 1) (by omega) (by omega)) (Ev.pos rfl ?_))))
  exact g

theorem laws_heldWal_ev (tm vt bs btm : Int) (d : Nat) (a : Int) (hl : d ≤ 4194304) (h0 : 0 ≤ a) (ha : a ≤ 10000000) : Ev (fun k => laws_heldWal.f k tm vt bs btm (mkE d a) a) (a + 2 * (d : Int)) := by
 have h := laws_heldE_l0 d [] a (by simpa using hl) h0 (by omega)
 unfold laws_heldWal.f laws_heldEntryS.f
 exact Ev.bind h (Ev.neg (by omega) (Ev.now _))

theorem spec_Replay_l0 (y : List ByteArray) (hb : ∀ b ∈ y, b.size ≤ 2000) (hl : y.length ≤ 1048576) (d : Nat) : ∀ (i : Nat) (tm vt bs btm : Int) (l : List EI) (at_ : Int), i + d = y.length → walOkV tm vt bs btm (ens l) = true → 0 ≤ at_ → at_ ≤ 3000 * (i : Int) + 3000 →
  Ev (fun k => spec_Replay.l0 k y at_ (i : Int) tm vt bs btm l) (rpL (y.drop i) tm vt bs btm l at_) := by
 induction d with
 | zero =>
  intro i tm vt bs btm l at_ hi hw h0 h1
  refine Ev.step (fun k => by rw [spec_Replay.l0]) ?_
  rw [List.drop_eq_nil_of_le (by omega)]
  exact Ev.neg (by omega) (Ev.now _)
 | succ d ih =>
  intro i tm vt bs btm l at_ hi hw h0 h1
  refine Ev.step (fun k => by rw [spec_Replay.l0]) ?_
  refine Ev.pos (by omega) (Ev.pos (by omega) ?_)
  have hsz := hb y[i] (List.getElem_mem _)
  rw [List.drop_eq_getElem_cons (show i < y.length by omega), rdOf_get y i (by omega), rpL]
  have hll := walOk_len hw
  refine Ev.bind (spec_ReadRec_ev y[i] (by omega)) (Ev.bind (spec_WalStep_ev tm vt bs btm l (by omega) _ _ _ _ _) ?_)
  by_cases c : (readRecV y[i]).2.2.2.2.2 = true
  ·refine Ev.pos c ?_
   have hr := readRecV_ok c
   by_cases c2 : fitsP tm vt bs btm l (readRecV y[i]).1 (readRecV y[i]).2.1 (readRecV y[i]).2.2.1 (readRecV y[i]).2.2.2.1
   ·have hv : walStepV tm vt bs btm l (readRecV y[i]).1 (readRecV y[i]).2.1 (readRecV y[i]).2.2.1 (readRecV y[i]).2.2.2.1 (readRecV y[i]).2.2.2.2.1 = doneV tm vt bs btm l (readRecV y[i]).1 (readRecV y[i]).2.1 (readRecV y[i]).2.2.1 (readRecV y[i]).2.2.2.1 (readRecV y[i]).2.2.2.2.1 := by
     unfold walStepV
     rw [if_pos hw, if_pos ⟨hr, c2⟩]
    have ht : (doneV tm vt bs btm l (readRecV y[i]).1 (readRecV y[i]).2.1 (readRecV y[i]).2.2.1 (readRecV y[i]).2.2.2.1 (readRecV y[i]).2.2.2.2.1).2.2.2.2.2 = true := by
     unfold doneV
     split
     ·rfl
     ·split <;> rfl
    have hk := doneV_ok hw hr c2
    rw [hv, if_pos ⟨c, c2⟩]
    refine Ev.pos ht ?_
    have e1 : ((i + 1 : Nat) : Int) = (i : Int) + 1 := by omega
    have := ih (i + 1) _ _ _ _ _ (at_ + 8 + (y[i].size : Int)) (by omega) hk (by omega) (by omega)
    rw [e1] at this
    rw [w64 (x := at_ + 8) (by omega) (by omega), w64 (x := at_ + 8 + (y[i].size : Int)) (by omega) (by omega), w64 (x := (i : Int) + 1) (by omega) (by omega)]
    exact this
   ·have hv : (walStepV tm vt bs btm l (readRecV y[i]).1 (readRecV y[i]).2.1 (readRecV y[i]).2.2.1 (readRecV y[i]).2.2.2.1 (readRecV y[i]).2.2.2.2.1).2.2.2.2.2 = false := by
     unfold walStepV
     rw [if_pos hw, if_neg (fun e => c2 e.2)]
    rw [if_neg (fun e => c2 e.2)]
    exact Ev.neg (by rw [hv]; simp) (Ev.now _)
  ·rw [if_neg (fun e => c e.1)]
   exact Ev.neg c (Ev.now _)
theorem impl_Replay_l0 (y : List ByteArray) (hb : ∀ b ∈ y, b.size ≤ 2000) (hl : y.length ≤ 1048576) (d : Nat) : ∀ (i : Nat) (tm vt bs btm : Int) (l : List EI) (at_ : Int), i + d = y.length → walOkV tm vt bs btm (ens l) = true → 0 ≤ at_ → at_ ≤ 3000 * (i : Int) + 6000 →
  Ev (fun k => impl_Replay.l0 k at_ y (y.length : Int) (i : Int) tm vt bs btm l) (rpL (y.drop i) tm vt bs btm l at_) := by
 induction d with
 | zero =>
  intro i tm vt bs btm l at_ hi hw h0 h1
  refine Ev.step (fun k => by rw [impl_Replay.l0]) ?_
  rw [List.drop_eq_nil_of_le (by omega)]
  exact Ev.neg (by omega) (Ev.now _)
 | succ d ih =>
  intro i tm vt bs btm l at_ hi hw h0 h1
  refine Ev.step (fun k => by rw [impl_Replay.l0]) ?_
  refine Ev.pos (by omega) (Ev.pos (by omega) (Ev.pos (by omega) ?_))
  have hsz := hb y[i] (List.getElem_mem _)
  rw [List.drop_eq_getElem_cons (show i < y.length by omega), rdOf_get y i (by omega), rpL]
  have hll := walOk_len hw
  have hba := (walOk_all hw).2
  have rr_ := readRecV_ok (s := y[i])
  refine Ev.bind (impl_ReadRec_ev y[i] (by omega)) ?_
  generalize readRecV y[i] = R at rr_ ⊢
  obtain ⟨kd, rt, ix, rv, dd, ok⟩ := R
  simp only at rr_ ⊢
  by_cases c : ok = true
  ·refine Ev.pos c ?_
   have hr := rr_ c
   have e1 : ((i + 1 : Nat) : Int) = (i : Int) + 1 := by omega
   rw [w64 (x := at_ + 8) (by omega) (by omega), w64 (x := at_ + 8 + (y[i].size : Int)) (by omega) (by omega), w64 (x := (i : Int) + 1) (by omega) (by omega)]
   have good (hf : fitsP tm vt bs btm l kd rt ix rv) (t2 v2 b2 bt2 : Int) (l2 : List EI) (hd : doneV tm vt bs btm l kd rt ix rv dd = (t2, v2, b2, bt2, l2, true)) :
     Ev (fun k => impl_Replay.l0 k (at_ + 8 + (y[i].size : Int)) y (y.length : Int) ((i : Int) + 1) t2 v2 b2 bt2 l2) (if ok = true ∧ fitsP tm vt bs btm l kd rt ix rv then rpL (y.drop (i + 1)) (doneV tm vt bs btm l kd rt ix rv dd).1 (doneV tm vt bs btm l kd rt ix rv dd).2.1 (doneV tm vt bs btm l kd rt ix rv dd).2.2.1 (doneV tm vt bs btm l kd rt ix rv dd).2.2.2.1 (doneV tm vt bs btm l kd rt ix rv dd).2.2.2.2.1 (at_ + 8 + (y[i].size : Int)) else (tm, vt, bs, btm, l, at_, true)) := by
    have hk := doneV_ok hw hr hf
    rw [if_pos ⟨c, hf⟩]
    rw [hd] at hk ⊢
    have := ih (i + 1) t2 v2 b2 bt2 l2 (at_ + 8 + (y[i].size : Int)) (by omega) hk (by omega) (by omega)
    rw [e1] at this
    exact this
   have he := impl_end_eq tm vt bs btm l (by omega) hba
   by_cases k1 : kd = 1
   ·refine Ev.pos k1 ?_
    have hd : doneV tm vt bs btm l kd rt ix rv dd = (rt, rv, bs, btm, l, true) := by unfold doneV; rw [if_pos k1]
    by_cases c2 : rt < tm
    ·rw [if_neg (fun e => by have := e.2; unfold fitsP at this; omega)]
     exact Ev.pos c2 (Ev.now _)
    ·refine Ev.neg c2 ?_
     by_cases c3 : rt = tm
     ·refine Ev.pos c3 ?_
      by_cases c4 : vt = -1
      ·exact Ev.pos c4 (good (.inl ⟨k1, .inr ⟨c3, .inl c4⟩⟩) _ _ _ _ _ hd)
      ·refine Ev.neg c4 ?_
       by_cases c5 : vt = rv
       ·exact Ev.pos c5 (good (.inl ⟨k1, .inr ⟨c3, .inr c5.symm⟩⟩) _ _ _ _ _ hd)
       ·rw [if_neg (fun e => by have := e.2; unfold fitsP at this; omega)]
        exact Ev.neg c5 (Ev.now _)
     ·exact Ev.neg c3 (good (.inl ⟨k1, .inl (by omega)⟩) _ _ _ _ _ hd)
   ·refine Ev.neg k1 ?_
    by_cases k2 : kd = 2
    ·refine Ev.pos k2 (Ev.bind0 he ?_)
     rw [w64 (x := bs + (l.length : Int) + 1) (by omega) (by omega)]
     by_cases c2 : ix = bs + (l.length : Int) + 1
     ·refine Ev.pos c2 ?_
      by_cases c3 : (l.length : Int) ≥ 60
      ·rw [if_neg (fun e => by have := e.2; unfold fitsP at this; omega)]
       exact Ev.pos c3 (Ev.now _)
      ·refine Ev.neg c3 (Ev.bind0 (impl_endTerm_eq tm vt bs btm l (by omega)) (Ev.bind0 (impl_within_eq _ _ _) ?_))
       by_cases c4 : lastT btm l ≤ rt ∧ rt ≤ tm
       ·have hd : doneV tm vt bs btm l kd rt ix rv dd = (tm, vt, bs, btm, l ++ [⟨rt, dd⟩], true) := by unfold doneV; rw [if_neg k1, if_pos k2]
        exact Ev.pos (decide_eq_true c4) (Ev.pos (by omega) (good (.inr (.inl ⟨k2, c2, by omega, c4⟩)) _ _ _ _ _ hd))
       ·rw [if_neg (fun e => by have := e.2; unfold fitsP at this; omega)]
        exact Ev.neg (by simpa using c4) (Ev.now _)
     ·rw [if_neg (fun e => by have := e.2; unfold fitsP at this; omega)]
      exact Ev.neg c2 (Ev.now _)
    ·refine Ev.neg k2 ?_
     by_cases k3 : kd = 3
     ·refine Ev.pos k3 (Ev.bind0 he (Ev.bind0 (impl_within_eq _ _ _) ?_))
      rw [w64 (x := bs + 1) (by omega) (by omega)]
      by_cases c2 : bs + 1 ≤ ix ∧ ix ≤ bs + (l.length : Int)
      ·have hd : doneV tm vt bs btm l kd rt ix rv dd = (tm, vt, bs, btm, l.take (ix - bs - 1).toNat, true) := by unfold doneV; rw [if_neg k1, if_neg k2]
       rw [w64 (x := ix - bs) (by omega) (by omega), w64 (x := ix - bs - 1) (by omega) (by omega)]
       exact Ev.pos (decide_eq_true c2) (Ev.pos (by omega) (Ev.pos (by omega) (good (.inr (.inr ⟨k3, by omega, c2.2⟩)) _ _ _ _ _ hd)))
      ·rw [if_neg (fun e => by have := e.2; unfold fitsP at this; omega)]
       exact Ev.neg (by simpa using c2) (Ev.now _)
     ·rw [if_neg (fun e => by have := e.2; unfold fitsP at this; omega)]
      exact Ev.neg k3 (Ev.now _)
  ·rw [if_neg (fun e => c e.1)]
   exact Ev.neg c (Ev.now _)
theorem spec_Replay_ev (s : ByteArray) (hs : s.size ≤ 1048576) : Ev (fun k => spec_Replay.f k s) (replayV s) := by
 have hl := framesV_len s
 have hb := framesV_size s
 have ef := spec_Frames_ev s hs
 unfold spec_Replay.f replayV
 refine Ev.bind ef ?_
 generalize (framesV s).1 = y at hl hb ⊢
 cases y with
 | nil => exact Ev.pos rfl (Ev.now _)
 | cons b rest =>
  rw [rpOf]
  have e0 : rdOf ByteArray.empty (b :: rest) 0 = b := rfl
  have hsz := hb b (List.mem_cons_self ..)
  refine Ev.neg (by simp only [List.length_cons]; omega) (Ev.pos (by simp only [List.length_cons]; omega) ?_)
  rw [e0]
  refine Ev.bind (spec_ReadRec_ev b (by omega)) ?_
  have bad : Ev (fun k => spec_Replay.j0 k (b :: rest) true (readRecV b).1 (readRecV b).2.1 (readRecV b).2.2.1 (readRecV b).2.2.2.1 (readRecV b).2.2.2.2.1) (0, 0, 0, 0, [], 0, false) := by
   refine Ev.step (fun k => by rw [spec_Replay.j0]) ?_
   exact Ev.pos rfl (Ev.now _)
  by_cases c : (readRecV b).2.2.2.2.2 = true
  ·refine Ev.pos c ?_
   by_cases c2 : (readRecV b).1 = 4
   ·rw [if_pos ⟨c, c2⟩, show ((readRecV b).1 != 4) = false by simp [c2]]
    refine Ev.step (fun k => by rw [spec_Replay.j0]) ?_
    refine Ev.neg (by simp) (Ev.pos (by simp only [List.length_cons]; omega) ?_)
    rw [e0, w64 (by omega) (by omega)]
    simp only [List.length_cons] at hl
    exact spec_Replay_l0 (b :: rest) hb (by simp only [List.length_cons]; omega) rest.length 1 _ _ _ _ _ _ (by simp only [List.length_cons]; omega) (base_ok (readRecV_ok c) c2) (by omega) (by omega)
   ·rw [if_neg (fun e => c2 e.2), show ((readRecV b).1 != 4) = true by simp [c2]]
    exact bad
  ·rw [if_neg (fun e => c e.1)]
   exact Ev.neg c bad
theorem impl_Replay_ev (s : ByteArray) (hs : s.size ≤ 1048576) : Ev (fun k => impl_Replay.f k s) (replayV s) := by
 have hl := framesV_len s
 have hb := framesV_size s
 have ef := impl_Frames_ev s hs
 unfold impl_Replay.f replayV
 refine Ev.bind ef ?_
 generalize (framesV s).1 = y at hl hb ⊢
 cases y with
 | nil => exact Ev.pos rfl (Ev.now _)
 | cons b rest =>
  rw [rpOf]
  have e0 : rdOf ByteArray.empty (b :: rest) 0 = b := rfl
  have hsz := hb b (List.mem_cons_self ..)
  refine Ev.neg (by simp only [List.length_cons]; omega) (Ev.pos (by simp only [List.length_cons]; omega) ?_)
  rw [e0]
  refine Ev.bind (impl_ReadRec_ev b (by omega)) ?_
  have bad : Ev (fun k => impl_Replay.j0 k (b :: rest) true (readRecV b).1 (readRecV b).2.1 (readRecV b).2.2.1 (readRecV b).2.2.2.1 (readRecV b).2.2.2.2.1) (0, 0, 0, 0, [], 0, false) := by
   refine Ev.step (fun k => by rw [impl_Replay.j0]) ?_
   exact Ev.pos rfl (Ev.now _)
  by_cases c : (readRecV b).2.2.2.2.2 = true
  ·refine Ev.pos c ?_
   by_cases c2 : (readRecV b).1 = 4
   ·rw [if_pos ⟨c, c2⟩, show ((readRecV b).1 != 4) = false by simp [c2]]
    refine Ev.step (fun k => by rw [impl_Replay.j0]) ?_
    refine Ev.neg (by simp) (Ev.pos (by simp only [List.length_cons]; omega) (Ev.pos (by simp only [List.length_cons]; omega) (Ev.bind0 rfl ?_)))
    rw [e0, w64 (by omega) (by omega)]
    simp only [List.length_cons] at hl
    have := impl_Replay_l0 rest (fun x hx => hb x (List.mem_cons_of_mem _ hx)) (by omega) rest.length 0 (readRecV b).2.1 (-1) (readRecV b).2.2.1 (readRecV b).2.1 [] (8 + (b.size : Int)) (by omega) (base_ok (readRecV_ok c) c2) (by omega) (by omega)
    simp only [List.drop_zero] at this
    exact this
   ·rw [if_neg (fun e => c2 e.2), show ((readRecV b).1 != 4) = true by simp [c2]]
    exact bad
  ·rw [if_neg (fun e => c e.1)]
   exact Ev.neg c bad
theorem FnExactReplay : laws_FnExactReplay.Pure := by
 intro s _
 refine Ev.rounds (g := fun k => laws_FnExactReplay.f k s) ?_
 unfold laws_FnExactReplay.f
 by_cases c0 : (s.size : Int) > 1048576
 ·exact Ev.pos c0 (Ev.now _)
 ·have es := spec_Replay_ev s (by omega)
  have ei := impl_Replay_ev s (by omega)
  have hz := replayV_len s
  generalize replayV s = R at es ei hz
  obtain ⟨tm, vt, bs, btm, l, at_, ok⟩ := R
  simp only at hz
  have eq := laws_eqWal_ev tm vt bs btm l (by omega)
  have hm := laws_markWal_ev tm vt bs btm l 1 (by omega) (by omega) (by omega)
  have hh := laws_heldWal_ev tm vt bs btm l.length 1 (by omega) (by omega) (by omega)
  refine Ev.neg c0 ?_
  refine Ev.bind es ?_
  refine Ev.bind ei ?_
  refine Ev.bind eq (Ev.pos rfl (Ev.pos rfl ?_))
  refine Ev.step (fun k => by rw [laws_FnExactReplay.j0]) ?_
  refine Ev.neg (by simp) ?_
  refine Ev.bind hm ?_
  refine Ev.bind hh (Ev.neg (by omega) (Ev.pos rfl ?_))
  refine Ev.bind ei ?_
  refine Ev.bind eq (Ev.pos rfl (Ev.pos rfl ?_))
  refine Ev.step (fun k => by rw [laws_FnExactReplay.j1]) ?_
  refine Ev.neg (by simp) ?_
  exact Ev.bind hh (Ev.neg (by omega) (Ev.pos rfl (Ev.now _)))

end Go.Proofs.Ytobkmpihjfiihaa.Pure
