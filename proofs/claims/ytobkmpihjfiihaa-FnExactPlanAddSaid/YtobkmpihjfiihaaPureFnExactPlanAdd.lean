/- The pure statement of the law FnExactPlanAdd is proved: for all arguments within the stated bounds the printed function answers true. Conditions: none beyond those bounds. -/
import Derived.Test.YtobkmpihjfiihaaPFnExactPlanAddx18
import Derived.Laws.BitsLemmas
import Derived.Lib.Strings
namespace Go.Proofs.Ytobkmpihjfiihaa.Pure
open Go Go.RowKit Go.Proofs.Ytobkmpihjfiihaa.PFnExactPlanAdd Go.Proofs.YtobkmpihjfiihaaW.PrintWords Go.Proofs.YtobkmpihjfiihaaW.PrintLast Go.Proofs.YtobkmpihjfiihaaW.PrintMore
set_option linter.unusedVariables false
set_option linter.unusedSimpArgs false

/-! ### Base: rounds, whole numbers, bits, byte strings (no program in sight) -/
theorem Ev.pos {α : Type} {c : Prop} [Decidable c] {g f : Nat → Option α} {r : α} (h : c) (e : Ev g r) : Ev (fun k => if c then g k else f k) r := by
  simpa only [if_pos h] using e
theorem Ev.neg {α : Type} {c : Prop} [Decidable c] {g f : Nat → Option α} {r : α} (h : ¬ c) (e : Ev f r) : Ev (fun k => if c then g k else f k) r := by
  simpa only [if_neg h] using e
theorem Ev.val {α : Type} (r s : α) (h : r = s) : Ev (fun _ => some r) s := by subst h; exact Ev.now _
theorem Ev.val0 {α : Type} {o : Option α} {s : α} (h : o = some s) : Ev (fun _ => o) s := by subst h; exact Ev.now _
theorem Ev.bind0 {α β : Type} {o : Option α} {f : Nat → α → Option β} {a : α} {r : β} (h : o = some a) (k : Ev (fun n => f n a) r) : Ev (fun n => o.bind (f n)) r := by
  subst h; simpa only [Option.bind_some] using k
theorem Ev.and {α β : Type} {g : Nat → Option α} {f : Nat → Option β} {r : α} {s : β} (h : Ev g r) (k : Ev f s) : ∃ K, ∀ n, K ≤ n → g n = some r ∧ f n = some s := by
  obtain ⟨K, h⟩ := h
  obtain ⟨L, k⟩ := k
  exact ⟨max K L, fun n hn => ⟨h n (by omega), k n (by omega)⟩⟩

theorem Ev.ite {α : Type} {c d : Prop} [Decidable c] [Decidable d] {g f : Nat → Option α} {a b : α} (h : c ↔ d) (e : d → Ev g a) (e' : ¬ d → Ev f b) : Ev (fun k => if c then g k else f k) (if d then a else b) := by
  by_cases x : d
  · rw [if_pos x]; exact Ev.pos (h.2 x) (e x)
  · rw [if_neg x]; exact Ev.neg (fun y => x (h.1 y)) (e' x)
theorem w64 {x : Int} (h0 : -9223372036854775808 ≤ x) (h1 : x ≤ 9223372036854775807) : wrap64 x = x := by unfold wrap64; omega
theorem wf64 {x : Int} (h : (Lit.int .i64 x).wf = true) : -9223372036854775808 ≤ x ∧ x ≤ 9223372036854775807 := by
  simp [Lit.wf, IntKind.min, IntKind.max, IntKind.signed, IntKind.bits] at h
  omega
theorem tdiv_nn {x y : Int} (h : 0 ≤ x) : Int.tdiv x y = x / y := Int.tdiv_eq_ediv_of_nonneg h
theorem tmod_nn {x y : Int} (h : 0 ≤ x) : Int.tmod x y = x % y := Int.tmod_eq_emod_of_nonneg h

theorem wraps_i64 (n : Int) (h₀ : 0 ≤ n) (h₁ : n < 2 ^ 63) : IntKind.i64.wrap n = n := by rw [IntKind.wrap_i64]; omega
theorem and_mask (i : Nat) (hi : i ≤ 63) (x : Int) (h0 : 0 ≤ x) (h1 : x < 9223372036854775808) : Go.bits .and .i64 x (2 ^ i - 1) = x % 2 ^ i :=
  bits_mask .i64 63 (by decide) wraps_i64 i hi x h0 h1
theorem and127 {x : Int} (h0 : 0 ≤ x) (h1 : x < 9223372036854775808) : Go.bits .and .i64 x 127 = x % 128 := and_mask 7 (by decide) x h0 h1
theorem and255 {x : Int} (h0 : 0 ≤ x) (h1 : x < 9223372036854775808) : Go.bits .and .i64 x 255 = x % 256 := and_mask 8 (by decide) x h0 h1
theorem and1 {x : Int} (h0 : 0 ≤ x) (h1 : x < 9223372036854775808) : Go.bits .and .i64 x 1 = x % 2 := and_mask 1 (by decide) x h0 h1
theorem or_join (i : Nat) (x y : Int) (hx : 0 ≤ x) (hm : x % 2 ^ i = 0) (hx1 : x < 9223372036854775808) (hy : 0 ≤ y) (hy1 : y < 2 ^ i) (hy2 : y < 9223372036854775808) : Go.bits .or .i64 x y = x + y :=
  bits_join .i64 63 (by decide) wraps_i64 i x y hx hm hx1 hy hy1 hy2
theorem bits_or_comm (k : IntKind) (x y : Int) : Go.bits .or k x y = Go.bits .or k y x := by simp only [Go.bits, BitVec.or_comm]
theorem or_join' (i : Nat) (x y : Int) (hx : 0 ≤ x) (hm : x % 2 ^ i = 0) (hx1 : x < 9223372036854775808) (hy : 0 ≤ y) (hy1 : y < 2 ^ i) (hy2 : y < 9223372036854775808) : Go.bits .or .i64 y x = x + y := by
  rw [bits_or_comm]; exact or_join i x y hx hm hx1 hy hy1 hy2
theorem u8_and127 {x : Int} (h0 : 0 ≤ x) (h1 : x < 256) : Go.bits .and .u8 x 127 = x % 128 := bits_mask .u8 8 (by decide) wraps_u8 7 (by decide) x h0 h1
theorem bits_xor_nat (a b : Nat) (ha : a < 2 ^ 63) (hb : b < 2 ^ 63) : Go.bits .xor .i64 a b = ((a ^^^ b : Nat) : Int) := by
  have hp : 2 ^ 63 ≤ 2 ^ IntKind.i64.bits := Nat.pow_le_pow_right (by decide) (by decide)
  have ha' : a % 2 ^ IntKind.i64.bits = a := Nat.mod_eq_of_lt (Nat.lt_of_lt_of_le ha hp)
  have hb' : b % 2 ^ IntKind.i64.bits = b := Nat.mod_eq_of_lt (Nat.lt_of_lt_of_le hb hp)
  simp only [Go.bits, BitVec.ofInt_natCast, BitVec.toNat_xor, BitVec.toNat_ofNat, ha', hb']
  exact wraps_i64 _ (Int.natCast_nonneg _) (by exact_mod_cast Nat.xor_lt_two_pow ha hb)

theorem wbt (s : ByteArray) (i : Int) : wrap64 (bt s i) = bt s i := by have := bt_range s i; exact w64 (by omega) (by omega)
theorem toList_eq {s t : ByteArray} (h : s = t) : s.toList = t.toList := by rw [h]
theorem strOf_append (xs ys : List Int) : strOfNums xs ++ strOfNums ys = strOfNums (xs ++ ys) := by
  apply ByteArray.ext
  rw [ByteArray.data_append]
  simp [strOfNums]
theorem strOf_size (xs : List Int) : (strOfNums xs).size = xs.length := by simp [strOfNums, ByteArray.size]
theorem strOf_nil : (⟨#[]⟩ : ByteArray) = strOfNums [] := rfl
theorem cast_pow256 (d : Nat) : ((256 ^ d : Nat) : Int) = (256 : Int) ^ d := Int.natCast_pow 256 d
theorem lt_pow256 (m d : Nat) : ((m : Int) < 256 ^ d) = (m < 256 ^ d) := by
  rw [← cast_pow256]; exact propext Int.ofNat_lt
theorem pow256_six (i : Int) (h0 : 0 ≤ i) (h1 : i ≤ 6) : (256 : Int) ^ i.toNat ≤ 281474976710656 := by
  obtain rfl | rfl | rfl | rfl | rfl | rfl | rfl : i = 0 ∨ i = 1 ∨ i = 2 ∨ i = 3 ∨ i = 4 ∨ i = 5 ∨ i = 6 := by omega
  all_goals decide

/-! ### Str: a byte string as the list of its numbers -/
def IsB (xs : List Int) : Prop := ∀ x ∈ xs, 0 ≤ x ∧ x ≤ 255
def bl (s : ByteArray) : List Int := s.data.toList.map fun b => (b.toNat : Int)
theorem bl_isB (s : ByteArray) : IsB (bl s) := by
  intro x hx
  simp only [bl, List.mem_map] at hx
  obtain ⟨b, _, rfl⟩ := hx
  have := b.toNat_lt
  omega
theorem bl_length (s : ByteArray) : (bl s).length = s.size := by unfold bl; rw [List.length_map]; rfl
theorem strOf_bl (s : ByteArray) : strOfNums (bl s) = s := by
  apply ByteArray.ext
  apply Array.ext'
  unfold strOfNums bl
  rw [List.map_map]
  have : ((fun n : Int => UInt8.ofNat n.toNat) ∘ fun b : UInt8 => (b.toNat : Int)) = id := by
    funext b
    simp only [Function.comp_apply, Int.toNat_natCast, UInt8.ofNat_toNat, id]
  rw [this, List.map_id]
theorem bl_strOf {xs : List Int} (h : IsB xs) : bl (strOfNums xs) = xs := by
  induction xs with
  | nil => rfl
  | cons a l ih =>
    have ha := h a (by simp)
    have hl := ih (fun x hx => h x (by simp [hx]))
    simp only [bl, strOfNums, List.map_cons, List.toList_toArray] at hl ⊢
    rw [hl]
    congr 1
    simp only [UInt8.toNat_ofNat']
    omega
theorem bl_append (s t : ByteArray) : bl (s ++ t) = bl s ++ bl t := by simp [bl, ByteArray.data_append]
theorem bl_extract (s : ByteArray) (a b : Nat) : bl (s.extract a b) = ((bl s).drop a).take (b - a) := by
  simp [bl, ByteArray.data_extract, List.extract_eq_take_drop, List.map_take, List.map_drop]
theorem bl_inj {s t : ByteArray} (h : bl s = bl t) : s = t := by rw [← strOf_bl s, ← strOf_bl t, h]
theorem tl_iff (s t : ByteArray) : s.toList = t.toList ↔ s = t := by
  constructor
  · intro h
    rw [Go.Lib.toList_data, Go.Lib.toList_data] at h
    exact ByteArray.ext (Array.ext' h)
  · intro h; rw [h]
theorem bt_bl (s : ByteArray) (i : Int) : bt s i = rd (bl s) i := by
  unfold bt rd bl
  split
  · rename_i h
    have h' : i.toNat < s.data.toList.length := h
    rw [List.getD_eq_getElem?_getD, List.getElem?_map, List.getElem?_eq_getElem h']
    simp only [Option.map_some, Option.getD_some]
    rfl
  · rename_i h
    have h' : ¬ i.toNat < s.data.toList.length := h
    rw [List.getD_eq_getElem?_getD, List.getElem?_map, List.getElem?_eq_none (by omega)]
    rfl
theorem bt_nat (s : ByteArray) (i : Nat) (h : i < s.size) : bt s (i : Int) = (bl s)[i]'(by rw [bl_length]; exact h) := by
  rw [bt_bl]
  unfold rd
  rw [Int.toNat_natCast, List.getD_eq_getElem?_getD, List.getElem?_eq_getElem (by rw [bl_length]; exact h)]
  rfl
theorem isB_nil : IsB [] := fun _ h => by cases h
theorem isB_append {xs ys : List Int} (h : IsB xs) (k : IsB ys) : IsB (xs ++ ys) := fun x hx => (List.mem_append.1 hx).elim (h x) (k x)
theorem isB_cons {x : Int} {ys : List Int} (h : 0 ≤ x ∧ x ≤ 255) (k : IsB ys) : IsB (x :: ys) := by
  intro y hy
  rcases List.mem_cons.1 hy with e | e
  · subst e; exact h
  · exact k y e
theorem strOf_inj {xs ys : List Int} (h : IsB xs) (k : IsB ys) (e : strOfNums xs = strOfNums ys) : xs = ys := by
  rw [← bl_strOf h, ← bl_strOf k, e]
instance instDecEqBytes : DecidableEq ByteArray := fun a b => decidable_of_iff (a.toList = b.toList) (tl_iff a b)
instance instDecMemBytes (x : ByteArray) : (l : List ByteArray) → Decidable (x ∈ l)
  | [] => .isFalse (by simp)
  | y :: l => if h : x = y then .isTrue (by simp [h]) else (match instDecMemBytes x l with
    | .isTrue k => .isTrue (by simp [k])
    | .isFalse k => .isFalse (by simp [h, k]))

theorem size_zero (s : ByteArray) : s.size = 0 ↔ s = ⟨#[]⟩ := by
  constructor
  · intro h
    apply bl_inj
    have : (bl s).length = 0 := by rw [bl_length]; exact h
    rw [List.eq_nil_of_length_eq_zero this]; rfl
  · intro h; subst h; rfl
theorem tl_nil (s : ByteArray) : (s.toList == ([] : List UInt8)) = decide (s.size = 0) := by
  have e : ([] : List UInt8) = (⟨#[]⟩ : ByteArray).toList := by rw [Go.Lib.toList_data]
  rw [e, Bool.eq_iff_iff, beq_iff_eq, tl_iff, decide_eq_true_iff, size_zero]
theorem tl_nil' (s : ByteArray) : (s.toList = ([] : List UInt8)) = (s.size = 0) := by
  have e : ([] : List UInt8) = (⟨#[]⟩ : ByteArray).toList := by rw [Go.Lib.toList_data]
  rw [e, tl_iff, size_zero]

abbrev baseP (i t : Int) : Prop := (i = 0 ∧ t = 0) ∨ (1 ≤ i ∧ i ≤ 100000 ∧ 1 ≤ t ∧ t ≤ 100000)
abbrev recOkP (kd tm ix vt : Int) (n : Nat) : Prop :=
  (kd = 1 ∧ 0 ≤ tm ∧ tm ≤ 100000 ∧ -1 ≤ vt ∧ vt ≤ 4 ∧ ix = 0 ∧ n = 0) ∨ (kd = 2 ∧ 1 ≤ tm ∧ tm ≤ 100000 ∧ 1 ≤ ix ∧ ix ≤ 100000 ∧ vt = 0 ∧ n ≤ 900) ∨
  (kd = 3 ∧ tm = 0 ∧ 1 ≤ ix ∧ ix ≤ 100000 ∧ vt = 0 ∧ n = 0) ∨ (kd = 4 ∧ baseP ix tm ∧ vt = 0 ∧ n = 0)

/-! ### logs -/
def entOk : List (Int × ByteArray) → Int → Int → Bool
  | [], _, _ => true
  | e :: l, last, tm => decide (1 ≤ e.1 ∧ last ≤ e.1 ∧ e.1 ≤ tm ∧ e.2.size ≤ 900) && entOk l e.1 tm
abbrev walP (tm vt bs btm : Int) (n : Nat) : Prop := 0 ≤ tm ∧ tm ≤ 100000 ∧ -1 ≤ vt ∧ vt ≤ 4 ∧ baseP bs btm ∧ btm ≤ tm ∧ n ≤ 60 ∧ bs + (n : Int) ≤ 100000
def walOkV (tm vt bs btm : Int) (es : List (Int × ByteArray)) : Bool := decide (walP tm vt bs btm es.length) && entOk es btm tm

abbrev EI := S146
def ens (l : List EI) : List (Int × ByteArray) := l.map fun p => (p.f0, p.f1)
theorem ens_length (l : List EI) : (ens l).length = l.length := by simp [ens]
theorem rdE_get (l : List EI) (i : Nat) (h : i < l.length) : rd_T146 l (i : Int) = l[i] := by
  unfold rd_T146
  rw [Int.toNat_natCast, List.getD_eq_getElem?_getD, List.getElem?_eq_getElem h]; rfl
theorem rdE_drop (l : List EI) (i : Nat) (h : i < l.length) : l.drop i = rd_T146 l (i : Int) :: l.drop (i + 1) := by
  rw [rdE_get l i h]; exact List.drop_eq_getElem_cons h

/-! ### a record done on a log -/
def lastT (btm : Int) (l : List EI) : Int := if l.length = 0 then btm else (rd_T146 l ((l.length : Int) - 1)).f0
abbrev fitsP (tm vt bs btm : Int) (l : List EI) (kd rt ix rv : Int) : Prop :=
  (kd = 1 ∧ (tm < rt ∨ (rt = tm ∧ (vt = -1 ∨ rv = vt)))) ∨ (kd = 2 ∧ ix = bs + (l.length : Int) + 1 ∧ l.length < 60 ∧ lastT btm l ≤ rt ∧ rt ≤ tm) ∨ (kd = 3 ∧ bs < ix ∧ ix ≤ bs + (l.length : Int))
abbrev WalT := Int × Int × Int × Int × List EI
abbrev StepT := Int × Int × Int × Int × List EI × Bool
def doneV (tm vt bs btm : Int) (l : List EI) (kd rt ix rv : Int) (d : ByteArray) : StepT :=
  if kd = 1 then (rt, rv, bs, btm, l, true) else if kd = 2 then (tm, vt, bs, btm, l ++ [⟨rt, d⟩], true) else (tm, vt, bs, btm, l.take (ix - bs - 1).toNat, true)
def walStepV (tm vt bs btm : Int) (l : List EI) (kd rt ix rv : Int) (d : ByteArray) : StepT :=
  if walOkV tm vt bs btm (ens l) = true then (if recOkP kd rt ix rv d.size ∧ fitsP tm vt bs btm l kd rt ix rv then doneV tm vt bs btm l kd rt ix rv d else (tm, vt, bs, btm, l, false)) else (0, 0, 0, 0, [], false)
theorem walOk_all {tm vt bs btm : Int} {l : List EI} (h : walOkV tm vt bs btm (ens l) = true) : walP tm vt bs btm l.length ∧ 0 ≤ bs ∧ bs ≤ 100000 := by
  unfold walOkV at h
  rw [Bool.and_eq_true, decide_eq_true_iff, ens_length] at h
  refine ⟨h.1, ?_⟩
  have := h.1.2.2.2.2.1
  unfold baseP at this
  omega

/-! ### what leads from one log to another -/
abbrev RI := S96
def preN : List EI → List EI → Nat
  | x :: l, y :: m => if (x.f0 == y.f0 && ((x.f1.toList) == (y.f1.toList))) = true then preN l m + 1 else 0
  | [], _ => 0
  | _ :: _, [] => 0
theorem preN_nil (l : List EI) : preN l [] = 0 := by cases l <;> rfl
theorem preN_le : ∀ (l m : List EI), preN l m ≤ l.length ∧ preN l m ≤ m.length
  | [], _ => by simp [preN]
  | x :: l, [] => by simp [preN]
  | x :: l, y :: m => by
    have := preN_le l m
    unfold preN
    split <;> simp <;> omega
def entR : List EI → Int → List RI
  | [], _ => []
  | x :: l, ix => ⟨2, x.f0, ix, 0, x.f1⟩ :: entR l (ix + 1)
theorem entR_length : ∀ (l : List EI) (ix : Int), (entR l ix).length = l.length
  | [], _ => rfl
  | x :: l, ix => by simp [entR, entR_length l]
abbrev hardR (tm vt : Int) : RI := ⟨1, tm, 0, vt, (⟨#[]⟩ : ByteArray)⟩
def tailV (l m : List EI) (bs : Int) (out : List RI) : List RI :=
  (if preN l m < l.length then out ++ [(⟨3, 0, bs + (preN l m : Int) + 1, 0, (⟨#[]⟩ : ByteArray)⟩ : RI)] else out) ++ entR (m.drop (preN l m)) (bs + (preN l m : Int) + 1)
abbrev ChT := List RI × Bool
open Classical in
noncomputable def changesV (tm vt bs btm : Int) (l : List EI) (tm2 vt2 bs2 btm2 : Int) (m : List EI) : ChT :=
  if walOkV tm vt bs btm (ens l) = true ∧ walOkV tm2 vt2 bs2 btm2 (ens m) = true ∧ bs = bs2 ∧ btm = btm2 then
    (if tm = tm2 ∧ vt = vt2 then (tailV l m bs [], true)
     else if fitsP tm vt bs btm l 1 tm2 0 vt2 then (tailV l m bs [hardR tm2 vt2], true) else ([], false))
  else ([], false)
theorem changesV_length (tm vt bs btm : Int) (l : List EI) (hl : l.length ≤ 1048576) (tm2 vt2 bs2 btm2 : Int) (m : List EI) (hm : m.length ≤ 1048576) :
    (changesV tm vt bs btm l tm2 vt2 bs2 btm2 m).1.length ≤ 1048580 := by
  have h (out : List RI) (h : out.length ≤ 1) : (tailV l m bs out).length ≤ 1048580 := by
    unfold tailV
    rw [List.length_append, entR_length, List.length_drop]
    split
    · rw [List.length_append, List.length_singleton]; omega
    · omega
  unfold changesV
  split
  · split
    · exact h _ (by simp)
    · split
      · exact h _ (by simp)
      · simp
  · simp

/-! ### what Var makes -/
def varL (n : Nat) : List Int := if n < 128 then [(n : Int)] else ((n % 128 + 128 : Nat) : Int) :: varL (n / 128)
termination_by n
decreasing_by omega

theorem varL_small {n : Nat} (h : n < 128) : varL n = [(n : Int)] := by rw [varL, if_pos h]
theorem varL_big {n : Nat} (h : ¬ n < 128) : varL n = ((n % 128 + 128 : Nat) : Int) :: varL (n / 128) := by rw [varL, if_neg h]
theorem varL_isB (n : Nat) : IsB (varL n) := by
  induction n using Nat.strongRecOn with
  | ind n ih =>
  by_cases c : n < 128
  · rw [varL_small c]; exact isB_cons (by omega) isB_nil
  · rw [varL_big c]; exact isB_cons (by omega) (ih _ (by omega))
theorem varL_pos (n : Nat) : 0 < (varL n).length := by
  rw [varL]; split <;> simp
/-- All bytes but the last are 128 or more; the last is less. -/
theorem varL_shape (n : Nat) : ∀ (j : Nat) (h : j < (varL n).length), (j + 1 = (varL n).length → (varL n)[j] < 128) ∧ (j + 1 < (varL n).length → 128 ≤ (varL n)[j]) := by
  induction n using Nat.strongRecOn with
  | ind n ih =>
  intro j h
  by_cases c : n < 128
  · have e := varL_small c
    simp only [e, List.length_singleton] at h ⊢
    obtain rfl : j = 0 := by omega
    simp
    omega
  · have e := varL_big c
    simp only [e, List.length_cons] at h ⊢
    cases j with
    | zero =>
      have := varL_pos (n / 128)
      simp only [List.getElem_cons_zero]
      exact ⟨fun k => by omega, fun _ => by omega⟩
    | succ j =>
      simp only [List.getElem_cons_succ]
      have := ih (n / 128) (by omega) j (by omega)
      exact ⟨fun k => this.1 (by omega), fun k => this.2 (by omega)⟩
/-- A beginning of a text that is a Var: where the bytes are less than 128. -/
theorem var_at {s : ByteArray} {n k : Nat} (hk : k ≤ s.size) (h : (strOfNums (varL n)).toList = (s.extract 0 k).toList) :
    0 < k ∧ ∀ j, j < k → (j + 1 = k → bt s (j : Int) < 128) ∧ (j + 1 < k → 128 ≤ bt s (j : Int)) := by
  have e := (tl_iff _ _).1 h
  have e2 : varL n = (bl s).take k := by
    have := congrArg bl e
    rw [bl_strOf (varL_isB n), bl_extract] at this
    simpa using this
  have hl : (varL n).length = k := by rw [e2, List.length_take, bl_length]; omega
  refine ⟨by have := varL_pos n; omega, fun j hj => ?_⟩
  have hs := varL_shape n j (by omega)
  have hb : bt s (j : Int) = (varL n)[j]'(by omega) := by
    rw [bt_nat s j (by omega)]
    simp only [e2, List.getElem_take]
  rw [hb]
  exact ⟨fun h => hs.1 (by omega), fun h => hs.2 (by omega)⟩

theorem varL_le7 {n : Nat} (h : n ≤ 562949953421311) : (varL n).length ≤ 7 := by
  have : ∀ (k n : Nat), n < 128 ^ (k + 1) → (varL n).length ≤ k + 1 := by
    intro k
    induction k with
    | zero => intro n h; rw [varL_small (by simpa using h)]; simp
    | succ k ih =>
      intro n h
      by_cases c : n < 128
      · rw [varL_small c]; simp
      · rw [varL_big c]
        have := ih (n / 128) (by rw [Nat.pow_succ] at h; omega)
        simpa using this
  exact this 6 n (by omega)

/-- What ShowRec(r) is. -/
def showRecV (kd tm ix vt : Int) (d : ByteArray) : ByteArray := if recOkP kd tm ix vt d.size then strOfNums ([kd] ++ varL tm.toNat ++ varL ix.toNat ++ varL (vt + 1).toNat) ++ d else strOfNums []

/-! ### what Fixed makes, and what ReadFixed reads -/
def fixL : Nat → Nat → List Int
  | 0, _ => []
  | w + 1, n => fixL w (n / 256) ++ [((n % 256 : Nat) : Int)]
theorem fixL_length : ∀ (w n : Nat), (fixL w n).length = w
  | 0, _ => rfl
  | w + 1, n => by simp [fixL, fixL_length w]
theorem set_replicate (i : Nat) (v : Int) (xs : List Int) : (List.replicate (i + 1) 0 ++ xs).set i v = List.replicate i 0 ++ (v :: xs) := by
  rw [List.replicate_succ', List.append_assoc, List.set_append_right _ _ (by simp)]
  simp
/-- What Fixed(n, w) is. -/
def fixedV (n w : Int) : List Int := if 1 ≤ w ∧ w ≤ 7 ∧ 0 ≤ n ∧ n < 256 ^ w.toNat then fixL w.toNat n.toNat else []
def beAcc (s : ByteArray) : Nat → Int → Int → Int
  | 0, _, n => n
  | d + 1, i, n => beAcc s d (i + 1) (n * 256 + bt s i)
/-- What ReadFixed(s, w) is. -/
def readFixedV (s : ByteArray) (w : Int) : Int × Bool := if 1 ≤ w ∧ w ≤ 7 ∧ w ≤ (s.size : Int) then (beAcc s w.toNat 0 0, true) else (0, false)

/-! ### what Crc is -/
def crcStep (c : Nat) : Nat := if c % 2 = 1 then (c / 2) ^^^ 2197175160 else c / 2
def crcRounds : Nat → Nat → Nat
  | 0, c => c
  | d + 1, c => crcRounds d (crcStep c)
theorem crcStep_lt {c : Nat} (h : c < 2 ^ 32) : crcStep c < 2 ^ 32 := by
  unfold crcStep
  split
  · exact Nat.xor_lt_two_pow (by omega) (by decide)
  · omega
theorem crcRounds_lt : ∀ (d c : Nat), c < 2 ^ 32 → crcRounds d c < 2 ^ 32
  | 0, _, h => h
  | d + 1, c, h => crcRounds_lt d _ (crcStep_lt h)
def crcFrom (s : ByteArray) : Nat → Nat → Nat → Nat
  | 0, _, c => c
  | d + 1, i, c => crcFrom s d (i + 1) (crcRounds 8 (c ^^^ (bt s i).toNat))
theorem crcIn_lt (s : ByteArray) (i : Nat) {c : Nat} (h : c < 2 ^ 32) : c ^^^ (bt s i).toNat < 2 ^ 32 := by
  have := bt_range s i
  exact Nat.xor_lt_two_pow h (by omega)
theorem crcFrom_lt (s : ByteArray) : ∀ (d i c : Nat), c < 2 ^ 32 → crcFrom s d i c < 2 ^ 32
  | 0, _, _, h => h
  | d + 1, i, c, h => crcFrom_lt s d (i + 1) _ (crcRounds_lt 8 _ (crcIn_lt s i h))
/-- What Crc(s) is. -/
def crcV (s : ByteArray) : Int := 4294967295 - (crcFrom s s.size 0 4294967295 : Nat)
theorem crcV_range (s : ByteArray) : 0 ≤ crcV s ∧ crcV s ≤ 4294967295 := by
  have := crcFrom_lt s s.size 0 4294967295 (by decide)
  unfold crcV; omega

/-- What Frame(b) is. -/
def frameV (b : ByteArray) : ByteArray := if 1 ≤ b.size ∧ b.size ≤ 2000 then (strOfNums (fixedV b.size 4) ++ strOfNums (fixedV (crcV (strOfNums (fixedV b.size 4) ++ b)) 4)) ++ b else strOfNums []
theorem fixedV_4 {n : Int} (h0 : 0 ≤ n) (h1 : n ≤ 4294967295) : fixedV n 4 = fixL 4 n.toNat := by
  unfold fixedV
  have e : (256 : Int) ^ (4 : Int).toNat = 4294967296 := by decide
  rw [if_pos (by rw [e]; omega)]
  rfl
theorem size_append (a b : ByteArray) : (a ++ b).size = a.size + b.size := ByteArray.size_append

/-! ### MWalText: the text of a log -/
theorem showRecV_size (kd tm ix vt : Int) (d : ByteArray) : (showRecV kd tm ix vt d).size ≤ 930 := by
  unfold showRecV
  by_cases c : recOkP kd tm ix vt d.size
  · rw [if_pos c]
    have c2 : 0 ≤ tm ∧ tm ≤ 100000 ∧ 0 ≤ ix ∧ ix ≤ 100000 ∧ -1 ≤ vt ∧ vt ≤ 4 ∧ d.size ≤ 900 := by unfold recOkP baseP at c; omega
    have h1 := varL_le7 (n := tm.toNat) (by omega)
    have h2 := varL_le7 (n := ix.toNat) (by omega)
    have h3 := varL_le7 (n := (vt + 1).toNat) (by omega)
    rw [size_append, strOf_size]
    simp only [List.length_append, List.length_singleton]
    omega
  · rw [if_neg c, strOf_size]; simp
theorem fixedV4_len (n : Int) : (fixedV n 4).length ≤ 4 := by
  unfold fixedV
  split
  · rw [fixL_length]; decide
  · simp
theorem frameV_size (b : ByteArray) : (frameV b).size ≤ 2008 := by
  unfold frameV
  split
  · rename_i c
    have h1 := fixedV4_len b.size
    have h2 := fixedV4_len (crcV (strOfNums (fixedV b.size 4) ++ b))
    rw [size_append, size_append, strOf_size, strOf_size]
    omega
  · rw [strOf_size]; simp
def framedV (kd tm ix vt : Int) (d : ByteArray) : ByteArray := frameV (showRecV kd tm ix vt d)
theorem framedV_size (kd tm ix vt : Int) (d : ByteArray) : (framedV kd tm ix vt d).size ≤ 2008 := frameV_size _
def txtV : List (Int × ByteArray) → Int → ByteArray → ByteArray
  | [], _, acc => acc
  | e :: es, ix, acc => txtV es (ix + 1) (acc ++ framedV 2 e.1 ix 0 e.2)
def walTextV (tm vt bs btm : Int) (es : List (Int × ByteArray)) : ByteArray :=
  if walOkV tm vt bs btm es = true then txtV es (bs + 1) (framedV 4 btm bs 0 (strOfNums []) ++ framedV 1 tm 0 vt (strOfNums [])) else strOfNums []

abbrev StI := S98
def recsTxt : List RI → ByteArray → ByteArray
  | [], acc => acc
  | r :: rs, acc => recsTxt rs (acc ++ framedV r.f0 r.f1 r.f2 r.f3 r.f4)
def planAddV (c : ChT) : List StI := if c.2 = true ∧ c.1.length ≠ 0 then [⟨2, (⟨#[108, 111, 103]⟩ : ByteArray), (⟨#[]⟩ : ByteArray), recsTxt c.1 (⟨#[]⟩ : ByteArray)⟩, ⟨3, (⟨#[108, 111, 103]⟩ : ByteArray), (⟨#[]⟩ : ByteArray), (⟨#[]⟩ : ByteArray)⟩] else []
theorem planAddV_length (c : ChT) : (planAddV c).length ≤ 2 := by
  unfold planAddV
  split <;> simp
theorem entR_size : ∀ (l : List EI) (ix : Int), (∀ e ∈ l, e.f1.size ≤ 1048576) → ∀ r ∈ entR l ix, r.f4.size ≤ 1048576
  | [], _, _, r, hr => by simp [entR] at hr
  | x :: l, ix, h, r, hr => by
    unfold entR at hr
    rcases List.mem_cons.1 hr with hr | hr
    · subst hr; exact h x (List.mem_cons_self ..)
    · exact entR_size l (ix + 1) (fun e he => h e (List.mem_cons_of_mem _ he)) r hr
theorem changesV_size (tm vt bs btm : Int) (l : List EI) (tm2 vt2 bs2 btm2 : Int) (m : List EI) (hm : ∀ e ∈ m, e.f1.size ≤ 1048576) :
    ∀ r ∈ (changesV tm vt bs btm l tm2 vt2 bs2 btm2 m).1, r.f4.size ≤ 1048576 := by
  have key (out : List RI) (h : ∀ r ∈ out, r.f4.size ≤ 1048576) : ∀ r ∈ tailV l m bs out, r.f4.size ≤ 1048576 := by
    intro r hr
    unfold tailV at hr
    rcases List.mem_append.1 hr with hr | hr
    · split at hr
      · rcases List.mem_append.1 hr with hr | hr
        · exact h r hr
        · rw [List.mem_singleton] at hr; subst hr; exact Nat.zero_le _
      · exact h r hr
    · exact entR_size _ _ (fun e he => hm e (List.mem_of_mem_drop he)) r hr
  unfold changesV
  split
  · split
    · exact key _ (by simp)
    · split
      · exact key _ (fun r hr => by rw [List.mem_singleton] at hr; subst hr; exact Nat.zero_le _)
      · simp
  · simp

theorem spec_l1In_eq (a b c : Int) : spec_l1In.f a b c = some (decide (b ≤ a ∧ a ≤ c)) := by
  unfold spec_l1In.f
  by_cases h : a ≥ b
  · rw [if_pos h]; simp [show b ≤ a from h]
  · rw [if_neg h]; simp [show ¬ b ≤ a from h]

theorem spec_l5Based_eq (i t : Int) : spec_l5Based.f i t = some (decide (baseP i t)) := by
  unfold spec_l5Based.f baseP
  simp only [spec_l1In_eq, Option.bind_some, decide_eq_true_eq]
  repeat' split
  all_goals (simp only [Option.some.injEq]; rw [Bool.eq_iff_iff]; simp only [decide_eq_true_eq, beq_iff_eq, Bool.false_eq_true, false_iff, true_iff]; omega)

theorem spec_RecOk_eq (kd tm ix vt : Int) (d : ByteArray) : spec_RecOk.f kd tm ix vt d = some (decide (recOkP kd tm ix vt d.size)) := by
  unfold spec_RecOk.f recOkP
  simp only [spec_l1In_eq, spec_l5Based_eq, Option.bind_some, tl_nil, decide_eq_true_eq]
  repeat' split
  all_goals (simp only [Option.some.injEq]; rw [Bool.eq_iff_iff]; simp only [decide_eq_true_eq, Bool.false_eq_true, false_iff, true_iff, baseP] at *; omega)

theorem spec_Var_l0 (n : Nat) : ∀ (xs : List Int), xs.length + n / 128 < 140737488355328 → n < 9223372036854775808 →
    Ev (fun k => spec_Var.l0 k (n : Int) xs) (strOfNums (xs ++ varL n)) := by
  induction n using Nat.strongRecOn with
  | ind n ih =>
  intro xs h1 h2
  refine Ev.step (fun k => by rw [spec_Var.l0]) ?_
  rw [varL]
  by_cases c : n < 128
  · rw [if_pos c]
    refine Ev.neg (by omega) (Ev.pos (by omega) (Ev.val _ _ ?_))
    rw [Int.emod_eq_of_lt (by omega) (by omega)]
  · rw [if_neg c]
    refine Ev.pos (by omega) (Ev.pos (by omega) ?_)
    have e1 : wrap64 (Int.tdiv (n : Int) 128) = ((n / 128 : Nat) : Int) := by rw [tdiv_nn (by omega), w64 (by omega) (by omega)]; omega
    have e2 : (wrap64 (128 + Int.tmod (n : Int) 128)) % 256 = ((n % 128 + 128 : Nat) : Int) := by rw [tmod_nn (by omega), w64 (by omega) (by omega)]; omega
    rw [e1, e2]
    have := ih (n / 128) (by omega) (xs ++ [((n % 128 + 128 : Nat) : Int)]) (by simp; omega) (by omega)
    simpa [List.append_assoc] using this
theorem spec_Var_in (n : Nat) (h : n ≤ 562949953421311) : Ev (fun k => spec_Var.f k (n : Int)) (strOfNums (varL n)) := by
  unfold spec_Var.f
  refine Ev.bind0 (spec_l1In_eq _ _ _) (Ev.pos (by simp; omega) ?_)
  simpa using spec_Var_l0 n [] (by simp; omega) (by omega)
theorem spec_Var_out (x : Int) (h : ¬ (0 ≤ x ∧ x ≤ 562949953421311)) : Ev (fun k => spec_Var.f k x) (strOfNums []) := by
  unfold spec_Var.f
  exact Ev.bind0 (spec_l1In_eq _ _ _) (Ev.neg (by simp; omega) (Ev.val _ _ rfl))

theorem spec_ShowRec_ev (kd tm ix vt : Int) (d : ByteArray) (hd : d.size ≤ 9223372036854775000) : Ev (fun k => spec_ShowRec.f k kd tm ix vt d) (showRecV kd tm ix vt d) := by
  unfold spec_ShowRec.f showRecV
  refine Ev.bind0 (spec_RecOk_eq _ _ _ _ _) ?_
  by_cases c : recOkP kd tm ix vt d.size
  · rw [if_pos c]
    have c2 : 1 ≤ kd ∧ kd ≤ 4 ∧ 0 ≤ tm ∧ tm ≤ 100000 ∧ 0 ≤ ix ∧ ix ≤ 100000 ∧ -1 ≤ vt ∧ vt ≤ 4 := by unfold recOkP baseP at c; omega
    obtain ⟨n, rfl⟩ := Int.eq_ofNat_of_zero_le c2.2.2.1
    obtain ⟨m, rfl⟩ := Int.eq_ofNat_of_zero_le c2.2.2.2.2.1
    obtain ⟨q, hq⟩ := Int.eq_ofNat_of_zero_le (show 0 ≤ vt + 1 by omega)
    have h1 := varL_le7 (n := n) (by omega)
    have h2 := varL_le7 (n := m) (by omega)
    have h3 := varL_le7 (n := q) (by omega)
    refine Ev.pos (decide_eq_true c) (Ev.bind0 rfl ?_)
    rw [w64 (by omega) (by omega), hq, Int.emod_eq_of_lt (by omega) (by omega)]
    refine Ev.bind (spec_Var_in n (by omega)) ?_
    refine Ev.pos (by rw [strOf_size, strOf_size]; simp; omega) ?_
    refine Ev.bind (spec_Var_in m (by omega)) ?_
    rw [strOf_append]
    refine Ev.pos (by rw [strOf_size, strOf_size]; simp; omega) ?_
    refine Ev.bind (spec_Var_in q (by omega)) ?_
    rw [strOf_append]
    refine Ev.pos (by rw [strOf_size, strOf_size]; simp; omega) ?_
    rw [strOf_append]
    refine Ev.pos (by rw [strOf_size]; simp; omega) ?_
    refine Ev.val _ _ ?_
    simp only [Int.toNat_natCast]
  · rw [if_neg c]
    exact Ev.neg (by rw [decide_eq_false c]; simp) (Ev.now _)

theorem impl_within_eq (a b c : Int) : impl_within.f a b c = some (decide (b ≤ a ∧ a ≤ c)) := by
  unfold impl_within.f
  by_cases h : a ≥ b
  · rw [if_pos h]; simp [show b ≤ a from h]
  · rw [if_neg h]; simp [show ¬ b ≤ a from h]

theorem impl_isTerm_eq (n : Int) : impl_isTerm.f n = some (decide (0 ≤ n ∧ n ≤ 100000)) := by
  unfold impl_isTerm.f; simp only [impl_within_eq, Option.bind_some]
theorem impl_isVote_eq (n : Int) : impl_isVote.f n = some (decide (-1 ≤ n ∧ n ≤ 4)) := by
  unfold impl_isVote.f; simp only [impl_within_eq, Option.bind_some]
theorem impl_isBase_eq (i t : Int) : impl_isBase.f i t = some (decide (baseP i t)) := by
  unfold impl_isBase.f baseP
  simp only [impl_within_eq, Option.bind_some, decide_eq_true_eq]
  repeat' split
  all_goals (simp only [Option.some.injEq]; rw [Bool.eq_iff_iff]; simp only [decide_eq_true_eq, Bool.false_eq_true, false_iff, true_iff]; omega)

theorem impl_RecOk_eq (kd tm ix vt : Int) (d : ByteArray) : impl_RecOk.f kd tm ix vt d = some (decide (recOkP kd tm ix vt d.size)) := by
  unfold impl_RecOk.f recOkP
  simp only [impl_within_eq, impl_isTerm_eq, impl_isVote_eq, impl_isBase_eq, Option.bind_some, tl_nil, decide_eq_true_eq, Bool.and_eq_true, beq_iff_eq]
  repeat' split
  all_goals (simp only [Option.some.injEq]; rw [Bool.eq_iff_iff]; simp only [decide_eq_true_eq, beq_iff_eq, Bool.false_eq_true, false_iff, true_iff, baseP] at *; omega)

theorem impl_Var_l0 (n : Nat) : ∀ (xs : List Int), xs.length + n / 128 < 140737488355328 → n < 9223372036854775808 →
    Ev (fun k => impl_Var.l0 k (n : Int) xs) (strOfNums (xs ++ varL n)) := by
  induction n using Nat.strongRecOn with
  | ind n ih =>
  intro xs h1 h2
  refine Ev.step (fun k => by rw [impl_Var.l0]) ?_
  rw [varL]
  by_cases c : n < 128
  · rw [if_pos c]
    refine Ev.neg (by omega) (Ev.pos (by omega) (Ev.val _ _ ?_))
    rw [Int.emod_eq_of_lt (by omega) (by omega)]
  · rw [if_neg c]
    refine Ev.pos (by omega) (Ev.pos (by omega) ?_)
    have e1 : ((n : Int) / 128) = ((n / 128 : Nat) : Int) := by omega
    have e2 : (Go.bits .or .i64 (Go.bits .and .i64 (n : Int) 127) 128) % 256 = ((n % 128 + 128 : Nat) : Int) := by
      rw [and127 (by omega) (by omega), or_join' 7 128 _ (by omega) (by omega) (by omega) (by omega) (by omega) (by omega)]; omega
    rw [e1, e2]
    have := ih (n / 128) (by omega) (xs ++ [((n % 128 + 128 : Nat) : Int)]) (by simp; omega) (by omega)
    simpa [List.append_assoc] using this
theorem impl_Var_in (n : Nat) (h : n ≤ 562949953421311) : Ev (fun k => impl_Var.f k (n : Int)) (strOfNums (varL n)) := by
  unfold impl_Var.f
  refine Ev.bind0 (impl_within_eq _ _ _) (Ev.pos (by simp; omega) ?_)
  simpa using impl_Var_l0 n [] (by simp; omega) (by omega)
theorem impl_Var_out (x : Int) (h : ¬ (0 ≤ x ∧ x ≤ 562949953421311)) : Ev (fun k => impl_Var.f k x) (strOfNums []) := by
  unfold impl_Var.f
  exact Ev.bind0 (impl_within_eq _ _ _) (Ev.neg (by simp; omega) (Ev.val _ _ rfl))

theorem impl_ShowRec_ev (kd tm ix vt : Int) (d : ByteArray) (hd : d.size ≤ 9223372036854775000) : Ev (fun k => impl_ShowRec.f k kd tm ix vt d) (showRecV kd tm ix vt d) := by
  unfold impl_ShowRec.f showRecV
  refine Ev.bind0 (impl_RecOk_eq _ _ _ _ _) ?_
  by_cases c : recOkP kd tm ix vt d.size
  · rw [if_pos c]
    have c2 : 1 ≤ kd ∧ kd ≤ 4 ∧ 0 ≤ tm ∧ tm ≤ 100000 ∧ 0 ≤ ix ∧ ix ≤ 100000 ∧ -1 ≤ vt ∧ vt ≤ 4 := by unfold recOkP baseP at c; omega
    obtain ⟨n, rfl⟩ := Int.eq_ofNat_of_zero_le c2.2.2.1
    obtain ⟨m, rfl⟩ := Int.eq_ofNat_of_zero_le c2.2.2.2.2.1
    obtain ⟨q, hq⟩ := Int.eq_ofNat_of_zero_le (show 0 ≤ vt + 1 by omega)
    have h1 := varL_le7 (n := n) (by omega)
    have h2 := varL_le7 (n := m) (by omega)
    have h3 := varL_le7 (n := q) (by omega)
    refine Ev.pos (decide_eq_true c) (Ev.bind0 rfl ?_)
    rw [w64 (by omega) (by omega), hq, Int.emod_eq_of_lt (by omega) (by omega)]
    refine Ev.bind (impl_Var_in n (by omega)) ?_
    refine Ev.pos (by rw [strOf_size, strOf_size]; simp; omega) ?_
    refine Ev.bind (impl_Var_in m (by omega)) ?_
    rw [strOf_append]
    refine Ev.pos (by rw [strOf_size, strOf_size]; simp; omega) ?_
    refine Ev.bind (impl_Var_in q (by omega)) ?_
    rw [strOf_append]
    refine Ev.pos (by rw [strOf_size, strOf_size]; simp; omega) ?_
    rw [strOf_append]
    refine Ev.pos (by rw [strOf_size]; simp; omega) ?_
    refine Ev.val _ _ ?_
    simp only [Int.toNat_natCast]
  · rw [if_neg c]
    exact Ev.neg (by rw [decide_eq_false c]; simp) (Ev.now _)

theorem spec_Fixed_l0 (d : Nat) : ∀ (n : Nat) (w i : Int) (xs : List Int), 0 ≤ i → w - i = d → w ≤ 7 → xs.length ≤ i → n < 9223372036854775808 →
    Ev (fun k => spec_Fixed.l0 k (n : Int) w (strOfNums xs) i) (strOfNums (if n < 256 ^ d then fixL d n ++ xs else [])) := by
  induction d with
  | zero =>
    intro n w i xs hi hd hw hx hn
    refine Ev.step (fun k => by rw [spec_Fixed.l0]) ?_
    refine Ev.neg (by omega) ?_
    by_cases c : n = 0
    · subst c
      exact Ev.neg (by omega) (Ev.val _ _ (by simp [fixL]))
    · refine Ev.pos (by omega) (Ev.val _ _ ?_)
      rw [if_neg (by simp; omega)]; rfl
  | succ d ih =>
    intro n w i xs hi hd hw hx hn
    refine Ev.step (fun k => by rw [spec_Fixed.l0]) ?_
    refine Ev.pos (by omega) (Ev.bind (Ev.now _) (Ev.pos (by rw [strOf_size, strOf_size]; simp; omega) ?_))
    have e1 : (Int.tmod (n : Int) 256) % 256 = ((n % 256 : Nat) : Int) := by rw [tmod_nn (by omega)]; omega
    have e2 : wrap64 (Int.tdiv (n : Int) 256) = ((n / 256 : Nat) : Int) := by rw [tdiv_nn (by omega), w64 (by omega) (by omega)]; omega
    rw [e1, e2, w64 (by omega) (by omega), strOf_append]
    have := ih (n / 256) w (i + 1) ([((n % 256 : Nat) : Int)] ++ xs) (by omega) (by omega) hw (by simp; omega) (by omega)
    have e3 : (n / 256 < 256 ^ d) = (n < 256 ^ (d + 1)) := by
      rw [Nat.pow_succ, Nat.div_lt_iff_lt_mul (by decide)]
    simp only [e3] at this
    simpa [fixL, List.append_assoc] using this
theorem spec_Fixed_ev (n w : Int) (hn : n ≤ 9223372036854775807) : Ev (fun k => spec_Fixed.f k n w) (strOfNums (fixedV n w)) := by
  unfold spec_Fixed.f fixedV
  refine Ev.bind0 (spec_l1In_eq _ _ _) ?_
  by_cases c : 1 ≤ w ∧ w ≤ 7
  · refine Ev.pos (by simp; omega) ?_
    refine Ev.step (fun k => by rw [spec_Fixed.j0]) ?_
    by_cases c2 : n < 0
    · refine Ev.pos (by simpa using c2) (Ev.val _ _ ?_)
      rw [if_neg (by omega)]; rfl
    · obtain ⟨m, rfl⟩ := Int.eq_ofNat_of_zero_le (show 0 ≤ n by omega)
      obtain ⟨d, rfl⟩ := Int.eq_ofNat_of_zero_le (show 0 ≤ w by omega)
      refine Ev.neg (by simp) ?_
      rw [strOf_nil]
      have := spec_Fixed_l0 d m (d : Int) 0 [] (by omega) (by omega) (by omega) (by simp) (by omega)
      have e : (m < 256 ^ d) = (1 ≤ (d : Int) ∧ (d : Int) ≤ 7 ∧ 0 ≤ (m : Int) ∧ (m : Int) < 256 ^ (d : Int).toNat) := by
        rw [Int.toNat_natCast, lt_pow256]; apply propext; omega
      simp only [e] at this
      simpa using this
  · refine Ev.neg (by simp; omega) ?_
    refine Ev.step (fun k => by rw [spec_Fixed.j0]) ?_
    refine Ev.pos rfl (Ev.val _ _ ?_)
    rw [if_neg (by omega)]; rfl

theorem spec_Crc_l1 (s : ByteArray) (i : Nat) (r : Int) (d : Nat) : ∀ (c : Nat) (j : Int), c < 2 ^ 32 → 8 - j = d → 0 ≤ j → i < 9223372036854775807 →
    Ev (fun k => spec_Crc.l0 k s ((crcRounds d c : Nat) : Int) ((i + 1 : Nat) : Int)) r → Ev (fun k => spec_Crc.l1 k s (c : Int) (i : Int) j) r := by
  induction d with
  | zero =>
    intro c j hc hd hj hi h
    refine Ev.step (fun k => by rw [spec_Crc.l1]) (Ev.neg (by omega) ?_)
    rw [w64 (by omega) (by omega)]
    exact h
  | succ d ih =>
    intro c j hc hd hj hi h
    have hlt := crcStep_lt hc
    refine Ev.step (fun k => by rw [spec_Crc.l1]) (Ev.pos (by omega) ?_)
    rw [tmod_nn (by omega), tdiv_nn (by omega), w64 (x := (c : Int) / 2) (by omega) (by omega), w64 (x := j + 1) (by omega) (by omega)]
    have g := ih (crcStep c) (j + 1) hlt (by omega) (by omega) hi h
    by_cases o : c % 2 = 1
    · refine Ev.pos (by omega) ?_
      have e : Go.bits .xor .i64 ((c : Int) / 2) 2197175160 = ((crcStep c : Nat) : Int) := by
        rw [show ((c : Int) / 2) = ((c / 2 : Nat) : Int) by omega, show (2197175160 : Int) = ((2197175160 : Nat) : Int) from rfl, bits_xor_nat _ _ (by omega) (by decide)]
        unfold crcStep; rw [if_pos o]
      rw [e]; exact g
    · refine Ev.neg (by omega) ?_
      have e : (c : Int) / 2 = ((crcStep c : Nat) : Int) := by unfold crcStep; rw [if_neg o]; omega
      rw [e]; exact g
theorem spec_Crc_l0 (s : ByteArray) (hs : s.size ≤ 140737488351232) (d : Nat) : ∀ (i c : Nat), c < 2 ^ 32 → s.size - i = d → i ≤ s.size →
    Ev (fun k => spec_Crc.l0 k s (c : Int) (i : Int)) (4294967295 - (crcFrom s d i c : Nat)) := by
  induction d with
  | zero =>
    intro i c hc hd hi
    exact Ev.step (fun k => by rw [spec_Crc.l0]) (Ev.neg (by omega) (Ev.val _ _ (by simp only [crcFrom]; rw [w64 (by omega) (by omega)])))
  | succ d ih =>
    intro i c hc hd hi
    have hb := bt_range s i
    refine Ev.step (fun k => by rw [spec_Crc.l0]) (Ev.pos (by omega) (Ev.pos (by omega) ?_))
    rw [wbt, show bt s (i : Int) = ((bt s i).toNat : Int) by omega, bits_xor_nat _ _ (by omega) (by omega)]
    exact spec_Crc_l1 s i _ 8 _ 0 (crcIn_lt s i hc) (by omega) (by omega) (by omega) (ih (i + 1) _ (crcRounds_lt 8 _ (crcIn_lt s i hc)) (by omega) (by omega))
theorem spec_Crc_ev (s : ByteArray) (hs : s.size ≤ 140737488351232) : Ev (fun k => spec_Crc.f k s) (crcV s) := by
  unfold spec_Crc.f
  exact spec_Crc_l0 s hs s.size 0 4294967295 (by decide) (by omega) (by omega)

theorem spec_Frame_ev (b : ByteArray) (hb : b.size ≤ 140737488351232) : Ev (fun k => spec_Frame.f k b) (frameV b) := by
  have no : ¬ (1 ≤ b.size ∧ b.size ≤ 2000) → Ev (fun k => spec_Frame.j0 k b true) (frameV b) := by
    intro h
    refine Ev.step (fun k => by rw [spec_Frame.j0]) ?_
    unfold frameV
    rw [if_neg h]
    exact Ev.pos rfl (Ev.now _)
  unfold spec_Frame.f
  by_cases c : (b.size : Int) = 0
  · exact Ev.pos c (no (by omega))
  · refine Ev.neg c ?_
    by_cases c2 : (b.size : Int) > 2000
    · rw [decide_eq_true c2]; exact no (by omega)
    · rw [decide_eq_false c2]
      refine Ev.step (fun k => by rw [spec_Frame.j0]) ?_
      unfold frameV
      rw [if_pos (by omega)]
      have h4 : (strOfNums (fixedV (b.size : Int) 4)).size = 4 := by rw [strOf_size, fixedV_4 (by omega) (by omega), fixL_length]
      have hc := crcV_range (strOfNums (fixedV (b.size : Int) 4) ++ b)
      have h5 : (strOfNums (fixedV (crcV (strOfNums (fixedV (b.size : Int) 4) ++ b)) 4)).size = 4 := by rw [strOf_size, fixedV_4 hc.1 hc.2, fixL_length]
      refine Ev.neg (by simp) (Ev.bind (spec_Fixed_ev _ _ (by omega)) (Ev.pos (by omega) ?_))
      refine Ev.bind (spec_Crc_ev _ (by rw [size_append]; omega)) (Ev.bind (spec_Fixed_ev _ _ (by omega)) ?_)
      exact Ev.pos (by omega) (Ev.pos (by rw [size_append]; omega) (Ev.now _))

theorem impl_Fixed_l0 (d : Nat) : ∀ (n : Nat) (xs : List Int), d ≤ 7 → n < 9223372036854775808 →
    Ev (fun k => impl_Fixed.l0 k (n : Int) (List.replicate d 0 ++ xs) ((d : Int) - 1)) (strOfNums (fixL d n ++ xs)) := by
  induction d with
  | zero =>
    intro n xs hd hn
    refine Ev.step (fun k => by rw [impl_Fixed.l0]) ?_
    exact Ev.neg (by omega) (Ev.val _ _ (by simp [fixL]))
  | succ d ih =>
    intro n xs hd hn
    refine Ev.step (fun k => by rw [impl_Fixed.l0]) ?_
    refine Ev.pos (by omega) (Ev.pos (by omega) (Ev.pos (by simp; omega) ?_))
    have e1 : (Go.bits .and .i64 (n : Int) 255) % 256 = ((n % 256 : Nat) : Int) := by rw [and255 (by omega) (by omega)]; omega
    have e2 : (n : Int) / 256 = ((n / 256 : Nat) : Int) := by omega
    have e3 : ((d + 1 : Nat) : Int) - 1 = (d : Int) := by omega
    rw [e1, e2, e3, w64 (by omega) (by omega), Int.toNat_natCast, set_replicate]
    have := ih (n / 256) (((n % 256 : Nat) : Int) :: xs) (by omega) (by omega)
    simpa [fixL, List.append_assoc] using this
theorem impl_Fixed_ev (n w : Int) (hn : n ≤ 9223372036854775807) : Ev (fun k => impl_Fixed.f k n w) (strOfNums (fixedV n w)) := by
  unfold impl_Fixed.f fixedV
  refine Ev.bind0 (impl_within_eq _ _ _) ?_
  by_cases c : 1 ≤ w ∧ w ≤ 7
  · refine Ev.pos (by simp; omega) ?_
    by_cases c2 : n < 0
    · refine Ev.pos c2 ?_
      refine Ev.step (fun k => by rw [impl_Fixed.j0]) ?_
      refine Ev.pos rfl (Ev.val _ _ ?_)
      rw [if_neg (by omega)]; rfl
    · obtain ⟨m, rfl⟩ := Int.eq_ofNat_of_zero_le (show 0 ≤ n by omega)
      obtain ⟨d, rfl⟩ := Int.eq_ofNat_of_zero_le (show 0 ≤ w by omega)
      have e1 : wrap64 (8 * (d : Int)) = ((8 * d : Nat) : Int) := by rw [w64 (by omega) (by omega)]; omega
      have e2 : shl .i64 1 ((8 * d : Nat) : Int) = ((256 ^ d : Nat) : Int) := by
        obtain rfl | rfl | rfl | rfl | rfl | rfl | rfl : d = 1 ∨ d = 2 ∨ d = 3 ∨ d = 4 ∨ d = 5 ∨ d = 6 ∨ d = 7 := by omega
        all_goals decide
      rw [e1, e2]
      refine Ev.neg c2 (Ev.pos (by omega) ?_)
      refine Ev.step (fun k => by rw [impl_Fixed.j0]) ?_
      have e3 : ((m : Int) < 256 ^ (d : Int).toNat) = (m < 256 ^ d) := by rw [Int.toNat_natCast, lt_pow256]
      by_cases c3 : m < 256 ^ d
      · refine Ev.neg (by simp only [decide_eq_true_eq]; omega) (Ev.pos (by omega) (Ev.pos (by simp; omega) ?_))
        rw [if_pos (by rw [e3]; exact ⟨by omega, by omega, by omega, c3⟩), w64 (by omega) (by omega), Int.toNat_natCast, Int.toNat_natCast]
        simpa using impl_Fixed_l0 d m [] (by omega) (by omega)
      · refine Ev.pos (by simp only [decide_eq_true_eq]; omega) (Ev.val _ _ ?_)
        rw [if_neg (by rw [e3]; omega)]; rfl
  · refine Ev.neg (by simp; omega) ?_
    refine Ev.step (fun k => by rw [impl_Fixed.j0]) ?_
    refine Ev.pos rfl (Ev.val _ _ ?_)
    rw [if_neg (by omega)]; rfl

theorem impl_Crc_l1 (s : ByteArray) (i : Nat) (r : Int) (d : Nat) : ∀ (c : Nat) (j : Int), c < 2 ^ 32 → 8 - j = d → 0 ≤ j → i < 9223372036854775807 →
    Ev (fun k => impl_Crc.l0 k s ((crcRounds d c : Nat) : Int) ((i + 1 : Nat) : Int)) r → Ev (fun k => impl_Crc.l1 k s (c : Int) (i : Int) j) r := by
  induction d with
  | zero =>
    intro c j hc hd hj hi h
    refine Ev.step (fun k => by rw [impl_Crc.l1]) (Ev.neg (by omega) ?_)
    rw [w64 (by omega) (by omega)]
    exact h
  | succ d ih =>
    intro c j hc hd hj hi h
    have hlt := crcStep_lt hc
    refine Ev.step (fun k => by rw [impl_Crc.l1]) (Ev.pos (by omega) ?_)
    rw [and1 (by omega) (by omega), w64 (x := j + 1) (by omega) (by omega)]
    have g := ih (crcStep c) (j + 1) hlt (by omega) (by omega) hi h
    by_cases o : c % 2 = 1
    · refine Ev.pos (by omega) ?_
      have e : Go.bits .xor .i64 ((c : Int) / 2) 2197175160 = ((crcStep c : Nat) : Int) := by
        rw [show ((c : Int) / 2) = ((c / 2 : Nat) : Int) by omega, show (2197175160 : Int) = ((2197175160 : Nat) : Int) from rfl, bits_xor_nat _ _ (by omega) (by decide)]
        unfold crcStep; rw [if_pos o]
      rw [e]; exact g
    · refine Ev.neg (by omega) ?_
      have e : (c : Int) / 2 = ((crcStep c : Nat) : Int) := by unfold crcStep; rw [if_neg o]; omega
      rw [e]; exact g
theorem impl_Crc_l0 (s : ByteArray) (hs : s.size ≤ 140737488351232) (d : Nat) : ∀ (i c : Nat), c < 2 ^ 32 → s.size - i = d → i ≤ s.size →
    Ev (fun k => impl_Crc.l0 k s (c : Int) (i : Int)) (4294967295 - (crcFrom s d i c : Nat)) := by
  induction d with
  | zero =>
    intro i c hc hd hi
    exact Ev.step (fun k => by rw [impl_Crc.l0]) (Ev.neg (by omega) (Ev.val _ _ (by simp only [crcFrom]; rw [w64 (by omega) (by omega)])))
  | succ d ih =>
    intro i c hc hd hi
    have hb := bt_range s i
    refine Ev.step (fun k => by rw [impl_Crc.l0]) (Ev.pos (by omega) (Ev.pos (by omega) ?_))
    rw [wbt, show bt s (i : Int) = ((bt s i).toNat : Int) by omega, bits_xor_nat _ _ (by omega) (by omega)]
    exact impl_Crc_l1 s i _ 8 _ 0 (crcIn_lt s i hc) (by omega) (by omega) (by omega) (ih (i + 1) _ (crcRounds_lt 8 _ (crcIn_lt s i hc)) (by omega) (by omega))
theorem impl_Crc_ev (s : ByteArray) (hs : s.size ≤ 140737488351232) : Ev (fun k => impl_Crc.f k s) (crcV s) := by
  unfold impl_Crc.f
  exact impl_Crc_l0 s hs s.size 0 4294967295 (by decide) (by omega) (by omega)

theorem impl_Frame_ev (b : ByteArray) (hb : b.size ≤ 140737488351232) : Ev (fun k => impl_Frame.f k b) (frameV b) := by
  unfold impl_Frame.f frameV
  refine Ev.bind0 (impl_within_eq _ _ _) ?_
  by_cases c : 1 ≤ b.size ∧ b.size ≤ 2000
  · rw [if_pos c]
    have h4 : (strOfNums (fixedV (b.size : Int) 4)).size = 4 := by rw [strOf_size, fixedV_4 (by omega) (by omega), fixL_length]
    have hc := crcV_range (strOfNums (fixedV (b.size : Int) 4) ++ b)
    have h5 : (strOfNums (fixedV (crcV (strOfNums (fixedV (b.size : Int) 4) ++ b)) 4)).size = 4 := by rw [strOf_size, fixedV_4 hc.1 hc.2, fixL_length]
    refine Ev.pos (by simp; omega) (Ev.bind (impl_Fixed_ev _ _ (by omega)) (Ev.pos (by omega) ?_))
    refine Ev.bind (impl_Crc_ev _ (by rw [size_append]; omega)) (Ev.bind (impl_Fixed_ev _ _ (by omega)) ?_)
    exact Ev.pos (by omega) (Ev.pos (by rw [size_append]; omega) (Ev.now _))
  · rw [if_neg c]
    exact Ev.neg (by simp; omega) (Ev.now _)

theorem spec_framed_ev (kd tm ix vt : Int) (d : ByteArray) (hd : d.size ≤ 1048576) {β : Type} {f : Nat → ByteArray → Option β} {r : β} (k : Ev (fun n => f n (framedV kd tm ix vt d)) r) :
    Ev (fun k => (spec_ShowRec.f k kd tm ix vt d).bind fun t => (spec_Frame.f k t).bind (f k)) r :=
  Ev.bind (spec_ShowRec_ev kd tm ix vt d (by omega)) (Ev.bind (spec_Frame_ev _ (by have := showRecV_size kd tm ix vt d; omega)) k)
theorem impl_framed_ev (kd tm ix vt : Int) (d : ByteArray) (hd : d.size ≤ 1048576) : Ev (fun k => impl_framed.f k kd tm ix vt d) (framedV kd tm ix vt d) := by
  unfold impl_framed.f
  exact Ev.bind (impl_ShowRec_ev kd tm ix vt d (by omega)) (Ev.bind (impl_Frame_ev _ (by have := showRecV_size kd tm ix vt d; omega)) (Ev.now _))

theorem rdR_get (l : List RI) (i : Nat) (h : i < l.length) : rd_T96 l (i : Int) = l[i] := by
  unfold rd_T96
  rw [Int.toNat_natCast, List.getD_eq_getElem?_getD, List.getElem?_eq_getElem h]; rfl

theorem spec_WalOk_l0 (tm vt bs btm : Int) (l : List EI) (hl : l.length ≤ 60) (d : Nat) : ∀ (i : Nat) (last : Int), i + d = l.length →
    Ev (fun k => spec_WalOk.l0 k last (i : Int) tm vt bs btm l) (entOk (ens (l.drop i)) last tm) := by
  induction d with
  | zero =>
    intro i last hi
    refine Ev.step (fun k => by rw [spec_WalOk.l0]) ?_
    rw [List.drop_eq_nil_of_le (by omega)]
    exact Ev.neg (by omega) (Ev.now _)
  | succ d ih =>
    intro i last hi
    refine Ev.step (fun k => by rw [spec_WalOk.l0]) ?_
    rw [rdE_drop l i (by omega)]
    have R := ih (i + 1) ((rd_T146 l (i : Int)).f0) (by omega)
    generalize rd_T146 l (i : Int) = e at R
    have e1 : ((i + 1 : Nat) : Int) = (i : Int) + 1 := by omega
    rw [e1] at R
    simp only [ens, List.map_cons, entOk]
    refine Ev.pos (by omega) (Ev.pos (by omega) ?_)
    by_cases c : 1 ≤ e.f0 ∧ last ≤ e.f0 ∧ e.f0 ≤ tm ∧ e.f1.size ≤ 900
    · rw [decide_eq_true c, Bool.true_and, w64 (by omega) (by omega)]
      exact Ev.neg (by omega) (Ev.neg (by omega) (Ev.neg (by omega) (Ev.neg (by omega) R)))
    · rw [decide_eq_false c, Bool.false_and]
      by_cases c1 : e.f0 < 1
      · exact Ev.pos c1 (Ev.now _)
      · refine Ev.neg c1 ?_
        by_cases c2 : e.f0 < last
        · exact Ev.pos c2 (Ev.now _)
        · refine Ev.neg c2 ?_
          by_cases c3 : e.f0 > tm
          · exact Ev.pos c3 (Ev.now _)
          · exact Ev.neg c3 (Ev.pos (by omega) (Ev.now _))
theorem spec_WalOk_ev (tm vt bs btm : Int) (l : List EI) (hl : l.length ≤ 1048576) : Ev (fun k => spec_WalOk.f k tm vt bs btm l) (walOkV tm vt bs btm (ens l)) := by
  have bad : ¬ walP tm vt bs btm (ens l).length → Ev (fun k => spec_WalOk.j0 k true tm vt bs btm l) (walOkV tm vt bs btm (ens l)) := by
    intro h
    refine Ev.step (fun k => by rw [spec_WalOk.j0]) ?_
    unfold walOkV
    rw [decide_eq_false h, Bool.false_and]
    exact Ev.pos rfl (Ev.now _)
  rw [ens_length] at bad
  unfold spec_WalOk.f
  refine Ev.bind0 (spec_l1In_eq _ _ _) ?_
  by_cases c1 : 0 ≤ tm ∧ tm ≤ 100000
  · refine Ev.pos (decide_eq_true c1) (Ev.bind0 (spec_l1In_eq _ _ _) ?_)
    by_cases c2 : -1 ≤ vt ∧ vt ≤ 4
    · refine Ev.pos (decide_eq_true c2) (Ev.bind0 (spec_l5Based_eq _ _) ?_)
      by_cases c3 : baseP bs btm
      · refine Ev.pos (decide_eq_true c3) ?_
        have hb : 0 ≤ bs ∧ bs ≤ 100000 := by unfold baseP at c3; omega
        by_cases c4 : btm > tm
        · exact Ev.pos c4 (bad (fun h => by have := h.2.2.2.2.2.1; omega))
        · refine Ev.neg c4 ?_
          by_cases c5 : (l.length : Int) > 60
          · exact Ev.pos c5 (bad (fun h => by have := h.2.2.2.2.2.2.1; omega))
          · refine Ev.neg c5 ?_
            rw [w64 (by omega) (by omega)]
            by_cases c6 : bs + (l.length : Int) > 100000
            · rw [decide_eq_true c6]; exact bad (fun h => by have := h.2.2.2.2.2.2.2; omega)
            · rw [decide_eq_false c6]
              refine Ev.step (fun k => by rw [spec_WalOk.j0]) ?_
              unfold walOkV
              rw [ens_length, decide_eq_true (show walP tm vt bs btm l.length from ⟨c1.1, c1.2, c2.1, c2.2, c3, by omega, by omega, by omega⟩), Bool.true_and]
              exact Ev.neg (by simp) (spec_WalOk_l0 tm vt bs btm l (by omega) l.length 0 btm (by omega))
      · exact Ev.neg (by rw [decide_eq_false c3]; simp) (bad (fun h => c3 h.2.2.2.2.1))
    · exact Ev.neg (by rw [decide_eq_false c2]; simp) (bad (fun h => c2 ⟨h.2.2.1, h.2.2.2.1⟩))
  · exact Ev.neg (by rw [decide_eq_false c1]; simp) (bad (fun h => c1 ⟨h.1, h.2.1⟩))

theorem spec_l5LastTerm_eq (tm vt bs btm : Int) (l : List EI) (hl : l.length ≤ 1048576) : spec_l5LastTerm.f tm vt bs btm l = some (lastT btm l) := by
  unfold spec_l5LastTerm.f lastT
  by_cases c : l.length = 0
  · rw [if_pos (by omega), if_pos c]
  · rw [if_neg (by omega), if_neg c, w64 (by omega) (by omega), if_pos (by omega), if_pos (by omega)]
theorem spec_l5Fits_eq (tm vt bs btm : Int) (l : List EI) (hl : l.length ≤ 1048576) (hb : 0 ≤ bs ∧ bs ≤ 100000) (kd rt ix rv : Int) (d : ByteArray) :
    spec_l5Fits.f tm vt bs btm l kd rt ix rv d = some (decide (fitsP tm vt bs btm l kd rt ix rv)) := by
  unfold spec_l5Fits.f
  rw [spec_l5LastTerm_eq _ _ _ _ _ hl, w64 (x := bs + (l.length : Int)) (by omega) (by omega), w64 (x := bs + (l.length : Int) + 1) (by omega) (by omega)]
  simp only [Option.bind_some]
  repeat' split
  all_goals (simp only [Option.some.injEq]; rw [Bool.eq_iff_iff]; simp only [decide_eq_true_eq, Bool.false_eq_true, false_iff, true_iff, beq_iff_eq, fitsP] at *; omega)

theorem spec_Changes_l0 (tm vt bs btm : Int) (l : List EI) (tm2 vt2 bs2 btm2 : Int) (m : List EI) (hl : l.length ≤ 1048576) (hm : m.length ≤ 1048576) (out : List RI) (R : ChT) (d : Nat) : ∀ (i : Nat), i + d = l.length → i ≤ m.length →
    Ev (fun k => spec_Changes.j4 k out ((i + preN (l.drop i) (m.drop i) : Nat) : Int) tm vt bs btm l tm2 vt2 bs2 btm2 m) R → Ev (fun k => spec_Changes.l0 k out (i : Int) tm vt bs btm l tm2 vt2 bs2 btm2 m) R := by
  induction d with
  | zero =>
    intro i hi hi2 h
    refine Ev.step (fun k => by rw [spec_Changes.l0]) ?_
    rw [List.drop_eq_nil_of_le (show l.length ≤ i by omega)] at h
    exact Ev.neg (by omega) h
  | succ d ih =>
    intro i hi hi2 h
    refine Ev.step (fun k => by rw [spec_Changes.l0]) ?_
    refine Ev.pos (by omega) ?_
    by_cases c : i < m.length
    · rw [List.drop_eq_getElem_cons (show i < l.length by omega), List.drop_eq_getElem_cons c, preN] at h
      refine Ev.pos (by omega) (Ev.pos (by omega) ?_)
      rw [rdE_get l i (by omega), rdE_get m i c, w64 (x := (i : Int) + 1) (by omega) (by omega)]
      by_cases c2 : (l[i].f0 == m[i].f0 && ((l[i].f1.toList) == (m[i].f1.toList))) = true
      · rw [if_pos c2, show i + (preN (l.drop (i + 1)) (m.drop (i + 1)) + 1) = i + 1 + preN (l.drop (i + 1)) (m.drop (i + 1)) by omega] at h
        have := ih (i + 1) (by omega) (by omega) h
        have e1 : ((i + 1 : Nat) : Int) = (i : Int) + 1 := by omega
        rw [e1] at this
        exact Ev.pos c2 this
      · rw [if_neg c2] at h
        exact Ev.neg c2 h
    · rw [List.drop_eq_nil_of_le (show m.length ≤ i by omega), preN_nil] at h
      exact Ev.neg (by omega) h
theorem spec_Changes_l1 (tm2 vt2 bs2 btm2 : Int) (m : List EI) (hm : m.length ≤ 1048576) (hb : 0 ≤ bs2 ∧ bs2 ≤ 100000) (d : Nat) : ∀ (i : Nat) (out : List RI), i + d = m.length → out.length ≤ 2 + i →
    Ev (fun k => spec_Changes.l1 k out (i : Int) tm2 vt2 bs2 btm2 m) (out ++ entR (m.drop i) (bs2 + (i : Int) + 1), true) := by
  induction d with
  | zero =>
    intro i out hi ho
    refine Ev.step (fun k => by rw [spec_Changes.l1]) ?_
    rw [List.drop_eq_nil_of_le (by omega)]
    exact Ev.neg (by omega) (Ev.val _ _ (by simp [entR]))
  | succ d ih =>
    intro i out hi ho
    refine Ev.step (fun k => by rw [spec_Changes.l1]) ?_
    refine Ev.pos (by omega) (Ev.pos (by omega) (Ev.pos (by omega) ?_))
    rw [List.drop_eq_getElem_cons (show i < m.length by omega), rdE_get m i (by omega), w64 (x := bs2 + 1) (by omega) (by omega), w64 (x := bs2 + 1 + (i : Int)) (by omega) (by omega), w64 (x := (i : Int) + 1) (by omega) (by omega)]
    have := ih (i + 1) (out ++ [⟨2, m[i].f0, bs2 + 1 + (i : Int), 0, m[i].f1⟩]) (by omega) (by simp; omega)
    have e1 : ((i + 1 : Nat) : Int) = (i : Int) + 1 := by omega
    rw [e1, List.append_assoc] at this
    rw [entR, show bs2 + (i : Int) + 1 + 1 = bs2 + ((i : Int) + 1) + 1 by omega, show bs2 + (i : Int) + 1 = bs2 + 1 + (i : Int) by omega]
    exact this
theorem spec_Changes_j4 (tm vt bs btm : Int) (l : List EI) (tm2 vt2 btm2 : Int) (m : List EI) (hl : l.length ≤ 1048576) (hm : m.length ≤ 1048576) (hb : 0 ≤ bs ∧ bs ≤ 100000) (out : List RI) (ho : out.length ≤ 1) :
    Ev (fun k => spec_Changes.j4 k out ((preN l m : Nat) : Int) tm vt bs btm l tm2 vt2 bs btm2 m) (tailV l m bs out, true) := by
  have hp := preN_le l m
  have j5 (o2 : List RI) (h2 : o2.length ≤ 2) : Ev (fun k => spec_Changes.j5 k o2 ((preN l m : Nat) : Int) tm2 vt2 bs btm2 m) (o2 ++ entR (m.drop (preN l m)) (bs + (preN l m : Int) + 1), true) := by
    refine Ev.step (fun k => by rw [spec_Changes.j5]) ?_
    exact spec_Changes_l1 tm2 vt2 bs btm2 m hm hb (m.length - preN l m) (preN l m) o2 (by omega) (by omega)
  refine Ev.step (fun k => by rw [spec_Changes.j4]) ?_
  unfold tailV
  by_cases c : preN l m < l.length
  · rw [if_pos c]
    refine Ev.pos (by omega) (Ev.pos (by omega) ?_)
    rw [w64 (x := bs + ((preN l m : Nat) : Int)) (by omega) (by omega), w64 (x := bs + ((preN l m : Nat) : Int) + 1) (by omega) (by omega)]
    exact j5 _ (by simp; omega)
  · rw [if_neg c]
    exact Ev.neg (by omega) (j5 _ (by omega))
theorem spec_Changes_j2 (tm vt bs btm : Int) (l : List EI) (tm2 vt2 btm2 : Int) (m : List EI) (hl : l.length ≤ 1048576) (hm : m.length ≤ 1048576) (hb : 0 ≤ bs ∧ bs ≤ 100000) (out : List RI) (ho : out.length ≤ 1) :
    Ev (fun k => spec_Changes.j2 k out tm vt bs btm l tm2 vt2 bs btm2 m) (tailV l m bs out, true) := by
  refine Ev.step (fun k => by rw [spec_Changes.j2]) ?_
  refine spec_Changes_l0 tm vt bs btm l tm2 vt2 bs btm2 m hl hm out _ l.length 0 (by omega) (by omega) ?_
  simp only [List.drop_zero, Nat.zero_add]
  exact spec_Changes_j4 tm vt bs btm l tm2 vt2 btm2 m hl hm hb out ho
theorem spec_Changes_ev (tm vt bs btm : Int) (l : List EI) (hl : l.length ≤ 1048576) (tm2 vt2 bs2 btm2 : Int) (m : List EI) (hm : m.length ≤ 1048576) :
    Ev (fun k => spec_Changes.f k tm vt bs btm l tm2 vt2 bs2 btm2 m) (changesV tm vt bs btm l tm2 vt2 bs2 btm2 m) := by
  have bad : Ev (fun k => spec_Changes.j0 k [] true tm vt bs btm l tm2 vt2 bs2 btm2 m) ([], false) := by
    refine Ev.step (fun k => by rw [spec_Changes.j0]) ?_
    exact Ev.pos rfl (Ev.now _)
  unfold spec_Changes.f changesV
  refine Ev.bind0 rfl (Ev.bind (spec_WalOk_ev tm vt bs btm l hl) ?_)
  by_cases c1 : walOkV tm vt bs btm (ens l) = true
  · refine Ev.pos c1 (Ev.bind (spec_WalOk_ev tm2 vt2 bs2 btm2 m hm) ?_)
    by_cases c2 : walOkV tm2 vt2 bs2 btm2 (ens m) = true
    · refine Ev.pos c2 ?_
      by_cases c3 : bs = bs2
      · subst c3
        have h := walOk_all c1
        refine Ev.pos rfl (Ev.step (fun k => by rw [spec_Changes.j0]) ?_)
        by_cases c4 : btm = btm2
        · subst c4
          rw [if_pos ⟨c1, c2, rfl, rfl⟩]
          refine Ev.neg (by simp) ?_
          have bad2 (h3 : ¬ fitsP tm vt bs btm l 1 tm2 0 vt2) : Ev (fun k => spec_Changes.j1 k [] true tm vt bs btm l tm2 vt2 bs btm m) ([], false) := by
            refine Ev.step (fun k => by rw [spec_Changes.j1]) ?_
            exact Ev.pos rfl (Ev.bind0 (spec_l5Fits_eq tm vt bs btm l hl h.2 1 tm2 0 vt2 _) (Ev.neg (by simpa using h3) (Ev.now _)))
          have good (h3 : fitsP tm vt bs btm l 1 tm2 0 vt2) : Ev (fun k => spec_Changes.j1 k [] true tm vt bs btm l tm2 vt2 bs btm m) (tailV l m bs [hardR tm2 vt2], true) := by
            refine Ev.step (fun k => by rw [spec_Changes.j1]) ?_
            exact Ev.pos rfl (Ev.bind0 (spec_l5Fits_eq tm vt bs btm l hl h.2 1 tm2 0 vt2 _) (Ev.pos (decide_eq_true h3) (Ev.pos (by simp) (spec_Changes_j2 tm vt bs btm l tm2 vt2 btm m hl hm h.2 _ (by simp)))))
          by_cases c5 : tm = tm2
          · refine Ev.pos c5 ?_
            by_cases c6 : vt = vt2
            · rw [if_pos ⟨c5, c6⟩, show (vt != vt2) = false by simp [c6]]
              refine Ev.step (fun k => by rw [spec_Changes.j1]) ?_
              exact Ev.neg (by simp) (spec_Changes_j2 tm vt bs btm l tm2 vt2 btm m hl hm h.2 _ (by simp))
            · rw [if_neg (fun e => c6 e.2), show (vt != vt2) = true by simp [c6]]
              by_cases c7 : fitsP tm vt bs btm l 1 tm2 0 vt2
              · rw [if_pos c7]; exact good c7
              · rw [if_neg c7]; exact bad2 c7
          · rw [if_neg (fun e => c5 e.1)]
            refine Ev.neg c5 ?_
            by_cases c7 : fitsP tm vt bs btm l 1 tm2 0 vt2
            · rw [if_pos c7]; exact good c7
            · rw [if_neg c7]; exact bad2 c7
        · rw [if_neg (fun e => c4 e.2.2.2)]
          exact Ev.pos (by simp [c4]) (Ev.now _)
      · rw [if_neg (fun e => c3 e.2.2.1)]
        exact Ev.neg c3 bad
    · rw [if_neg (fun e => c2 e.2.1)]
      exact Ev.neg c2 bad
  · rw [if_neg (fun e => c1 e.1)]
    exact Ev.neg c1 bad

theorem impl_WalOk_l0 (tm vt bs btm : Int) (l : List EI) (hl : l.length ≤ 60) (d : Nat) : ∀ (i : Nat) (m last : Int), i + d = l.length → (∀ t : Int, m ≤ t ↔ (1 ≤ t ∧ last ≤ t)) →
    Ev (fun k => impl_WalOk.l0 k m l (l.length : Int) (i : Int) tm vt bs btm l) (entOk (ens (l.drop i)) last tm) := by
  induction d with
  | zero =>
    intro i m last hi hm
    refine Ev.step (fun k => by rw [impl_WalOk.l0]) ?_
    rw [List.drop_eq_nil_of_le (by omega)]
    exact Ev.neg (by omega) (Ev.now _)
  | succ d ih =>
    intro i m last hi hm
    refine Ev.step (fun k => by rw [impl_WalOk.l0]) ?_
    rw [rdE_drop l i (by omega)]
    have R := fun h => ih (i + 1) ((rd_T146 l (i : Int)).f0) ((rd_T146 l (i : Int)).f0) (by omega) h
    generalize rd_T146 l (i : Int) = e at R
    have hm' := hm e.f0
    have e1 : ((i + 1 : Nat) : Int) = (i : Int) + 1 := by omega
    rw [e1] at R
    simp only [ens, List.map_cons, entOk]
    refine Ev.pos (by omega) (Ev.pos (by omega) (Ev.pos (by omega) ?_))
    by_cases c : 1 ≤ e.f0 ∧ last ≤ e.f0 ∧ e.f0 ≤ tm ∧ e.f1.size ≤ 900
    · rw [decide_eq_true c, Bool.true_and, w64 (by omega) (by omega)]
      exact Ev.neg (by omega) (Ev.bind0 (impl_within_eq _ _ _) (Ev.pos (decide_eq_true ⟨hm'.2 ⟨c.1, c.2.1⟩, c.2.2.1⟩) (R (fun t => by omega))))
    · rw [decide_eq_false c, Bool.false_and]
      by_cases c1 : (e.f1.size : Int) > 900
      · exact Ev.pos c1 (Ev.now _)
      · refine Ev.neg c1 (Ev.bind0 (impl_within_eq _ _ _) (Ev.neg ?_ (Ev.now _)))
        rw [decide_eq_true_eq]
        intro h
        have := hm'.1 h.1
        exact c ⟨this.1, this.2, h.2, by omega⟩
theorem impl_WalOk_ev (tm vt bs btm : Int) (l : List EI) (hl : l.length ≤ 1048576) : Ev (fun k => impl_WalOk.f k tm vt bs btm l) (walOkV tm vt bs btm (ens l)) := by
  have bad : ¬ walP tm vt bs btm (ens l).length → Ev (fun k => impl_WalOk.j0 k true tm vt bs btm l) (walOkV tm vt bs btm (ens l)) := by
    intro h
    refine Ev.step (fun k => by rw [impl_WalOk.j0]) ?_
    unfold walOkV
    rw [decide_eq_false h, Bool.false_and]
    exact Ev.pos rfl (Ev.now _)
  rw [ens_length] at bad
  unfold impl_WalOk.f
  refine Ev.bind0 (impl_isTerm_eq _) ?_
  by_cases c1 : 0 ≤ tm ∧ tm ≤ 100000
  · refine Ev.pos (decide_eq_true c1) (Ev.bind0 (impl_isVote_eq _) ?_)
    by_cases c2 : -1 ≤ vt ∧ vt ≤ 4
    · refine Ev.pos (decide_eq_true c2) (Ev.bind0 (impl_isBase_eq _ _) ?_)
      by_cases c3 : baseP bs btm
      · refine Ev.pos (decide_eq_true c3) ?_
        have hb : 0 ≤ bs ∧ bs ≤ 100000 := by unfold baseP at c3; omega
        by_cases c4 : btm > tm
        · exact Ev.pos c4 (bad (fun h => by have := h.2.2.2.2.2.1; omega))
        · refine Ev.neg c4 ?_
          by_cases c5 : (l.length : Int) > 60
          · exact Ev.pos c5 (bad (fun h => by have := h.2.2.2.2.2.2.1; omega))
          · refine Ev.neg c5 (Ev.bind0 rfl ?_)
            rw [w64 (by omega) (by omega)]
            by_cases c6 : bs + (l.length : Int) > 100000
            · rw [decide_eq_true c6]; exact bad (fun h => by have := h.2.2.2.2.2.2.2; omega)
            · rw [decide_eq_false c6]
              refine Ev.step (fun k => by rw [impl_WalOk.j0]) ?_
              unfold walOkV
              rw [ens_length, decide_eq_true (show walP tm vt bs btm l.length from ⟨c1.1, c1.2, c2.1, c2.2, c3, by omega, by omega, by omega⟩), Bool.true_and]
              exact Ev.neg (by simp) (impl_WalOk_l0 tm vt bs btm l (by omega) l.length 0 (mx 1 btm) btm (by omega) (fun t => by unfold mx; omega))
      · exact Ev.neg (by rw [decide_eq_false c3]; simp) (bad (fun h => c3 h.2.2.2.2.1))
    · exact Ev.neg (by rw [decide_eq_false c2]; simp) (bad (fun h => c2 ⟨h.2.2.1, h.2.2.2.1⟩))
  · exact Ev.neg (by rw [decide_eq_false c1]; simp) (bad (fun h => c1 ⟨h.1, h.2.1⟩))

theorem impl_endTerm_eq (tm vt bs btm : Int) (l : List EI) (hl : l.length ≤ 1048576) : impl_Wal_endTerm.f tm vt bs btm l = some (lastT btm l) := by
  unfold impl_Wal_endTerm.f lastT
  by_cases c : l.length = 0
  · rw [if_neg (by omega), if_pos c]
  · rw [if_pos (by omega), if_neg c, w64 (by omega) (by omega), if_pos (by omega), if_pos (by omega)]
theorem impl_end_eq (tm vt bs btm : Int) (l : List EI) (hl : l.length ≤ 1048576) (hb : 0 ≤ bs ∧ bs ≤ 100000) : impl_Wal_end.f tm vt bs btm l = some (bs + (l.length : Int)) := by
  unfold impl_Wal_end.f
  rw [w64 (by omega) (by omega)]

theorem impl_copyWal_eq (tm vt bs btm : Int) (l : List EI) (hl : l.length ≤ 4000000) : impl_copyWal.f tm vt bs btm l = some (tm, vt, bs, btm, l) := by
  unfold impl_copyWal.f impl_copyEntries.f
  rw [if_pos (by simp; omega)]
  rfl
theorem impl_WalStep_ev (tm vt bs btm : Int) (l : List EI) (hl : l.length ≤ 1048576) (kd rt ix rv : Int) (d : ByteArray) :
    Ev (fun k => impl_WalStep.f k tm vt bs btm l kd rt ix rv d) (walStepV tm vt bs btm l kd rt ix rv d) := by
  unfold impl_WalStep.f walStepV
  refine Ev.bind (impl_WalOk_ev tm vt bs btm l hl) (Ev.ite Iff.rfl (fun c => ?_) (fun _ => Ev.now _))
  have h := walOk_all c
  have hcp := impl_copyWal_eq tm vt bs btm l (by omega)
  have bad (t2 v2 b2 bt2 : Int) (l2 : List EI) : Ev (fun k => impl_WalStep.j0 k true tm vt bs btm l t2 v2 b2 bt2 l2) (tm, vt, bs, btm, l, false) := by
    refine Ev.step (fun k => by rw [impl_WalStep.j0]) ?_
    exact Ev.pos rfl (Ev.bind0 hcp (Ev.now _))
  have good (t2 v2 b2 bt2 : Int) (l2 : List EI) (h2 : l2.length ≤ 4000000) : Ev (fun k => impl_WalStep.j0 k false tm vt bs btm l t2 v2 b2 bt2 l2) (t2, v2, b2, bt2, l2, true) := by
    refine Ev.step (fun k => by rw [impl_WalStep.j0]) ?_
    exact Ev.neg (by simp) (Ev.bind0 (impl_copyWal_eq t2 v2 b2 bt2 l2 h2) (Ev.now _))
  refine Ev.bind0 hcp (Ev.bind0 (impl_RecOk_eq _ _ _ _ _) ?_)
  by_cases c1 : recOkP kd rt ix rv d.size
  · refine Ev.pos (decide_eq_true c1) ?_
    have he := impl_end_eq tm vt bs btm l hl h.2
    by_cases k1 : kd = 1
    · refine Ev.pos k1 ?_
      by_cases c2 : rt < tm
      · rw [if_neg (fun e => by have := e.2; unfold fitsP at this; omega)]
        exact Ev.pos c2 (bad _ _ _ _ _)
      · refine Ev.neg c2 ?_
        by_cases c3 : rt = tm
        · refine Ev.pos c3 ?_
          by_cases c4 : vt = -1
          · rw [if_pos ⟨c1, .inl ⟨k1, .inr ⟨c3, .inl c4⟩⟩⟩]
            unfold doneV; rw [if_pos k1]
            exact Ev.pos c4 (good _ _ _ _ _ (by first | omega | (dsimp only; omega)))
          · refine Ev.neg c4 ?_
            by_cases c5 : vt = rv
            · rw [if_pos ⟨c1, .inl ⟨k1, .inr ⟨c3, .inr c5.symm⟩⟩⟩]
              unfold doneV; rw [if_pos k1]
              exact Ev.pos c5 (good _ _ _ _ _ (by first | omega | (dsimp only; omega)))
            · rw [if_neg (fun e => by have := e.2; unfold fitsP at this; omega)]
              exact Ev.neg c5 (bad _ _ _ _ _)
        · rw [if_pos ⟨c1, .inl ⟨k1, .inl (by omega)⟩⟩]
          unfold doneV; rw [if_pos k1]
          exact Ev.neg c3 (good _ _ _ _ _ (by first | omega | (dsimp only; omega)))
    · refine Ev.neg k1 ?_
      by_cases k2 : kd = 2
      · refine Ev.pos k2 (Ev.bind0 he ?_)
        rw [w64 (x := bs + (l.length : Int) + 1) (by omega) (by omega)]
        by_cases c2 : ix = bs + (l.length : Int) + 1
        · refine Ev.pos c2 ?_
          by_cases c3 : (l.length : Int) ≥ 60
          · rw [if_neg (fun e => by have := e.2; unfold fitsP at this; omega)]
            exact Ev.pos c3 (bad _ _ _ _ _)
          · refine Ev.neg c3 (Ev.bind0 (impl_endTerm_eq tm vt bs btm l hl) (Ev.bind0 (impl_within_eq _ _ _) ?_))
            by_cases c4 : lastT btm l ≤ rt ∧ rt ≤ tm
            · rw [if_pos ⟨c1, .inr (.inl ⟨k2, c2, by omega, c4⟩)⟩]
              unfold doneV; rw [if_neg k1, if_pos k2]
              exact Ev.pos (decide_eq_true c4) (Ev.pos (by first | omega | (dsimp only; omega)) (good _ _ _ _ _ (by simp; omega)))
            · rw [if_neg (fun e => by have := e.2; unfold fitsP at this; omega)]
              exact Ev.neg (by simpa using c4) (bad _ _ _ _ _)
        · rw [if_neg (fun e => by have := e.2; unfold fitsP at this; omega)]
          exact Ev.neg c2 (bad _ _ _ _ _)
      · refine Ev.neg k2 ?_
        by_cases k3 : kd = 3
        · refine Ev.pos k3 (Ev.bind0 he (Ev.bind0 (impl_within_eq _ _ _) ?_))
          rw [w64 (x := bs + 1) (by omega) (by omega)]
          by_cases c2 : bs + 1 ≤ ix ∧ ix ≤ bs + (l.length : Int)
          · rw [if_pos ⟨c1, .inr (.inr ⟨k3, by omega, c2.2⟩)⟩, w64 (x := ix - bs) (by omega) (by omega), w64 (x := ix - bs - 1) (by omega) (by omega)]
            unfold doneV; rw [if_neg k1, if_neg k2]
            exact Ev.pos (decide_eq_true c2) (Ev.pos (by first | omega | (dsimp only; omega)) (Ev.pos (by first | omega | (dsimp only; omega)) (good _ _ _ _ _ (by rw [List.length_take]; omega))))
          · rw [if_neg (fun e => by have := e.2; unfold fitsP at this; omega)]
            exact Ev.neg (by simpa using c2) (bad _ _ _ _ _)
        · rw [if_neg (fun e => by have := e.2; unfold fitsP at this; omega)]
          exact Ev.neg k3 (bad _ _ _ _ _)
  · rw [if_neg (fun e => c1 e.1)]
    exact Ev.neg (by simpa using c1) (bad _ _ _ _ _)

theorem impl_Changes_l0 (tm vt bs btm : Int) (l : List EI) (tm2 vt2 bs2 btm2 : Int) (m : List EI) (hl : l.length ≤ 1048576) (hm : m.length ≤ 1048576) (out : List RI) (R : ChT) (d : Nat) : ∀ (i : Nat), i + d = l.length → i ≤ m.length →
    Ev (fun k => impl_Changes.j4 k out ((i + preN (l.drop i) (m.drop i) : Nat) : Int) tm vt bs btm l tm2 vt2 bs2 btm2 m) R → Ev (fun k => impl_Changes.l0 k out (i : Int) tm vt bs btm l tm2 vt2 bs2 btm2 m) R := by
  induction d with
  | zero =>
    intro i hi hi2 h
    refine Ev.step (fun k => by rw [impl_Changes.l0]) ?_
    rw [List.drop_eq_nil_of_le (show l.length ≤ i by omega)] at h
    exact Ev.neg (by omega) h
  | succ d ih =>
    intro i hi hi2 h
    refine Ev.step (fun k => by rw [impl_Changes.l0]) ?_
    refine Ev.pos (by omega) ?_
    by_cases c : i < m.length
    · rw [List.drop_eq_getElem_cons (show i < l.length by omega), List.drop_eq_getElem_cons c, preN] at h
      refine Ev.pos (by omega) (Ev.pos (by omega) ?_)
      rw [rdE_get l i (by omega), rdE_get m i c, w64 (x := (i : Int) + 1) (by omega) (by omega)]
      by_cases c2 : (l[i].f0 == m[i].f0 && ((l[i].f1.toList) == (m[i].f1.toList))) = true
      · rw [if_pos c2, show i + (preN (l.drop (i + 1)) (m.drop (i + 1)) + 1) = i + 1 + preN (l.drop (i + 1)) (m.drop (i + 1)) by omega] at h
        have := ih (i + 1) (by omega) (by omega) h
        have e1 : ((i + 1 : Nat) : Int) = (i : Int) + 1 := by omega
        rw [e1] at this
        exact Ev.pos c2 this
      · rw [if_neg c2] at h
        exact Ev.neg c2 h
    · rw [List.drop_eq_nil_of_le (show m.length ≤ i by omega), preN_nil] at h
      exact Ev.neg (by omega) h
theorem impl_Changes_l1 (tm vt bs btm : Int) (l : List EI) (n : Nat) (y : List EI) (hy : y.length ≤ 1048576) (hn : n ≤ 1048576) (hb : 0 ≤ bs ∧ bs ≤ 100000) (d : Nat) : ∀ (i : Nat) (out : List RI), i + d = y.length → out.length ≤ 2 + i →
    Ev (fun k => impl_Changes.l1 k out (n : Int) y (y.length : Int) (i : Int) tm vt bs btm l) (out ++ entR (y.drop i) (bs + (n : Int) + (i : Int) + 1), true) := by
  induction d with
  | zero =>
    intro i out hi ho
    refine Ev.step (fun k => by rw [impl_Changes.l1]) ?_
    rw [List.drop_eq_nil_of_le (by omega)]
    exact Ev.neg (by omega) (Ev.val _ _ (by simp [entR]))
  | succ d ih =>
    intro i out hi ho
    refine Ev.step (fun k => by rw [impl_Changes.l1]) ?_
    refine Ev.pos (by omega) (Ev.pos (by omega) (Ev.pos (by omega) (Ev.pos (by omega) ?_)))
    rw [List.drop_eq_getElem_cons (show i < y.length by omega), rdE_get y i (by omega), w64 (x := bs + (n : Int)) (by omega) (by omega), w64 (x := bs + (n : Int) + (i : Int)) (by omega) (by omega), w64 (x := bs + (n : Int) + (i : Int) + 1) (by omega) (by omega), w64 (x := (i : Int) + 1) (by omega) (by omega)]
    have := ih (i + 1) (out ++ [⟨2, y[i].f0, bs + (n : Int) + (i : Int) + 1, 0, y[i].f1⟩]) (by omega) (by simp; omega)
    have e1 : ((i + 1 : Nat) : Int) = (i : Int) + 1 := by omega
    rw [e1, List.append_assoc] at this
    rw [entR, show bs + (n : Int) + (i : Int) + 1 + 1 = bs + (n : Int) + ((i : Int) + 1) + 1 by omega]
    exact this
theorem impl_Changes_j4 (tm vt bs btm : Int) (l : List EI) (tm2 vt2 btm2 : Int) (m : List EI) (hl : l.length ≤ 1048576) (hm : m.length ≤ 1048576) (hb : 0 ≤ bs ∧ bs ≤ 100000) (out : List RI) (ho : out.length ≤ 1) :
    Ev (fun k => impl_Changes.j4 k out ((preN l m : Nat) : Int) tm vt bs btm l tm2 vt2 bs btm2 m) (tailV l m bs out, true) := by
  have hp := preN_le l m
  have j5 (o2 : List RI) (h2 : o2.length ≤ 2) : Ev (fun k => impl_Changes.j5 k o2 ((preN l m : Nat) : Int) tm vt bs btm l tm2 vt2 bs btm2 m) (o2 ++ entR (m.drop (preN l m)) (bs + (preN l m : Int) + 1), true) := by
    refine Ev.step (fun k => by rw [impl_Changes.j5]) ?_
    refine Ev.pos (by omega) (Ev.pos (by omega) (Ev.bind0 rfl ?_))
    rw [Int.toNat_natCast]
    have := impl_Changes_l1 tm vt bs btm l (preN l m) (m.drop (preN l m)) (by simp; omega) (by omega) hb (m.drop (preN l m)).length 0 o2 (by omega) (by omega)
    simp only [List.drop_zero] at this
    have e0 : ((0 : Nat) : Int) = 0 := rfl
    rw [e0, show bs + (preN l m : Int) + 0 + 1 = bs + (preN l m : Int) + 1 by omega] at this
    exact this
  refine Ev.step (fun k => by rw [impl_Changes.j4]) ?_
  unfold tailV
  by_cases c : preN l m < l.length
  · rw [if_pos c]
    refine Ev.pos (by omega) (Ev.pos (by omega) ?_)
    rw [w64 (x := bs + ((preN l m : Nat) : Int)) (by omega) (by omega), w64 (x := bs + ((preN l m : Nat) : Int) + 1) (by omega) (by omega)]
    exact j5 _ (by simp; omega)
  · rw [if_neg c]
    exact Ev.neg (by omega) (j5 _ (by omega))
theorem impl_Changes_j2 (tm vt bs btm : Int) (l : List EI) (tm2 vt2 btm2 : Int) (m : List EI) (hl : l.length ≤ 1048576) (hm : m.length ≤ 1048576) (hb : 0 ≤ bs ∧ bs ≤ 100000) (out : List RI) (ho : out.length ≤ 1) :
    Ev (fun k => impl_Changes.j2 k out tm vt bs btm l tm2 vt2 bs btm2 m) (tailV l m bs out, true) := by
  refine Ev.step (fun k => by rw [impl_Changes.j2]) ?_
  refine impl_Changes_l0 tm vt bs btm l tm2 vt2 bs btm2 m hl hm out _ l.length 0 (by omega) (by omega) ?_
  simp only [List.drop_zero, Nat.zero_add]
  exact impl_Changes_j4 tm vt bs btm l tm2 vt2 btm2 m hl hm hb out ho
theorem walStepV_hard {tm vt bs btm : Int} {l : List EI} (c1 : walOkV tm vt bs btm (ens l) = true) {tm2 vt2 bs2 btm2 : Int} {m : List EI} (c2 : walOkV tm2 vt2 bs2 btm2 (ens m) = true) (d : ByteArray) (hd : d.size = 0) :
    (walStepV tm vt bs btm l 1 tm2 0 vt2 d).2.2.2.2.2 = decide (fitsP tm vt bs btm l 1 tm2 0 vt2) := by
  have h := (walOk_all c2).1
  unfold walStepV
  rw [if_pos c1]
  by_cases c : fitsP tm vt bs btm l 1 tm2 0 vt2
  · rw [if_pos ⟨by unfold walP at h; unfold recOkP; omega, c⟩, decide_eq_true c]
    unfold doneV
    rw [if_pos rfl]
  · rw [if_neg (fun e => c e.2), decide_eq_false c]
theorem impl_Changes_ev (tm vt bs btm : Int) (l : List EI) (hl : l.length ≤ 1048576) (tm2 vt2 bs2 btm2 : Int) (m : List EI) (hm : m.length ≤ 1048576) :
    Ev (fun k => impl_Changes.f k tm vt bs btm l tm2 vt2 bs2 btm2 m) (changesV tm vt bs btm l tm2 vt2 bs2 btm2 m) := by
  have bad : Ev (fun k => impl_Changes.j0 k true tm vt bs btm l tm2 vt2 bs2 btm2 m) ([], false) := by
    refine Ev.step (fun k => by rw [impl_Changes.j0]) ?_
    exact Ev.pos rfl (Ev.now _)
  unfold impl_Changes.f changesV
  refine Ev.bind (impl_WalOk_ev tm vt bs btm l hl) ?_
  by_cases c1 : walOkV tm vt bs btm (ens l) = true
  · refine Ev.pos c1 (Ev.bind (impl_WalOk_ev tm2 vt2 bs2 btm2 m hm) ?_)
    by_cases c2 : walOkV tm2 vt2 bs2 btm2 (ens m) = true
    · refine Ev.pos c2 ?_
      by_cases c3 : bs = bs2
      · subst c3
        have h := walOk_all c1
        refine Ev.pos rfl (Ev.step (fun k => by rw [impl_Changes.j0]) ?_)
        by_cases c4 : btm = btm2
        · subst c4
          rw [if_pos ⟨c1, c2, rfl, rfl⟩]
          refine Ev.neg (by simp) (Ev.bind0 rfl ?_)
          have hs := impl_WalStep_ev tm vt bs btm l hl 1 tm2 0 vt2 (⟨#[]⟩ : ByteArray)
          have hv := walStepV_hard c1 c2 (⟨#[]⟩ : ByteArray) rfl
          have bad2 (h3 : ¬ fitsP tm vt bs btm l 1 tm2 0 vt2) : Ev (fun k => impl_Changes.j1 k [] true tm vt bs btm l tm2 vt2 bs btm m) ([], false) := by
            refine Ev.step (fun k => by rw [impl_Changes.j1]) ?_
            exact Ev.pos rfl (Ev.bind hs (Ev.neg (by rw [hv]; simpa using h3) (Ev.now _)))
          have good (h3 : fitsP tm vt bs btm l 1 tm2 0 vt2) : Ev (fun k => impl_Changes.j1 k [] true tm vt bs btm l tm2 vt2 bs btm m) (tailV l m bs [hardR tm2 vt2], true) := by
            refine Ev.step (fun k => by rw [impl_Changes.j1]) ?_
            exact Ev.pos rfl (Ev.bind hs (Ev.pos (by rw [hv]; exact decide_eq_true h3) (Ev.pos (by simp) (impl_Changes_j2 tm vt bs btm l tm2 vt2 btm m hl hm h.2 _ (by simp)))))
          by_cases c5 : tm = tm2
          · refine Ev.pos c5 ?_
            by_cases c6 : vt = vt2
            · rw [if_pos ⟨c5, c6⟩, show (vt != vt2) = false by simp [c6]]
              refine Ev.step (fun k => by rw [impl_Changes.j1]) ?_
              exact Ev.neg (by simp) (impl_Changes_j2 tm vt bs btm l tm2 vt2 btm m hl hm h.2 _ (by simp))
            · rw [if_neg (fun e => c6 e.2), show (vt != vt2) = true by simp [c6]]
              by_cases c7 : fitsP tm vt bs btm l 1 tm2 0 vt2
              · rw [if_pos c7]; exact good c7
              · rw [if_neg c7]; exact bad2 c7
          · rw [if_neg (fun e => c5 e.1)]
            refine Ev.neg c5 ?_
            by_cases c7 : fitsP tm vt bs btm l 1 tm2 0 vt2
            · rw [if_pos c7]; exact good c7
            · rw [if_neg c7]; exact bad2 c7
        · rw [if_neg (fun e => c4 e.2.2.2)]
          exact Ev.pos (by simp [c4]) (Ev.now _)
      · rw [if_neg (fun e => c3 e.2.2.1)]
        exact Ev.neg c3 bad
    · rw [if_neg (fun e => c2 e.2.1)]
      exact Ev.neg c2 bad
  · rw [if_neg (fun e => c1 e.1)]
    exact Ev.neg c1 bad

theorem spec_PlanAdd_l0 (rs : List RI) (hs : ∀ r ∈ rs, r.f4.size ≤ 1048576) (hl : rs.length ≤ 4194304) (d : Nat) : ∀ (i : Nat) (acc : ByteArray), i + d = rs.length → acc.size ≤ 2008 * i →
    Ev (fun k => spec_PlanAdd.l0 k rs acc (i : Int)) [(⟨2, (⟨#[108, 111, 103]⟩ : ByteArray), (⟨#[]⟩ : ByteArray), recsTxt (rs.drop i) acc⟩ : StI), ⟨3, (⟨#[108, 111, 103]⟩ : ByteArray), (⟨#[]⟩ : ByteArray), (⟨#[]⟩ : ByteArray)⟩] := by
  induction d with
  | zero =>
    intro i acc hi ha
    refine Ev.step (fun k => by rw [spec_PlanAdd.l0]) ?_
    rw [List.drop_eq_nil_of_le (by omega)]
    exact Ev.neg (by omega) (Ev.now _)
  | succ d ih =>
    intro i acc hi ha
    refine Ev.step (fun k => by rw [spec_PlanAdd.l0]) ?_
    refine Ev.pos (by omega) (Ev.pos (by omega) ?_)
    rw [List.drop_eq_getElem_cons (show i < rs.length by omega), rdR_get rs i (by omega), w64 (x := (i : Int) + 1) (by omega) (by omega), recsTxt]
    have hz := framedV_size rs[i].f0 rs[i].f1 rs[i].f2 rs[i].f3 rs[i].f4
    refine spec_framed_ev _ _ _ _ _ (hs _ (List.getElem_mem _)) (Ev.pos (by omega) ?_)
    have := ih (i + 1) (acc ++ framedV rs[i].f0 rs[i].f1 rs[i].f2 rs[i].f3 rs[i].f4) (by omega) (by rw [size_append]; omega)
    have e1 : ((i + 1 : Nat) : Int) = (i : Int) + 1 := by omega
    rw [e1] at this
    exact this
theorem impl_PlanAdd_l0 (rs : List RI) (hs : ∀ r ∈ rs, r.f4.size ≤ 1048576) (hl : rs.length ≤ 4194304) (d : Nat) : ∀ (i : Nat) (acc : ByteArray), i + d = rs.length → acc.size ≤ 2008 * i →
    Ev (fun k => impl_PlanAdd.l0 k acc rs (rs.length : Int) (i : Int)) [(⟨2, (⟨#[108, 111, 103]⟩ : ByteArray), (⟨#[]⟩ : ByteArray), recsTxt (rs.drop i) acc⟩ : StI), ⟨3, (⟨#[108, 111, 103]⟩ : ByteArray), (⟨#[]⟩ : ByteArray), (⟨#[]⟩ : ByteArray)⟩] := by
  induction d with
  | zero =>
    intro i acc hi ha
    refine Ev.step (fun k => by rw [impl_PlanAdd.l0]) ?_
    rw [List.drop_eq_nil_of_le (by omega)]
    exact Ev.neg (by omega) (Ev.now _)
  | succ d ih =>
    intro i acc hi ha
    refine Ev.step (fun k => by rw [impl_PlanAdd.l0]) ?_
    refine Ev.pos (by omega) (Ev.pos (by omega) (Ev.pos (by omega) ?_))
    rw [List.drop_eq_getElem_cons (show i < rs.length by omega), rdR_get rs i (by omega), w64 (x := (i : Int) + 1) (by omega) (by omega), recsTxt]
    have hz := framedV_size rs[i].f0 rs[i].f1 rs[i].f2 rs[i].f3 rs[i].f4
    refine Ev.bind (impl_framed_ev _ _ _ _ _ (hs _ (List.getElem_mem _))) (Ev.pos (by omega) ?_)
    have := ih (i + 1) (acc ++ framedV rs[i].f0 rs[i].f1 rs[i].f2 rs[i].f3 rs[i].f4) (by omega) (by rw [size_append]; omega)
    have e1 : ((i + 1 : Nat) : Int) = (i : Int) + 1 := by omega
    rw [e1] at this
    exact this
theorem spec_PlanAdd_ev (tm vt bs btm : Int) (l : List EI) (hl : l.length ≤ 1048576) (tm2 vt2 bs2 btm2 : Int) (m : List EI) (hm : m.length ≤ 1048576) (hs : ∀ e ∈ m, e.f1.size ≤ 1048576) :
    Ev (fun k => spec_PlanAdd.f k tm vt bs btm l tm2 vt2 bs2 btm2 m) (planAddV (changesV tm vt bs btm l tm2 vt2 bs2 btm2 m)) := by
  have ec := spec_Changes_ev tm vt bs btm l hl tm2 vt2 bs2 btm2 m hm
  have hz := changesV_length tm vt bs btm l hl tm2 vt2 bs2 btm2 m hm
  have hq := changesV_size tm vt bs btm l tm2 vt2 bs2 btm2 m hs
  unfold spec_PlanAdd.f
  generalize changesV tm vt bs btm l tm2 vt2 bs2 btm2 m = R at ec hz hq
  obtain ⟨rs, ok⟩ := R
  simp only at hz hq
  have bad : Ev (fun k => spec_PlanAdd.j0 k rs true) [] := by
    refine Ev.step (fun k => by rw [spec_PlanAdd.j0]) ?_
    exact Ev.pos rfl (Ev.now _)
  unfold planAddV
  refine Ev.bind ec ?_
  by_cases c : ok = true
  · refine Ev.pos c ?_
    by_cases c2 : rs.length = 0
    · rw [if_neg (fun e => e.2 c2), show ((rs.length : Int) == 0) = true by simp [c2]]
      exact bad
    · rw [if_pos ⟨c, c2⟩, show ((rs.length : Int) == 0) = false by simp; intro h; subst h; exact c2 rfl]
      refine Ev.step (fun k => by rw [spec_PlanAdd.j0]) ?_
      refine Ev.neg (by simp) ?_
      exact spec_PlanAdd_l0 rs hq (by omega) rs.length 0 _ (by omega) (Nat.zero_le _)
  · rw [if_neg (fun e => c e.1)]
    exact Ev.neg c bad
theorem impl_PlanAdd_ev (tm vt bs btm : Int) (l : List EI) (hl : l.length ≤ 1048576) (tm2 vt2 bs2 btm2 : Int) (m : List EI) (hm : m.length ≤ 1048576) (hs : ∀ e ∈ m, e.f1.size ≤ 1048576) :
    Ev (fun k => impl_PlanAdd.f k tm vt bs btm l tm2 vt2 bs2 btm2 m) (planAddV (changesV tm vt bs btm l tm2 vt2 bs2 btm2 m)) := by
  have ec := impl_Changes_ev tm vt bs btm l hl tm2 vt2 bs2 btm2 m hm
  have hz := changesV_length tm vt bs btm l hl tm2 vt2 bs2 btm2 m hm
  have hq := changesV_size tm vt bs btm l tm2 vt2 bs2 btm2 m hs
  unfold impl_PlanAdd.f
  generalize changesV tm vt bs btm l tm2 vt2 bs2 btm2 m = R at ec hz hq
  obtain ⟨rs, ok⟩ := R
  simp only at hz hq
  have bad : Ev (fun k => impl_PlanAdd.j0 k rs true) [] := by
    refine Ev.step (fun k => by rw [impl_PlanAdd.j0]) ?_
    exact Ev.pos rfl (Ev.now _)
  unfold planAddV
  refine Ev.bind ec ?_
  by_cases c : ok = true
  · refine Ev.pos c ?_
    by_cases c2 : rs.length = 0
    · rw [if_neg (fun e => e.2 c2), show ((rs.length : Int) == 0) = true by simp [c2]]
      exact bad
    · rw [if_pos ⟨c, c2⟩, show ((rs.length : Int) == 0) = false by simp; intro h; subst h; exact c2 rfl]
      refine Ev.step (fun k => by rw [impl_PlanAdd.j0]) ?_
      refine Ev.neg (by simp) ?_
      exact impl_PlanAdd_l0 rs hq (by omega) rs.length 0 _ (by omega) (Nat.zero_le _)
  · rw [if_neg (fun e => c e.1)]
    exact Ev.neg c bad

theorem laws_eqEntryS_l0 (a : List EI) (ha : a.length ≤ 1048576) (d : Nat) : ∀ (i : Nat), i + d = a.length → Ev (fun k => laws_eqEntryS.l0 k a a (i : Int)) true := by
  induction d with
  | zero =>
    intro i hi
    refine Ev.step (fun k => by rw [laws_eqEntryS.l0]) ?_
    exact Ev.neg (by omega) (Ev.now _)
  | succ d ih =>
    intro i hi
    refine Ev.step (fun k => by rw [laws_eqEntryS.l0]) ?_
    refine Ev.pos (by omega) (Ev.pos (by omega) (Ev.pos (by omega) ?_))
    refine Ev.bind0 (a := true) (by unfold laws_eqEntry.f; rw [if_pos rfl, if_pos rfl]) (Ev.pos rfl ?_)
    have := ih (i + 1) (by omega)
    have e1 : ((i + 1 : Nat) : Int) = (i : Int) + 1 := by omega
    rw [e1] at this
    rw [w64 (by omega) (by omega)]
    exact this
theorem laws_eqWal_ev (a b c d : Int) (l : List EI) (hl : l.length ≤ 1048576) : Ev (fun k => laws_eqWal.f k a b c d l a b c d l) true := by
  unfold laws_eqWal.f laws_eqEntryS.f
  refine Ev.pos rfl (Ev.pos rfl (Ev.pos rfl (Ev.pos rfl ?_)))
  refine Ev.bind (a := true) (Ev.pos rfl ?_) (Ev.pos rfl (Ev.now _))
  exact laws_eqEntryS_l0 l hl l.length 0 (by omega)

abbrev EL := S143
theorem rdEL_get (l : List EL) (i : Nat) (h : i < l.length) : rd_T143 l (i : Int) = l[i] := by
  unfold rd_T143
  rw [Int.toNat_natCast, List.getD_eq_getElem?_getD, List.getElem?_eq_getElem h]; rfl
def toE (l : List EL) : List EI := l.map fun p => ⟨p.f0, p.f1⟩
theorem toE_length (l : List EL) : (toE l).length = l.length := by simp [toE]
/-- what the sizes leave of 'left'; negative: too large -/
theorem laws_szEntryS_l0 (l : List EL) (hl : l.length ≤ 9223372036854775806) (hs : ∀ e ∈ l, e.f1.size ≤ 9223372036854775807) (d : Nat) : ∀ (i : Nat) (left : Int), i + d = l.length → 0 ≤ left → left ≤ 1048576 →
    ∃ r, Ev (fun k => laws_szEntryS.l0 k l left (i : Int)) r ∧ r ≤ 1048576 ∧ (0 ≤ r → ∀ e ∈ l.drop i, e.f1.size ≤ 1048576) := by
  induction d with
  | zero =>
    intro i left hi h0 h1
    refine ⟨left, ?_, h1, fun _ e he => ?_⟩
    · refine Ev.step (fun k => by rw [laws_szEntryS.l0]) ?_
      exact Ev.neg (by omega) (Ev.now _)
    · rw [List.drop_eq_nil_of_le (by omega)] at he; cases he
  | succ d ih =>
    intro i left hi h0 h1
    have hsz := hs l[i] (List.getElem_mem _)
    have hz : laws_szEntry.f l[i].f0 l[i].f1 left = some (if left - (l[i].f1.size : Int) < 0 then -1 else left - (l[i].f1.size : Int)) := by
      unfold laws_szEntry.f
      rw [w64 (by omega) (by omega)]
      split <;> rfl
    by_cases c : left - (l[i].f1.size : Int) < 0
    · refine ⟨-1, ?_, by omega, fun h => by omega⟩
      refine Ev.step (fun k => by rw [laws_szEntryS.l0]) ?_
      rw [rdEL_get l i (by omega)]
      rw [if_pos c] at hz
      exact Ev.pos (by omega) (Ev.pos (by omega) (Ev.bind0 hz (Ev.pos (by omega) (Ev.now _))))
    · obtain ⟨r, e1, e2, e3⟩ := ih (i + 1) (left - (l[i].f1.size : Int)) (by omega) (by omega) (by omega)
      refine ⟨r, ?_, e2, fun h e he => ?_⟩
      · refine Ev.step (fun k => by rw [laws_szEntryS.l0]) ?_
        rw [rdEL_get l i (by omega)]
        rw [if_neg c] at hz
        refine Ev.pos (by omega) (Ev.pos (by omega) (Ev.bind0 hz (Ev.neg c ?_)))
        have e4 : ((i + 1 : Nat) : Int) = (i : Int) + 1 := by omega
        rw [e4] at e1
        rw [w64 (by omega) (by omega)]
        exact e1
      · rw [List.drop_eq_getElem_cons (show i < l.length by omega)] at he
        rcases List.mem_cons.1 he with he | he
        · subst he; omega
        · exact e3 h e he
theorem laws_szWal_ev (a b c d : Int) (l : List EL) (hl : l.length ≤ 9223372036854775807 ∧ ∀ y ∈ l, ((Lit.int .i64 y.f0).wf = true ∧ y.f1.size ≤ 9223372036854775807)) (left : Int) (h0 : 0 ≤ left) (h1 : left ≤ 1048576) :
    ∃ r, Ev (fun k => laws_szWal.f k a b c d l left) r ∧ r ≤ 1048576 ∧ (0 ≤ r → l.length ≤ 1048576 ∧ ∀ e ∈ l, e.f1.size ≤ 1048576) := by
  have key : ∃ r, Ev (fun k => laws_szEntryS.f k l left) r ∧ r ≤ 1048576 ∧ (0 ≤ r → l.length ≤ 1048576 ∧ ∀ e ∈ l, e.f1.size ≤ 1048576) := by
    unfold laws_szEntryS.f
    rw [w64 (by omega) (by omega)]
    by_cases c : left - (l.length : Int) < 0
    · exact ⟨-1, Ev.pos c (Ev.now _), by omega, fun h => by omega⟩
    · obtain ⟨r, e1, e2, e3⟩ := laws_szEntryS_l0 l (by omega) (fun e he => (hl.2 e he).2) l.length 0 (left - (l.length : Int)) (by omega) (by omega) (by omega)
      exact ⟨r, Ev.neg c e1, e2, fun h => ⟨by omega, by simpa using e3 h⟩⟩
  obtain ⟨r, e1, e2, e3⟩ := key
  unfold laws_szWal.f
  by_cases c : r < 0
  · exact ⟨-1, Ev.bind e1 (Ev.pos c (Ev.now _)), by omega, fun h => by omega⟩
  · exact ⟨r, Ev.bind e1 (Ev.neg c (Ev.now _)), e2, e3⟩
theorem laws_toEntryS_l0 (l : List EL) (hl : l.length ≤ 1048576) (d : Nat) : ∀ (i : Nat) (ys : List EI), i + d = l.length → ys.length = i →
    Ev (fun k => laws_toEntryS.l0 k l (ys ++ List.replicate d z146) (i : Int)) (ys ++ toE (l.drop i)) := by
  induction d with
  | zero =>
    intro i ys hi hy
    refine Ev.step (fun k => by rw [laws_toEntryS.l0]) ?_
    rw [List.drop_eq_nil_of_le (by omega)]
    exact Ev.neg (by omega) (Ev.now _)
  | succ d ih =>
    intro i ys hi hy
    refine Ev.step (fun k => by rw [laws_toEntryS.l0]) ?_
    refine Ev.pos (by omega) (Ev.pos (by omega) ?_)
    rw [rdEL_get l i (by omega)]
    refine Ev.bind0 rfl (Ev.pos (by simp; omega) ?_)
    rw [w64 (by omega) (by omega), Int.toNat_natCast, List.set_append_right _ _ (by omega), hy, Nat.sub_self, List.replicate_succ, List.set_cons_zero]
    have := ih (i + 1) (ys ++ [⟨l[i].f0, l[i].f1⟩]) (by omega) (by simp; omega)
    have e1 : ((i + 1 : Nat) : Int) = (i : Int) + 1 := by omega
    rw [e1] at this
    have e2 : ys ++ toE (l.drop i) = (ys ++ [⟨l[i].f0, l[i].f1⟩]) ++ toE (l.drop (i + 1)) := by
      unfold toE; rw [List.drop_eq_getElem_cons (show i < l.length by omega), List.map_cons, List.append_assoc]; rfl
    have e3 : ys ++ (⟨l[i].f0, l[i].f1⟩ : EI) :: List.replicate d z146 = (ys ++ [⟨l[i].f0, l[i].f1⟩]) ++ List.replicate d z146 := by simp
    rw [e2, e3]
    exact this
theorem laws_toWal_ev (a b c d : Int) (l : List EL) (hl : l.length ≤ 1048576) : Ev (fun k => laws_toWal.f k a b c d l) (a, b, c, d, toE l) := by
  unfold laws_toWal.f laws_toEntryS.f
  refine Ev.bind (a := toE l) ?_ (Ev.now _)
  refine Ev.pos (by omega) (Ev.pos (by omega) ?_)
  rw [Int.toNat_natCast]
  simpa using laws_toEntryS_l0 l hl l.length 0 [] (by omega) rfl

/-! ### what Dec makes -/
def decL (n : Nat) : List Int := if n = 0 then [] else decL (n / 10) ++ [((48 + n % 10 : Nat) : Int)]
termination_by n
decreasing_by omega
theorem decL_zero : decL 0 = [] := by rw [decL]; rfl
theorem decL_pos {n : Nat} (h : n ≠ 0) : decL n = decL (n / 10) ++ [((48 + n % 10 : Nat) : Int)] := by rw [decL, if_neg h]
/-- What Dec(n) is. -/
def decV (n : Int) : List Int := if n = 0 then [48] else if n < 0 then 45 :: decL n.natAbs else decL n.natAbs
theorem dec_step (x : Int) (h0 : -9223372036854775808 ≤ x) (h1 : x ≤ 9223372036854775807) (hx : x ≠ 0) :
    (Int.tmod x 10 < 0 → (wrap64 (48 + wrap64 (-(Int.tmod x 10)))) % 256 = ((48 + x.natAbs % 10 : Nat) : Int)) ∧
    (¬ Int.tmod x 10 < 0 → (wrap64 (48 + Int.tmod x 10)) % 256 = ((48 + x.natAbs % 10 : Nat) : Int)) ∧
    (wrap64 (Int.tdiv x 10)).natAbs = x.natAbs / 10 ∧ -9223372036854775808 ≤ wrap64 (Int.tdiv x 10) ∧ wrap64 (Int.tdiv x 10) ≤ 9223372036854775807 := by
  by_cases c : 0 ≤ x
  · obtain ⟨n, rfl⟩ := Int.eq_ofNat_of_zero_le c
    rw [tmod_nn (by omega), tdiv_nn (by omega), w64 (x := (n : Int) / 10) (by omega) (by omega)]
    refine ⟨fun h => by omega, fun _ => ?_, by omega, by omega, by omega⟩
    rw [w64 (by omega) (by omega)]; omega
  · obtain ⟨n, rfl⟩ : ∃ n : Nat, x = -(n : Int) := ⟨x.natAbs, by omega⟩
    rw [Int.neg_tmod, Int.neg_tdiv, tmod_nn (by omega), tdiv_nn (by omega), w64 (x := -((n : Int) / 10)) (by omega) (by omega)]
    refine ⟨fun h => ?_, fun h => ?_, by omega, by omega, by omega⟩
    · rw [w64 (x := -(-((n : Int) % 10))) (by omega) (by omega), w64 (by omega) (by omega)]; omega
    · rw [w64 (by omega) (by omega)]; omega
theorem decL_le : ∀ (k n : Nat), n < 10 ^ k → (decL n).length ≤ k
  | 0, n, h => by
    have : n = 0 := by simpa using h
    subst this; rw [decL_zero]; simp
  | k + 1, n, h => by
    by_cases c : n = 0
    · subst c; rw [decL_zero]; simp
    · rw [decL_pos c, List.length_append]
      have := decL_le k (n / 10) (by rw [Nat.pow_succ] at h; omega)
      simpa using this
theorem decL_20 {n : Nat} (h : n ≤ 9223372036854775808) : (decL n).length ≤ 20 := decL_le 20 n (by omega)

/-- the mark that the laws write -/
def markT (a : Int) : ByteArray := strOfNums (109 :: decL a.toNat)
theorem laws_markText_l0 (n : Nat) : ∀ (xs : List Int), n ≤ 9223372036854775807 → xs.length + (decL n).length ≤ 20 → Ev (fun k => laws_markText.l0 k (n : Int) (strOfNums xs)) (strOfNums (109 :: (decL n ++ xs))) := by
  induction n using Nat.strongRecOn with
  | ind n ih =>
  intro xs hn hl
  refine Ev.step (fun k => by rw [laws_markText.l0]) ?_
  by_cases c : n = 0
  · subst c
    refine Ev.neg (by omega) (Ev.pos (by rw [strOf_size]; omega) ?_)
    rw [show (⟨#[109]⟩ : ByteArray) = strOfNums [109] from rfl, strOf_append, decL_zero]
    exact Ev.now _
  · rw [decL_pos c, List.length_append, List.length_singleton] at hl
    have g := ih (n / 10) (by omega) ([((48 + n % 10 : Nat) : Int)] ++ xs) (by omega) (by rw [List.length_append, List.length_singleton]; omega)
    refine Ev.pos (by omega) (Ev.bind0 rfl (Ev.pos (by rw [strOf_size, strOf_size, List.length_singleton]; omega) ?_))
    have e1 : wrap64 (Int.tdiv (n : Int) 10) = ((n / 10 : Nat) : Int) := by rw [tdiv_nn (by omega), w64 (by omega) (by omega)]; omega
    have e2 : (wrap64 (48 + Int.tmod (n : Int) 10)) % 256 = ((48 + n % 10 : Nat) : Int) := by rw [tmod_nn (by omega), w64 (by omega) (by omega)]; omega
    have e4 : decL n ++ xs = decL (n / 10) ++ ([((48 + n % 10 : Nat) : Int)] ++ xs) := by rw [decL_pos c, List.append_assoc]
    rw [e1, e2, strOf_append, e4]
    exact g
theorem laws_markText_ev (a : Int) (h0 : 0 < a) (h1 : a ≤ 9223372036854775807) : Ev (fun k => laws_markText.f k a) (markT a) := by
  unfold laws_markText.f markT
  refine Ev.neg (by omega) ?_
  obtain ⟨n, rfl⟩ := Int.eq_ofNat_of_zero_le (show 0 ≤ a by omega)
  have := laws_markText_l0 n [] (by omega) (by simpa using decL_20 (by omega))
  rw [List.append_nil] at this
  exact this

/-! what the laws' marks leave in entries, and that they are found again -/
def mkE : Nat → Int → List EI
  | 0, _ => []
  | d + 1, a => ⟨a, markT (a + 1)⟩ :: mkE d (a + 2)
theorem rdE_mid (M : List EI) (x : EI) (L : List EI) : rd_T146 (M ++ x :: L) (M.length : Int) = x := by
  rw [rdE_get _ M.length (by simp)]
  simp
theorem laws_markE_l0 : ∀ (R M : List EI) (a : Int), M.length + R.length ≤ 4194304 → 0 ≤ a → a + 2 * R.length ≤ 40000000 →
    Ev (fun k => laws_markEntryS.l0 k (M ++ R) a (M.length : Int)) (a + 2 * (R.length : Int), M ++ mkE R.length a)
  | [], M, a, hl, h0, ha => by
    refine Ev.step (fun k => by rw [laws_markEntryS.l0]) ?_
    exact Ev.neg (by simp) (Ev.val _ _ (by simp [mkE]))
  | x :: R, M, a, hl, h0, ha => by
    rw [List.length_cons] at hl ha
    have g := laws_markE_l0 R (M ++ [⟨a, markT (a + 1)⟩]) (a + 2) (by simp; omega) (by omega) (by omega)
    refine Ev.step (fun k => by rw [laws_markEntryS.l0]) ?_
    have e1 : (M ++ x :: R).set (M.length : Int).toNat ⟨a, (rd_T146 (M ++ x :: R) (M.length : Int)).f1⟩ = M ++ ⟨a, x.f1⟩ :: R := by
      rw [rdE_mid, Int.toNat_natCast, List.set_append_right _ _ (Nat.le_refl _), Nat.sub_self, List.set_cons_zero]
    refine Ev.pos (by simp; omega) (Ev.pos (by omega) (Ev.bind0 rfl ?_))
    rw [e1, w64 (x := a + 1) (by omega) (by omega)]
    refine Ev.bind (laws_markText_ev (a + 1) (by omega) (by omega)) ?_
    rw [rdE_mid, Int.toNat_natCast, List.set_append_right _ _ (Nat.le_refl _), Nat.sub_self, List.set_cons_zero, w64 (x := a + 1 + 1) (by omega) (by omega), w64 (x := (M.length : Int) + 1) (by omega) (by omega)]
    have e2 : (((M ++ [(⟨a, markT (a + 1)⟩ : EI)]).length : Nat) : Int) = (M.length : Int) + 1 := by simp
    rw [e2, List.append_assoc, List.append_assoc] at g
    rw [show a + 1 + 1 = a + 2 by omega, List.length_cons, show a + 2 * ((R.length + 1 : Nat) : Int) = a + 2 + 2 * (R.length : Int) by omega]
    exact g

theorem laws_markWal_ev (tm vt bs btm : Int) (l : List EI) (a : Int) (hl : l.length ≤ 4194304) (h0 : 0 ≤ a) (ha : a ≤ 10000000) : Ev (fun k => laws_markWal.f k tm vt bs btm l a) (a + 2 * (l.length : Int), mkE l.length a) := by
  have h := laws_markE_l0 l [] a (by simpa using hl) h0 (by omega)
  unfold laws_markWal.f laws_markEntryS.f
  exact Ev.bind h (Ev.now _)

theorem rdS_get (l : List StI) (i : Nat) (h : i < l.length) : rd_T98 l (i : Int) = l[i] := by
  unfold rd_T98
  rw [Int.toNat_natCast, List.getD_eq_getElem?_getD, List.getElem?_eq_getElem h]; rfl
theorem laws_eqStep_eq (a : Int) (s t u : ByteArray) : laws_eqStep.f a s t u a s t u = some true := by
  unfold laws_eqStep.f
  rw [if_pos rfl, if_pos rfl, if_pos rfl, if_pos rfl]
theorem laws_eqStepS_l0 (a : List StI) (ha : a.length ≤ 4194304) (d : Nat) : ∀ (i : Nat), i + d = a.length → Ev (fun k => laws_eqStepS.l0 k a a (i : Int)) true := by
  induction d with
  | zero =>
    intro i hi
    refine Ev.step (fun k => by rw [laws_eqStepS.l0]) ?_
    exact Ev.neg (by omega) (Ev.now _)
  | succ d ih =>
    intro i hi
    refine Ev.step (fun k => by rw [laws_eqStepS.l0]) ?_
    refine Ev.pos (by omega) (Ev.pos (by omega) (Ev.pos (by omega) (Ev.bind0 (laws_eqStep_eq _ _ _ _) (Ev.pos rfl ?_))))
    have := ih (i + 1) (by omega)
    have e1 : ((i + 1 : Nat) : Int) = (i : Int) + 1 := by omega
    rw [e1] at this
    rw [w64 (by omega) (by omega)]
    exact this
theorem laws_eqStepS_ev (a : List StI) (ha : a.length ≤ 4194304) : Ev (fun k => laws_eqStepS.f k a a) true := by
  unfold laws_eqStepS.f
  exact Ev.pos rfl (laws_eqStepS_l0 a ha a.length 0 (by omega))
def mkS : Nat → Int → List StI
  | 0, _ => []
  | d + 1, a => ⟨a, markT (a + 1), markT (a + 2), markT (a + 3)⟩ :: mkS d (a + 4)
theorem rdS_mid (M : List StI) (x : StI) (L : List StI) : rd_T98 (M ++ x :: L) (M.length : Int) = x := by
  rw [rdS_get _ M.length (by simp)]
  simp
theorem setS_mid (M : List StI) (x y : StI) (L : List StI) : (M ++ x :: L).set (M.length : Int).toNat y = M ++ y :: L := by
  rw [Int.toNat_natCast, List.set_append_right _ _ (Nat.le_refl _), Nat.sub_self, List.set_cons_zero]
theorem laws_markS_l0 : ∀ (R M : List StI) (a : Int), M.length + R.length ≤ 4194304 → 0 ≤ a → a + 4 * R.length ≤ 40000000 →
    Ev (fun k => laws_markStepS.l0 k (M ++ R) a (M.length : Int)) (a + 4 * (R.length : Int), M ++ mkS R.length a)
  | [], M, a, hl, h0, ha => by
    refine Ev.step (fun k => by rw [laws_markStepS.l0]) ?_
    exact Ev.neg (by simp) (Ev.val _ _ (by simp [mkS]))
  | x :: R, M, a, hl, h0, ha => by
    rw [List.length_cons] at hl ha
    have g := laws_markS_l0 R (M ++ [⟨a, markT (a + 1), markT (a + 2), markT (a + 3)⟩]) (a + 4) (by simp; omega) (by omega) (by omega)
    refine Ev.step (fun k => by rw [laws_markStepS.l0]) ?_
    rw [w64 (x := a + 1) (by omega) (by omega), w64 (x := a + 1 + 1) (by omega) (by omega), w64 (x := a + 1 + 1 + 1) (by omega) (by omega), w64 (x := a + 1 + 1 + 1 + 1) (by omega) (by omega), w64 (x := (M.length : Int) + 1) (by omega) (by omega)]
    refine Ev.pos (by simp; omega) (Ev.pos (by omega) (Ev.bind0 rfl ?_))
    refine Ev.bind (laws_markText_ev (a + 1) (by omega) (by omega)) (Ev.bind0 rfl ?_)
    refine Ev.bind (laws_markText_ev (a + 1 + 1) (by omega) (by omega)) (Ev.bind0 rfl ?_)
    refine Ev.bind (laws_markText_ev (a + 1 + 1 + 1) (by omega) (by omega)) ?_
    simp only [rdS_mid, setS_mid]
    have e2 : (((M ++ [(⟨a, markT (a + 1), markT (a + 2), markT (a + 3)⟩ : StI)]).length : Nat) : Int) = (M.length : Int) + 1 := by simp
    rw [e2, List.append_assoc, List.append_assoc] at g
    rw [show a + 1 + 1 + 1 + 1 = a + 4 by omega, show a + 1 + 1 + 1 = a + 3 by omega, show a + 1 + 1 = a + 2 by omega, List.length_cons, show a + 4 * ((R.length + 1 : Nat) : Int) = a + 4 + 4 * (R.length : Int) by omega]
    exact g
theorem laws_markS_ev (l : List StI) (a : Int) (hl : l.length ≤ 4194304) (h0 : 0 ≤ a) (ha : a ≤ 10000000) : Ev (fun k => laws_markStepS.f k l a) (a + 4 * (l.length : Int), mkS l.length a) := by
  have h := laws_markS_l0 l [] a (by simpa using hl) h0 (by omega)
  unfold laws_markStepS.f
  exact h
theorem laws_heldS_l0 : ∀ (d : Nat) (M : List StI) (a : Int), M.length + d ≤ 4194304 → 0 ≤ a → a + 4 * d ≤ 40000000 →
    Ev (fun k => laws_heldStepS.l0 k (M ++ mkS d a) a (M.length : Int)) (a + 4 * (d : Int))
  | 0, M, a, hl, h0, ha => by
    refine Ev.step (fun k => by rw [laws_heldStepS.l0]) ?_
    exact Ev.neg (by simp [mkS]) (Ev.val _ _ (by simp))
  | d + 1, M, a, hl, h0, ha => by
    have g := laws_heldS_l0 d (M ++ [⟨a, markT (a + 1), markT (a + 2), markT (a + 3)⟩]) (a + 4) (by simp; omega) (by omega) (by omega)
    refine Ev.step (fun k => by rw [laws_heldStepS.l0]) ?_
    unfold mkS
    have e2 : (((M ++ [(⟨a, markT (a + 1), markT (a + 2), markT (a + 3)⟩ : StI)]).length : Nat) : Int) = (M.length : Int) + 1 := by simp
    rw [e2, List.append_assoc] at g
    rw [rdS_mid, w64 (x := a + 1) (by omega) (by omega), w64 (x := a + 1 + 1) (by omega) (by omega), w64 (x := a + 1 + 1 + 1) (by omega) (by omega), w64 (x := a + 1 + 1 + 1 + 1) (by omega) (by omega), w64 (x := (M.length : Int) + 1) (by omega) (by omega)]
    rw [show a + 1 + 1 + 1 + 1 = a + 4 by omega, show a + 1 + 1 + 1 = a + 3 by omega, show a + 1 + 1 = a + 2 by omega, show a + 4 * ((d + 1 : Nat) : Int) = a + 4 + 4 * (d : Int) by omega]
    refine Ev.pos (by simp; omega) (Ev.pos (by omega) (Ev.pos rfl ?_))
    refine Ev.bind (laws_markText_ev (a + 1) (by omega) (by omega)) (Ev.pos rfl ?_)
    refine Ev.bind (laws_markText_ev (a + 2) (by omega) (by omega)) (Ev.pos rfl ?_)
    refine Ev.bind (laws_markText_ev (a + 3) (by omega) (by omega)) (Ev.pos rfl ?_)
    exact g
theorem laws_heldS_ev (d : Nat) (a : Int) (hl : d ≤ 4194304) (h0 : 0 ≤ a) (ha : a ≤ 10000000) : Ev (fun k => laws_heldStepS.f k (mkS d a) a) (a + 4 * (d : Int)) := by
  have h := laws_heldS_l0 d [] a (by simpa using hl) h0 (by omega)
  unfold laws_heldStepS.f
  exact h

theorem toE_sizes {l : List EL} (h : ∀ e ∈ l, e.f1.size ≤ 1048576) : ∀ e ∈ toE l, e.f1.size ≤ 1048576 := by
  intro e he
  unfold toE at he
  obtain ⟨p, hp, rfl⟩ := List.mem_map.1 he
  exact h p hp
theorem FnExactPlanAdd : laws_FnExactPlanAdd.Pure := by
  intro tm vt bs btm l tm2 vt2 bs2 btm2 m _ _ _ _ hl _ _ _ _ hm
  refine Ev.rounds (g := fun k => laws_FnExactPlanAdd.f k tm vt bs btm l tm2 vt2 bs2 btm2 m) ?_
  unfold laws_FnExactPlanAdd.f
  obtain ⟨r, e1, e2, e3⟩ := laws_szWal_ev tm vt bs btm l hl 1048576 (by omega) (by omega)
  refine Ev.bind e1 ?_
  by_cases c0 : r < 0
  · exact Ev.pos c0 (Ev.now _)
  · obtain ⟨h, hs⟩ := e3 (by omega)
    obtain ⟨r2, f1, f2, f3⟩ := laws_szWal_ev tm2 vt2 bs2 btm2 m hm r (by omega) e2
    refine Ev.neg c0 (Ev.bind f1 ?_)
    by_cases c1 : r2 < 0
    · exact Ev.pos c1 (Ev.now _)
    · obtain ⟨h2, hs2⟩ := f3 (by omega)
      have e := laws_toWal_ev tm vt bs btm l h
      have f := laws_toWal_ev tm2 vt2 bs2 btm2 m h2
      have h' : (toE l).length ≤ 1048576 := by rw [toE_length]; exact h
      have h2' : (toE m).length ≤ 1048576 := by rw [toE_length]; exact h2
      have hs3 := toE_sizes hs2
      have es := spec_PlanAdd_ev tm vt bs btm (toE l) h' tm2 vt2 bs2 btm2 (toE m) h2' hs3
      have ei := impl_PlanAdd_ev tm vt bs btm (toE l) h' tm2 vt2 bs2 btm2 (toE m) h2' hs3
      have hz := planAddV_length (changesV tm vt bs btm (toE l) tm2 vt2 bs2 btm2 (toE m))
      generalize planAddV (changesV tm vt bs btm (toE l) tm2 vt2 bs2 btm2 (toE m)) = rs at es ei hz
      have eq := laws_eqStepS_ev rs (by omega)
      have eq0 := laws_eqWal_ev tm vt bs btm (toE l) h'
      have eq1 := laws_eqWal_ev tm2 vt2 bs2 btm2 (toE m) h2'
      have hm := laws_markS_ev rs 1 (by omega) (by omega) (by omega)
      have hh := laws_heldS_ev rs.length 1 (by omega) (by omega) (by omega)
      have hm0 := laws_markWal_ev tm vt bs btm (toE l) 1 (by omega) (by omega) (by omega)
      have hm1 := laws_markWal_ev tm2 vt2 bs2 btm2 (toE m) (1 + 2 * ((toE l).length : Int)) (by omega) (by omega) (by omega)
      refine Ev.neg c1 ?_
      refine Ev.bind e ?_
      refine Ev.bind f ?_
      refine Ev.bind es ?_
      refine Ev.bind e ?_
      refine Ev.bind f ?_
      refine Ev.bind ei ?_
      refine Ev.bind eq (Ev.pos rfl ?_)
      refine Ev.bind e ?_
      refine Ev.bind eq0 (Ev.pos rfl ?_)
      refine Ev.bind f ?_
      refine Ev.bind eq1 (Ev.pos rfl ?_)
      refine Ev.bind hm0 ?_
      refine Ev.bind hm1 (Ev.neg (by omega) ?_)
      refine Ev.bind eq ?_
      refine Ev.step (fun k => by rw [laws_FnExactPlanAdd.j0]) ?_
      refine Ev.neg (by simp) ?_
      refine Ev.bind hm ?_
      refine Ev.bind hh (Ev.neg (by omega) (Ev.pos rfl ?_))
      refine Ev.bind e ?_
      refine Ev.bind f ?_
      refine Ev.bind ei ?_
      refine Ev.bind eq (Ev.pos rfl ?_)
      exact Ev.bind hh (Ev.neg (by omega) (Ev.pos rfl (Ev.now _)))

end Go.Proofs.Ytobkmpihjfiihaa.Pure
