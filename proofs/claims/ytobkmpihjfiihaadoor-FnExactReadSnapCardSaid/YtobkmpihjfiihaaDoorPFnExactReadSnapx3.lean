-- The machine side of a law: written by a program of this session (wip/tools), a turned print.
import Derived.Test.YtobkmpihjfiihaaDoorPFnExactReadSnapx0
import Derived.Test.YtobkmpihjfiihaaDoorPFnExactReadSnapx1
import Derived.Test.YtobkmpihjfiihaaDoorPFnExactReadSnapx2
namespace Go.Proofs.YtobkmpihjfiihaaDoor.PFnExactReadSnap
open Go.RowKit Go.Proofs.YtobkmpihjfiihaaDoorW.PrintWords Go.Proofs.YtobkmpihjfiihaaDoorW.PrintLast Go.Proofs.YtobkmpihjfiihaaDoorW.PrintMore
attribute [local go_sem] max2_int min2_int max_two min_two max_three min_three max_four min_four   -- for this text's walks alone
set_option linter.unusedVariables false
set_option linter.unusedSimpArgs false

attribute [local go_sem high] eqA27

/-! ### impl_Sha: function 10 -/
theorem exec_load_row {P : Program} {o : Oper} {a : Act} {w : World} (ty : TypeId) (x : Operand) (ho : o.op = .load ty x)
    (g : Nat) (hx : a.eval x = .pointer (some ⟨g, 0, none⟩)) (t : TypeId) (cs : Array Value) (fr : Nat × Nat) (d : TypeDesc) (hg : w.heap[g]? = some (.cells cs t fr))
    (hu : P.underlying ty = some d) (hd : (match d with | .struct _ | .array _ _ => true | _ => false) = true) (hi : (P.info? ty).map (·.size) = some cs.size) :
    (execOp a.eval o).run P w = .ok (.value (.agg cs)) w := by
  unfold execOp
  simp only [ho, hx, Instr.loadAt, Instr.sureAddr, Sem.run_bind, Sem.run_pure, Result.andThen_ok, run_loadVar_row w g t ty cs fr d hg hu hd hi]
theorem exec_store_row {P : Program} {o : Oper} {a : Act} {w : World} (ty : TypeId) (x y : Operand) (ho : o.op = .store ty x y)
    (g : Nat) (cells : Array Value) (hx : a.eval x = .pointer (some ⟨g, 0, none⟩)) (hy : a.eval y = .agg cells)
    (t : TypeId) (old : Array Value) (hg : w.heap[g]? = some (.cells old t (0, 0))) (hi : (P.info? ty).map (·.size) = some cells.size)
    (hold : old.size = cells.size) (h1 : cells.all (·.oneCell') = true) :
    (execOp a.eval o).run P w = .ok .skip (w.setRow g cells) := by
  unfold execOp
  simp only [ho, hx, hy, Instr.storeAt, Instr.sureAddr, Sem.run_bind, Sem.run_pure, Result.andThen_ok, run_storeVar_row w g t ty old cells hg hi hold h1]
/-- What a call of Sha has: the state's block. -/
structure SS (w W : World) (g : Nat) (st : List Int) : Prop where
  b : Below w.heap.size w W
  lt : w.heap.size ≤ g
  s : W.heap[g]? = some (.cells (cU st) 60 (0, 0))
theorem SS.put {w W : World} {g : Nat} {st : List Int} (h : SS w W g st) (l : List Int) : SS w (W.setRow g (cU l)) g l := ⟨below_row h.b h.lt _, h.lt, setRow_heap W g _ _ 60 _ h.s⟩
theorem SS.below {w W W1 : World} {g : Nat} {st : List Int} (h : SS w W g st) (hb : Below W.heap.size W W1) : SS w W1 g st := ⟨below_step h.b hb, h.lt, blk_below h.s hb⟩
theorem SS.drew {w W : World} {g : Nat} {st : List Int} (h : SS w W g st) : SS w W.drew g st := ⟨below_drew1 h.b, h.lt, h.s⟩
theorem SS.drewN {w W : World} {g : Nat} {st : List Int} (h : SS w W g st) (n : Nat) : SS w (W.drewN n) g st := ⟨pw_below_drewN h.b n, h.lt, h.s⟩
theorem index_at (st : List Int) (i : Nat) (x : Int) (hi : i < 8) (hc : (cU st)[i]? = some (.int .u32 x)) (W : World) : (Instr.index 60 (.agg (cU st)) (.int .i64 (i : Int))).run Tryd.prog W = .ok (.int .u32 x) W := by
  have h8 : (0 : Int) ≤ (i : Int) ∧ (i : Int) < ((8 : Nat) : Int) := by omega
  have hz : (sizeOf 59).run Tryd.prog W = .ok 1 W := by kernel_rfl
  simp only [Instr.index, asIntOf, Sem.run_bind, Sem.run_pure, Result.andThen_ok, run_underlying Tryd.underlying60, if_pos h8, hz, part, Tryd.isAgg59]
  simp [hc]
theorem shaB_len (s : List Int) (b : ByteArray) : (shaB s b).length = s.length := addsV_len _ _ _
def shaInit : List Int := [1779033703, 3144134277, 1013904242, 2773480762, 1359893119, 2600822924, 528734635, 1541459225]
def impl_Sha.pre (k : Nat) (a0 : ByteArray) : Option (ByteArray) := if a0.size + 1 ≤ 9223372036854775807 then (if 0 ≤ (wrap64 ((Int.tmod (wrap64 (64 - (Int.tmod (wrap64 ((a0.size : Int) + 9)) 64))) 64) + 1)) then (if (wrap64 ((Int.tmod (wrap64 (64 - (Int.tmod (wrap64 ((a0.size : Int) + 9)) 64))) 64) + 1) : Int).toNat ≤ 281474976710656 then ((some (List.replicate (wrap64 ((Int.tmod (wrap64 (64 - (Int.tmod (wrap64 ((a0.size : Int) + 9)) 64))) 64) + 1) : Int).toNat 0 : List Int)).bind fun y106 => (if (a0 ++ (⟨#[128]⟩ : ByteArray)).size + (strOfNums y106).size ≤ 9223372036854775807 then ((impl_Fixed.f k (wrap64 (8 * (a0.size : Int))) 7).bind fun t109 => (if ((a0 ++ (⟨#[128]⟩ : ByteArray)) ++ (strOfNums y106)).size + t109.size ≤ 9223372036854775807 then (some (((a0 ++ (⟨#[128]⟩ : ByteArray)) ++ (strOfNums y106)) ++ t109)) else (none))) else (none))) else (none)) else (none)) else (none)
theorem impl_Sha.pmono : ∀ a0 k, LeO (impl_Sha.pre k a0) (impl_Sha.pre (k + 1) a0) := by
 intro a0 k
 unfold impl_Sha.pre
 repeat' first
   | (with_reducible exact impl_Fixed.mono _ _ _)
   | (with_reducible exact LeO.refl _)
   | (with_reducible exact LeO.none _)
   | (with_reducible refine LeO.ite ?_ ?_)
   | (with_reducible refine LeO.bind ?_ (fun _ => ?_))
   | exact impl_Fixed.mono _ _ _
   | exact LeO.none _
   | refine LeO.ite ?_ ?_
   | refine LeO.bind ?_ (fun _ => ?_)

/-- The state behind the blocks from i on. -/
def impl_Sha.l0 : Nat → List Int → ByteArray → Nat → Option (List Int)
 | 0, _, _, _ => none
 | k + 1, s, p, i => if i < p.size then (if i + 64 ≤ p.size then impl_Sha.l0 k (shaB s (p.extract i (i + 64))) p (i + 64) else none) else some s
/-- The text of the words from i on, n of them. -/
def impl_Sha.l1 (k : Nat) (s : List Int) : Nat → Nat → ByteArray → Option ByteArray
 | 0, _, o => some o
 | n + 1, i, o => (impl_Fixed.f k (s.getD i 0) 4).bind fun t => if o.size + t.size ≤ 9223372036854775807 then impl_Sha.l1 k s n (i + 1) (o ++ t) else none
def impl_Sha.f (k : Nat) (a0 : ByteArray) : Option ByteArray := (impl_Sha.pre k a0).bind fun p => (impl_Sha.l0 k shaInit p 0).bind fun s => if (s.length = 8) ∧ (∀ x ∈ s, 0 ≤ x ∧ x < 4294967296) ∧ p.size ≤ 1152921504606846976 then impl_Sha.l1 k s 8 0 (⟨#[]⟩ : ByteArray) else none
def impl_Sha.T3 : Bool × List (List Nat × List Nat) := (true, [([], []), ([0], [0]), ([], []), ([2], [2]), ([3, 3], [3]), ([4], [4]), ([1, 5], [1, 5]), ([], []), ([7], [7]), ([6, 8], [6, 8]), ([9, 8, 0, 1, 2, 3, 4, 5, 6, 7, 8, 9], [9])])
def impl_Sha.B3 : List Nat := [0, 1, 0, 4, 12, 28, 63, 0, 128, 511, 1023]
theorem impl_Sha.tab3 : rtab .any (opsOf Tryd.f10 3) = impl_Sha.T3 := by kernel_rfl
theorem impl_Sha.bits3 : waitsOk impl_Sha.T3.2 impl_Sha.B3 = true := by kernel_rfl

theorem impl_Sha.mono_l0 : ∀ k s p i, LeO (impl_Sha.l0 k s p i) (impl_Sha.l0 (k + 1) s p i)
 | 0, _, _, _ => fun r h => by simp [impl_Sha.l0] at h
 | k + 1, s, p, i => by
  unfold impl_Sha.l0
  exact LeO.ite (LeO.ite (impl_Sha.mono_l0 k _ _ _) (LeO.none _)) (LeO.refl _)
theorem impl_Sha.mono_l1 (k : Nat) (s : List Int) : ∀ n i o, LeO (impl_Sha.l1 k s n i o) (impl_Sha.l1 (k + 1) s n i o)
 | 0, _, _ => LeO.refl _
 | n + 1, i, o => by
  unfold impl_Sha.l1
  exact LeO.bind (impl_Fixed.mono _ _ _) (fun _ => LeO.ite (impl_Sha.mono_l1 k s n _ _) (LeO.none _))
theorem impl_Sha.mono : ∀ a0 k, LeO (impl_Sha.f k a0) (impl_Sha.f (k + 1) a0) := fun a0 k =>
  LeO.bind (impl_Sha.pmono _ _) (fun _ => LeO.bind (impl_Sha.mono_l0 _ _ _ _) (fun _ => LeO.ite (impl_Sha.mono_l1 _ _ _ _ _) (LeO.none _)))
set_option maxHeartbeats 8000000 in
set_option maxRecDepth 100000 in
theorem impl_Sha.calls (k : Nat) (a0 : ByteArray) (r : ByteArray) (w : World) (h : impl_Sha.f k a0 = some r) (hTab : Tab w := by first | (with_reducible exact HTAB.out) | (with_reducible exact HTAB.out.below HB.out) | exact HTAB.out.below (by repeat (first | (with_reducible first | exact HB.out | apply below_alloc | apply pw_below_drewN | apply below_drew1 | refine below_set ?_ (Aside0.out (by assumption))) | exact HB.out))) :
  Calls Tryd.prog 10 #[.string a0] w fun e w' => e = .returned (.string r) ∧ Below w.heap.size w w' := by
 obtain ⟨p_, hp, h2⟩ := Option.bind_eq_some_iff.mp h
 obtain ⟨sf, hsf, h3⟩ := Option.bind_eq_some_iff.mp h2
 obtain ⟨hg, hout⟩ : ((sf.length = 8) ∧ (∀ x ∈ sf, 0 ≤ x ∧ x < 4294967296) ∧ p_.size ≤ 1152921504606846976) ∧ impl_Sha.l1 k sf 8 0 (⟨#[]⟩ : ByteArray) = some r := by
  by_cases hc : (sf.length = 8) ∧ (∀ x ∈ sf, 0 ≤ x ∧ x < 4294967296) ∧ p_.size ≤ 1152921504606846976
  · rw [if_pos hc] at h3; exact ⟨hc, h3⟩
  · rw [if_neg hc] at h3; exact absurd h3 (by simp)
 have HG8 := Aside0.mk hg
 have HL0 := Aside0.mk hsf
 have HOUT := Aside0.mk hout
 have HTAB := Aside0.mk hTab
 clear h h2 h3 hg hsf hout hTab
 have HB := Aside0.mk (Below.refl w.heap.size w)
 have H : (if a0.size + 1 ≤ 9223372036854775807 then (if 0 ≤ (wrap64 ((Int.tmod (wrap64 (64 - (Int.tmod (wrap64 ((a0.size : Int) + 9)) 64))) 64) + 1)) then (if (wrap64 ((Int.tmod (wrap64 (64 - (Int.tmod (wrap64 ((a0.size : Int) + 9)) 64))) 64) + 1) : Int).toNat ≤ 281474976710656 then ((some (List.replicate (wrap64 ((Int.tmod (wrap64 (64 - (Int.tmod (wrap64 ((a0.size : Int) + 9)) 64))) 64) + 1) : Int).toNat 0 : List Int)).bind fun y106 => (if (a0 ++ (⟨#[128]⟩ : ByteArray)).size + (strOfNums y106).size ≤ 9223372036854775807 then ((impl_Fixed.f k (wrap64 (8 * (a0.size : Int))) 7).bind fun t109 => (if ((a0 ++ (⟨#[128]⟩ : ByteArray)) ++ (strOfNums y106)).size + t109.size ≤ 9223372036854775807 then (some (((a0 ++ (⟨#[128]⟩ : ByteArray)) ++ (strOfNums y106)) ++ t109)) else (none))) else (none))) else (none)) else (none)) else (none)) = some p_ := hp
 clear hp
 by_cases c2 : a0.size + 1 ≤ 9223372036854775807
 ·rw [if_pos c2] at H
  have c2b0 := eq_true c2
  have c2b1 : decide (a0.size + 1 ≤ 9223372036854775807) = true := decide_eq_true c2
  try have c2b2 : (9223372036854775807 < a0.size + 1) = False := eq_false (Nat.not_lt.2 c2)
  obtain ⟨ji3, hji3⟩ : ∃ j_ : Int, (wrap64 ((Int.tmod (wrap64 (64 - (Int.tmod (wrap64 ((a0.size : Int) + 9)) 64))) 64) + 1)) = j_ := ⟨_, rfl⟩
  replace H : (if 0 ≤ (ji3) then (if (ji3 : Int).toNat ≤ 281474976710656 then ((some (List.replicate (ji3 : Int).toNat 0 : List Int)).bind fun y106 => (if (a0 ++ (⟨#[128]⟩ : ByteArray)).size + (strOfNums y106).size ≤ 9223372036854775807 then ((impl_Fixed.f k (wrap64 (8 * (a0.size : Int))) 7).bind fun t109 => (if ((a0 ++ (⟨#[128]⟩ : ByteArray)) ++ (strOfNums y106)).size + t109.size ≤ 9223372036854775807 then (some (((a0 ++ (⟨#[128]⟩ : ByteArray)) ++ (strOfNums y106)) ++ t109)) else (none))) else (none))) else (none)) else (none)) = some p_ := by first | (rw [hji3] at H; exact H) | (simp only [hji3] at H ⊢; exact H)
  have hji3w : (IntKind.i64.wrap ((Int.tmod (wrap64 (64 - (Int.tmod (wrap64 ((a0.size : Int) + 9)) 64))) 64) + 1)) = ji3 := (i64_w _).trans hji3
  by_cases c4 : 0 ≤ (ji3)
  ·rw [if_pos c4] at H
   have c4b0 := eq_true c4
   have c4b1 : decide (0 ≤ (ji3)) = true := decide_eq_true c4
   clear c4
   by_cases c5 : (ji3 : Int).toNat ≤ 281474976710656
   ·rw [if_pos c5] at H
    have c5b0 := eq_true c5
    have c5b1 : decide ((ji3 : Int).toNat ≤ 281474976710656) = true := decide_eq_true c5
    clear c5
    obtain ⟨y106, hy106⟩ : ∃ y_ : List Int, y_ = (List.replicate (ji3 : Int).toNat 0) := ⟨_, rfl⟩
    replace H : (if (a0 ++ (⟨#[128]⟩ : ByteArray)).size + (strOfNums y106).size ≤ 9223372036854775807 then ((impl_Fixed.f k (wrap64 (8 * (a0.size : Int))) 7).bind fun t109 => (if ((a0 ++ (⟨#[128]⟩ : ByteArray)) ++ (strOfNums y106)).size + t109.size ≤ 9223372036854775807 then (some (((a0 ++ (⟨#[128]⟩ : ByteArray)) ++ (strOfNums y106)) ++ t109)) else (none))) else (none)) = some p_ := by first | (rw [hy106]; with_reducible exact H) | (have H2_ := (Option.bind_some _ _).symm.trans H; rw [hy106]; with_reducible exact H2_) | (have H2_ := (Option.bind_some _ _).symm.trans H; with_reducible exact H2_) | with_reducible exact H | (rw [hy106]; exact H) | exact H
    have Ny106 := Aside0.mk hy106
    clear hy106
    by_cases c6 : (a0 ++ (⟨#[128]⟩ : ByteArray)).size + (strOfNums y106).size ≤ 9223372036854775807
    ·rw [if_pos c6] at H
     have c6b0 := eq_true c6
     have c6b1 : decide ((a0 ++ (⟨#[128]⟩ : ByteArray)).size + (strOfNums y106).size ≤ 9223372036854775807) = true := decide_eq_true c6
     try have c6b2 : (9223372036854775807 < (a0 ++ (⟨#[128]⟩ : ByteArray)).size + (strOfNums y106).size) = False := eq_false (Nat.not_lt.2 c6)
     try have c6b6 : (9223372036854775807 < (a0.size + (⟨#[128]⟩ : ByteArray).size) + (strOfNums y106).size) = False := eq_false (by have h_ := c6; simp only [ByteArray.size_append] at h_; omega)
     try have c6b6 : (9223372036854775807 < (a0.size + (⟨#[128]⟩ : ByteArray).size) + (strOfNums y106).size) = False := eq_false (by have h_ := c6; simp only [ByteArray.size_append] at h_; omega)
     have c6c : (9223372036854775807 < a0.size + 1 + (strOfNums y106).size) = False := eq_false (by have h_ := c6; simp only [ByteArray.size_append] at h_; have e_ : (⟨#[128]⟩ : ByteArray).size = 1 := rfl; omega)
     replace H := Option.bind_eq_some_iff.mp H
     obtain ⟨t109, A70, H⟩ := H
     replace H : (if ((a0 ++ (⟨#[128]⟩ : ByteArray)) ++ (strOfNums y106)).size + t109.size ≤ 9223372036854775807 then (some (((a0 ++ (⟨#[128]⟩ : ByteArray)) ++ (strOfNums y106)) ++ t109)) else (none)) = some p_ := H
     have A7 := Aside0.mk A70
     clear A70
     by_cases c8 : ((a0 ++ (⟨#[128]⟩ : ByteArray)) ++ (strOfNums y106)).size + t109.size ≤ 9223372036854775807
     ·rw [if_pos c8] at H
      have c8b0 := eq_true c8
      have c8b1 : decide (((a0 ++ (⟨#[128]⟩ : ByteArray)) ++ (strOfNums y106)).size + t109.size ≤ 9223372036854775807) = true := decide_eq_true c8
      try have c8b2 : (9223372036854775807 < ((a0 ++ (⟨#[128]⟩ : ByteArray)) ++ (strOfNums y106)).size + t109.size) = False := eq_false (Nat.not_lt.2 c8)
      try have c8b6 : (9223372036854775807 < ((a0.size + (⟨#[128]⟩ : ByteArray).size) + (strOfNums y106).size) + t109.size) = False := eq_false (by have h_ := c8; simp only [ByteArray.size_append] at h_; omega)
      try have c8b6 : (9223372036854775807 < ((a0.size + (⟨#[128]⟩ : ByteArray).size) + (strOfNums y106).size) + t109.size) = False := eq_false (by have h_ := c8; simp only [ByteArray.size_append] at h_; omega)
      have c8c : (9223372036854775807 < a0.size + 1 + (strOfNums y106).size + t109.size) = False := eq_false (by have h_ := c8; simp only [ByteArray.size_append] at h_; have e_ : (⟨#[128]⟩ : ByteArray).size = 1 := rfl; omega)
      obtain rfl := Option.some.inj H
      go_enter Tryd.func10, Tryd.ntmps10
      try go_wp2
      have n0_ := Aside0.mk (below_drew1 HB.out)
      clear HB
      have HB := n0_
      clear n0_
      refine start_ (n := 11) (S := fun w' => True) (ds := []) #[false, false, false, false, false, false, false, false, false, false, false] (by kernel_rfl) rfl rfl trivial (fun hHeld => ?_); refine with_tabW impl_Sha.tab3 impl_Sha.bits3 (fun HT_ HW_ => ?_)
      (first | (rw [drewN_self w]; generalize hq_ : World.drewN w _ = wq_ at hHeld ⊢; replace HB : Aside0 (Below w.heap.size w wq_.drew) := ⟨by rw [← hq_]; exact below_drew1 (pw_below_drewN (Below.refl _ _) _)⟩; clear hq_; generalize wq_.drew = w9 at HB hHeld ⊢) | (generalize w.drew = w9 at HB hHeld ⊢))
      refine pure_ (i := 0) (N := some 20) (v := ?_) (a' := ?_) #[true, false, false, false, false, false, false, false, false, false, false] rfl rfl (any_of HT_.out (by kernel_rfl)) (fun _ _ _ h => h) (Or.inl ⟨by rfl, ?_⟩) ?_ ?_
      rotate_left
      ·intro w'
       go_simp
       with_reducible rfl
      rotate_left
      ·simp only [Act.put, List.setIfInBounds_toArray, List.set_cons_zero, List.set_cons_succ, i64_w, i32_w]
       rfl
      refine pure_ (i := 1) (N := some 21) (v := ?_) (a' := ?_) #[true, true, false, false, false, false, false, false, false, false, false] rfl rfl (any_of HT_.out (by kernel_rfl)) (fun _ _ _ h => h) (Or.inl ⟨by rfl, ?_⟩) ?_ ?_
      rotate_left
      ·intro w'
       go_simp
       with_reducible rfl
      rotate_left
      ·simp only [Act.put, List.setIfInBounds_toArray, List.set_cons_zero, List.set_cons_succ, i64_w, i32_w]
       rfl
      refine pure_ (i := 2) (N := some 22) (v := ?_) (a' := ?_) #[true, true, true, false, false, false, false, false, false, false, false] rfl rfl (any_of HT_.out (by kernel_rfl)) (fun _ _ _ h => h) (Or.inl ⟨by rfl, ?_⟩) ?_ ?_
      rotate_left
      ·intro w'
       go_simp
       with_reducible rfl
      rotate_left
      ·simp only [Act.put, List.setIfInBounds_toArray, List.set_cons_zero, List.set_cons_succ, i64_w, i32_w]
       rfl
      refine pure_ (i := 3) (N := some 23) (v := ?_) (a' := ?_) #[true, true, true, true, false, false, false, false, false, false, false] rfl rfl (any_of HT_.out (by kernel_rfl)) (fun _ _ _ h => h) (Or.inl ⟨by rfl, ?_⟩) ?_ ?_
      rotate_left
      ·intro w'
       go_simp
       with_reducible rfl
      rotate_left
      ·simp only [Act.put, List.setIfInBounds_toArray, List.set_cons_zero, List.set_cons_succ, i64_w, i32_w]
       rfl
      refine pure_ (i := 7) (N := some 27) (v := ?_) (a' := ?_) #[true, true, true, true, false, false, false, true, false, false, false] rfl rfl (any_of HT_.out (by kernel_rfl)) (fun _ _ _ h => h) (Or.inl ⟨by rfl, ?_⟩) ?_ ?_
      rotate_left
      ·intro w'
       go_simp
       with_reducible rfl
      rotate_left
      ·simp only [Act.put, List.setIfInBounds_toArray, List.set_cons_zero, List.set_cons_succ, i64_w, i32_w]
       rfl
      refine join_ (σ := Value) 2 #[true, true, true, true, true, true, true, true, true, false, false] (fun s_ => [(24, s_), (25, .string (strOfNums y106)), (28, .string t109), (26, .string ((a0 ++ (⟨#[128]⟩ : ByteArray)) ++ (strOfNums y106)))]) (fun s_ w' => (Kd.R (Kd.int .u8) 5 w' w.heap.size (fun _ => True) s_ y106) ∧ (Below w.heap.size w w')) ?_ ?_
      rotate_left
      ·intro hCont
       refine two_ (i := 4) (j := 8) (Ni := some 24) (Nj := some 28) #[true, true, true, true, true, false, false, true, false, false, false] #[true, true, true, true, false, false, false, true, true, false, false] rfl rfl rfl rfl (two_of HT_.out (by kernel_rfl)) (by decide) (by decide) (fun K hK => ?_) (fun K hK => ?_)
       ·skip
        refine Kd.R_make_step (Kd.int .u8) _ 5 (by rfl) (N := 24) rfl 24 _ _ rfl ji3 rfl rfl Tryd.underlying24 (.int .u8 0) 1 info5 rfl (by decide) (by omega) 0 (ok := fun _ => True) (okp := fun _ => True) rfl (fun _ hk => hk) trivial (of_decide_eq_true (by first | (with_reducible assumption) | assumption)) (Nat.le_trans (Nat.mul_le_mul_right _ (of_decide_eq_true (by first | (with_reducible assumption) | assumption) : ji3.toNat ≤ 281474976710656)) (by omega)) (Below.refl _ _) (Nat.le_refl _) ?_
        intro v107 w10 ho11 hb hg_ hnew_
        clear hg_ hnew_
        (first | rw [← Ny106.out] at ho11 | (simp only [Int.reduceToNat] at ho11; rw [← Ny106.out] at ho11))
        have n0_ := Aside0.mk (Kd.R_lower ho11 (below_size (by repeat (first | (with_reducible first | exact HB.out | apply below_alloc | apply pw_below_drewN | apply below_drew1) | exact HB.out))))
        have n1_ := Aside0.mk (below_step (by repeat (first | (with_reducible first | exact HB.out | apply below_alloc | apply pw_below_drewN | apply below_drew1) | exact HB.out)) hb)
        clear HB
        have HO108 := n0_
        have HB := n1_
        clear n0_ n1_
        clear hb ho11
        refine hK.out _ _ trivial (fun hHeld => ?_)
        clear hK K
        refine norm_ (a' := ?_) ?_ ?_
        rotate_left
        ·show Act.put _ (some 24) _ = _
         simp only [Act.put, List.setIfInBounds_toArray, List.set_cons_zero, List.set_cons_succ, i64_w, i32_w]
         rfl
        refine two_ (i := 5) (j := 8) (Ni := some 25) (Nj := some 28) #[true, true, true, true, true, true, false, true, false, false, false] #[true, true, true, true, true, false, false, true, true, false, false] rfl rfl rfl rfl (two_of HT_.out (by kernel_rfl)) (by decide) (by decide) (fun K hK => ?_) (fun K hK => ?_)
        ·skip
         have hcv12 := own_string (P := Tryd.prog) Tryd.underlying24 Tryd.underlying5 Tryd.underlying9 (Kd.own_of_R HO108.out)
         refine value_ (w1 := ?_) (v := ?_) (by rfl) rfl ?_ ?_
         rotate_left 2
         ·go_simp
          constructor
          ·rfl
          ·rfl
         clear hcv12
         refine hK.out _ _ trivial (fun hHeld => ?_)
         clear hK K
         refine norm_ (a' := ?_) ?_ ?_
         rotate_left
         ·show Act.put _ (some 25) _ = _
          simp only [Act.put, List.setIfInBounds_toArray, List.set_cons_zero, List.set_cons_succ, i64_w, i32_w]
          rfl
         refine pure_ (i := 6) (N := some 26) (v := ?_) (a' := ?_) #[true, true, true, true, true, true, true, true, false, false, false] rfl rfl (any_of HT_.out (by kernel_rfl)) (fun _ _ _ h => h) (Or.inl ⟨by rfl, ?_⟩) ?_ ?_
         rotate_left
         ·intro w'
          go_simp
          with_reducible rfl
         rotate_left
         ·simp only [Act.put, List.setIfInBounds_toArray, List.set_cons_zero, List.set_cons_succ, i64_w, i32_w]
          rfl
         refine one_ (i := 8) (N := some 28) #[true, true, true, true, true, true, true, true, true, false, false] rfl rfl (one_of HT_.out (by kernel_rfl)) (by decide) (fun K hK => ?_)
         refine goes_ Tryd.func38 (by kernel_rfl) rfl #[.int .i64 (wrap64 (8 * (a0.size : Int))), .int .i64 7] (by rfl) rfl rfl (by (try simp only [List.map_toArray, List.map_cons, List.map_nil]); first | done | rfl | (simp only [List.length_drop, List.length_take]; rfl)) ?_
         with_reducible refine (impl_Fixed.calls k (wrap64 (8 * (a0.size : Int))) 7 t109 _ A7.out).mono ?_
         rintro e w13 ⟨rfl, hb⟩
         refine ⟨_, rfl, ?_⟩
         have n0_ := Aside0.mk (Kd.R_below (by (with_reducible repeat (first | apply Kd.R_alloc | apply Kd.R_drewN | apply Kd.R_drew)); exact HO108.out) hb)
         have n1_ := Aside0.mk (below_step (by repeat (first | (with_reducible first | exact HB.out | apply below_alloc | apply pw_below_drewN | apply below_drew1) | exact HB.out)) hb)
         clear HO108
         clear HB
         have HO108 := n0_
         have HB := n1_
         clear n0_ n1_
         (try clear hb)
         (try clear hb2)
         (try clear hk)
         (try clear hi)
         refine hK.out _ _ trivial (fun hHeld => ?_)
         clear hK K
         refine norm_ (a' := ?_) ?_ ?_
         rotate_left
         ·show Act.put _ (some 28) _ = _
          simp only [Act.put, List.setIfInBounds_toArray, List.set_cons_zero, List.set_cons_succ, i64_w, i32_w]
          rfl
         exact norm_ (by simp only [putAll, Act.put, List.setIfInBounds_toArray, List.set_cons_zero, List.set_cons_succ]) (hCont (v107) _ ⟨(by (with_reducible repeat (first | apply Kd.R_alloc | apply Kd.R_drewN | apply Kd.R_drew)); exact HO108.out), (by repeat (first | (with_reducible first | exact HB.out | apply below_alloc | apply pw_below_drewN | apply below_drew1) | exact HB.out))⟩)
        ·skip
         refine goes_ Tryd.func38 (by kernel_rfl) rfl #[.int .i64 (wrap64 (8 * (a0.size : Int))), .int .i64 7] (by rfl) rfl rfl (by (try simp only [List.map_toArray, List.map_cons, List.map_nil]); first | done | rfl | (simp only [List.length_drop, List.length_take]; rfl)) ?_
         with_reducible refine (impl_Fixed.calls k (wrap64 (8 * (a0.size : Int))) 7 t109 _ A7.out).mono ?_
         rintro e w12 ⟨rfl, hb⟩
         refine ⟨_, rfl, ?_⟩
         have n0_ := Aside0.mk (Kd.R_below (by (with_reducible repeat (first | apply Kd.R_alloc | apply Kd.R_drewN | apply Kd.R_drew)); exact HO108.out) hb)
         have n1_ := Aside0.mk (below_step (by repeat (first | (with_reducible first | exact HB.out | apply below_alloc | apply pw_below_drewN | apply below_drew1) | exact HB.out)) hb)
         clear HO108
         clear HB
         have HO108 := n0_
         have HB := n1_
         clear n0_ n1_
         (try clear hb)
         (try clear hb2)
         (try clear hk)
         (try clear hi)
         refine hK.out _ _ trivial (fun hHeld => ?_)
         clear hK K
         refine norm_ (a' := ?_) ?_ ?_
         rotate_left
         ·show Act.put _ (some 28) _ = _
          simp only [Act.put, List.setIfInBounds_toArray, List.set_cons_zero, List.set_cons_succ, i64_w, i32_w]
          rfl
         refine one_ (i := 5) (N := some 25) #[true, true, true, true, true, true, false, true, true, false, false] rfl rfl (one_of HT_.out (by kernel_rfl)) (by decide) (fun K hK => ?_)
         have hcv13 := own_string (P := Tryd.prog) Tryd.underlying24 Tryd.underlying5 Tryd.underlying9 (Kd.own_of_R HO108.out)
         refine value_ (w1 := ?_) (v := ?_) (by rfl) rfl ?_ ?_
         rotate_left 2
         ·go_simp
          constructor
          ·rfl
          ·rfl
         clear hcv13
         refine hK.out _ _ trivial (fun hHeld => ?_)
         clear hK K
         refine norm_ (a' := ?_) ?_ ?_
         rotate_left
         ·show Act.put _ (some 25) _ = _
          simp only [Act.put, List.setIfInBounds_toArray, List.set_cons_zero, List.set_cons_succ, i64_w, i32_w]
          rfl
         refine pure_ (i := 6) (N := some 26) (v := ?_) (a' := ?_) #[true, true, true, true, true, true, true, true, true, false, false] rfl rfl (any_of HT_.out (by kernel_rfl)) (fun _ _ _ h => h) (Or.inl ⟨by rfl, ?_⟩) ?_ ?_
         rotate_left
         ·intro w'
          go_simp
          with_reducible rfl
         rotate_left
         ·simp only [Act.put, List.setIfInBounds_toArray, List.set_cons_zero, List.set_cons_succ, i64_w, i32_w]
          rfl
         exact norm_ (by simp only [putAll, Act.put, List.setIfInBounds_toArray, List.set_cons_zero, List.set_cons_succ]) (hCont (v107) _ ⟨(by (with_reducible repeat (first | apply Kd.R_alloc | apply Kd.R_drewN | apply Kd.R_drew)); exact HO108.out), (by repeat (first | (with_reducible first | exact HB.out | apply below_alloc | apply pw_below_drewN | apply below_drew1) | exact HB.out))⟩)
       ·skip
        refine goes_ Tryd.func38 (by kernel_rfl) rfl #[.int .i64 (wrap64 (8 * (a0.size : Int))), .int .i64 7] (by rfl) rfl rfl (by (try simp only [List.map_toArray, List.map_cons, List.map_nil]); first | done | rfl | (simp only [List.length_drop, List.length_take]; rfl)) ?_
        with_reducible refine (impl_Fixed.calls k (wrap64 (8 * (a0.size : Int))) 7 t109 _ A7.out).mono ?_
        rintro e w10 ⟨rfl, hb⟩
        refine ⟨_, rfl, ?_⟩
        have n0_ := Aside0.mk (below_step (by repeat (first | (with_reducible first | exact HB.out | apply below_alloc | apply pw_below_drewN | apply below_drew1) | exact HB.out)) hb)
        clear HB
        have HB := n0_
        clear n0_
        (try clear hb)
        (try clear hb2)
        (try clear hk)
        (try clear hi)
        refine hK.out _ _ trivial (fun hHeld => ?_)
        clear hK K
        refine norm_ (a' := ?_) ?_ ?_
        rotate_left
        ·show Act.put _ (some 28) _ = _
         simp only [Act.put, List.setIfInBounds_toArray, List.set_cons_zero, List.set_cons_succ, i64_w, i32_w]
         rfl
        refine one_ (i := 4) (N := some 24) #[true, true, true, true, true, false, false, true, true, false, false] rfl rfl (one_of HT_.out (by kernel_rfl)) (by decide) (fun K hK => ?_)
        refine Kd.R_make_step (Kd.int .u8) _ 5 (by rfl) (N := 24) rfl 24 _ _ rfl ji3 rfl rfl Tryd.underlying24 (.int .u8 0) 1 info5 rfl (by decide) (by omega) 0 (ok := fun _ => True) (okp := fun _ => True) rfl (fun _ hk => hk) trivial (of_decide_eq_true (by first | (with_reducible assumption) | assumption)) (Nat.le_trans (Nat.mul_le_mul_right _ (of_decide_eq_true (by first | (with_reducible assumption) | assumption) : ji3.toNat ≤ 281474976710656)) (by omega)) (Below.refl _ _) (Nat.le_refl _) ?_
        intro v107 w11 ho12 hb hg_ hnew_
        clear hg_ hnew_
        (first | rw [← Ny106.out] at ho12 | (simp only [Int.reduceToNat] at ho12; rw [← Ny106.out] at ho12))
        have n0_ := Aside0.mk (Kd.R_lower ho12 (below_size (by repeat (first | (with_reducible first | exact HB.out | apply below_alloc | apply pw_below_drewN | apply below_drew1) | exact HB.out))))
        have n1_ := Aside0.mk (below_step (by repeat (first | (with_reducible first | exact HB.out | apply below_alloc | apply pw_below_drewN | apply below_drew1) | exact HB.out)) hb)
        clear HB
        have HO108 := n0_
        have HB := n1_
        clear n0_ n1_
        clear hb ho12
        refine hK.out _ _ trivial (fun hHeld => ?_)
        clear hK K
        refine norm_ (a' := ?_) ?_ ?_
        rotate_left
        ·show Act.put _ (some 24) _ = _
         simp only [Act.put, List.setIfInBounds_toArray, List.set_cons_zero, List.set_cons_succ, i64_w, i32_w]
         rfl
        refine one_ (i := 5) (N := some 25) #[true, true, true, true, true, true, false, true, true, false, false] rfl rfl (one_of HT_.out (by kernel_rfl)) (by decide) (fun K hK => ?_)
        have hcv13 := own_string (P := Tryd.prog) Tryd.underlying24 Tryd.underlying5 Tryd.underlying9 (Kd.own_of_R HO108.out)
        refine value_ (w1 := ?_) (v := ?_) (by rfl) rfl ?_ ?_
        rotate_left 2
        ·go_simp
         constructor
         ·rfl
         ·rfl
        clear hcv13
        refine hK.out _ _ trivial (fun hHeld => ?_)
        clear hK K
        refine norm_ (a' := ?_) ?_ ?_
        rotate_left
        ·show Act.put _ (some 25) _ = _
         simp only [Act.put, List.setIfInBounds_toArray, List.set_cons_zero, List.set_cons_succ, i64_w, i32_w]
         rfl
        refine pure_ (i := 6) (N := some 26) (v := ?_) (a' := ?_) #[true, true, true, true, true, true, true, true, true, false, false] rfl rfl (any_of HT_.out (by kernel_rfl)) (fun _ _ _ h => h) (Or.inl ⟨by rfl, ?_⟩) ?_ ?_
        rotate_left
        ·intro w'
         go_simp
         with_reducible rfl
        rotate_left
        ·simp only [Act.put, List.setIfInBounds_toArray, List.set_cons_zero, List.set_cons_succ, i64_w, i32_w]
         rfl
        exact norm_ (by simp only [putAll, Act.put, List.setIfInBounds_toArray, List.set_cons_zero, List.set_cons_succ]) (hCont (v107) _ ⟨(by (with_reducible repeat (first | apply Kd.R_alloc | apply Kd.R_drewN | apply Kd.R_drew)); exact HO108.out), (by repeat (first | (with_reducible first | exact HB.out | apply below_alloc | apply pw_below_drewN | apply below_drew1) | exact HB.out))⟩)
      rintro v107 w14 ⟨h0_, h1_⟩
      have n0_ : Aside0 (Kd.R (Kd.int .u8) 5 w14 w.heap.size (fun _ => True) v107 y106) := ⟨h0_⟩
      have n1_ : Aside0 (Below w.heap.size w w14) := ⟨h1_⟩
      clear HB
      clear h0_ h1_
      have HO108 := n0_
      have HB := n1_
      clear n0_ n1_
      have hHeld := trivial
      refine norm_ (a' := ?_) ?_ ?_
      rotate_left
      ·simp only [putAll, Act.put, List.setIfInBounds_toArray, List.set_cons_zero, List.set_cons_succ]
       rfl
      refine pure_ (i := 9) (N := some 29) (v := ?_) (a' := ?_) #[true, true, true, true, true, true, true, true, true, true, false] rfl rfl (any_of HT_.out (by kernel_rfl)) (fun _ _ _ h => h) (Or.inl ⟨by rfl, ?_⟩) ?_ ?_
      rotate_left
      ·intro w'
       go_simp
       with_reducible rfl
      rotate_left
      ·simp only [Act.put, List.setIfInBounds_toArray, List.set_cons_zero, List.set_cons_succ, i64_w, i32_w]
       rfl
      refine pure_ (i := 10) (N := some 5) (v := ?_) (a' := ?_) #[true, true, true, true, true, true, true, true, true, true, true] rfl rfl (any_of HT_.out (by kernel_rfl)) (fun _ _ _ h => h) (Or.inl ⟨by rfl, ?_⟩) ?_ ?_
      rotate_left
      ·intro w'
       go_simp
       with_reducible rfl
      rotate_left
      ·simp only [Act.put, List.setIfInBounds_toArray, List.set_cons_zero, List.set_cons_succ, i64_w, i32_w]
       rfl
      refine done_ (done_of HT_.out (by kernel_rfl)) ?_
      obtain ⟨pp, hpp⟩ : ∃ q_ : ByteArray, a0 ++ (⟨#[128]⟩ : ByteArray) ++ strOfNums y106 ++ t109 = q_ := ⟨_, rfl⟩
      simp only [hpp]
      rw [hpp] at HL0 HG8
      obtain ⟨hg8, hgr, hgp⟩ := HG8.out
      have HG := Aside0.mk hg8
      have HGR := Aside0.mk hgr
      have I60 : Aside0 ((Tryd.prog.info? 60).map (·.size) = some 8) := ⟨by kernel_rfl⟩
      clear hpp HG8 hg8 hgr HO108 c2 c2b0 c2b1 c2b2 hji3 hji3w c4b0 c4b1 c5b0 c5b1 c6 c6b0 c6b1 c6c c8 c8b0 c8b1 c8c
      (try clear c6b2)
      (try clear c6b6)
      (try clear c8b2)
      (try clear c8b6)
      clear HT_ HW_ hHeld
      go_wp2_with (first
       | ((with_reducible refine gate_dst (N := 6) rfl ?_); refine box_event ?hg (N := 6) ?hd (cs := cU (List.replicate 8 0)) (t := 60) ?hr ?_; (case hd => rfl); (case hg => rfl); (case hr => first | (go_simp; done) | (go_simp; rfl)); intro gs hg w1 hbox hb; have HLT := Aside0.mk (hg ▸ HB.out.size : w.heap.size ≤ gs); have HV1 := Aside0.mk hbox; have HB1 := Aside0.mk (below_step HB.out hb); clear hb hbox hg)
       | ((with_reducible refine gate_store (t := 60) (p := 6) rfl ?_); refine wpList_store_row rfl 60 (.tmp 6) (.tmp 30) rfl gs (cU shaInit) rfl rfl 60 (cU (List.replicate 8 0)) HV1.out I60.out rfl (cU_one _) ?_; have HV2 : SS w (w1.setRow gs (cU shaInit)) gs shaInit := SS.put ⟨HB1.out, HLT.out, HV1.out⟩ shaInit; clear HV1 HB1 HLT))
      clear HB
      go_loopg [7] k (fun kq v7 W => ∃ (i : Nat) (st : List Int), v7 = .int .i64 i ∧ Aside0 (impl_Sha.l0 kq st pp i = some sf) ∧ Aside0 (kq ≤ k) ∧ Aside0 (st.length = 8) ∧ SS w W gs st)
      case atStart => exact ⟨0, shaInit, rfl, HL0, ⟨Nat.le_refl _⟩, ⟨rfl⟩, HV2⟩
      case round =>
       clear HL0 HV2
       obtain ⟨i, st, rfl, HA, HK1, H8, HW⟩ := hrel
       cases gk with
       | zero => exact absurd HA.out (by simp [impl_Sha.l0])
       | succ k1 =>
        have H := HA.out
        clear HA
        simp only [impl_Sha.l0] at H
        by_cases c1 : i < pp.size
        · rw [if_pos c1] at H
          by_cases c2 : i + 64 ≤ pp.size
          · rw [if_pos c2] at H
            have H' := Aside0.mk H
            clear H
            go_wp2
            have hw : IntKind.i64.wrap ((i : Int) + 64) = (i : Int) + 64 := IntWalk.i64_in _ (by omega)
            have hsl0 : (0 : Int) ≤ (i : Int) := by omega
            have hsl : ∀ w', (Instr.slice 9 (.string pp) (some (.int .i64 (i : Int))) (some (.int .i64 ((i : Int) + 64))) none).run Tryd.prog w' = .ok (.string (pp.extract i (i + 64))) w' := fun w' => by
              have h_ := run_slice_string (P := Tryd.prog) w' 9 pp .i64 .i64 (i : Int) ((i : Int) + 64) Tryd.underlying9 (by omega) (by omega) (by omega)
              rwa [show ((i : Int)).toNat = i from by omega, show ((i : Int) + 64).toNat = i + 64 from by omega] at h_
            have HCU := Aside0.mk ((cU_size st).trans H8.out)
            have HB8 := Aside0.mk ((shaB_len st (pp.extract i (i + 64))).trans H8.out)
            have HCB := Aside0.mk ((cU_size (shaB st (pp.extract i (i + 64)))).trans HB8.out)
            have HEX : Aside0 ((pp.extract i (i + 64)).size = 64) := ⟨by simp; omega⟩
            refine start_ (n := 8) (S := fun w' => w'.heap[gs]? = some (.cells (cU st) 60 (0, 0))) (ds := [7]) #[false, false, false, false, false, false, false, false] (by kernel_rfl) rfl rfl HW.drew.s (fun hHeld => ?_)
            refine pure_ (i := 1) (N := some 38) (v := ?_) (a' := ?_) #[false, true, false, false, false, false, false, false] rfl rfl (by kernel_rfl) (fun _ _ _ h => h) (Or.inl ⟨by rfl, ?_⟩) ?_ ?_
            rotate_left
            · intro w'
              go_simp
              with_reducible rfl
            rotate_left
            · simp only [Act.put, List.setIfInBounds_toArray, List.set_cons_zero, List.set_cons_succ, i64_w, i32_w]
              rfl
            refine pure_ (i := 2) (N := some 39) (v := ?_) (a' := ?_) #[false, true, true, false, false, false, false, false] rfl rfl (by kernel_rfl) (fun _ _ _ h => h) (Or.inl ⟨by rfl, ?_⟩) ?_ ?_
            rotate_left
            · intro w'
              go_simp
              with_reducible rfl
            rotate_left
            · simp only [Act.put, List.setIfInBounds_toArray, List.set_cons_zero, List.set_cons_succ, i64_w, i32_w]
              rfl
            refine pure_ (i := 3) (N := some 40) (v := ?_) (a' := ?_) #[false, true, true, true, false, false, false, false] rfl rfl (by kernel_rfl) (fun _ _ _ h => h) (Or.inl ⟨by rfl, ?_⟩) ?_ ?_
            rotate_left
            · intro w'
              go_simp
              with_reducible rfl
            rotate_left
            · simp only [Act.put, List.setIfInBounds_toArray, List.set_cons_zero, List.set_cons_succ, i64_w, i32_w]
              rfl
            refine pure_ (i := 4) (N := some 41) (v := ?_) (a' := ?_) #[false, true, true, true, true, false, false, false] rfl rfl (by kernel_rfl) (fun _ _ _ h => h) (Or.inl ⟨by rfl, ?_⟩) ?_ ?_
            rotate_left
            · intro w'
              go_simp
              with_reducible rfl
            rotate_left
            · simp only [Act.put, List.setIfInBounds_toArray, List.set_cons_zero, List.set_cons_succ, i64_w, i32_w]
              rfl
            refine pure_ (i := 5) (N := some 42) (v := ?_) (a' := ?_) #[false, true, true, true, true, true, false, false] rfl rfl (by kernel_rfl) (fun _ _ _ h => h) (Or.inl ⟨by rfl, ?_⟩) ?_ ?_
            rotate_left
            · intro w'
              go_simp
              with_reducible rfl
            rotate_left
            · simp only [Act.put, List.setIfInBounds_toArray, List.set_cons_zero, List.set_cons_succ, i64_w, i32_w]
              rfl
            refine take_ (i := 0) (N := some 37) (v := ?_) (a' := ?_) #[true, true, true, true, true, true, false, false] rfl rfl (by kernel_rfl) (fun _ _ _ h => h) (Or.inl ⟨by rfl, ?_⟩) hHeld ?_ ?_
            rotate_left
            · intro w' s0
              refine exec_load_row 60 (.tmp 6) ?_ gs ?_ 60 (cU st) (0, 0) _ s0 Tryd.underlying60 rfl (I60.out.trans (congrArg some HCU.out.symm))
              · rfl
              · rfl
            rotate_left
            · simp only [Act.put, List.setIfInBounds_toArray, List.set_cons_zero, List.set_cons_succ, i64_w, i32_w]
              rfl
            refine one_ (i := 6) (N := some 43) #[true, true, true, true, true, true, true, false] rfl rfl (by kernel_rfl) (by decide) (fun K hK => ?_)
            refine goes_ Tryd.func39 (by kernel_rfl) rfl #[.agg (cU st), .string (pp.extract i (i + 64))] (by rfl) rfl rfl (by simp only [List.map_toArray, List.map_cons, List.map_nil]; rfl) ?_
            with_reducible refine (impl_shaBlock.calls st (pp.extract i (i + 64)) _ H8.out HEX.out (HTAB.out.below (below_drew1 HW.b))).mono ?_
            rintro e w3 ⟨rfl, hb⟩
            refine ⟨_, rfl, ?_⟩
            have HW3 : SS w w3 gs st := HW.drew.below hb
            clear hb HW
            refine hK.out _ _ HW3.s (fun hHeld => ?_)
            clear hK K
            refine norm_ (a' := ?_) ?_ ?_
            rotate_left
            · show Act.put _ (some 43) _ = _
              simp only [Act.put, List.setIfInBounds_toArray, List.set_cons_zero, List.set_cons_succ, i64_w, i32_w]
              rfl
            refine last_ (i := 7) (N := none) #[true, true, true, true, true, true, true, true] rfl rfl (by kernel_rfl) (by decide) (fun K hK => ?_)
            refine skip_ (w1 := ?_) (by rfl) rfl ?_ ?_
            rotate_left
            · refine exec_store_row 60 (.tmp 6) (.tmp 43) ?_ gs (cU (shaB st (pp.extract i (i + 64)))) ?_ ?_ 60 (cU st) HW3.s (I60.out.trans (congrArg some HCB.out.symm)) (HCU.out.trans HCB.out.symm) (cU_one _)
              · rfl
              · rfl
              · rfl
            refine hK.out _ _ ?_
            clear hK
            clear K
            refine done_ (by kernel_rfl) ?_
            have HW4 := HW3.put (shaB st (pp.extract i (i + 64)))
            clear HW3 hHeld
            go_wp2
            go_roundg k1
            case measure => omega
            case rel => exact ⟨i + 64, shaB st (pp.extract i (i + 64)), by first | rfl | (simp; done), H', ⟨by have := HK1.out; omega⟩, HB8, HW4⟩
          · rw [if_neg c2] at H
            exact absurd H (by simp)
        · rw [if_neg c1] at H
          obtain rfl := Option.some.inj H
          have HCU := Aside0.mk ((cU_size st).trans H8.out)
          go_wp2_with (first
           | ((with_reducible refine gate_dst (N := 44) rfl ?_); refine wpList_load_row rfl 60 (.tmp 6) rfl gs rfl 60 (cU st) (0, 0) _ HW.s Tryd.underlying60 rfl (I60.out.trans (congrArg some HCU.out.symm)) ?_))
          go_loopg [8, 45] 8 (fun kq v8 v45 W => ∃ (i : Nat) (o : ByteArray), i + kq = 8 ∧ v8 = .string o ∧ v45 = .int .i64 i ∧ Aside0 (impl_Sha.l1 k st kq i o = some r) ∧ Aside0 (Below w.heap.size w W))
          case atStart => exact ⟨0, ⟨#[]⟩, rfl, rfl, rfl, HOUT, ⟨HW.b⟩⟩
          case round =>
           clear HOUT HW
           obtain ⟨i, o, hi, rfl, rfl, HA, HB⟩ := hrel
           have HI := Aside0.mk hi
           cases gk with
           | zero =>
            have H := HA.out
            clear HA
            simp only [impl_Sha.l1] at H
            obtain rfl := Option.some.inj H
            obtain rfl : i = 8 := by omega
            clear hi
            go_wp2
            go_ret
            exact ⟨by first | rfl | (simp; done), HB.out⟩
           | succ n =>
            have H := HA.out
            clear HA
            simp only [impl_Sha.l1] at H
            obtain ⟨t, ht, H⟩ := Option.bind_eq_some_iff.mp H
            have hlt : i < 8 := by omega
            obtain ⟨x, hx⟩ : ∃ x, st.getD i 0 = x := ⟨_, rfl⟩
            have hl : i < st.length := by rw [H8.out]; omega
            have hxm : 0 ≤ x ∧ x < 4294967296 := HGR.out x (by rw [← hx]; simp [List.getElem?_eq_getElem hl])
            obtain ⟨hx0, hx1⟩ := hxm
            rw [hx] at ht
            have HT := Aside0.mk ht
            by_cases c3 : o.size + t.size ≤ 9223372036854775807
            · rw [if_pos c3] at H
              have H' := Aside0.mk H
              have hci : (cU st)[i]? = some (.int .u32 x) := hx ▸ cU_get st i (by rw [H8.out]; omega)
              have hix : ∀ W, (Instr.index 60 (.agg (cU st)) (.int .i64 (i : Int))).run Tryd.prog W = .ok (.int .u32 x) W := index_at st i x hlt hci
              have hcv : IntKind.i64.wrap x = x := IntWalk.i64_in _ (by omega)
              have hsz9 : (9223372036854775807 < o.size + t.size) = False := eq_false (by omega)
              clear H ht hi hx hci
              go_wp2_with (go_at_call 38; (with_reducible refine (impl_Fixed.calls k x 4 t _ HT.out).mono ?_); rintro e w' ⟨rfl, hb⟩; have HB1 := Aside0.mk (below_step HB.out hb); clear hb)
              go_roundg n
              case measure => omega
              case rel => exact ⟨i + 1, o ++ t, by have := HI.out; omega, by first | rfl | (simp; done), by first | rfl | (simp; done), H', HB1⟩
            · rw [if_neg c3] at H
              exact absurd H (by simp)
     ·rw [if_neg c8] at H
      exact absurd H (by simp)
    ·rw [if_neg c6] at H
     exact absurd H (by simp)
   ·rw [if_neg c5] at H
    exact absurd H (by simp)
  ·rw [if_neg c4] at H
   exact absurd H (by simp)
 ·rw [if_neg c2] at H
  exact absurd H (by simp)

/-! ### impl_SnapOk: function 42 -/
def impl_SnapOk.f (a0_0 : Int) (a0_1 : Int) (a0_2 : ByteArray) : Option (Bool) := if (a0_0 == 0 && (a0_1 == 0 && (a0_2.toList == ([] : List UInt8)))) = true then (some true) else ((impl_within.f a0_0 1 100000).bind fun t107 => (if t107 = true then ((impl_within.f a0_1 1 100000).bind fun t108 => (if t108 = true then (some (decide ((a0_2.size : Int) ≤ 8000))) else (some false))) else (some false)))
set_option maxHeartbeats 8000000 in
set_option maxRecDepth 100000 in
theorem impl_SnapOk.calls (a0_0 : Int) (a0_1 : Int) (a0_2 : ByteArray) (r : Bool) (w : World) (h : impl_SnapOk.f a0_0 a0_1 a0_2 = some r) :
    Calls Tryd.prog 42 #[.agg #[.int .i64 a0_0, .int .i64 a0_1, .string a0_2]] w fun e w' => e = .returned (.bool r) ∧ Below w.heap.size w w' := by
  have hu27 := Tryd.underlying27
  have HB := Aside0.mk (Below.refl w.heap.size w)
  have H : (if (a0_0 == 0 && (a0_1 == 0 && (a0_2.toList == ([] : List UInt8)))) = true then (some true) else ((impl_within.f a0_0 1 100000).bind fun t107 => (if t107 = true then ((impl_within.f a0_1 1 100000).bind fun t108 => (if t108 = true then (some (decide ((a0_2.size : Int) ≤ 8000))) else (some false))) else (some false)))) = some r := h
  clear h
  by_cases c2 : (a0_0 == 0 && (a0_1 == 0 && (a0_2.toList == ([] : List UInt8)))) = true
  · rw [if_pos c2] at H
    have c2b0 : (a0_0 == 0 && (a0_1 == 0 && (a0_2.toList == ([] : List UInt8)))) = true := c2
    (try (have c2b8 : (a0_0 == 0 && (a0_1 == 0 && a0_2.toList.isEmpty)) = true := by simpa using c2))
    (try (have c2b1 : decide (a0_0 = 0 && (a0_1 == 0 && (a0_2.toList == ([] : List UInt8)))) = true := by simpa using c2))
    (try (have c2b2 : (a0_0 == 0 && (a0_1 == 0 && (a0_2.toList == ([] : List UInt8)))) = true := by simpa using c2))
    clear c2
    obtain rfl := Option.some.inj H
    go_enter Tryd.func42, Tryd.ntmps42
    go_wp2_with (first | ((with_reducible refine gate_dst (N := 1) rfl ?_); (try (refine gate_guard (by rfl) ?_; dsimp only)); refine box_event ?hg (N := 1) ?hd (cs := #[.int .i64 a0_0, .int .i64 a0_1, .string a0_2]) (t := 27) ?hr ?_; (case hd => rfl); (case hg => rfl); (case hr => first | (go_simp; done) | (go_simp; rfl)); intro gb106 hg w3 hbox hb; have n0_ := Aside0.mk (below_step (by repeat (first | (with_reducible first | exact HB.out | apply below_alloc | apply pw_below_drewN | apply below_drew1) | exact HB.out)) hb); have n1_ := Aside0.mk (hbox); have n2_ := Aside0.mk ((by rw [hg]; exact (below_size (by repeat (first | (with_reducible first | exact HB.out | apply below_alloc | apply pw_below_drewN | apply below_drew1) | exact HB.out))) : w.heap.size ≤ gb106)); have n3_ := Aside0.mk ((by rw [hg]; exact (below_size (by repeat (first | (with_reducible first | exact HB.out | apply below_alloc | apply pw_below_drewN | apply below_drew1) | exact HB.out))) : w.heap.size ≤ gb106)); clear HB; have HB := n0_; have BK106 := n1_; have GW106 := n2_; have GE106 := n3_; clear n0_ n1_ n2_ n3_; clear hb hbox hg; have hcz4_0 : w3.cell? ⟨gb106, 0, none⟩ = some (.int .i64 a0_0) := (blk_cell BK106.out 0).trans rfl; have hcz4_1 : w3.cell? ⟨gb106, 1, none⟩ = some (.int .i64 a0_1) := (blk_cell BK106.out 1).trans rfl; have hcz4_2 : w3.cell? ⟨gb106, 2, none⟩ = some (.string a0_2) := (blk_cell BK106.out 2).trans rfl; have hfz4_0 := blk_frozen BK106.out 0; have hfz4_1 := blk_frozen BK106.out 1; have hfz4_2 := blk_frozen BK106.out 2))
    go_ret
    exact ⟨by first | rfl | (simp [errW_none, errW_some] <;> rfl) | (simp [*, errW_none, errW_some] <;> rfl), by repeat (first | (with_reducible first | exact HB.out | apply below_alloc | apply pw_below_drewN | apply below_drew1 | refine below_set ?_ GE106.out) | exact HB.out)⟩
  · rw [if_neg c2] at H
    have c2b0 : (a0_0 == 0 && (a0_1 == 0 && (a0_2.toList == ([] : List UInt8)))) = false := by simpa using c2
    (try (have c2b8 : (a0_0 == 0 && (a0_1 == 0 && a0_2.toList.isEmpty)) = false := by simpa using c2))
    (try (have c2b1 : decide (a0_0 = 0 && (a0_1 == 0 && (a0_2.toList == ([] : List UInt8)))) = false := by simpa using c2))
    (try (have c2b2 : (a0_0 == 0 && (a0_1 == 0 && (a0_2.toList == ([] : List UInt8)))) = false := by simpa using c2))
    (try (have c2b3 : ¬ (a0_0 = 0 && (a0_1 == 0 && (a0_2.toList == ([] : List UInt8)))) := by simpa using c2))
    clear c2
    replace H := Option.bind_eq_some_iff.mp H
    obtain ⟨t107, A50, H⟩ := H
    replace H : (if t107 = true then ((impl_within.f a0_1 1 100000).bind fun t108 => (if t108 = true then (some (decide ((a0_2.size : Int) ≤ 8000))) else (some false))) else (some false)) = some r := H
    have A5 := Aside0.mk A50
    clear A50
    by_cases c6 : t107 = true
    · subst c6
      have H1 : ((impl_within.f a0_1 1 100000).bind fun t108 => (if t108 = true then (some (decide ((a0_2.size : Int) ≤ 8000))) else (some false))) = some r := by rw [if_pos rfl] at H; exact H
      clear H
      have H := H1
      clear H1
      replace H := Option.bind_eq_some_iff.mp H
      obtain ⟨t108, A70, H⟩ := H
      replace H : (if t108 = true then (some (decide ((a0_2.size : Int) ≤ 8000))) else (some false)) = some r := H
      have A7 := Aside0.mk A70
      clear A70
      by_cases c8 : t108 = true
      · subst c8
        have H1 : (some (decide ((a0_2.size : Int) ≤ 8000))) = some r := by rw [if_pos rfl] at H; exact H
        clear H
        have H := H1
        clear H1
        obtain rfl := Option.some.inj H
        go_enter Tryd.func42, Tryd.ntmps42
        go_wp2_with (first | ((with_reducible refine gate_dst (N := 1) rfl ?_); (try (refine gate_guard (by rfl) ?_; dsimp only)); refine box_event ?hg (N := 1) ?hd (cs := #[.int .i64 a0_0, .int .i64 a0_1, .string a0_2]) (t := 27) ?hr ?_; (case hd => rfl); (case hg => rfl); (case hr => first | (go_simp; done) | (go_simp; rfl)); intro gb106 hg w9 hbox hb; have n0_ := Aside0.mk (below_step (by repeat (first | (with_reducible first | exact HB.out | apply below_alloc | apply pw_below_drewN | apply below_drew1) | exact HB.out)) hb); have n1_ := Aside0.mk (hbox); have n2_ := Aside0.mk ((by rw [hg]; exact (below_size (by repeat (first | (with_reducible first | exact HB.out | apply below_alloc | apply pw_below_drewN | apply below_drew1) | exact HB.out))) : w.heap.size ≤ gb106)); have n3_ := Aside0.mk ((by rw [hg]; exact (below_size (by repeat (first | (with_reducible first | exact HB.out | apply below_alloc | apply pw_below_drewN | apply below_drew1) | exact HB.out))) : w.heap.size ≤ gb106)); clear HB; have HB := n0_; have BK106 := n1_; have GW106 := n2_; have GE106 := n3_; clear n0_ n1_ n2_ n3_; clear hb hbox hg; have hcz10_0 : w9.cell? ⟨gb106, 0, none⟩ = some (.int .i64 a0_0) := (blk_cell BK106.out 0).trans rfl; have hcz10_1 : w9.cell? ⟨gb106, 1, none⟩ = some (.int .i64 a0_1) := (blk_cell BK106.out 1).trans rfl; have hcz10_2 : w9.cell? ⟨gb106, 2, none⟩ = some (.string a0_2) := (blk_cell BK106.out 2).trans rfl; have hfz10_0 := blk_frozen BK106.out 0; have hfz10_1 := blk_frozen BK106.out 1; have hfz10_2 := blk_frozen BK106.out 2) | (go_at_call 67; (with_reducible refine (impl_within.calls a0_0 1 100000 true _ A5.out).mono ?_); rintro e w' ⟨rfl, ⟨nd, rfl⟩⟩) | (go_at_call 67; (with_reducible refine (impl_within.calls a0_1 1 100000 true _ A7.out).mono ?_); rintro e w' ⟨rfl, ⟨nd, rfl⟩⟩))
        go_ret
        exact ⟨by first | rfl | (simp [errW_none, errW_some] <;> rfl) | (simp [*, errW_none, errW_some] <;> rfl), by repeat (first | (with_reducible first | exact HB.out | apply below_alloc | apply pw_below_drewN | apply below_drew1 | refine below_set ?_ GE106.out) | exact HB.out)⟩
      · replace c8 := Bool.eq_false_iff.mpr c8
        subst c8
        have H1 : (some false) = some r := by rw [if_neg (show ¬ (false = true) by decide)] at H; exact H
        clear H
        have H := H1
        clear H1
        obtain rfl := Option.some.inj H
        go_enter Tryd.func42, Tryd.ntmps42
        go_wp2_with (first | ((with_reducible refine gate_dst (N := 1) rfl ?_); (try (refine gate_guard (by rfl) ?_; dsimp only)); refine box_event ?hg (N := 1) ?hd (cs := #[.int .i64 a0_0, .int .i64 a0_1, .string a0_2]) (t := 27) ?hr ?_; (case hd => rfl); (case hg => rfl); (case hr => first | (go_simp; done) | (go_simp; rfl)); intro gb106 hg w11 hbox hb; have n0_ := Aside0.mk (below_step (by repeat (first | (with_reducible first | exact HB.out | apply below_alloc | apply pw_below_drewN | apply below_drew1) | exact HB.out)) hb); have n1_ := Aside0.mk (hbox); have n2_ := Aside0.mk ((by rw [hg]; exact (below_size (by repeat (first | (with_reducible first | exact HB.out | apply below_alloc | apply pw_below_drewN | apply below_drew1) | exact HB.out))) : w.heap.size ≤ gb106)); have n3_ := Aside0.mk ((by rw [hg]; exact (below_size (by repeat (first | (with_reducible first | exact HB.out | apply below_alloc | apply pw_below_drewN | apply below_drew1) | exact HB.out))) : w.heap.size ≤ gb106)); clear HB; have HB := n0_; have BK106 := n1_; have GW106 := n2_; have GE106 := n3_; clear n0_ n1_ n2_ n3_; clear hb hbox hg; have hcz12_0 : w11.cell? ⟨gb106, 0, none⟩ = some (.int .i64 a0_0) := (blk_cell BK106.out 0).trans rfl; have hcz12_1 : w11.cell? ⟨gb106, 1, none⟩ = some (.int .i64 a0_1) := (blk_cell BK106.out 1).trans rfl; have hcz12_2 : w11.cell? ⟨gb106, 2, none⟩ = some (.string a0_2) := (blk_cell BK106.out 2).trans rfl; have hfz12_0 := blk_frozen BK106.out 0; have hfz12_1 := blk_frozen BK106.out 1; have hfz12_2 := blk_frozen BK106.out 2) | (go_at_call 67; (with_reducible refine (impl_within.calls a0_0 1 100000 true _ A5.out).mono ?_); rintro e w' ⟨rfl, ⟨nd, rfl⟩⟩) | (go_at_call 67; (with_reducible refine (impl_within.calls a0_1 1 100000 false _ A7.out).mono ?_); rintro e w' ⟨rfl, ⟨nd, rfl⟩⟩))
        go_ret
        exact ⟨by first | rfl | (simp [errW_none, errW_some] <;> rfl) | (simp [*, errW_none, errW_some] <;> rfl), by repeat (first | (with_reducible first | exact HB.out | apply below_alloc | apply pw_below_drewN | apply below_drew1 | refine below_set ?_ GE106.out) | exact HB.out)⟩
    · replace c6 := Bool.eq_false_iff.mpr c6
      subst c6
      have H1 : (some false) = some r := by rw [if_neg (show ¬ (false = true) by decide)] at H; exact H
      clear H
      have H := H1
      clear H1
      obtain rfl := Option.some.inj H
      go_enter Tryd.func42, Tryd.ntmps42
      go_wp2_with (first | ((with_reducible refine gate_dst (N := 1) rfl ?_); (try (refine gate_guard (by rfl) ?_; dsimp only)); refine box_event ?hg (N := 1) ?hd (cs := #[.int .i64 a0_0, .int .i64 a0_1, .string a0_2]) (t := 27) ?hr ?_; (case hd => rfl); (case hg => rfl); (case hr => first | (go_simp; done) | (go_simp; rfl)); intro gb106 hg w13 hbox hb; have n0_ := Aside0.mk (below_step (by repeat (first | (with_reducible first | exact HB.out | apply below_alloc | apply pw_below_drewN | apply below_drew1) | exact HB.out)) hb); have n1_ := Aside0.mk (hbox); have n2_ := Aside0.mk ((by rw [hg]; exact (below_size (by repeat (first | (with_reducible first | exact HB.out | apply below_alloc | apply pw_below_drewN | apply below_drew1) | exact HB.out))) : w.heap.size ≤ gb106)); have n3_ := Aside0.mk ((by rw [hg]; exact (below_size (by repeat (first | (with_reducible first | exact HB.out | apply below_alloc | apply pw_below_drewN | apply below_drew1) | exact HB.out))) : w.heap.size ≤ gb106)); clear HB; have HB := n0_; have BK106 := n1_; have GW106 := n2_; have GE106 := n3_; clear n0_ n1_ n2_ n3_; clear hb hbox hg; have hcz14_0 : w13.cell? ⟨gb106, 0, none⟩ = some (.int .i64 a0_0) := (blk_cell BK106.out 0).trans rfl; have hcz14_1 : w13.cell? ⟨gb106, 1, none⟩ = some (.int .i64 a0_1) := (blk_cell BK106.out 1).trans rfl; have hcz14_2 : w13.cell? ⟨gb106, 2, none⟩ = some (.string a0_2) := (blk_cell BK106.out 2).trans rfl; have hfz14_0 := blk_frozen BK106.out 0; have hfz14_1 := blk_frozen BK106.out 1; have hfz14_2 := blk_frozen BK106.out 2) | (go_at_call 67; (with_reducible refine (impl_within.calls a0_0 1 100000 false _ A5.out).mono ?_); rintro e w' ⟨rfl, ⟨nd, rfl⟩⟩))
      go_ret
      exact ⟨by first | rfl | (simp [errW_none, errW_some] <;> rfl) | (simp [*, errW_none, errW_some] <;> rfl), by repeat (first | (with_reducible first | exact HB.out | apply below_alloc | apply pw_below_drewN | apply below_drew1 | refine below_set ?_ GE106.out) | exact HB.out)⟩

/-! ### impl_Crc: function 72 -/
mutual
def impl_Crc.l0 : Nat → ByteArray → Int → Int → Option (Int)
  | 0, _, _, _ => none
  | k + 1, x0, x3, x4 => if x4 < (x0.size : Int) then (if 0 ≤ x4 then (impl_Crc.l1 k x0 (Go.bits .xor .i64 x3 (wrap64 (bt x0 x4))) x4 0) else (none)) else (some (wrap64 (4294967295 - x3)))
def impl_Crc.l1 : Nat → ByteArray → Int → Int → Int → Option (Int)
  | 0, _, _, _, _ => none
  | k + 1, x0, x3, x4, x18 => if x18 < 8 then (if (Go.bits .and .i64 x3 1) = 1 then (impl_Crc.l1 k x0 (Go.bits .xor .i64 (x3 / 2) 2197175160) x4 (wrap64 (x18 + 1))) else (impl_Crc.l1 k x0 (x3 / 2) x4 (wrap64 (x18 + 1)))) else (impl_Crc.l0 k x0 x3 (wrap64 (x4 + 1)))
end
def impl_Crc.f (k : Nat) (a0 : ByteArray) : Option (Int) := impl_Crc.l0 k a0 4294967295 0
theorem impl_Crc.mono_l : ∀ k, (∀ y0 y1 y2, LeO (impl_Crc.l0 k y0 y1 y2) (impl_Crc.l0 (k + 1) y0 y1 y2)) ∧ (∀ y0 y1 y2 y3, LeO (impl_Crc.l1 k y0 y1 y2 y3) (impl_Crc.l1 (k + 1) y0 y1 y2 y3))
  | 0 => ⟨fun _ _ _ r h => by simp [impl_Crc.l0] at h, fun _ _ _ _ r h => by simp [impl_Crc.l1] at h⟩
  | k + 1 => by
    obtain ⟨ih0, ih1⟩ := impl_Crc.mono_l k
    refine ⟨?_, ?_⟩
    · intro y0 y1 y2
      unfold impl_Crc.l0
      repeat' first
      | (with_reducible exact ih0 _ _ _)
      | (with_reducible exact ih1 _ _ _ _)
      | (with_reducible exact LeO.refl _)
      | (with_reducible exact LeO.none _)
      | (with_reducible refine LeO.ite ?_ ?_)
      | (with_reducible refine LeO.bind ?_ (fun _ => ?_))
      | exact ih0 _ _ _
      | exact ih1 _ _ _ _
      | exact LeO.none _
      | refine LeO.ite ?_ ?_
      | refine LeO.bind ?_ (fun _ => ?_)
    · intro y0 y1 y2 y3
      unfold impl_Crc.l1
      repeat' first
      | (with_reducible exact ih0 _ _ _)
      | (with_reducible exact ih1 _ _ _ _)
      | (with_reducible exact LeO.refl _)
      | (with_reducible exact LeO.none _)
      | (with_reducible refine LeO.ite ?_ ?_)
      | (with_reducible refine LeO.bind ?_ (fun _ => ?_))
      | exact ih0 _ _ _
      | exact ih1 _ _ _ _
      | exact LeO.none _
      | refine LeO.ite ?_ ?_
      | refine LeO.bind ?_ (fun _ => ?_)
theorem impl_Crc.mono : ∀ a0 k, LeO (impl_Crc.f k a0) (impl_Crc.f (k + 1) a0) := by
  intro a0 k
  obtain ⟨ih0, ih1⟩ := impl_Crc.mono_l k
  unfold impl_Crc.f
  repeat' first
      | (with_reducible exact ih0 _ _ _)
      | (with_reducible exact ih1 _ _ _ _)
      | (with_reducible exact LeO.refl _)
      | (with_reducible exact LeO.none _)
      | (with_reducible refine LeO.ite ?_ ?_)
      | (with_reducible refine LeO.bind ?_ (fun _ => ?_))
      | exact ih0 _ _ _
      | exact ih1 _ _ _ _
      | exact LeO.none _
      | refine LeO.ite ?_ ?_
      | refine LeO.bind ?_ (fun _ => ?_)
set_option maxHeartbeats 8000000 in
set_option maxRecDepth 100000 in
theorem impl_Crc.calls (k : Nat) (a0 : ByteArray) (r : Int) (w : World) (h : impl_Crc.f k a0 = some r) :
    Calls Tryd.prog 72 #[.string a0] w fun e w' => e = .returned (.int .i64 r) ∧ Drawn0 w w' := by
  have H : (impl_Crc.l0 k a0 4294967295 0) = some r := h
  clear h
  have H' := Aside0.mk H
  clear H
  go_enter Tryd.func72, Tryd.ntmps72
  go_wp2
  go_loopg [3, 4] k (fun kq v3 v4 w' => ∃ (x3_1 : Int) (x4_1 : Int), v3 = .int .i64 x3_1 ∧ v4 = .int .i64 x4_1 ∧ Aside0 (impl_Crc.l0 kq a0 x3_1 x4_1 = some r) ∧ Aside0 (kq ≤ k) ∧ Drawn0 w w')
  case atStart => exact ⟨(4294967295), (0), (by first | rfl | (simp; done) | (simp [*]; done)), (by first | rfl | (simp; done) | (simp [*]; done)), H', ⟨Nat.le_refl _⟩, by repeat (first | exact Drawn0.refl _ | apply Drawn0.step)⟩
  case round =>
    clear H'
    obtain ⟨x3_1, x4_1, rfl, rfl, HA, HK1, ⟨m1, rfl⟩⟩ := hrel
    cases gk with
    | zero => exact absurd HA.out (by simp [impl_Crc.l0])
    | succ k1 =>
      have H := HA.out
      clear HA
      simp only [impl_Crc.l0] at H
      by_cases c2 : x4_1 < (a0.size : Int)
      · rw [if_pos c2] at H
        have c2b0 : decide (x4_1 < (a0.size : Int)) = true := decide_eq_true c2
        clear c2
        by_cases c3 : 0 ≤ x4_1
        · rw [if_pos c3] at H
          have c3b0 : decide (0 ≤ x4_1) = true := decide_eq_true c3
          clear c3
          have H' := Aside0.mk H
          clear H
          have p4 : 0 ≤ (x4_1 : Int) := of_decide_eq_true (by first | (with_reducible assumption) | assumption)
          have q4 : x4_1 < (a0.size : Int) := of_decide_eq_true (by first | (with_reducible assumption) | assumption)
          have hx4 := bt_at a0 x4_1
          replace p4 := eq_true p4
          replace q4 := eq_true q4
          go_wp2
          go_loopg [3, 18] k1 (fun kq v3 v18 w' => ∃ (x3_2 : Int) (x18_2 : Int), v3 = .int .i64 x3_2 ∧ v18 = .int .i64 x18_2 ∧ Aside0 (impl_Crc.l1 kq a0 x3_2 x4_1 x18_2 = some r) ∧ Aside0 (kq ≤ k1) ∧ Drawn0 w w')
          case atStart => exact ⟨(Go.bits .xor .i64 x3_1 (wrap64 (bt a0 x4_1))), (0), (by first | rfl | (simp; done) | (simp [*]; done)), (by first | rfl | (simp; done) | (simp [*]; done)), H', ⟨Nat.le_refl _⟩, by repeat (first | exact Drawn0.refl _ | apply Drawn0.step)⟩
          case round =>
            clear H'
            try clear c2
            try clear c2b0
            try clear p2
            try clear c3
            try clear c3b0
            try clear p4
            try clear q4
            try clear hx4
            try clear p4
            try clear q4
            obtain ⟨x3_2, x18_2, rfl, rfl, HA, HK2, ⟨m2, rfl⟩⟩ := hrel
            cases gk with
            | zero => exact absurd HA.out (by simp [impl_Crc.l1])
            | succ k2 =>
              have H := HA.out
              clear HA
              simp only [impl_Crc.l1] at H
              by_cases c5 : x18_2 < 8
              · rw [if_pos c5] at H
                have c5b0 : decide (x18_2 < 8) = true := decide_eq_true c5
                clear c5
                by_cases c6 : (Go.bits .and .i64 x3_2 1) = 1
                · rw [if_pos c6] at H
                  have c6b0 : ((Go.bits .and .i64 x3_2 1) == 1) = true := beq_iff_eq.mpr c6
                  have c6b1 : ((Go.bits .and .i64 x3_2 1) != 1) = false := bne_eq_false_iff_eq.mpr c6
                  clear c6
                  have H' := Aside0.mk H
                  clear H
                  go_wp2
                  go_roundg k2
                  case measure => have := HK1.out; have := HK2.out; omega
                  case rel => exact ⟨(Go.bits .xor .i64 (x3_2 / 2) 2197175160), (wrap64 (x18_2 + 1)), (by first | rfl | (simp; done) | (simp [*]; done)), (by first | rfl | (simp; done) | (simp [*]; done)), H', ⟨by have := HK1.out; have := HK2.out; omega⟩, by repeat (first | exact Drawn0.refl _ | apply Drawn0.step)⟩
                · rw [if_neg c6] at H
                  have c6b0 : ((Go.bits .and .i64 x3_2 1) == 1) = false := beq_eq_false_iff_ne.mpr c6
                  have c6b1 : ((Go.bits .and .i64 x3_2 1) != 1) = true := bne_iff_ne.mpr c6
                  have H' := Aside0.mk H
                  clear H
                  go_wp2
                  go_roundg k2
                  case measure => have := HK1.out; have := HK2.out; omega
                  case rel => exact ⟨(x3_2 / 2), (wrap64 (x18_2 + 1)), (by first | rfl | (simp; done) | (simp [*]; done)), (by first | rfl | (simp; done) | (simp [*]; done)), H', ⟨by have := HK1.out; have := HK2.out; omega⟩, by repeat (first | exact Drawn0.refl _ | apply Drawn0.step)⟩
              · rw [if_neg c5] at H
                have c5b0 : decide (x18_2 < 8) = false := decide_eq_false c5
                clear c5
                have H' := Aside0.mk H
                clear H
                go_wp2
                go_roundg k2
                case measure => have := HK1.out; have := HK2.out; omega
                case rel => exact ⟨(x3_2), (wrap64 (x4_1 + 1)), (by first | rfl | (simp; done) | (simp [*]; done)), (by first | rfl | (simp; done) | (simp [*]; done)), H', ⟨by have := HK1.out; have := HK2.out; omega⟩, by repeat (first | exact Drawn0.refl _ | apply Drawn0.step)⟩
        · rw [if_neg c3] at H
          exact absurd H (by simp)
      · rw [if_neg c2] at H
        have c2b0 : decide (x4_1 < (a0.size : Int)) = false := decide_eq_false c2
        clear c2
        obtain rfl := Option.some.inj H
        go_wp2
        go_ret
        exact ⟨by first | rfl | (simp; done) | (simp [*]; done), by repeat (first | exact Drawn0.refl _ | apply Drawn0.step)⟩

end Go.Proofs.YtobkmpihjfiihaaDoor.PFnExactReadSnap
