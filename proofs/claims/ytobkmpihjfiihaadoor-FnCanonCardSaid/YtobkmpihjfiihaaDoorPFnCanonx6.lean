-- The machine side of a law: written by a program of this session (wip/tools), a turned print.
import Derived.Test.YtobkmpihjfiihaaDoorPFnCanonx0
import Derived.Test.YtobkmpihjfiihaaDoorPFnCanonx5
namespace Go.Proofs.YtobkmpihjfiihaaDoor.PFnCanon
open Go.RowKit Go.Proofs.YtobkmpihjfiihaaDoorW.PrintWords Go.Proofs.YtobkmpihjfiihaaDoorW.PrintLast Go.Proofs.YtobkmpihjfiihaaDoorW.PrintMore
attribute [local go_sem] max2_int min2_int max_two min_two max_three min_three max_four min_four   -- for this text's walks alone
set_option linter.unusedVariables false
set_option linter.unusedSimpArgs false
theorem exec_load_row {P : Program} {o : Oper} {a : Act} {w : World} (ty : TypeId) (x : Operand) (ho : o.op = .load ty x)
    (g : Nat) (hx : a.eval x = .pointer (some ⟨g, 0, none⟩)) (t : TypeId) (cs : Array Value) (fr : Nat × Nat) (d : TypeDesc) (hg : w.heap[g]? = some (.cells cs t fr))
    (hu : P.underlying ty = some d) (hd : (match d with | .struct _ | .array _ _ => true | _ => false) = true) (hi : (P.info? ty).map (·.size) = some cs.size) :
    (execOp a.eval o).run P w = .ok (.value (.agg cs)) w := by
  unfold execOp
  simp only [ho, hx, Instr.loadAt, Instr.sureAddr, Sem.run_bind, Sem.run_pure, Result.andThen_ok, run_loadVar_row w g t ty cs fr d hg hu hd hi]
theorem exec_store_row {P : Program} {o : Oper} {a : Act} {w : World} (ty : TypeId) (x y : Operand) (ho : o.op = .store ty x y)
    (g : Nat) (cells : Array Value) (hx : a.eval x = .pointer (some ⟨g, 0, none⟩)) (hy : a.eval y = .agg cells)
    (t : TypeId) (old : Array Value) (hg : w.heap[g]? = some (.cells old t (0, 0))) (hi : (P.info? ty).map (·.size) = some cells.size)
    (hold : old.size = cells.size) (h1 : cells.all (·.oneCell') = true) :
    (execOp a.eval o).run P w = .ok .skip (w.setRow g cells) := by
  unfold execOp
  simp only [ho, hx, hy, Instr.storeAt, Instr.sureAddr, Sem.run_bind, Sem.run_pure, Result.andThen_ok, run_storeVar_row w g t ty old cells hg hi hold h1]
/-- What a call of Sha has: the state's block. -/
structure SS (w W : World) (g : Nat) (st : List Int) : Prop where
  b : Below w.heap.size w W
  lt : w.heap.size ≤ g
  s : W.heap[g]? = some (.cells (cU st) 60 (0, 0))
theorem SS.put {w W : World} {g : Nat} {st : List Int} (h : SS w W g st) (l : List Int) : SS w (W.setRow g (cU l)) g l := ⟨below_row h.b h.lt _, h.lt, setRow_heap W g _ _ 60 _ h.s⟩
theorem SS.below {w W W1 : World} {g : Nat} {st : List Int} (h : SS w W g st) (hb : Below W.heap.size W W1) : SS w W1 g st := ⟨below_step h.b hb, h.lt, blk_below h.s hb⟩
theorem SS.drew {w W : World} {g : Nat} {st : List Int} (h : SS w W g st) : SS w W.drew g st := ⟨below_drew1 h.b, h.lt, h.s⟩
theorem SS.drewN {w W : World} {g : Nat} {st : List Int} (h : SS w W g st) (n : Nat) : SS w (W.drewN n) g st := ⟨pw_below_drewN h.b n, h.lt, h.s⟩
theorem index_at (st : List Int) (i : Nat) (x : Int) (hi : i < 8) (hc : (cU st)[i]? = some (.int .u32 x)) (W : World) : (Instr.index 60 (.agg (cU st)) (.int .i64 (i : Int))).run Tryd.prog W = .ok (.int .u32 x) W := by
  have h8 : (0 : Int) ≤ (i : Int) ∧ (i : Int) < ((8 : Nat) : Int) := by omega
  have hz : (sizeOf 59).run Tryd.prog W = .ok 1 W := by kernel_rfl
  simp only [Instr.index, asIntOf, Sem.run_bind, Sem.run_pure, Result.andThen_ok, run_underlying Tryd.underlying60, if_pos h8, hz, part, Tryd.isAgg59]
  simp [hc]
theorem shaB_len (s : List Int) (b : ByteArray) : (shaB s b).length = s.length := addsV_len _ _ _
def shaInit : List Int := [1779033703, 3144134277, 1013904242, 2773480762, 1359893119, 2600822924, 528734635, 1541459225]
def impl_Sha.pre (k : Nat) (a0 : ByteArray) : Option (ByteArray) := if a0.size + 1 ≤ 9223372036854775807 then (if 0 ≤ (wrap64 ((Int.tmod (wrap64 (64 - (Int.tmod (wrap64 ((a0.size : Int) + 9)) 64))) 64) + 1)) then (if (wrap64 ((Int.tmod (wrap64 (64 - (Int.tmod (wrap64 ((a0.size : Int) + 9)) 64))) 64) + 1) : Int).toNat ≤ 281474976710656 then ((some (List.replicate (wrap64 ((Int.tmod (wrap64 (64 - (Int.tmod (wrap64 ((a0.size : Int) + 9)) 64))) 64) + 1) : Int).toNat 0 : List Int)).bind fun y106 => (if (a0 ++ (⟨#[128]⟩ : ByteArray)).size + (strOfNums y106).size ≤ 9223372036854775807 then ((impl_Fixed.f k (wrap64 (8 * (a0.size : Int))) 7).bind fun t109 => (if ((a0 ++ (⟨#[128]⟩ : ByteArray)) ++ (strOfNums y106)).size + t109.size ≤ 9223372036854775807 then (some (((a0 ++ (⟨#[128]⟩ : ByteArray)) ++ (strOfNums y106)) ++ t109)) else (none))) else (none))) else (none)) else (none)) else (none)
theorem impl_Sha.pmono : ∀ a0 k, LeO (impl_Sha.pre k a0) (impl_Sha.pre (k + 1) a0) := by
 intro a0 k
 unfold impl_Sha.pre
 repeat' first
   | (with_reducible exact impl_Fixed.mono _ _ _)
   | (with_reducible exact LeO.refl _)
   | (with_reducible exact LeO.none _)
   | (with_reducible refine LeO.ite ?_ ?_)
   | (with_reducible refine LeO.bind ?_ (fun _ => ?_))
   | exact impl_Fixed.mono _ _ _
   | exact LeO.none _
   | refine LeO.ite ?_ ?_
   | refine LeO.bind ?_ (fun _ => ?_)
/-- The state behind the blocks from i on. -/
def impl_Sha.l0 : Nat → List Int → ByteArray → Nat → Option (List Int)
 | 0, _, _, _ => none
 | k + 1, s, p, i => if i < p.size then (if i + 64 ≤ p.size then impl_Sha.l0 k (shaB s (p.extract i (i + 64))) p (i + 64) else none) else some s
/-- The text of the words from i on, n of them. -/
def impl_Sha.l1 (k : Nat) (s : List Int) : Nat → Nat → ByteArray → Option ByteArray
 | 0, _, o => some o
 | n + 1, i, o => (impl_Fixed.f k (s.getD i 0) 4).bind fun t => if o.size + t.size ≤ 9223372036854775807 then impl_Sha.l1 k s n (i + 1) (o ++ t) else none
def impl_Sha.f (k : Nat) (a0 : ByteArray) : Option ByteArray := (impl_Sha.pre k a0).bind fun p => (impl_Sha.l0 k shaInit p 0).bind fun s => if (s.length = 8) ∧ (∀ x ∈ s, 0 ≤ x ∧ x < 4294967296) ∧ p.size ≤ 1152921504606846976 then impl_Sha.l1 k s 8 0 (⟨#[]⟩ : ByteArray) else none
def impl_Sha.T3 : Bool × List (List Nat × List Nat) := (true, [([], []), ([0], [0]), ([], []), ([2], [2]), ([3, 3], [3]), ([4], [4]), ([1, 5], [1, 5]), ([], []), ([7], [7]), ([6, 8], [6, 8]), ([9, 8, 0, 1, 2, 3, 4, 5, 6, 7, 8, 9], [9])])
def impl_Sha.B3 : List Nat := [0, 1, 0, 4, 12, 28, 63, 0, 128, 511, 1023]
theorem impl_Sha.tab3 : rtab .any (opsOf Tryd.f10 3) = impl_Sha.T3 := by kernel_rfl
theorem impl_Sha.bits3 : waitsOk impl_Sha.T3.2 impl_Sha.B3 = true := by kernel_rfl
theorem impl_Sha.mono_l0 : ∀ k s p i, LeO (impl_Sha.l0 k s p i) (impl_Sha.l0 (k + 1) s p i)
 | 0, _, _, _ => fun r h => by simp [impl_Sha.l0] at h
 | k + 1, s, p, i => by
  unfold impl_Sha.l0
  exact LeO.ite (LeO.ite (impl_Sha.mono_l0 k _ _ _) (LeO.none _)) (LeO.refl _)
theorem impl_Sha.mono_l1 (k : Nat) (s : List Int) : ∀ n i o, LeO (impl_Sha.l1 k s n i o) (impl_Sha.l1 (k + 1) s n i o)
 | 0, _, _ => LeO.refl _
 | n + 1, i, o => by
  unfold impl_Sha.l1
  exact LeO.bind (impl_Fixed.mono _ _ _) (fun _ => LeO.ite (impl_Sha.mono_l1 k s n _ _) (LeO.none _))
theorem impl_Sha.mono : ∀ a0 k, LeO (impl_Sha.f k a0) (impl_Sha.f (k + 1) a0) := fun a0 k =>
  LeO.bind (impl_Sha.pmono _ _) (fun _ => LeO.bind (impl_Sha.mono_l0 _ _ _ _) (fun _ => LeO.ite (impl_Sha.mono_l1 _ _ _ _ _) (LeO.none _)))
set_option maxHeartbeats 8000000 in
set_option maxRecDepth 100000 in
theorem impl_Sha.calls (k : Nat) (a0 : ByteArray) (r : ByteArray) (w : World) (h : impl_Sha.f k a0 = some r) (hTab : Tab w := by first | (with_reducible exact HTAB.out) | (with_reducible exact HTAB.out.below HB.out) | exact HTAB.out.below (by repeat (first | (with_reducible first | exact HB.out | apply below_alloc | apply pw_below_drewN | apply below_drew1 | refine below_set ?_ (Aside0.out (by assumption))) | exact HB.out))) :
  Calls Tryd.prog 10 #[.string a0] w fun e w' => e = .returned (.string r) ∧ Below w.heap.size w w' := by
 obtain ⟨p_, hp, h2⟩ := Option.bind_eq_some_iff.mp h
 obtain ⟨sf, hsf, h3⟩ := Option.bind_eq_some_iff.mp h2
 obtain ⟨hg, hout⟩ : ((sf.length = 8) ∧ (∀ x ∈ sf, 0 ≤ x ∧ x < 4294967296) ∧ p_.size ≤ 1152921504606846976) ∧ impl_Sha.l1 k sf 8 0 (⟨#[]⟩ : ByteArray) = some r := by
  by_cases hc : (sf.length = 8) ∧ (∀ x ∈ sf, 0 ≤ x ∧ x < 4294967296) ∧ p_.size ≤ 1152921504606846976
  · rw [if_pos hc] at h3; exact ⟨hc, h3⟩
  · rw [if_neg hc] at h3; exact absurd h3 (by simp)
 have HG8 := Aside0.mk hg
 have HL0 := Aside0.mk hsf
 have HOUT := Aside0.mk hout
 have HTAB := Aside0.mk hTab
 clear h h2 h3 hg hsf hout hTab; have HB := Aside0.mk (Below.refl w.heap.size w)
 have H : (if a0.size + 1 ≤ 9223372036854775807 then (if 0 ≤ (wrap64 ((Int.tmod (wrap64 (64 - (Int.tmod (wrap64 ((a0.size : Int) + 9)) 64))) 64) + 1)) then (if (wrap64 ((Int.tmod (wrap64 (64 - (Int.tmod (wrap64 ((a0.size : Int) + 9)) 64))) 64) + 1) : Int).toNat ≤ 281474976710656 then ((some (List.replicate (wrap64 ((Int.tmod (wrap64 (64 - (Int.tmod (wrap64 ((a0.size : Int) + 9)) 64))) 64) + 1) : Int).toNat 0 : List Int)).bind fun y106 => (if (a0 ++ (⟨#[128]⟩ : ByteArray)).size + (strOfNums y106).size ≤ 9223372036854775807 then ((impl_Fixed.f k (wrap64 (8 * (a0.size : Int))) 7).bind fun t109 => (if ((a0 ++ (⟨#[128]⟩ : ByteArray)) ++ (strOfNums y106)).size + t109.size ≤ 9223372036854775807 then (some (((a0 ++ (⟨#[128]⟩ : ByteArray)) ++ (strOfNums y106)) ++ t109)) else (none))) else (none))) else (none)) else (none)) else (none)) = some p_ := hp
 clear hp
 by_cases c2 : a0.size + 1 ≤ 9223372036854775807
 ·rw [if_pos c2] at H
  have c2b0 := eq_true c2
  have c2b1 : decide (a0.size + 1 ≤ 9223372036854775807) = true := decide_eq_true c2
  try have c2b2 : (9223372036854775807 < a0.size + 1) = False := eq_false (Nat.not_lt.2 c2)
  obtain ⟨ji3, hji3⟩ : ∃ j_ : Int, (wrap64 ((Int.tmod (wrap64 (64 - (Int.tmod (wrap64 ((a0.size : Int) + 9)) 64))) 64) + 1)) = j_ := ⟨_, rfl⟩
  replace H : (if 0 ≤ (ji3) then (if (ji3 : Int).toNat ≤ 281474976710656 then ((some (List.replicate (ji3 : Int).toNat 0 : List Int)).bind fun y106 => (if (a0 ++ (⟨#[128]⟩ : ByteArray)).size + (strOfNums y106).size ≤ 9223372036854775807 then ((impl_Fixed.f k (wrap64 (8 * (a0.size : Int))) 7).bind fun t109 => (if ((a0 ++ (⟨#[128]⟩ : ByteArray)) ++ (strOfNums y106)).size + t109.size ≤ 9223372036854775807 then (some (((a0 ++ (⟨#[128]⟩ : ByteArray)) ++ (strOfNums y106)) ++ t109)) else (none))) else (none))) else (none)) else (none)) = some p_ := by first | (rw [hji3] at H; exact H) | (simp only [hji3] at H ⊢; exact H)
  have hji3w : (IntKind.i64.wrap ((Int.tmod (wrap64 (64 - (Int.tmod (wrap64 ((a0.size : Int) + 9)) 64))) 64) + 1)) = ji3 := (i64_w _).trans hji3
  by_cases c4 : 0 ≤ (ji3)
  ·rw [if_pos c4] at H
   have c4b0 := eq_true c4
   have c4b1 : decide (0 ≤ (ji3)) = true := decide_eq_true c4
   clear c4
   by_cases c5 : (ji3 : Int).toNat ≤ 281474976710656
   ·rw [if_pos c5] at H
    have c5b0 := eq_true c5
    have c5b1 : decide ((ji3 : Int).toNat ≤ 281474976710656) = true := decide_eq_true c5
    clear c5; obtain ⟨y106, hy106⟩ : ∃ y_ : List Int, y_ = (List.replicate (ji3 : Int).toNat 0) := ⟨_, rfl⟩
    replace H : (if (a0 ++ (⟨#[128]⟩ : ByteArray)).size + (strOfNums y106).size ≤ 9223372036854775807 then ((impl_Fixed.f k (wrap64 (8 * (a0.size : Int))) 7).bind fun t109 => (if ((a0 ++ (⟨#[128]⟩ : ByteArray)) ++ (strOfNums y106)).size + t109.size ≤ 9223372036854775807 then (some (((a0 ++ (⟨#[128]⟩ : ByteArray)) ++ (strOfNums y106)) ++ t109)) else (none))) else (none)) = some p_ := by first | (rw [hy106]; with_reducible exact H) | (have H2_ := (Option.bind_some _ _).symm.trans H; rw [hy106]; with_reducible exact H2_) | (have H2_ := (Option.bind_some _ _).symm.trans H; with_reducible exact H2_) | with_reducible exact H | (rw [hy106]; exact H) | exact H
    have Ny106 := Aside0.mk hy106
    clear hy106
    by_cases c6 : (a0 ++ (⟨#[128]⟩ : ByteArray)).size + (strOfNums y106).size ≤ 9223372036854775807
    ·rw [if_pos c6] at H
     have c6b0 := eq_true c6
     have c6b1 : decide ((a0 ++ (⟨#[128]⟩ : ByteArray)).size + (strOfNums y106).size ≤ 9223372036854775807) = true := decide_eq_true c6
     try have c6b2 : (9223372036854775807 < (a0 ++ (⟨#[128]⟩ : ByteArray)).size + (strOfNums y106).size) = False := eq_false (Nat.not_lt.2 c6)
     try have c6b6 : (9223372036854775807 < (a0.size + (⟨#[128]⟩ : ByteArray).size) + (strOfNums y106).size) = False := eq_false (by have h_ := c6; simp only [ByteArray.size_append] at h_; omega)
     try have c6b6 : (9223372036854775807 < (a0.size + (⟨#[128]⟩ : ByteArray).size) + (strOfNums y106).size) = False := eq_false (by have h_ := c6; simp only [ByteArray.size_append] at h_; omega)
     have c6c : (9223372036854775807 < a0.size + 1 + (strOfNums y106).size) = False := eq_false (by have h_ := c6; simp only [ByteArray.size_append] at h_; have e_ : (⟨#[128]⟩ : ByteArray).size = 1 := rfl; omega)
     replace H := Option.bind_eq_some_iff.mp H
     obtain ⟨t109, A70, H⟩ := H
     replace H : (if ((a0 ++ (⟨#[128]⟩ : ByteArray)) ++ (strOfNums y106)).size + t109.size ≤ 9223372036854775807 then (some (((a0 ++ (⟨#[128]⟩ : ByteArray)) ++ (strOfNums y106)) ++ t109)) else (none)) = some p_ := H
     have A7 := Aside0.mk A70
     clear A70
     by_cases c8 : ((a0 ++ (⟨#[128]⟩ : ByteArray)) ++ (strOfNums y106)).size + t109.size ≤ 9223372036854775807
     ·rw [if_pos c8] at H
      have c8b0 := eq_true c8
      have c8b1 : decide (((a0 ++ (⟨#[128]⟩ : ByteArray)) ++ (strOfNums y106)).size + t109.size ≤ 9223372036854775807) = true := decide_eq_true c8
      try have c8b2 : (9223372036854775807 < ((a0 ++ (⟨#[128]⟩ : ByteArray)) ++ (strOfNums y106)).size + t109.size) = False := eq_false (Nat.not_lt.2 c8)
      try have c8b6 : (9223372036854775807 < ((a0.size + (⟨#[128]⟩ : ByteArray).size) + (strOfNums y106).size) + t109.size) = False := eq_false (by have h_ := c8; simp only [ByteArray.size_append] at h_; omega)
      try have c8b6 : (9223372036854775807 < ((a0.size + (⟨#[128]⟩ : ByteArray).size) + (strOfNums y106).size) + t109.size) = False := eq_false (by have h_ := c8; simp only [ByteArray.size_append] at h_; omega)
      have c8c : (9223372036854775807 < a0.size + 1 + (strOfNums y106).size + t109.size) = False := eq_false (by have h_ := c8; simp only [ByteArray.size_append] at h_; have e_ : (⟨#[128]⟩ : ByteArray).size = 1 := rfl; omega)
      obtain rfl := Option.some.inj H
      go_enter Tryd.func10, Tryd.ntmps10
      try go_wp2
      have n0_ := Aside0.mk (below_drew1 HB.out)
      clear HB; have HB := n0_; clear n0_; refine start_ (n := 11) (S := fun w' => True) (ds := []) #[ff,ff,ff,ff,ff,ff,ff,ff,ff,ff,ff] (by kernel_rfl) rfl rfl trivial (fun hHeld => ?_); refine with_tabW impl_Sha.tab3 impl_Sha.bits3 (fun HT_ HW_ => ?_)
      (first | (rw [drewN_self w]; generalize hq_ : World.drewN w _ = wq_ at hHeld ⊢; replace HB : Aside0 (Below w.heap.size w wq_.drew) := ⟨by rw [← hq_]; exact below_drew1 (pw_below_drewN (Below.refl _ _) _)⟩; clear hq_; generalize wq_.drew = w9 at HB hHeld ⊢) | (generalize w.drew = w9 at HB hHeld ⊢))
      refine pu 0 20 (tb 11 1) HT_ ?_
      refine pu 1 21 (tb 11 3) HT_ ?_
      refine pu 2 22 (tb 11 7) HT_ ?_
      refine pu 3 23 (tb 11 15) HT_ ?_
      refine pu 7 27 (tb 11 143) HT_ ?_
      refine join_ (σ := Value) 2 #[tt,tt,tt,tt,tt,tt,tt,tt,tt,ff,ff] (fun s_ => [(24, s_), (25, .string (strOfNums y106)), (28, .string t109), (26, .string ((a0 ++ (⟨#[128]⟩ : ByteArray)) ++ (strOfNums y106)))]) (fun s_ w' => (Kd.R (Kd.int .u8) 5 w' w.heap.size (fun _ => True) s_ y106) ∧ (Below w.heap.size w w')) ?_ ?_
      rotate_left
      ·intro hCont; refine two_ (i := 4) (j := 8) (Ni := some 24) (Nj := some 28) #[tt,tt,tt,tt,tt,ff,ff,tt,ff,ff,ff] #[tt,tt,tt,tt,ff,ff,ff,tt,tt,ff,ff] rfl rfl rfl rfl (two_of HT_.out (by kernel_rfl)) (by decide) (by decide) (fun K hK => ?_) (fun K hK => ?_)
       ·skip
        refine Kd.R_make_step (Kd.int .u8) _ 5 (by rfl) (N := 24) rfl 24 _ _ rfl ji3 rfl rfl Tryd.underlying24 (.int .u8 0) 1 info5 rfl (by decide) (by omega) 0 (ok := fun _ => True) (okp := fun _ => True) rfl (fun _ hk => hk) trivial (of_decide_eq_true (by first | (with_reducible assumption) | assumption)) (Nat.le_trans (Nat.mul_le_mul_right _ (of_decide_eq_true (by first | (with_reducible assumption) | assumption) : ji3.toNat ≤ 281474976710656)) (by omega)) (Below.refl _ _) (Nat.le_refl _) ?_
        intro v107 w10 ho11 hb hg_ hnew_
        clear hg_ hnew_
        (first | rw [← Ny106.out] at ho11 | (simp only [Int.reduceToNat] at ho11; rw [← Ny106.out] at ho11))
        have a9a := Aside0.mk (Kd.R_lower ho11 (below_size (be HB)))
        replace HB := bh HB hb
        clear hb ho11; refine hK.out _ _ trivial (fun hHeld => ?_)
        clear hK K; refine norm_ (a' := ?_) ?_ ?_
        rotate_left
        ·show Act.put _ (some 24) _ = _
         simp only [putL, i64_w, i32_w]; rfl
        refine two_ (i := 5) (j := 8) (Ni := some 25) (Nj := some 28) #[tt,tt,tt,tt,tt,tt,ff,tt,ff,ff,ff] #[tt,tt,tt,tt,tt,ff,ff,tt,tt,ff,ff] rfl rfl rfl rfl (two_of HT_.out (by kernel_rfl)) (by decide) (by decide) (fun K hK => ?_) (fun K hK => ?_)
        ·skip
         have hcv12 := own_string (P := Tryd.prog) Tryd.underlying24 Tryd.underlying5 Tryd.underlying9 (Kd.own_of_R a9a.out)
         refine value_ (w1 := ?_) (v := ?_) (by rfl) rfl ?_ ?_
         rotate_left 2
         ·go_simp
          constructor
          ·rfl
          ·rfl
         clear hcv12; refine hK.out _ _ trivial (fun hHeld => ?_)
         clear hK K; refine norm_ (a' := ?_) ?_ ?_
         rotate_left
         ·show Act.put _ (some 25) _ = _
          simp only [putL, i64_w, i32_w]; rfl
         refine pu 6 26 (tb 11 255) HT_ ?_
         refine one_ (i := 8) (N := some 28) #[tt,tt,tt,tt,tt,tt,tt,tt,tt,ff,ff] rfl rfl (one_of HT_.out (by kernel_rfl)) (by decide) (fun K hK => ?_)
         refine goes_ Tryd.func38 (by kernel_rfl) rfl #[.int .i64 (wrap64 (8 * (a0.size : Int))), .int .i64 7] (by rfl) rfl rfl (by (try simp only [List.map_toArray, List.map_cons, List.map_nil]); first | done | rfl | (simp only [List.length_drop, List.length_take]; rfl)) ?_
         with_reducible refine (impl_Fixed.calls k (wrap64 (8 * (a0.size : Int))) 7 t109 _ A7.out).mono ?_
         rintro e w13 ⟨rfl, hb⟩
         refine ⟨_, rfl, ?_⟩
         replace a9a := Aside0.mk (Kd.R_below (rr a9a) hb); replace HB := bh HB hb
         (try clear hb); (try clear hb2); (try clear hk); (try clear hi); refine hK.out _ _ trivial (fun hHeld => ?_)
         clear hK K; refine norm_ (a' := ?_) ?_ ?_
         rotate_left
         ·show Act.put _ (some 28) _ = _
          simp only [putL, i64_w, i32_w]; rfl
         exact norm_ (by simp only [putAll, putL]) (hCont (v107) _ ⟨(rr a9a), (be HB)⟩)
        ·skip
         refine goes_ Tryd.func38 (by kernel_rfl) rfl #[.int .i64 (wrap64 (8 * (a0.size : Int))), .int .i64 7] (by rfl) rfl rfl (by (try simp only [List.map_toArray, List.map_cons, List.map_nil]); first | done | rfl | (simp only [List.length_drop, List.length_take]; rfl)) ?_
         with_reducible refine (impl_Fixed.calls k (wrap64 (8 * (a0.size : Int))) 7 t109 _ A7.out).mono ?_
         rintro e w12 ⟨rfl, hb⟩
         refine ⟨_, rfl, ?_⟩
         replace a9a := Aside0.mk (Kd.R_below (rr a9a) hb); replace HB := bh HB hb
         (try clear hb); (try clear hb2); (try clear hk); (try clear hi); refine hK.out _ _ trivial (fun hHeld => ?_)
         clear hK K; refine norm_ (a' := ?_) ?_ ?_
         rotate_left
         ·show Act.put _ (some 28) _ = _
          simp only [putL, i64_w, i32_w]; rfl
         refine one_ (i := 5) (N := some 25) #[tt,tt,tt,tt,tt,tt,ff,tt,tt,ff,ff] rfl rfl (one_of HT_.out (by kernel_rfl)) (by decide) (fun K hK => ?_)
         have hcv13 := own_string (P := Tryd.prog) Tryd.underlying24 Tryd.underlying5 Tryd.underlying9 (Kd.own_of_R a9a.out)
         refine value_ (w1 := ?_) (v := ?_) (by rfl) rfl ?_ ?_
         rotate_left 2
         ·go_simp
          constructor
          ·rfl
          ·rfl
         clear hcv13; refine hK.out _ _ trivial (fun hHeld => ?_)
         clear hK K; refine norm_ (a' := ?_) ?_ ?_
         rotate_left
         ·show Act.put _ (some 25) _ = _
          simp only [putL, i64_w, i32_w]; rfl
         refine pu 6 26 (tb 11 511) HT_ ?_
         exact norm_ (by simp only [putAll, putL]) (hCont (v107) _ ⟨(rr a9a), (be HB)⟩)
       ·skip
        refine goes_ Tryd.func38 (by kernel_rfl) rfl #[.int .i64 (wrap64 (8 * (a0.size : Int))), .int .i64 7] (by rfl) rfl rfl (by (try simp only [List.map_toArray, List.map_cons, List.map_nil]); first | done | rfl | (simp only [List.length_drop, List.length_take]; rfl)) ?_
        with_reducible refine (impl_Fixed.calls k (wrap64 (8 * (a0.size : Int))) 7 t109 _ A7.out).mono ?_
        rintro e w10 ⟨rfl, hb⟩
        refine ⟨_, rfl, ?_⟩
        replace HB := bh HB hb
        (try clear hb); (try clear hb2); (try clear hk); (try clear hi); refine hK.out _ _ trivial (fun hHeld => ?_)
        clear hK K; refine norm_ (a' := ?_) ?_ ?_
        rotate_left
        ·show Act.put _ (some 28) _ = _
         simp only [putL, i64_w, i32_w]; rfl
        refine one_ (i := 4) (N := some 24) #[tt,tt,tt,tt,tt,ff,ff,tt,tt,ff,ff] rfl rfl (one_of HT_.out (by kernel_rfl)) (by decide) (fun K hK => ?_)
        refine Kd.R_make_step (Kd.int .u8) _ 5 (by rfl) (N := 24) rfl 24 _ _ rfl ji3 rfl rfl Tryd.underlying24 (.int .u8 0) 1 info5 rfl (by decide) (by omega) 0 (ok := fun _ => True) (okp := fun _ => True) rfl (fun _ hk => hk) trivial (of_decide_eq_true (by first | (with_reducible assumption) | assumption)) (Nat.le_trans (Nat.mul_le_mul_right _ (of_decide_eq_true (by first | (with_reducible assumption) | assumption) : ji3.toNat ≤ 281474976710656)) (by omega)) (Below.refl _ _) (Nat.le_refl _) ?_
        intro v107 w11 ho12 hb hg_ hnew_
        clear hg_ hnew_
        (first | rw [← Ny106.out] at ho12 | (simp only [Int.reduceToNat] at ho12; rw [← Ny106.out] at ho12))
        have a9a := Aside0.mk (Kd.R_lower ho12 (below_size (be HB)))
        replace HB := bh HB hb
        clear hb ho12; refine hK.out _ _ trivial (fun hHeld => ?_)
        clear hK K; refine norm_ (a' := ?_) ?_ ?_
        rotate_left
        ·show Act.put _ (some 24) _ = _
         simp only [putL, i64_w, i32_w]; rfl
        refine one_ (i := 5) (N := some 25) #[tt,tt,tt,tt,tt,tt,ff,tt,tt,ff,ff] rfl rfl (one_of HT_.out (by kernel_rfl)) (by decide) (fun K hK => ?_)
        have hcv13 := own_string (P := Tryd.prog) Tryd.underlying24 Tryd.underlying5 Tryd.underlying9 (Kd.own_of_R a9a.out)
        refine value_ (w1 := ?_) (v := ?_) (by rfl) rfl ?_ ?_
        rotate_left 2
        ·go_simp
         constructor
         ·rfl
         ·rfl
        clear hcv13; refine hK.out _ _ trivial (fun hHeld => ?_)
        clear hK K; refine norm_ (a' := ?_) ?_ ?_
        rotate_left
        ·show Act.put _ (some 25) _ = _
         simp only [putL, i64_w, i32_w]; rfl
        refine pu 6 26 (tb 11 511) HT_ ?_
        exact norm_ (by simp only [putAll, putL]) (hCont (v107) _ ⟨(rr a9a), (be HB)⟩)
      rintro v107 w14 ⟨h0_, h1_⟩
      have n0_ : Aside0 (Kd.R (Kd.int .u8) 5 w14 w.heap.size (fun _ => True) v107 y106) := ⟨h0_⟩
      have n1_ : Aside0 (Below w.heap.size w w14) := ⟨h1_⟩
      clear HB; clear h0_ h1_; have a9a := n0_; have HB := n1_; clear n0_ n1_; have hHeld := trivial
      refine norm_ (a' := ?_) ?_ ?_
      rotate_left
      ·simp only [putAll, putL]; rfl
      refine pu 9 29 (tb 11 1023) HT_ ?_
      refine pu 10 5 (tb 11 2047) HT_ ?_
      refine done_ (done_of HT_.out (by kernel_rfl)) ?_
      obtain ⟨pp, hpp⟩ : ∃ q_ : ByteArray, a0 ++ (⟨#[128]⟩ : ByteArray) ++ strOfNums y106 ++ t109 = q_ := ⟨_, rfl⟩
      simp only [hpp]; rw [hpp] at HL0 HG8
      obtain ⟨hg8, hgr, hgp⟩ := HG8.out
      have HG := Aside0.mk hg8
      have HGR := Aside0.mk hgr
      have I60 : Aside0 ((Tryd.prog.info? 60).map (·.size) = some 8) := ⟨by kernel_rfl⟩
      clear hpp HG8 hg8 hgr a9a c2 c2b0 c2b1 c2b2 hji3 hji3w c4b0 c4b1 c5b0 c5b1 c6 c6b0 c6b1 c6c c8 c8b0 c8b1 c8c; clear HT_ HW_ hHeld
      go_wp2_with (first
       | ((with_reducible refine gate_dst (N := 6) rfl ?_); refine box_event ?hg (N := 6) ?hd (cs := cU (List.replicate 8 0)) (t := 60) ?hr ?_; (case hd => rfl); (case hg => rfl); (case hr => first | (go_simp; done) | (go_simp; rfl)); intro gs hg w1 hbox hb; have HLT := Aside0.mk (hg ▸ HB.out.size : w.heap.size ≤ gs); have HV1 := Aside0.mk hbox; have HB1 := Aside0.mk (below_step HB.out hb); clear hb hbox hg)
       | ((with_reducible refine gate_store (t := 60) (p := 6) rfl ?_); refine wpList_store_row rfl 60 (.tmp 6) (.tmp 30) rfl gs (cU shaInit) rfl rfl 60 (cU (List.replicate 8 0)) HV1.out I60.out rfl (cU_one _) ?_; have HV2 : SS w (w1.setRow gs (cU shaInit)) gs shaInit := SS.put ⟨HB1.out, HLT.out, HV1.out⟩ shaInit; clear HV1 HB1 HLT))
      clear HB
      go_loopg [7] k (fun kq v7 W => ∃ (i : Nat) (st : List Int), v7 = .int .i64 i ∧ Aside0 (impl_Sha.l0 kq st pp i = some sf) ∧ Aside0 (kq ≤ k) ∧ Aside0 (st.length = 8) ∧ SS w W gs st)
      case atStart => exact ⟨0, shaInit, rfl, HL0, ⟨Nat.le_refl _⟩, ⟨rfl⟩, HV2⟩
      case round =>
       clear HL0 HV2; obtain ⟨i, st, rfl, HA, HK1, H8, HW⟩ := hrel
       cases gk with
       | zero => exact absurd HA.out (by simp [impl_Sha.l0])
       | succ k1 =>
        have H := HA.out; clear HA; simp only [impl_Sha.l0] at H
        by_cases c1 : i < pp.size
        · rw [if_pos c1] at H
          by_cases c2 : i + 64 ≤ pp.size
          · rw [if_pos c2] at H
            have H' := Aside0.mk H
            clear H
            go_wp2
            have hw : IntKind.i64.wrap ((i : Int) + 64) = (i : Int) + 64 := IntWalk.i64_in _ (by omega)
            have hsl0 : (0 : Int) ≤ (i : Int) := by omega
            have hsl : ∀ w', (Instr.slice 9 (.string pp) (some (.int .i64 (i : Int))) (some (.int .i64 ((i : Int) + 64))) none).run Tryd.prog w' = .ok (.string (pp.extract i (i + 64))) w' := fun w' => by
              have h_ := run_slice_string (P := Tryd.prog) w' 9 pp .i64 .i64 (i : Int) ((i : Int) + 64) Tryd.underlying9 (by omega) (by omega) (by omega)
              rwa [show ((i : Int)).toNat = i from by omega, show ((i : Int) + 64).toNat = i + 64 from by omega] at h_
            have HCU := Aside0.mk ((cU_size st).trans H8.out)
            have HB8 := Aside0.mk ((shaB_len st (pp.extract i (i + 64))).trans H8.out)
            have HCB := Aside0.mk ((cU_size (shaB st (pp.extract i (i + 64)))).trans HB8.out)
            have HEX : Aside0 ((pp.extract i (i + 64)).size = 64) := ⟨by simp; omega⟩
            refine start_ (n := 8) (S := fun w' => w'.heap[gs]? = some (.cells (cU st) 60 (0, 0))) (ds := [7]) #[ff,ff,ff,ff,ff,ff,ff,ff] (by kernel_rfl) rfl rfl HW.drew.s (fun hHeld => ?_)
            refine pure_ (i := 1) (N := some 38) (v := ?_) (a' := ?_) #[ff,tt,ff,ff,ff,ff,ff,ff] rfl rfl (by kernel_rfl) (fun _ _ _ h => h) (Or.inl ⟨by rfl, ?_⟩) ?_ ?_
            rotate_left
            · intro w'
              go_simp; with_reducible rfl
            rotate_left
            · simp only [putL, i64_w, i32_w]
              rfl
            refine pure_ (i := 2) (N := some 39) (v := ?_) (a' := ?_) #[ff,tt,tt,ff,ff,ff,ff,ff] rfl rfl (by kernel_rfl) (fun _ _ _ h => h) (Or.inl ⟨by rfl, ?_⟩) ?_ ?_
            rotate_left
            · intro w'
              go_simp; with_reducible rfl
            rotate_left
            · simp only [putL, i64_w, i32_w]
              rfl
            refine pure_ (i := 3) (N := some 40) (v := ?_) (a' := ?_) #[ff,tt,tt,tt,ff,ff,ff,ff] rfl rfl (by kernel_rfl) (fun _ _ _ h => h) (Or.inl ⟨by rfl, ?_⟩) ?_ ?_
            rotate_left
            · intro w'
              go_simp; with_reducible rfl
            rotate_left
            · simp only [putL, i64_w, i32_w]
              rfl
            refine pure_ (i := 4) (N := some 41) (v := ?_) (a' := ?_) #[ff,tt,tt,tt,tt,ff,ff,ff] rfl rfl (by kernel_rfl) (fun _ _ _ h => h) (Or.inl ⟨by rfl, ?_⟩) ?_ ?_
            rotate_left
            · intro w'
              go_simp; with_reducible rfl
            rotate_left
            · simp only [putL, i64_w, i32_w]
              rfl
            refine pure_ (i := 5) (N := some 42) (v := ?_) (a' := ?_) #[ff,tt,tt,tt,tt,tt,ff,ff] rfl rfl (by kernel_rfl) (fun _ _ _ h => h) (Or.inl ⟨by rfl, ?_⟩) ?_ ?_
            rotate_left
            · intro w'
              go_simp; with_reducible rfl
            rotate_left
            · simp only [putL, i64_w, i32_w]
              rfl
            refine take_ (i := 0) (N := some 37) (v := ?_) (a' := ?_) #[tt,tt,tt,tt,tt,tt,ff,ff] rfl rfl (by kernel_rfl) (fun _ _ _ h => h) (Or.inl ⟨by rfl, ?_⟩) hHeld ?_ ?_
            rotate_left
            · intro w' s0
              refine exec_load_row 60 (.tmp 6) ?_ gs ?_ 60 (cU st) (0, 0) _ s0 Tryd.underlying60 rfl (I60.out.trans (congrArg some HCU.out.symm))
              · rfl
              · rfl
            rotate_left
            · simp only [putL, i64_w, i32_w]
              rfl
            refine one_ (i := 6) (N := some 43) #[tt,tt,tt,tt,tt,tt,tt,ff] rfl rfl (by kernel_rfl) (by decide) (fun K hK => ?_)
            refine goes_ Tryd.func39 (by kernel_rfl) rfl #[.agg (cU st), .string (pp.extract i (i + 64))] (by rfl) rfl rfl (by simp only [List.map_toArray, List.map_cons, List.map_nil]; rfl) ?_
            with_reducible refine (impl_shaBlock.calls st (pp.extract i (i + 64)) _ H8.out HEX.out (HTAB.out.below (below_drew1 HW.b))).mono ?_
            rintro e w3 ⟨rfl, hb⟩
            refine ⟨_, rfl, ?_⟩
            have HW3 : SS w w3 gs st := HW.drew.below hb
            clear hb HW; refine hK.out _ _ HW3.s (fun hHeld => ?_)
            clear hK K; refine norm_ (a' := ?_) ?_ ?_
            rotate_left
            · show Act.put _ (some 43) _ = _
              simp only [putL, i64_w, i32_w]; rfl
            refine last_ (i := 7) (N := none) #[tt,tt,tt,tt,tt,tt,tt,tt] rfl rfl (by kernel_rfl) (by decide) (fun K hK => ?_)
            refine skip_ (w1 := ?_) (by rfl) rfl ?_ ?_
            rotate_left
            · refine exec_store_row 60 (.tmp 6) (.tmp 43) ?_ gs (cU (shaB st (pp.extract i (i + 64)))) ?_ ?_ 60 (cU st) HW3.s (I60.out.trans (congrArg some HCB.out.symm)) (HCU.out.trans HCB.out.symm) (cU_one _)
              · rfl
              · rfl
              · rfl
            refine hK.out _ _ ?_
            clear hK; clear K; refine done_ (by kernel_rfl) ?_
            have HW4 := HW3.put (shaB st (pp.extract i (i + 64)))
            clear HW3 hHeld
            go_wp2
            go_roundg k1
            case measure => omega
            case rel => exact ⟨i + 64, shaB st (pp.extract i (i + 64)), by first | rfl | (simp; done), H', ⟨by have := HK1.out; omega⟩, HB8, HW4⟩
          · rw [if_neg c2] at H
            exact absurd H (by simp)
        · rw [if_neg c1] at H
          obtain rfl := Option.some.inj H
          have HCU := Aside0.mk ((cU_size st).trans H8.out)
          go_wp2_with (first
           | ((with_reducible refine gate_dst (N := 44) rfl ?_); refine wpList_load_row rfl 60 (.tmp 6) rfl gs rfl 60 (cU st) (0, 0) _ HW.s Tryd.underlying60 rfl (I60.out.trans (congrArg some HCU.out.symm)) ?_))
          go_loopg [8, 45] 8 (fun kq v8 v45 W => ∃ (i : Nat) (o : ByteArray), i + kq = 8 ∧ v8 = .string o ∧ v45 = .int .i64 i ∧ Aside0 (impl_Sha.l1 k st kq i o = some r) ∧ Aside0 (Below w.heap.size w W))
          case atStart => exact ⟨0, ⟨#[]⟩, rfl, rfl, rfl, HOUT, ⟨HW.b⟩⟩
          case round =>
           clear HOUT HW; obtain ⟨i, o, hi, rfl, rfl, HA, HB⟩ := hrel
           have HI := Aside0.mk hi
           cases gk with
           | zero =>
            have H := HA.out; clear HA; simp only [impl_Sha.l1] at H
            obtain rfl := Option.some.inj H
            obtain rfl : i = 8 := by omega
            clear hi
            go_wp2
            go_ret
            exact ⟨by first | rfl | (simp; done), HB.out⟩
           | succ n =>
            have H := HA.out; clear HA; simp only [impl_Sha.l1] at H
            obtain ⟨t, ht, H⟩ := Option.bind_eq_some_iff.mp H
            have hlt : i < 8 := by omega
            obtain ⟨x, hx⟩ : ∃ x, st.getD i 0 = x := ⟨_, rfl⟩
            have hl : i < st.length := by rw [H8.out]; omega
            have hxm : 0 ≤ x ∧ x < 4294967296 := HGR.out x (by rw [← hx]; simp [List.getElem?_eq_getElem hl])
            obtain ⟨hx0, hx1⟩ := hxm
            rw [hx] at ht
            have HT := Aside0.mk ht
            by_cases c3 : o.size + t.size ≤ 9223372036854775807
            · rw [if_pos c3] at H
              have H' := Aside0.mk H
              have hci : (cU st)[i]? = some (.int .u32 x) := hx ▸ cU_get st i (by rw [H8.out]; omega)
              have hix : ∀ W, (Instr.index 60 (.agg (cU st)) (.int .i64 (i : Int))).run Tryd.prog W = .ok (.int .u32 x) W := index_at st i x hlt hci
              have hcv : IntKind.i64.wrap x = x := IntWalk.i64_in _ (by omega)
              have hsz9 : (9223372036854775807 < o.size + t.size) = False := eq_false (by omega)
              clear H ht hi hx hci
              go_wp2_with (go_at_call 38; (with_reducible refine (impl_Fixed.calls k x 4 t _ HT.out).mono ?_); rintro e w' ⟨rfl, hb⟩; have HB1 := Aside0.mk (below_step HB.out hb); clear hb)
              go_roundg n
              case measure => omega
              case rel => exact ⟨i + 1, o ++ t, by have := HI.out; omega, by first | rfl | (simp; done), by first | rfl | (simp; done), H', HB1⟩
            · rw [if_neg c3] at H
              exact absurd H (by simp)
     ·rw [if_neg c8] at H
      exact absurd H (by simp)
    ·rw [if_neg c6] at H
     exact absurd H (by simp)
   ·rw [if_neg c5] at H
    exact absurd H (by simp)
  ·rw [if_neg c4] at H
   exact absurd H (by simp)
 ·rw [if_neg c2] at H
  exact absurd H (by simp)
def impl_bytesIn.f (l0 : List ByteArray) (a1 : Int) : Option (ByteArray) := if a1 < 256 then (some (strOfNums (([(a1) % 256] : List Int)))) else (if 0 ≤ (wrap64 (a1 - 256)) then (if (wrap64 (a1 - 256)) < (l0.length : Int) then (some (rdOf ByteArray.empty l0 (wrap64 (a1 - 256)))) else (none)) else (none))
set_option maxHeartbeats 8000000 in
set_option maxRecDepth 100000 in
theorem impl_bytesIn.calls (A0 : Option Addr) (c0 : Nat) (l0 : List ByteArray) (a1 : Int) (r : ByteArray) (w : World) (hr0 : Kd.C Kd.string w A0 l0.length l0) (hc0 : l0.length ≤ c0) (h : impl_bytesIn.f l0 a1 = some r) :
    Calls Tryd.prog 82 #[.slice A0 l0.length c0, .int .i64 a1] w fun e w' => e = .returned (.string r) ∧ Below w.heap.size w w' := by
  have HR0 := Aside0.mk hr0
  have HC0 := Aside0.mk hc0
  clear hr0 hc0; have HB := Aside0.mk (Below.refl w.heap.size w)
  have H : (if a1 < 256 then (some (strOfNums (([(a1) % 256] : List Int)))) else (if 0 ≤ (wrap64 (a1 - 256)) then (if (wrap64 (a1 - 256)) < (l0.length : Int) then (some (rdOf ByteArray.empty l0 (wrap64 (a1 - 256)))) else (none)) else (none))) = some r := h
  clear h
  by_cases c3 : a1 < 256
  · rw [if_pos c3] at H
    have c3b0 : decide (a1 < 256) = true := decide_eq_true c3
    clear c3; obtain ⟨y210, hy210⟩ : ∃ y_ : List Int, y_ = (([(a1) % 256] : List Int)) := ⟨_, rfl⟩
    replace H : (some (strOfNums y210)) = some r := by first | (rw [hy210]; with_reducible exact H) | (have H2_ := (Option.bind_some _ _).symm.trans H; rw [hy210]; with_reducible exact H2_) | (have H2_ := (Option.bind_some _ _).symm.trans H; with_reducible exact H2_) | with_reducible exact H | (rw [hy210]; exact H) | exact H
    have Ny210 := Aside0.mk hy210
    clear hy210; obtain rfl := Option.some.inj H
    go_enter Tryd.func82, Tryd.ntmps82
    go_wp2_with (first | ((with_reducible refine gate_dst (N := 9) rfl ?_); refine Kd.R_lit (Kd.int .u8) _ 5 ?hg (N := 9) ?hd (xs := ([(a1) % 256] : List Int)) (inner := [.int .u8 ((a1) % 256)]) (ok := fun _ => True) (okp := fun _ => True) ?hr ?hp (fun _ hk => hk) trivial (Below.refl _ _) (Nat.le_refl _) (by simp) ?_; (case hd => rfl); (case hg => rfl); (case hr => first | (go_simp; done) | (go_simp; rfl)); (case hp => exact (Reps.one (show Kd.M (Kd.int .u8) _ _ _ ((a1) % 256) [.int .u8 ((a1) % 256)] from rfl) (Reps.none _ _))); intro v211 w4 ho5 hb hg_ hnew_; clear hg_ hnew_; (first | rw [← Ny210.out] at ho5 | (simp only [Int.reduceToNat] at ho5; rw [← Ny210.out] at ho5)); have HO212 := Aside0.mk (Kd.R_lower ho5 (below_size (be HB))); replace HB := bh HB hb; clear hb ho5; have hcv6 := own_string (P := Tryd.prog) Tryd.underlying24 Tryd.underlying5 Tryd.underlying9 (Kd.own_of_R HO212.out)))
    go_ret
    exact ⟨by first | rfl | (simp [errW_none, errW_some] <;> rfl) | (simp [*, errW_none, errW_some] <;> rfl), by repeat (first | (with_reducible first | exact HB.out | apply below_alloc | apply pw_below_drewN | apply below_drew1) | exact HB.out)⟩
  · rw [if_neg c3] at H
    have c3b0 : decide (a1 < 256) = false := decide_eq_false c3
    clear c3; obtain ⟨ji7, hji7⟩ : ∃ j_ : Int, (wrap64 (a1 - 256)) = j_ := ⟨_, rfl⟩
    replace H : (if 0 ≤ (ji7) then (if (ji7) < (l0.length : Int) then (some (rdOf ByteArray.empty l0 (ji7))) else (none)) else (none)) = some r := by first | (rw [hji7] at H; exact H) | (simp only [hji7] at H ⊢; exact H)
    have hji7w : (IntKind.i64.wrap (a1 - 256)) = ji7 := (i64_w _).trans hji7
    by_cases c8 : 0 ≤ (ji7)
    · rw [if_pos c8] at H
      have c8b0 : decide (0 ≤ (ji7)) = true := decide_eq_true c8
      clear c8
      by_cases c9 : (ji7) < (l0.length : Int)
      · rw [if_pos c9] at H
        have c9b0 : decide ((ji7) < (l0.length : Int)) = true := decide_eq_true c9
        clear c9; obtain rfl := Option.some.inj H
        have p213 : 0 ≤ ((ji7) : Int) := of_decide_eq_true (by first | (with_reducible assumption) | assumption)
        have q213 : (ji7) < (l0.length : Int) := of_decide_eq_true (by first | (with_reducible assumption) | assumption)
        obtain ⟨ad213, e213, hx213_0⟩ := Kd.at_string HR0.out (ji7) p213 q213
        cases e213
        replace p213 := eq_true p213
        replace q213 := eq_true q213
        go_enter Tryd.func82, Tryd.ntmps82
        go_wp2
        go_ret
        exact ⟨by first | rfl | (simp [errW_none, errW_some] <;> rfl) | (simp only [← hji7]; first | rfl | (simp [errW_none, errW_some] <;> rfl)) | (simp [*, errW_none, errW_some] <;> rfl), by repeat (first | (with_reducible first | exact HB.out | apply below_alloc | apply pw_below_drewN | apply below_drew1) | exact HB.out)⟩
      · rw [if_neg c9] at H
        exact absurd H (by simp)
    · rw [if_neg c8] at H
      exact absurd H (by simp)
def slices_Index_string_string.l0 : Nat → List ByteArray → ByteArray → Int → Int → Option (Int)
  | 0, _, _, _, _ => none
  | k + 1, x0, x1, x7, x8 => if x8 < x7 then (if 0 ≤ x8 then (if x8 < (x0.length : Int) then (if x1.toList = (rdOf ByteArray.empty x0 x8).toList then (some x8) else (slices_Index_string_string.l0 k x0 x1 x7 (wrap64 (x8 + 1)))) else (none)) else (none)) else (some (-1))
def slices_Index_string_string.f (k : Nat) (l0 : List ByteArray) (a1 : ByteArray) : Option (Int) := slices_Index_string_string.l0 k l0 a1 (l0.length : Int) 0
theorem slices_Index_string_string.mono_l : ∀ k, (∀ y0 y1 y2 y3, LeO (slices_Index_string_string.l0 k y0 y1 y2 y3) (slices_Index_string_string.l0 (k + 1) y0 y1 y2 y3))
  | 0 => fun _ _ _ _ r h => by simp [slices_Index_string_string.l0] at h
  | k + 1 => by
    have ih0 := slices_Index_string_string.mono_l k
    · intro y0 y1 y2 y3
      unfold slices_Index_string_string.l0
      repeat' first
      | (with_reducible exact ih0 _ _ _ _)
      | (with_reducible exact LeO.refl _)
      | (with_reducible exact LeO.none _)
      | (with_reducible refine LeO.ite ?_ ?_)
      | (with_reducible refine LeO.bind ?_ (fun _ => ?_))
      | exact ih0 _ _ _ _
      | exact LeO.none _
      | refine LeO.ite ?_ ?_
      | refine LeO.bind ?_ (fun _ => ?_)
theorem slices_Index_string_string.mono : ∀ a0 a1 k, LeO (slices_Index_string_string.f k a0 a1) (slices_Index_string_string.f (k + 1) a0 a1) := by
  intro a0 a1 k
  have ih0 := slices_Index_string_string.mono_l k
  unfold slices_Index_string_string.f
  repeat' first
      | (with_reducible exact ih0 _ _ _ _)
      | (with_reducible exact LeO.refl _)
      | (with_reducible exact LeO.none _)
      | (with_reducible refine LeO.ite ?_ ?_)
      | (with_reducible refine LeO.bind ?_ (fun _ => ?_))
      | exact ih0 _ _ _ _
      | exact LeO.none _
      | refine LeO.ite ?_ ?_
      | refine LeO.bind ?_ (fun _ => ?_)
set_option maxHeartbeats 8000000 in
set_option maxRecDepth 100000 in
theorem slices_Index_string_string.calls (k : Nat) (A0 : Option Addr) (c0 : Nat) (l0 : List ByteArray) (a1 : ByteArray) (r : Int) (w : World) (hr0 : Kd.C Kd.string w A0 l0.length l0) (hc0 : l0.length ≤ c0) (h : slices_Index_string_string.f k l0 a1 = some r) :
    Calls Tryd.prog 84 #[.slice A0 l0.length c0, .string a1] w fun e w' => e = .returned (.int .i64 r) ∧ Drawn0 w w' := by
  have HR0 := Aside0.mk hr0
  have HC0 := Aside0.mk hc0
  clear hr0 hc0; have H : (slices_Index_string_string.l0 k l0 a1 (l0.length : Int) 0) = some r := h
  clear h; have H' := Aside0.mk H
  clear H
  go_enter Tryd.func84, Tryd.ntmps84
  go_wp2
  go_loopg [8] k (fun kq v8 w' => ∃ (x8_1 : Int), v8 = .int .i64 x8_1 ∧ Aside0 (slices_Index_string_string.l0 kq l0 a1 (l0.length : Int) x8_1 = some r) ∧ Aside0 (kq ≤ k) ∧ Drawn0 w w')
  case atStart => exact ⟨(0), (by first | rfl | (simp; done) | (simp [*]; done)), H', ⟨Nat.le_refl _⟩, by repeat (first | exact Drawn0.refl _ | apply Drawn0.step)⟩
  case round =>
    clear H'
    obtain ⟨x8_1, rfl, HA, HK1, ⟨m1, rfl⟩⟩ := hrel
    cases gk with
    | zero => exact absurd HA.out (by simp [slices_Index_string_string.l0])
    | succ k1 =>
      have H := HA.out; clear HA; simp only [slices_Index_string_string.l0] at H
      by_cases c3 : x8_1 < (l0.length : Int)
      · rw [if_pos c3] at H
        have c3b0 : decide (x8_1 < (l0.length : Int)) = true := decide_eq_true c3
        clear c3
        by_cases c4 : 0 ≤ x8_1
        · rw [if_pos c4] at H
          have c4b0 : decide (0 ≤ x8_1) = true := decide_eq_true c4
          clear c4
          by_cases c5 : x8_1 < (l0.length : Int)
          · rw [if_pos c5] at H
            have c5b0 : decide (x8_1 < (l0.length : Int)) = true := decide_eq_true c5
            clear c5
            by_cases c6 : a1.toList = (rdOf ByteArray.empty l0 x8_1).toList
            · rw [if_pos c6] at H
              have c6b0 : (a1.toList == (rdOf ByteArray.empty l0 x8_1).toList) = true := beq_iff_eq.mpr c6
              have c6b1 : (a1.toList != (rdOf ByteArray.empty l0 x8_1).toList) = false := bne_eq_false_iff_eq.mpr c6
              clear c6; obtain rfl := Option.some.inj H
              have p214 : 0 ≤ (x8_1 : Int) := of_decide_eq_true (by first | (with_reducible assumption) | assumption)
              have q214 : x8_1 < (l0.length : Int) := of_decide_eq_true (by first | (with_reducible assumption) | assumption)
              obtain ⟨ad214, e214, hx214_0⟩ := Kd.at_string HR0.out x8_1 p214 q214
              cases e214
              replace p214 := eq_true p214
              replace q214 := eq_true q214
              go_wp2
              go_ret
              exact ⟨by first | rfl | (simp; done) | (simp [*]; done), by repeat (first | exact Drawn0.refl _ | apply Drawn0.step)⟩
            · rw [if_neg c6] at H
              have c6b0 : (a1.toList == (rdOf ByteArray.empty l0 x8_1).toList) = false := beq_eq_false_iff_ne.mpr c6
              have c6b1 : (a1.toList != (rdOf ByteArray.empty l0 x8_1).toList) = true := bne_iff_ne.mpr c6
              have H' := Aside0.mk H
              clear H; have p214 : 0 ≤ (x8_1 : Int) := of_decide_eq_true (by first | (with_reducible assumption) | assumption)
              have q214 : x8_1 < (l0.length : Int) := of_decide_eq_true (by first | (with_reducible assumption) | assumption)
              obtain ⟨ad214, e214, hx214_0⟩ := Kd.at_string HR0.out x8_1 p214 q214
              cases e214
              replace p214 := eq_true p214
              replace q214 := eq_true q214
              go_wp2
              go_roundg k1
              case measure => have := HK1.out; omega
              case rel => exact ⟨(wrap64 (x8_1 + 1)), (by first | rfl | (simp; done) | (simp [*]; done)), H', ⟨by have := HK1.out; omega⟩, by repeat (first | exact Drawn0.refl _ | apply Drawn0.step)⟩
          · rw [if_neg c5] at H
            exact absurd H (by simp)
        · rw [if_neg c4] at H
          exact absurd H (by simp)
      · rw [if_neg c3] at H
        have c3b0 : decide (x8_1 < (l0.length : Int)) = false := decide_eq_false c3
        clear c3; obtain rfl := Option.some.inj H
        go_wp2
        go_ret
        exact ⟨by first | rfl | (simp; done) | (simp [*]; done), by repeat (first | exact Drawn0.refl _ | apply Drawn0.step)⟩
def slices_Contains_string_string.f (k : Nat) (l0 : List ByteArray) (a1 : ByteArray) : Option (Bool) := (slices_Index_string_string.f k l0 a1).bind fun t215 => (some (decide (t215 ≥ 0)))
theorem slices_Contains_string_string.mono : ∀ a0 a1 k, LeO (slices_Contains_string_string.f k a0 a1) (slices_Contains_string_string.f (k + 1) a0 a1) := by
  intro a0 a1 k
  unfold slices_Contains_string_string.f
  repeat' first
      | (with_reducible exact slices_Index_string_string.mono _ _ _)
      | (with_reducible exact LeO.refl _)
      | (with_reducible exact LeO.none _)
      | (with_reducible refine LeO.ite ?_ ?_)
      | (with_reducible refine LeO.bind ?_ (fun _ => ?_))
      | exact slices_Index_string_string.mono _ _ _
      | exact LeO.none _
      | refine LeO.ite ?_ ?_
      | refine LeO.bind ?_ (fun _ => ?_)
set_option maxHeartbeats 8000000 in
set_option maxRecDepth 100000 in
theorem slices_Contains_string_string.calls (k : Nat) (A0 : Option Addr) (c0 : Nat) (l0 : List ByteArray) (a1 : ByteArray) (r : Bool) (w : World) (hr0 : Kd.C Kd.string w A0 l0.length l0) (hc0 : l0.length ≤ c0) (h : slices_Contains_string_string.f k l0 a1 = some r) :
    Calls Tryd.prog 83 #[.slice A0 l0.length c0, .string a1] w fun e w' => e = .returned (.bool r) ∧ Drawn0 w w' := by
  have HR0 := Aside0.mk hr0
  have HC0 := Aside0.mk hc0
  clear hr0 hc0; have H : ((slices_Index_string_string.f k l0 a1).bind fun t215 => (some (decide (t215 ≥ 0)))) = some r := h
  clear h; replace H := Option.bind_eq_some_iff.mp H
  obtain ⟨t215, A30, H⟩ := H
  replace H : (some (decide (t215 ≥ 0))) = some r := H
  have A3 := Aside0.mk A30
  clear A30; obtain rfl := Option.some.inj H
  go_enter Tryd.func83, Tryd.ntmps83
  go_wp2_with (first | ((with_reducible refine gate_callee (f := 84) rfl ?_); refine goesC_ (some 7) Tryd.func84 #[.slice A0 l0.length c0, .string a1] ?_; (with_reducible refine (slices_Index_string_string.calls k _ _ l0 a1 t215 _ ?side1 ?side2 A3.out).mono ?_); (case side1 => repeat (first | exact HR0.out | (with_reducible refine Kd.C_alloc ?_ _) | (with_reducible refine Kd.C_drewN ?_ _) | (with_reducible refine Kd.C_drew ?_))); (case side2 => exact HC0.out); rintro e w' ⟨rfl, ⟨nd, rfl⟩⟩; refine ⟨_, rfl, ?_⟩))
  go_ret
  exact ⟨by first | rfl | (simp; done) | (simp [*]; done), by repeat (first | exact Drawn0.refl _ | apply Drawn0.step)⟩
end Go.Proofs.YtobkmpihjfiihaaDoor.PFnCanon
