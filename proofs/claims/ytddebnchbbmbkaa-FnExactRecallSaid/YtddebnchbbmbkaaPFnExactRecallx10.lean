-- The machine side of a law: written by a program of this session (wip/tools), a turned print.
import Derived.Test.YtddebnchbbmbkaaPFnExactRecallx0
import Derived.Test.YtddebnchbbmbkaaPFnExactRecallx9
namespace Go.Proofs.Ytddebnchbbmbkaa.PFnExactRecall
open Go.RowKit Go.Proofs.YtddebnchbbmbkaaW.PrintWords Go.Proofs.YtddebnchbbmbkaaW.PrintLast Go.Proofs.YtddebnchbbmbkaaW.PrintMore
attribute [local go_sem] max2_int min2_int max_two min_two max_three min_three max_four min_four   -- for this text's walks alone
set_option linter.unusedVariables false
set_option linter.unusedSimpArgs false
def laws_szNoteS.l0 : Nat → List (S104) → Int → Int → Option (Int)
 | 0, _, _, _ => none
 | k + 1, x0, x1, x5 => if x5 < (x0.length : Int) then (if 0 ≤ x5 then ((laws_szNote.f ((rd_T104 x0 x5).f0) ((rd_T104 x0 x5).f1) x1).bind fun t190 => (if t190 < 0 then (some (-1)) else (laws_szNoteS.l0 k x0 t190 (wrap64 (x5 + 1))))) else (none)) else (some x1)
def laws_szNoteS.f (k : Nat) (l0 : List (S104)) (a1 : Int) : Option (Int) := if (wrap64 (a1 - (l0.length : Int))) < 0 then (some (-1)) else (laws_szNoteS.l0 k l0 (wrap64 (a1 - (l0.length : Int))) 0)
theorem laws_szNoteS.mono_l : ∀ k, (∀ y0 y1 y2, LeO (laws_szNoteS.l0 k y0 y1 y2) (laws_szNoteS.l0 (k + 1) y0 y1 y2))
 | 0 => fun _ _ _ r h => by simp [laws_szNoteS.l0] at h
 | k + 1 => by
  have ih0 := laws_szNoteS.mono_l k
  ·intro y0 y1 y2
   unfold laws_szNoteS.l0
   repeat' first
   | (with_reducible exact ih0 _ _ _)
   | (with_reducible exact LeO.refl _)
   | (with_reducible exact LeO.none _)
   | (with_reducible refine LeO.ite ?_ ?_)
   | (with_reducible refine LeO.bind ?_ (fun _ => ?_))
   | exact ih0 _ _ _
   | exact LeO.none _
   | refine LeO.ite ?_ ?_
   | refine LeO.bind ?_ (fun _ => ?_)
theorem laws_szNoteS.mono : ∀ a0 a1 k, LeO (laws_szNoteS.f k a0 a1) (laws_szNoteS.f (k + 1) a0 a1) := by
 intro a0 a1 k
 have ih0 := laws_szNoteS.mono_l k
 unfold laws_szNoteS.f
 repeat' first
   | (with_reducible exact ih0 _ _ _)
   | (with_reducible exact LeO.refl _)
   | (with_reducible exact LeO.none _)
   | (with_reducible refine LeO.ite ?_ ?_)
   | (with_reducible refine LeO.bind ?_ (fun _ => ?_))
   | exact ih0 _ _ _
   | exact LeO.none _
   | refine LeO.ite ?_ ?_
   | refine LeO.bind ?_ (fun _ => ?_)
set_option maxHeartbeats 8000000 in
set_option maxRecDepth 100000 in
theorem laws_szNoteS.calls (k : Nat) (A0 : Option Addr) (c0 : Nat) (l0 : List (S104)) (a1 : Int) (r : Int) (w : World) (hr0 : Kd.C k104 w A0 l0.length l0) (hc0 : l0.length ≤ c0) (h : laws_szNoteS.f k l0 a1 = some r) :
  Calls Try.prog 42 #[.slice A0 l0.length c0, .int .i64 a1] w fun e w' => e = .returned (.int .i64 r) ∧ Below w.heap.size w w' := by
 have hu104 := Try.underlying104
 have HR0 := Aside0.mk hr0
 have HC0 := Aside0.mk hc0
 clear hr0 hc0; have HB := Aside0.mk (Below.refl w.heap.size w)
 have H : (if (wrap64 (a1 - (l0.length : Int))) < 0 then (some (-1)) else (laws_szNoteS.l0 k l0 (wrap64 (a1 - (l0.length : Int))) 0)) = some r := h
 clear h
 by_cases c3 : (wrap64 (a1 - (l0.length : Int))) < 0
 ·rw [if_pos c3] at H
  have c3b0 : decide ((wrap64 (a1 - (l0.length : Int))) < 0) = true := decide_eq_true c3
  clear c3; obtain rfl := Option.some.inj H
  go_enter Try.func42, Try.ntmps42
  go_wp2
  go_ret
  exact ⟨eR, iB HB⟩
 ·rw [if_neg c3] at H
  have c3b0 : decide ((wrap64 (a1 - (l0.length : Int))) < 0) = false := decide_eq_false c3
  clear c3; have H' := Aside0.mk H
  clear H
  go_enter Try.func42, Try.ntmps42
  go_wp2
  go_loopg [1, 5] k (fun kq v1 v5 w' => ∃ (x1_1 : Int) (x5_1 : Int), v1 = .int .i64 x1_1 ∧ v5 = .int .i64 x5_1 ∧ Aside0 (laws_szNoteS.l0 kq l0 x1_1 x5_1 = some r) ∧ Aside0 (kq ≤ k) ∧ Aside0 (Below w.heap.size w w'))
  case atStart => exact ⟨(wrap64 (a1 - (l0.length : Int))), (0), sR, sR, H', ⟨Nat.le_refl _⟩, ⟨iB HB⟩⟩
  case round =>
   clear H'
   obtain ⟨x1_1, x5_1, rfl, rfl, HA, HK1, HB⟩ := hrel
   cases gk with
   | zero => exact absurd HA.out (by simp [laws_szNoteS.l0])
   | succ k1 =>
    have H := HA.out; clear HA; simp only [laws_szNoteS.l0] at H
    by_cases c4 : x5_1 < (l0.length : Int)
    ·rw [if_pos c4] at H
     have c4b0 : decide (x5_1 < (l0.length : Int)) = true := decide_eq_true c4
     clear c4
     by_cases c5 : 0 ≤ x5_1
     ·rw [if_pos c5] at H
      have c5b0 : decide (0 ≤ x5_1) = true := decide_eq_true c5
      clear c5; replace H := Option.bind_eq_some_iff.mp H
      obtain ⟨t190, A60, H⟩ := H
      replace H : (if t190 < 0 then (some (-1)) else (laws_szNoteS.l0 k1 l0 t190 (wrap64 (x5_1 + 1)))) = some r := H
      have A6 := Aside0.mk A60
      clear A60
      by_cases c7 : t190 < 0
      ·rw [if_pos c7] at H
       have c7b0 : decide (t190 < 0) = true := decide_eq_true c7
       clear c7; obtain rfl := Option.some.inj H
       have p189 : 0 ≤ (x5_1 : Int) := oD
       have q189 : x5_1 < (l0.length : Int) := oD
       obtain ⟨ad189, A189_1, c189_1, e189, a9a, b9a, c9a, d9a⟩ := at_T104 HR0.out x5_1 p189 q189
       cases e189
       replace a9a := (HB.out.cell (World.block_lt_of_cell? w _ a9a)).trans a9a
       replace b9a := (HB.out.cell (World.block_lt_of_cell? w _ b9a)).trans b9a
       have e9a := Aside0.mk d9a
       have f9a := Aside0.mk c9a
       clear d9a c9a; replace p189 := eq_true p189
       replace q189 := eq_true q189
       go_wp2_with (first | ((with_reducible refine gate_callee (f := 72) rfl ?_); refine goesC_ (some 23) Try.func72 #[.agg #[.string ((rd_T104 l0 x5_1).f0), .slice A189_1 ((rd_T104 l0 x5_1).f1).length c189_1], .int .i64 x1_1] ?_; (with_reducible refine (laws_szNote.calls ((rd_T104 l0 x5_1).f0) _ _ ((rd_T104 l0 x5_1).f1) x1_1 t190 _ ?side1 ?side2 A6.out).mono ?_); (case side1 => exact cX (Kd.C_below e9a.out HB.out)); (case side2 => exact f9a.out); rintro e w8 ⟨rfl, hb⟩; refine ⟨_, rfl, ?_⟩; replace HB := bh HB hb; (try clear hb); (try clear hb2); (try clear hk); (try clear hi)))
       go_ret
       exact ⟨eR, iB HB⟩
      ·rw [if_neg c7] at H
       have c7b0 : decide (t190 < 0) = false := decide_eq_false c7
       clear c7; have H' := Aside0.mk H
       clear H; have p189 : 0 ≤ (x5_1 : Int) := oD
       have q189 : x5_1 < (l0.length : Int) := oD
       obtain ⟨ad189, A189_1, c189_1, e189, a9a, b9a, c9a, d9a⟩ := at_T104 HR0.out x5_1 p189 q189
       cases e189
       replace a9a := (HB.out.cell (World.block_lt_of_cell? w _ a9a)).trans a9a
       replace b9a := (HB.out.cell (World.block_lt_of_cell? w _ b9a)).trans b9a
       have e9a := Aside0.mk d9a
       have f9a := Aside0.mk c9a
       clear d9a c9a; replace p189 := eq_true p189
       replace q189 := eq_true q189
       go_wp2_with (first | ((with_reducible refine gate_callee (f := 72) rfl ?_); refine goesC_ (some 23) Try.func72 #[.agg #[.string ((rd_T104 l0 x5_1).f0), .slice A189_1 ((rd_T104 l0 x5_1).f1).length c189_1], .int .i64 x1_1] ?_; (with_reducible refine (laws_szNote.calls ((rd_T104 l0 x5_1).f0) _ _ ((rd_T104 l0 x5_1).f1) x1_1 t190 _ ?side1 ?side2 A6.out).mono ?_); (case side1 => exact cX (Kd.C_below e9a.out HB.out)); (case side2 => exact f9a.out); rintro e w9 ⟨rfl, hb⟩; refine ⟨_, rfl, ?_⟩; replace HB := bh HB hb; (try clear hb); (try clear hb2); (try clear hk); (try clear hi)))
       go_roundg k1
       case measure => have := HK1.out; omega
       case rel => exact ⟨(t190), (wrap64 (x5_1 + 1)), sR, sR, H', ⟨by have := HK1.out; omega⟩, ⟨iB HB⟩⟩
     ·rw [if_neg c5] at H
      exact absurd H (by simp)
    ·rw [if_neg c4] at H
     have c4b0 : decide (x5_1 < (l0.length : Int)) = false := decide_eq_false c4
     clear c4; obtain rfl := Option.some.inj H
     go_wp2
     go_ret
     exact ⟨eR, iB HB⟩
def laws_szMemo.f (k : Nat) (a0_0 : Int) (l0_1 : List (S104)) (a1 : Int) : Option (Int) := (laws_szNoteS.f k l0_1 a1).bind fun t192 => (if t192 < 0 then (some (-1)) else (some t192))
theorem laws_szMemo.mono : ∀ a0 a1 a2 k, LeO (laws_szMemo.f k a0 a1 a2) (laws_szMemo.f (k + 1) a0 a1 a2) := by
 intro a0 a1 a2 k
 unfold laws_szMemo.f
 repeat' first
   | (with_reducible exact laws_szNoteS.mono _ _ _)
   | (with_reducible exact LeO.refl _)
   | (with_reducible exact LeO.none _)
   | (with_reducible refine LeO.ite ?_ ?_)
   | (with_reducible refine LeO.bind ?_ (fun _ => ?_))
   | exact laws_szNoteS.mono _ _ _
   | exact LeO.none _
   | refine LeO.ite ?_ ?_
   | refine LeO.bind ?_ (fun _ => ?_)
set_option maxHeartbeats 8000000 in
set_option maxRecDepth 100000 in
theorem laws_szMemo.calls (k : Nat) (a0_0 : Int) (A0_1 : Option Addr) (c0_1 : Nat) (l0_1 : List (S104)) (a1 : Int) (r : Int) (w : World) (hr0_1 : Kd.C k104 w A0_1 l0_1.length l0_1) (hc0_1 : l0_1.length ≤ c0_1) (h : laws_szMemo.f k a0_0 l0_1 a1 = some r) :
  Calls Try.prog 15 #[.agg #[.int .i64 a0_0, .slice A0_1 l0_1.length c0_1], .int .i64 a1] w fun e w' => e = .returned (.int .i64 r) ∧ Below w.heap.size w w' := by
 have hu46 := Try.underlying46
 have HR0_1 := Aside0.mk hr0_1
 have HC0_1 := Aside0.mk hc0_1
 clear hr0_1 hc0_1; have HB := Aside0.mk (Below.refl w.heap.size w)
 have H : ((laws_szNoteS.f k l0_1 a1).bind fun t192 => (if t192 < 0 then (some (-1)) else (some t192))) = some r := h
 clear h; replace H := Option.bind_eq_some_iff.mp H
 obtain ⟨t192, A30, H⟩ := H
 replace H : (if t192 < 0 then (some (-1)) else (some t192)) = some r := H
 have A3 := Aside0.mk A30
 clear A30
 by_cases c4 : t192 < 0
 ·rw [if_pos c4] at H
  have c4b0 : decide (t192 < 0) = true := decide_eq_true c4
  clear c4; obtain rfl := Option.some.inj H
  go_enter Try.func15, Try.ntmps15
  go_wp2_with (first | ((with_reducible refine gate_dst (N := 2) rfl ?_); refine bX 2 #[.int .i64 a0_0, .slice A0_1 l0_1.length c0_1] 46 ?_; intro gb191 hg w5 hbox hb; have a9a := Aside0.mk (hbox); have GW191 := bs HB hg; have GE191 := bs HB hg; replace HB := bh HB hb; clear hb hbox hg; obtain ⟨hcz6_0, hcz6_1⟩ := cs2 a9a; obtain ⟨hfz6_0, hfz6_1⟩ := fs2 a9a) | ((with_reducible refine gate_callee (f := 42) rfl ?_); refine goesC_ (some 8) Try.func42 #[.slice A0_1 l0_1.length c0_1, .int .i64 a1] ?_; (with_reducible refine (laws_szNoteS.calls k _ _ l0_1 a1 t192 _ ?side1 ?side2 A3.out).mono ?_); (case side1 => exact cX (Kd.C_below HR0_1.out HB.out)); (case side2 => exact HC0_1.out); rintro e w7 ⟨rfl, hb⟩; refine ⟨_, rfl, ?_⟩; replace a9a := bq a9a hb; replace HB := bh HB hb; (try clear hb); (try clear hb2); (try clear hk); (try clear hi)))
  go_ret
  exact ⟨eR, iB HB⟩
 ·rw [if_neg c4] at H
  have c4b0 : decide (t192 < 0) = false := decide_eq_false c4
  clear c4; obtain rfl := Option.some.inj H
  go_enter Try.func15, Try.ntmps15
  go_wp2_with (first | ((with_reducible refine gate_dst (N := 2) rfl ?_); refine bX 2 #[.int .i64 a0_0, .slice A0_1 l0_1.length c0_1] 46 ?_; intro gb191 hg w8 hbox hb; have a9a := Aside0.mk (hbox); have GW191 := bs HB hg; have GE191 := bs HB hg; replace HB := bh HB hb; clear hb hbox hg; obtain ⟨hcz9_0, hcz9_1⟩ := cs2 a9a; obtain ⟨hfz9_0, hfz9_1⟩ := fs2 a9a) | ((with_reducible refine gate_callee (f := 42) rfl ?_); refine goesC_ (some 8) Try.func42 #[.slice A0_1 l0_1.length c0_1, .int .i64 a1] ?_; (with_reducible refine (laws_szNoteS.calls k _ _ l0_1 a1 t192 _ ?side1 ?side2 A3.out).mono ?_); (case side1 => exact cX (Kd.C_below HR0_1.out HB.out)); (case side2 => exact HC0_1.out); rintro e w10 ⟨rfl, hb⟩; refine ⟨_, rfl, ?_⟩; replace a9a := bq a9a hb; replace HB := bh HB hb; (try clear hb); (try clear hb2); (try clear hk); (try clear hi)))
  go_ret
  exact ⟨eR, iB HB⟩
def spec_l1In.f (a0 : Int) (a1 : Int) (a2 : Int) : Option (Bool) := if a0 ≥ a1 then (some (decide (a0 ≤ a2))) else (some false)
set_option maxHeartbeats 8000000 in
set_option maxRecDepth 100000 in
theorem spec_l1In.calls (a0 : Int) (a1 : Int) (a2 : Int) (r : Bool) (w : World) (h : spec_l1In.f a0 a1 a2 = some r) :
  Calls Try.prog 43 #[.int .i64 a0, .int .i64 a1, .int .i64 a2] w fun e w' => e = .returned (.bool r) ∧ Drawn0 w w' := by
 have H : (if a0 ≥ a1 then (some (decide (a0 ≤ a2))) else (some false)) = some r := h
 clear h
 by_cases c4 : a0 ≥ a1
 ·rw [if_pos c4] at H
  have c4b0 : decide (a1 ≤ a0) = true := decide_eq_true c4
  clear c4; obtain rfl := Option.some.inj H
  go_enter Try.func43, Try.ntmps43
  go_wp2
  go_ret
  exact ⟨by first | rfl | (simp; done) | (simp [*]; done), by repeat (first | exact Drawn0.refl _ | apply Drawn0.step)⟩
 ·rw [if_neg c4] at H
  have c4b0 : decide (a1 ≤ a0) = false := decide_eq_false c4
  clear c4; obtain rfl := Option.some.inj H
  go_enter Try.func43, Try.ntmps43
  go_wp2
  go_ret
  exact ⟨by first | rfl | (simp; done) | (simp [*]; done), by repeat (first | exact Drawn0.refl _ | apply Drawn0.step)⟩
def spec_l7Bytes.f (l0 : List ByteArray) (a1 : Int) : Option (ByteArray) := if a1 < 256 then (some (strOfNums (([(a1) % 256] : List Int)))) else (if 0 ≤ (wrap64 (a1 - 256)) then (if (wrap64 (a1 - 256)) < (l0.length : Int) then (some (rdOf ByteArray.empty l0 (wrap64 (a1 - 256)))) else (none)) else (none))
set_option maxHeartbeats 8000000 in
set_option maxRecDepth 100000 in
theorem spec_l7Bytes.calls (A0 : Option Addr) (c0 : Nat) (l0 : List ByteArray) (a1 : Int) (r : ByteArray) (w : World) (hr0 : Kd.C Kd.string w A0 l0.length l0) (hc0 : l0.length ≤ c0) (h : spec_l7Bytes.f l0 a1 = some r) :
  Calls Try.prog 67 #[.slice A0 l0.length c0, .int .i64 a1] w fun e w' => e = .returned (.string r) ∧ Below w.heap.size w w' := by
 have HR0 := Aside0.mk hr0
 have HC0 := Aside0.mk hc0
 clear hr0 hc0; have HB := Aside0.mk (Below.refl w.heap.size w)
 have H : (if a1 < 256 then (some (strOfNums (([(a1) % 256] : List Int)))) else (if 0 ≤ (wrap64 (a1 - 256)) then (if (wrap64 (a1 - 256)) < (l0.length : Int) then (some (rdOf ByteArray.empty l0 (wrap64 (a1 - 256)))) else (none)) else (none))) = some r := h
 clear h
 by_cases c3 : a1 < 256
 ·rw [if_pos c3] at H
  have c3b0 : decide (a1 < 256) = true := decide_eq_true c3
  clear c3; obtain ⟨y193, hy193⟩ : ∃ y_ : List Int, y_ = (([(a1) % 256] : List Int)) := ⟨_, rfl⟩
  replace H : (some (strOfNums y193)) = some r := by first | (rw [hy193]; with_reducible exact H) | (have H2_ := (Option.bind_some _ _).symm.trans H; rw [hy193]; with_reducible exact H2_) | (have H2_ := (Option.bind_some _ _).symm.trans H; with_reducible exact H2_) | with_reducible exact H | (rw [hy193]; exact H) | exact H
  have Ny193 := Aside0.mk hy193
  clear hy193; obtain rfl := Option.some.inj H
  go_enter Try.func67, Try.ntmps67
  go_wp2_with (first | ((with_reducible refine gate_dst (N := 9) rfl ?_); refine Kd.R_lit (Kd.int .u8) _ 5 ?hg (N := 9) ?hd (xs := ([(a1) % 256] : List Int)) (inner := [.int .u8 ((a1) % 256)]) (ok := fun _ => True) (okp := fun _ => True) ?hr ?hp (fun _ hk => hk) trivial (Below.refl _ _) (Nat.le_refl _) (by simp) ?_; (case hd => rfl); (case hg => rfl); (case hr => first | (go_simp; done) | (go_simp; rfl)); (case hp => exact (Reps.one (show Kd.M (Kd.int .u8) _ _ _ ((a1) % 256) [.int .u8 ((a1) % 256)] from rfl) (Reps.none _ _))); intro v194 w4 ho5 hb hg_ hnew_; clear hg_ hnew_; (first | rw [← Ny193.out] at ho5 | (simp only [Int.reduceToNat] at ho5; rw [← Ny193.out] at ho5)); have HO195 := Aside0.mk (Kd.R_lower ho5 (below_size (be HB))); replace HB := bh HB hb; clear hb ho5; have hcv6 := own_string (P := Try.prog) Try.underlying22 Try.underlying5 Try.underlying9 (Kd.own_of_R HO195.out)))
  go_ret
  exact ⟨eR, iB HB⟩
 ·rw [if_neg c3] at H
  have c3b0 : decide (a1 < 256) = false := decide_eq_false c3
  clear c3; obtain ⟨ji7, hji7⟩ : ∃ j_ : Int, (wrap64 (a1 - 256)) = j_ := ⟨_, rfl⟩
  replace H : (if 0 ≤ (ji7) then (if (ji7) < (l0.length : Int) then (some (rdOf ByteArray.empty l0 (ji7))) else (none)) else (none)) = some r := by first | (rw [hji7] at H; exact H) | (simp only [hji7] at H ⊢; exact H)
  have hji7w : (IntKind.i64.wrap (a1 - 256)) = ji7 := (i64_w _).trans hji7
  by_cases c8 : 0 ≤ (ji7)
  ·rw [if_pos c8] at H
   have c8b0 : decide (0 ≤ (ji7)) = true := decide_eq_true c8
   clear c8
   by_cases c9 : (ji7) < (l0.length : Int)
   ·rw [if_pos c9] at H
    have c9b0 : decide ((ji7) < (l0.length : Int)) = true := decide_eq_true c9
    clear c9; obtain rfl := Option.some.inj H
    have p196 : 0 ≤ ((ji7) : Int) := oD
    have q196 : (ji7) < (l0.length : Int) := oD
    obtain ⟨ad196, e196, hx196_0⟩ := Kd.at_string HR0.out (ji7) p196 q196
    cases e196
    replace p196 := eq_true p196
    replace q196 := eq_true q196
    go_enter Try.func67, Try.ntmps67
    go_wp2
    go_ret
    exact ⟨by first | rfl | (simp [errW_none, errW_some] <;> rfl) | (simp only [← hji7]; first | rfl | (simp [errW_none, errW_some] <;> rfl)) | (simp [*, errW_none, errW_some] <;> rfl), iB HB⟩
   ·rw [if_neg c9] at H
    exact absurd H (by simp)
  ·rw [if_neg c8] at H
   exact absurd H (by simp)
end Go.Proofs.Ytddebnchbbmbkaa.PFnExactRecall
