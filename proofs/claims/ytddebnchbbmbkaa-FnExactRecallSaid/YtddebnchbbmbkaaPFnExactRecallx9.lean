-- The machine side of a law: written by a program of this session (wip/tools), a turned print.
import Derived.Test.YtddebnchbbmbkaaPFnExactRecallx0
import Derived.Test.YtddebnchbbmbkaaPFnExactRecallx2
import Derived.Test.YtddebnchbbmbkaaPFnExactRecallx3
import Derived.Test.YtddebnchbbmbkaaPFnExactRecallx5
import Derived.Test.YtddebnchbbmbkaaPFnExactRecallx6
import Derived.Test.YtddebnchbbmbkaaPFnExactRecallx7
import Derived.Test.YtddebnchbbmbkaaPFnExactRecallx8
namespace Go.Proofs.Ytddebnchbbmbkaa.PFnExactRecall
open Go.RowKit Go.Proofs.YtddebnchbbmbkaaW.PrintWords Go.Proofs.YtddebnchbbmbkaaW.PrintLast Go.Proofs.YtddebnchbbmbkaaW.PrintMore
attribute [local go_sem] max2_int min2_int max_two min_two max_three min_three max_four min_four   -- for this text's walks alone
set_option linter.unusedVariables false
set_option linter.unusedSimpArgs false
theorem own_block {w : World} {base e size g n cap : Nat} {xs : List Value} (h : w.ownsRow base e size (.slice (some ⟨g, 0, none⟩) n cap) n xs) : base ≤ g ∧ n ≤ cap ∧ cap ≤ maxLen ∧ ∃ cur, w.heap[g]? = some (.cells cur e (0, 0)) ∧ cur.size = cap * size ∧ cur.toList.take (n * size) = xs := by
  rcases h.2 with ⟨h', _⟩ | ⟨g', cap', cur, h', h1, h2, h3, h4, h5, h6⟩
  · simp at h'
  · simp only [Value.slice.injEq, Option.some.injEq, Addr.mk.injEq, and_true, true_and] at h'
    obtain ⟨rfl, rfl⟩ := h'
    exact ⟨h1, h3, h4, cur, h2, h5, h6⟩
/-- append within the capacity, as one step of a region that draws. -/
theorem step_append_fits {P : Program} {ops : Array Oper} {o : Oper} {a : Act} {w : World} {K : Act → World → Prop} {Q : Exit → Act → World → Prop} {E : Prop}
    (hg : o.guard = none) (s x : Operand) (t : TypeId) (hop : o.op = Op.call { callee := Callee.builtin Builtin.append, args := #[s, x], argTypes := #[t, t] })
    (base : Nat) (e : TypeId) (i : TypeInfo) (size : Nat) (h1 : P.underlying t = some (.slice e)) (h2 : P.info? e = some i) (h4 : i.size = size)
    (g k cap : Nat) (xs : List Value) (hs : a.eval s = .slice (some ⟨g, 0, none⟩) k cap) (hown : w.ownsRow base e size (.slice (some ⟨g, 0, none⟩) k cap) k xs) (ad : Addr) (m c : Nat) (news : List Value) (hx : a.eval x = .slice (some ad) m c) (hn : news.length = m * size)
    (hc : ∀ j u, news[j]? = some u → w.cell? (ad.add j) = some u) (h1c : ∀ u ∈ news, u.oneCell' = true) (b1 : k + m ≤ cap)
    (hK : ∀ w', w'.ownsRow base e size (.slice (some ⟨g, 0, none⟩) (k + m) cap) (k + m) (xs ++ news) → w.grownBy w' (some g) → K (a.put o.dst (.slice (some ⟨g, 0, none⟩) (k + m) cap)) w') :
    if Region.wanted o (yielded ops a.tmps) = true then Oper.wp P o a w K Q else E := by
  have hw : Region.wanted o (yielded ops a.tmps) = true := by simp [Region.wanted, hg]
  rw [if_pos hw]
  obtain ⟨w', hrun, r1, r2⟩ := run_append_fits (P := P) w base t o.type e i size h1 h2 h4 g k cap xs hown ad m c news hn hc h1c b1
  unfold Oper.wp
  simp [execOp, hop, resolve, invoke, builtin, hs, hx, hrun, Result.andThen]
  exact hK w' r1 r2
theorem wpList_clear {P : Program} {ops : Array Oper} {rest : List Oper} {o : Oper} {a : Act} {w w' : World} {v r : Value} {Q : Exit → Act → World → Prop}
    (hg : o.guard = none) (x : Operand) (t : TypeId) (hop : o.op = Op.call { callee := Callee.builtin Builtin.clear, args := #[x], argTypes := #[t] }) (hd : o.dst = none)
    (hx : a.eval x = v) (hrun : ∀ ty, (Builtin.clear_ #[t] ty #[v]).run P w = .ok r w') (hK : wpList P ops Q rest a w') : wpList P ops Q (o :: rest) a w := by
  refine wpList_plain hg fun K hK' => ?_
  unfold Oper.wp
  simp [execOp, hop, resolve, invoke, builtin, hx, hrun, Result.andThen]
  exact hK' _ _ (by rw [hd]; exact hK)
theorem cut_three {P : Program} (t e : TypeId) (kl kh km : IntKind) {i : TypeInfo} (ht : P.underlying t = some (.slice e)) (hi : P.info? e = some i) (A : Option Addr) (n c : Nat) (l h m : Int) (h0 : 0 ≤ l) (h1 : l ≤ h) (h2 : h ≤ m) (h3 : m ≤ c) :
    ∃ v, ∀ W : World, (Instr.slice t (.slice A n c) (some (.int kl l)) (some (.int kh h)) (some (.int km m))).run P W = .ok v W := by
  have hel : P.elem t = e := by simp [Program.elem, ht]
  have hu : P.underlying t = some (.slice (P.elem t)) := by rw [hel]; exact ht
  refine ⟨sliced A l.toNat h.toNat m.toNat i.size, fun W => ?_⟩
  rw [run_slice_lhm W t A n c hu kl kh km l h m h0 h1 h2 h3, hel]
  simp [sizeOf, typeInfo, hi, Result.andThen]
theorem gtrans {w w1 w2 : World} {r : Option Nat} (h : w.grownBy w1 r) (k : w1.grownBy w2 r) : w.grownBy w2 r := ⟨k.os.trans h.os, k.tape.trans h.tape, k.output.trans h.output, Nat.le_trans h.size k.size, fun i hi hn => (k.block i (Nat.lt_of_lt_of_le hi h.size) hn).trans (h.block i hi hn)⟩
theorem gdrew (w : World) (r : Option Nat) : w.grownBy w.drew r := ⟨rfl, rfl, rfl, Nat.le_refl _, fun _ _ _ => rfl⟩
theorem addr_off (g j : Nat) : (⟨g, 0, none⟩ : Addr).add j = ⟨g, j, none⟩ := by
  rw [Addr.add_lit, Nat.zero_add]
/-- The clearing of one element behind the row. -/
theorem clear_one {w : World} {base g n cap : Nat} {xs : List Value} (h : w.ownsRow base 86 2 (.slice (some ⟨g, 0, none⟩) n cap) n xs) (hn : n < cap) (c : Nat) :
    ∃ w', (∀ ty, (Builtin.clear_ #[29] ty #[.slice (some ⟨g, n * 2, none⟩) 1 c]).run Try.prog w = .ok (.tuple #[]) w') ∧ w'.ownsRow base 86 2 (.slice (some ⟨g, 0, none⟩) n cap) n xs ∧ w.grownBy w' (some g) := by
  obtain ⟨hb, hnc, hm, cur, hcur, hsz, htk⟩ := own_block h
  have hlen := h.1
  obtain ⟨i, hi, hz, hs, hb8⟩ := info_parts info86
  have hc0 : ∀ j, j < 2 → (w.cell? ⟨g, n * 2 + j, none⟩).isSome = true := fun j hj => by
    rw [blk_cell hcur]
    simp; omega
  have hf0 : ∀ j, w.frozen? ⟨g, n * 2 + j, none⟩ = false := fun j => blk_frozen hcur _
  have hst := run_storeCells_cells (P := Try.prog) g (n * 2) [.string (⟨#[]⟩ : ByteArray), .slice none 0 0] 0 w (by simpa using hc0) (by intro j _; simpa using hf0 j) (by simp [Value.oneCell'])
  refine ⟨w.setCells g (n * 2 + 0) [.string (⟨#[]⟩ : ByteArray), .slice none 0 0], fun ty => ?_, ?_, ?_⟩
  · simp only [Builtin.clear_, Sem.run_bind, run_underlying Try.underlying29, Result.andThen]
    simp [zeroValue, typeInfo, hi, hz, Result.andThen, Builtin.zeroCells, Value.cells]
    have e : (List.range 2).map (fun i => ([Value.string (⟨#[]⟩ : ByteArray), Value.slice none 0 0])[i % 2]?.getD default) = [.string (⟨#[]⟩ : ByteArray), .slice none 0 0] := rfl
    rw [e, hst]
    rfl
  · have h1 := blk_set (blk_set hcur (n * 2 + 0) (.string (⟨#[]⟩ : ByteArray))) (n * 2 + 0 + 1) (.slice none 0 0)
    refine ⟨hlen, .inr ⟨g, cap, _, rfl, hb, h1, hnc, hm, by simp [hsz], ?_⟩⟩
    rw [← htk]
    simp only [Array.toList_setIfInBounds, Nat.add_zero]
    rw [List.take_set_of_le (by omega), List.take_set_of_le (by omega)]
  · exact ⟨rfl, rfl, rfl, by simp [World.setCells, World.setCell], fun k hk hne => by
      have : k ≠ g := fun e => hne (by rw [e])
      simp only [World.setCells]
      rw [Below.heap_setCell _ _ _ k this, Below.heap_setCell _ _ _ k this]⟩
set_option maxHeartbeats 4000000 in
set_option maxRecDepth 100000 in
/-- slices.Delete of one element, in place. -/
theorem slices_Delete.calls (base g n cap : Nat) (i j : Int) (inner : List Value) (w : World) (hown : w.ownsRow base 86 2 (.slice (some ⟨g, 0, none⟩) n cap) n inner) (h1 : ∀ u ∈ inner, u.oneCell' = true) (hi0 : 0 ≤ i) (hin : i < n) (hj : j = i + 1) :
  Calls Try.prog 69 #[.slice (some ⟨g, 0, none⟩) n cap, .int .i64 i, .int .i64 j] w fun e w' => e = .returned (.slice (some ⟨g, 0, none⟩) (n - 1) cap) ∧ w'.ownsRow base 86 2 (.slice (some ⟨g, 0, none⟩) (n - 1) cap) (n - 1) (inner.take (i.toNat * 2) ++ inner.drop (i.toNat * 2 + 2)) ∧ w.grownBy w' (some g) := by
  obtain ⟨hb, hnc, hm, cur, hcur, hsz, htk⟩ := own_block hown
  have hlen := hown.1
  obtain ⟨ti, hi, hz, hs, hb8⟩ := info_parts info86
  obtain ⟨v1, c1⟩ := cut_three (P := Try.prog) 29 86 .i64 .i64 .i64 Try.underlying29 hi (some ⟨g, 0, none⟩) n cap i j n hi0 (by omega) (by omega) (by omega)
  have c2 := cut_to (P := Try.prog) 29 86 .i64 Try.underlying29 hi (some ⟨g, 0, none⟩) n cap i hi0 (by omega) hnc
  have c3 := cut_from (P := Try.prog) 29 86 .i64 Try.underlying29 hi 2 hs (some ⟨g, 0, none⟩) n cap j (by omega) (by omega)
  obtain ⟨ao, hao⟩ : ∃ ao : Addr, (if cap = j.toNat then some (⟨g, 0, none⟩ : Addr) else (some (⟨g, 0, none⟩ : Addr)).map (·.add (j.toNat * 2))) = some ao := by
    split <;> exact ⟨_, rfl⟩
  rw [hao] at c3
  have hne : (i == j) = false := beq_eq_false_iff_ne.mpr (by omega)
  have hjn : j.toNat = i.toNat + 1 := by omega
  have hnews : ∀ q u, (inner.drop (i.toNat * 2 + 2))[q]? = some u → w.cell? (ao.add q) = some u := fun q u hq => by
    have hq' := (List.getElem?_eq_some_iff.1 hq).1
    rw [List.length_drop, hlen] at hq'
    have : ¬ cap = j.toNat := by omega
    rw [if_neg this] at hao
    have e : ao = ⟨g, j.toNat * 2, none⟩ := by rw [← addr_off]; exact (Option.some.inj hao).symm
    rw [e, Addr.add_lit, hown.cellAt _ (by omega), ← hq, List.getElem?_drop]
    congr 1
    omega
  have hk : i.toNat + (n - j.toNat) = n - 1 := by omega
  have c4 : ∀ W : World, (Instr.slice 29 (.slice (some ⟨g, 0, none⟩) (n - 1) cap) (some (.int .i64 ((n - 1 : Nat) : Int))) (some (.int .i64 (n : Int))) none).run Try.prog W = .ok (.slice (some ⟨g, (n - 1) * 2, none⟩) 1 (cap - (n - 1))) W := fun W => by
    have hel : Try.prog.elem 29 = 86 := by simp [Program.elem, Try.underlying29]
    have hu : Try.prog.underlying 29 = some (.slice (Try.prog.elem 29)) := by rw [hel]; exact Try.underlying29
    rw [run_slice_lh W 29 _ _ _ hu .i64 .i64 _ _ (by omega) (by omega) (by omega), hel]
    have e1 : n - (n - 1) = 1 := by omega
    have e2 : ¬ cap = n - 1 := by omega
    simp [sizeOf, typeInfo, hi, hs, sliced, Result.andThen, e1, e2, addr_off]
  have HO := Aside0.mk hown
  have HT := Aside0.mk (own_take hown (m := i.toNat) (by omega))
  have H1 := Aside0.mk (fun u hu => h1 u (List.mem_of_mem_drop hu) : ∀ u ∈ inner.drop (i.toNat * 2 + 2), u.oneCell' = true)
  have HN := Aside0.mk hnews
  have HL : Aside0 ((inner.drop (i.toNat * 2 + 2)).length = (n - j.toNat) * 2) := ⟨by rw [List.length_drop, hlen]; omega⟩
  have HK := Aside0.mk hk
  have HR : Aside0 (i.toNat + (n - j.toNat) ≤ cap) := ⟨by omega⟩
  have HS := Aside0.mk hs
  have HI := Aside0.mk hi
  have HJ := Aside0.mk hj
  have HIN := Aside0.mk hin
  have HNC := Aside0.mk hnc
  clear hj hjn hao hin hnc; clear hown hlen h1 hnews hk hcur hsz htk hz hb8 hm hs hi
  go_enter Try.func69, Try.ntmps69
  go_wp2
  go_region_law (refine step_append_fits rfl (.tmp 22) (.tmp 25) 29 rfl base 86 ti 2 Try.underlying29 HI.out HS.out g i.toNat cap _ rfl HT.out ao (n - j.toNat) (cap - j.toNat) (inner.drop (i.toNat * 2 + 2)) rfl HL.out HN.out H1.out HR.out ?_; intro w1 ho hg; rw [HK.out] at ho ⊢)
  all_goals
    have HG := Aside0.mk hg
    have HLT : Aside0 (n - 1 < cap) := ⟨by have := HNC.out; have := HIN.out; omega⟩
    obtain ⟨w2, hclr, ho2, hg2⟩ := clear_one ho HLT.out (cap - (n - 1))
    have HC := Aside0.mk hclr
    have HO2 := Aside0.mk ho2
    have HG2 := Aside0.mk hg2
    clear hg hclr ho ho2 hg2
    go_wp2
    rw [HC.out 0]
    go_wp2
    go_ret
    exact ⟨rfl, HO2.out, gtrans (gtrans (gdrew w _) HG.out) HG2.out⟩
def impl_Memo_recall.T7 : Bool × List (List Nat × List Nat) := (true, [([], []), ([], []), ([1], [1]), ([], []), ([3], [3]), ([4], [4]), ([5], [5]), ([2, 6], [2, 6]), ([0, 0, 1, 2, 3, 4, 5, 6, 7], [0]), ([8, 0, 1, 2, 3, 4, 5, 6, 7], [8]), ([9, 7, 7, 0, 1, 2, 3, 4, 5, 6, 7], [7, 9])])
def impl_Memo_recall.B7 : List Nat := [0, 0, 2, 0, 8, 24, 56, 126, 255, 511, 1023]
theorem impl_Memo_recall.tab7 : rtab .any (opsOf Try.f39 7) = impl_Memo_recall.T7 := by kernel_rfl
theorem impl_Memo_recall.bits7 : waitsOk impl_Memo_recall.T7.2 impl_Memo_recall.B7 = true := by kernel_rfl
def impl_Memo_recall.T8 : Bool × List (List Nat × List Nat) := (true, [([], []), ([], []), ([1], [1]), ([2], [2]), ([3], [3]), ([], []), ([5], [5]), ([6], [6]), ([7], [7]), ([8], [8]), ([], []), ([10], [10]), ([11], [11]), ([12], [12]), ([9, 13], [9, 13]), ([4, 14], [4, 14]), ([0, 0, 1, 2, 3, 4, 5, 6, 7, 8, 9, 10, 11, 12, 13, 14, 15], [0]), ([16, 0, 1, 2, 3, 4, 5, 6, 7, 8, 9, 10, 11, 12, 13, 14, 15], [16]), ([17, 15, 0, 1, 2, 3, 4, 5, 6, 7, 8, 9, 10, 11, 12, 13, 14, 15], [15, 17])])
def impl_Memo_recall.B8 : List Nat := [0, 0, 2, 6, 14, 0, 32, 96, 224, 480, 0, 1024, 3072, 7168, 16352, 32766, 65535, 131071, 262143]
theorem impl_Memo_recall.tab8 : rtab .any (opsOf Try.f39 8) = impl_Memo_recall.T8 := by kernel_rfl
theorem impl_Memo_recall.bits8 : waitsOk impl_Memo_recall.T8.2 impl_Memo_recall.B8 = true := by kernel_rfl
theorem cell_other {w : World} {b o : Nat} {s : Value} (hc : w.cell? ⟨b, o, none⟩ = some s) {x : Addr} {u : Value} (hx : w.cell? x = some u) (hne : u ≠ s) (v : Value) : (w.setCell ⟨b, o, none⟩ v).cell? x = some u := by
  show (w.setCells b o [v]).cell? x = some u
  rw [World.cell?_setCells_out, hx]
  intro h1 h2
  by_cases h3 : x.off = o
  · have h4 : x = ⟨b, o, none⟩ := by
      cases x
      simp_all
    rw [h4, hc] at hx
    exact absurd (Option.some.inj hx).symm hne
  · simp only [List.length_cons, List.length_nil]
    omega
theorem int_far {w : World} {b o n0 c0 : Nat} {A0 : Option Addr} (hc : w.cell? ⟨b, o, none⟩ = some (.slice A0 n0 c0)) (v : Value) {A : Option Addr} {n : Nat} {xs : List Int} (h : Kd.C (Kd.int .i64) w A n xs) : Kd.C (Kd.int .i64) (w.setCell ⟨b, o, none⟩ v) A n xs := by
  refine ⟨h.1, h.2.1, fun hn => ?_⟩
  obtain ⟨ad, e, hcell⟩ := h.2.2 hn
  refine ⟨ad, e, fun j p hj => ?_⟩
  obtain ⟨c, hl, hR, hcc⟩ := hcell j p hj
  refine ⟨c, hl, hR, fun i u hi => cell_other hc (hcc i u hi) (fun e2 => ?_) v⟩
  have hR' : c = [.int .i64 p] := hR
  have hm := List.mem_of_getElem? hi
  rw [hR', e2] at hm
  simp at hm
theorem note_far {w : World} {b o n0 c0 : Nat} {A0 : Option Addr} (hc : w.cell? ⟨b, o, none⟩ = some (.slice A0 n0 c0)) (v : Value) {x : S86} {cs : List Value} (h : k86.K w x cs) : k86.K (w.setCell ⟨b, o, none⟩ v) x cs := by
  obtain ⟨A1, c1, rfl, hl, hg⟩ := k86_open h
  exact k86_mk _ x hl (int_far hc v hg)
/-- append of a row that is read onto a row of one's own of one note. -/
theorem step_append_notes {ops : Array Oper} {o : Oper} {a : Act} {W : World} {K : Act → World → Prop} {Q : Exit → Act → World → Prop}
    (hw : Region.wanted o (yielded ops a.tmps) = true) (s x : Operand) (hop : o.op = .call { callee := .builtin .append, args := #[s, x], argTypes := #[29, 29] })
    (base : Nat) (v : Value) (xs : List Value) (A : Option Addr) (m c : Nat) (L : List S86) (hs : a.eval s = v) (hx : a.eval x = .slice A m c)
    (hown : W.ownsRow base 86 2 v 1 xs) {Rr : S86 → List Value → Prop} (HR : ReadsRow Rr 2 W A m L) (hRr : ∀ x cs, Rr x cs → ∀ u ∈ cs, u.oneCell' = true) (hb : base ≤ W.heap.size) (hl : (1 + m) * 40 ≤ 140737488355328)
    (h : ∀ v1 w1 news, w1.ownsRow base 86 2 v1 (1 + m) (xs ++ news) → Reps Rr 2 L news → W.grownBy w1 v.ownBlock → K (a.put o.dst v1) w1) :
    if Region.wanted o (yielded ops a.tmps) = true then Oper.wp Try.prog o a W K Q else K (a.put o.dst undef) W := by
  obtain ⟨i, hi, hz, hsz, hby⟩ := info_parts info86
  have hm : L.length = m := HR.1
  have hrun : ∃ v1 w1 news, (Builtin.append_ #[29, 29] o.type #[v, .slice A m c]).run Try.prog W = .ok v1 w1 ∧ w1.ownsRow base 86 2 v1 (1 + m) (xs ++ news) ∧ Reps Rr 2 L news ∧ W.grownBy w1 v.ownBlock := by
    rcases A with _ | ad
    · have h0 : m = 0 := by
        rcases Nat.eq_zero_or_pos m with h0 | h0
        · exact h0
        · obtain ⟨ad, h, _⟩ := HR.2.2 h0
          cases h
      subst h0
      obtain rfl : L = [] := List.eq_nil_of_length_eq_zero hm
      refine ⟨v, W, [], ?_, by simpa using hown, Reps.none _ _, World.grownBy.refl W _⟩
      rcases hown.2 with ⟨rfl, hn⟩ | ⟨g, cap, cur, rfl, _, _, hnc, _⟩
      · simp [Builtin.append_, run_underlying Try.underlying29, sizeOf, typeInfo, hi, Builtin.lenOf, Builtin.firstCells]
      · simp [Builtin.append_, run_underlying Try.underlying29, sizeOf, typeInfo, hi, Builtin.lenOf, Builtin.firstCells, hnc, storeCells]
    · obtain ⟨news, hnr', hnc⟩ := ReadsRow.inner_ HR
      have hnr : Reps Rr 2 L news := hnr'
      clear hnr'
      have hone : ∀ u ∈ news, u.oneCell' = true := by
        intro u hu
        obtain ⟨q, hq, rfl⟩ := List.getElem_of_mem hu
        have hlen : news.length = L.length * 2 := hnr.1
        have hj : q / 2 < L.length := by omega
        have hK := hnr.2 (q / 2) _ (List.getElem?_eq_getElem hj)
        refine hRr _ _ hK _ (List.mem_iff_getElem?.mpr ⟨q % 2, ?_⟩)
        have : q / 2 * 2 + q % 2 = q := by omega
        rw [List.getElem?_take, if_pos (Nat.mod_lt _ (by decide)), List.getElem?_drop]
        show news[q / 2 * 2 + q % 2]? = _
        rw [this, List.getElem?_eq_getElem hq]
      obtain ⟨v', w', hr, ho, hg, _⟩ := run_append_own (P := Try.prog) W base 29 o.type 86 i _ 2 40 Try.underlying29 hi hz hsz hby rfl (by decide) v 1 xs hown ad m c news (by rw [hnr.1, hm]) hnc hone (by simp only [maxLen]; omega) hl hb
      exact ⟨v', w', news, hr, ho, hnr, hg⟩
  obtain ⟨v1, w1, news, hr, ho, hrep, hg⟩ := hrun
  rw [if_pos hw]
  unfold Oper.wp
  simp [execOp, hop, resolve, invoke, builtin, hs, hx, hr, Result.andThen]
  exact h v1 w1 news ho hrep hg
theorem notes_N {w : World} {base n : Nat} {ok okE : Nat → Prop} {v : Value} {xs : List S86} {inner : List Value} (ho : w.ownsRow base 86 2 v n inner) (hn : n = xs.length) (hr : Reps (Kd.FK k86 w okE) 2 xs inner)
    (h0 : ∀ k, v.ownBlock = some k → ok k) (hE : ∀ k, okE k → ok k ∧ some k ≠ v.ownBlock) : Kd.N k86 86 w base ok v xs := by
  subst hn
  refine ⟨h0, Kd.chunks 2 xs.length inner, Kd.chunks_length _ _ _, ⟨fun k hk => hk.symm, inner, by rw [Kd.chunks_length]; exact ho, Kd.reps_raw hr (fun x c hp => ⟨k86.K_len (Kd.FK_now hp), k86.K_one (Kd.FK_now hp)⟩)⟩, fun j x c hx hc => ?_⟩
  rw [Kd.chunks_get hc]
  exact Kd.FK_mono (hr.2 j x hx) hE
theorem notes_own {w : World} {base : Nat} {ok : Nat → Prop} {v : Value} {xs : List S86} (h : Kd.N k86 86 w base ok v xs) : ∃ inner, w.ownsRow base 86 2 v xs.length inner ∧ Reps (Kd.FK k86 w (fun k_ => ok k_ ∧ some k_ ≠ v.ownBlock)) 2 xs inner ∧ ∀ k, v.ownBlock = some k → ok k := by
  obtain ⟨h0, rows, hl, ⟨_, inner, ho, hr⟩, hf⟩ := h
  refine ⟨inner, by rw [← hl]; exact ho, ⟨by have := hr.1; rw [hl] at this; exact this, fun j p hj => ?_⟩, h0⟩
  have hjr : j < rows.length := by have := (List.getElem?_eq_some_iff.1 hj).1; omega
  have h2 := hr.2 j _ (List.getElem?_eq_getElem hjr)
  have h3 := hf j p _ hj (List.getElem?_eq_getElem hjr)
  have h4 := h2.1
  rw [← h4] at h3
  exact h3
theorem note_F {w : World} {ok : Nat → Prop} {x : S86} {cs : List Value} (h : Kd.FK k86 w ok x cs) : ∃ A c, cs = [.string x.f0, .slice A x.f1.length c] ∧ x.f1.length ≤ c ∧ Kd.F (Kd.int .i64) w ok A x.f1.length x.f1 := by
  obtain ⟨A, c, e, hl, hg⟩ := k86_open (Kd.FK_now h)
  refine ⟨A, c, e, hl, fun W' hW => ?_⟩
  obtain ⟨A', c', e', hl', hg'⟩ := k86_open (h W' hW)
  rw [e] at e'
  injection e' with _ e2
  injection e2 with e3 _
  injection e3 with e4 _ _
  rw [e4]
  exact hg'
theorem note_FK {w : World} {ok : Nat → Prop} {x : S86} {A : Option Addr} {c : Nat} (hl : x.f1.length ≤ c) (h : Kd.F (Kd.int .i64) w ok A x.f1.length x.f1) : Kd.FK k86 w ok x [.string x.f0, .slice A x.f1.length c] := fun W' hW => k86_mk W' x hl (h W' hW)
theorem own_ge {w : World} {base e size n : Nat} {v : Value} {xs : List Value} (h : w.ownsRow base e size v n xs) : ∀ k, v.ownBlock = some k → base ≤ k := by
  intro k hk
  rcases h.2 with ⟨rfl, _⟩ | ⟨g, cap, cur, rfl, h1, _⟩
  · simp [Value.ownBlock] at hk
  · simp [Value.ownBlock] at hk
    omega
def impl_Memo_recall.pick (k : Nat) (l0 : List S95) (l1 : List S86) (a2 : ByteArray) (i : Int) : Option (S86 × List S86) :=
  if 0 ≤ i then (if i < (l1.length : Int) then some (rd_T86 l1 i, l1.eraseIdx i.toNat) else none) else (impl_bpe.f k l0 a2).bind fun t => some (⟨a2, t⟩, l1)
def impl_Memo_recall.fin (room i : Int) (q : S86 × List S86) : Option (List S86 × List Int × Bool) :=
  if q.2.length < 3518437208882 then (if 0 ≤ room then (impl_copyInts.f q.1.f1).bind fun t => some ((q.1 :: q.2).take (mn ((1 + q.2.length : Nat) : Int) room).toNat, t, decide (0 ≤ i)) else none) else none
def impl_Memo_recall.f (k : Nat) (l0 : List S95) (room : Int) (l1 : List S86) (a2 : ByteArray) : Option (List S86 × List Int × Bool) :=
  (impl_Memo_at.f k room l1 a2).bind fun i => (impl_Memo_recall.pick k l0 l1 a2 i).bind fun q => impl_Memo_recall.fin room i q
set_option maxHeartbeats 2000000 in
set_option maxRecDepth 100000 in
theorem impl_Memo_recall.calls (k : Nat) (A0 : Option Addr) (c0 : Nat) (l0 : List S95) (a2 : ByteArray) (gm : Nat) (room : Int) (v : Value) (l1 : List S86) (base : Nat) (ok : Nat → Prop) (r1 : List S86) (r2 : List Int) (r3 : Bool) (w : World)
    (hr0 : Kd.C k95 w A0 l0.length l0) (hc0 : l0.length ≤ c0) (hbm : w.heap[gm]? = some (.cells #[.int .i64 room, v] 31 (0, 0))) (hS : Kd.N k86 86 w base ok v l1) (hok : ∀ k, ok k → k ≠ gm) (hbg : base ≤ gm)
    (h : impl_Memo_recall.f k l0 room l1 a2 = some (r1, r2, r3)) :
    Calls Try.prog 39 #[.pointer (some ⟨gm, 0, none⟩), .agg #[.slice A0 l0.length c0], .string a2] w fun e w' => ∃ (v2 : Value) (A : Option Addr) (c : Nat), e = .returned (.tuple #[v2, .bool r3]) ∧ Kd.R (Kd.int .i64) 3 w' w.heap.size (fun _ => True) v2 r2 ∧ w'.heap[gm]? = some (.cells #[.int .i64 room, .slice A r1.length c] 31 (0, 0)) ∧ Kd.N k86 86 w' base (fun k_ => (ok k_ ∨ w.heap.size ≤ k_) ∧ some k_ ≠ v2.ownBlock) (.slice A r1.length c) r1 ∧ Below base w w' ∧ ∀ k, k < w.heap.size → k ≠ gm → some k ≠ v.ownBlock → w'.heap[k]? = w.heap[k]? := by
 have hu26 := Try.underlying26
 have hu31 := Try.underlying31
 have hu86 := Try.underlying86
 obtain ⟨A1, c1, rfl⟩ := Kd.N_slice hS
 have HRD := Aside0.mk (Kd.N_reads' hS)
 have HOKK := Aside0.mk hok
 have HGM : Aside0 (gm < w.heap.size) := ⟨blk_lt hbm⟩
 clear hok
 unfold impl_Memo_recall.f at h
 obtain ⟨i, hat, h⟩ := Option.bind_eq_some_iff.mp h
 obtain ⟨⟨nt, L⟩, hpick, h⟩ := Option.bind_eq_some_iff.mp h
 unfold impl_Memo_recall.fin at h
 by_cases hL : L.length < 3518437208882
 · rw [if_pos hL] at h
   by_cases hroom : 0 ≤ room
   · rw [if_pos hroom] at h
     obtain ⟨tk9, hcopy, h⟩ := Option.bind_eq_some_iff.mp h
     simp only [Option.some.injEq, Prod.mk.injEq] at h
     obtain ⟨rfl, rfl, rfl⟩ := h
     have HLL := Aside0.mk hL
     have HRO := Aside0.mk hroom
     have HCP := Aside0.mk hcopy
     have HPK := Aside0.mk hpick
     have HAT := Aside0.mk hat
     have HS := Aside0.mk hS
     have HR0 := Aside0.mk hr0
     have HC0 := Aside0.mk hc0
     have BKM := Aside0.mk hbm
     have HBG := Aside0.mk hbg
     have hcm0 : w.cell? ⟨gm, 0, none⟩ = some (.int .i64 room) := bc BKM 0
     have hcm1 : w.cell? ⟨gm, 1, none⟩ = some (.slice A1 l1.length c1) := bc BKM 1
     clear hL hroom hcopy hpick hat hS hr0 hc0 hbm hbg
     go_enter Try.func39, Try.ntmps39
     go_upto_if 18 with (first
      | ((with_reducible refine gate_dst (N := 4) rfl ?_); refine bX 4 #[.slice A0 l0.length c0] 26 ?_; intro gv hg w1 hbox hb; have BKV := Aside0.mk hbox; have BKM1 := bq BKM hb; have HB1 := Aside0.mk hb; have NVM : Aside0 (gm < gv) := ⟨by rw [hg]; exact blk_lt BKM.out⟩; have HGV : Aside0 (gv = w.heap.size) := ⟨hg⟩; clear hbox hb hg hcm0 hcm1; have hcm0 : w1.cell? ⟨gm, 0, none⟩ = some (.int .i64 room) := bc BKM1 0; have hcm1 : w1.cell? ⟨gm, 1, none⟩ = some (.slice A1 l1.length c1) := bc BKM1 1)
      | (go_at_call 60; refine (impl_Memo_at.calls k room A1 c1 l1 a2 i _ (Kd.C_below HRD.out.2.2 HB1.out) HRD.out.2.1 HAT.out).mono ?_; rintro e w2 ⟨rfl, hb⟩; have BKM2 := bq BKM1 hb; have BKV2 := bq BKV hb; have HB2 : Aside0 (Below w.heap.size w w2) := ⟨below_step HB1.out hb⟩; clear hb hcm0 hcm1)
      | ((with_reducible refine gate_dst (N := 9) rfl ?_); refine bX 9 #[.string (⟨#[]⟩ : ByteArray), .slice none 0 0] 86 ?_; intro gn hg w3 hbox hb; have BKN := Aside0.mk hbox; have BKM3 := bq BKM2 hb; have BKV3 := bq BKV2 hb; have HB3 : Aside0 (Below w.heap.size w w3) := ⟨below_step HB2.out hb⟩; have NVN : Aside0 (gv < gn) := ⟨by rw [hg]; exact blk_lt BKV2.out⟩; clear hbox hb hg; have hcn0 : w3.cell? ⟨gn, 0, none⟩ = some (.string (⟨#[]⟩ : ByteArray)) := bc BKN 0; have hcn1 : w3.cell? ⟨gn, 1, none⟩ = some (.slice none 0 0) := bc BKN 1; have hfn0 := blk_frozen BKN.out 0; have hfn1 := blk_frozen BKN.out 1))
     (try simp only [putL])
     go_cut [] (fun wc => ∃ (At : Option Addr) (ct : Nat) (A : Option Addr) (c : Nat), Aside0 (wc.heap[gm]? = some (.cells #[.int .i64 room, .slice A L.length c] 31 (0, 0))) ∧ Aside0 (wc.heap[gn]? = some (.cells #[.string nt.f0, .slice At nt.f1.length ct] 86 (0, 0))) ∧ Aside0 (Kd.F k86 wc (fun k_ => ok k_ ∨ w.heap.size ≤ k_) A L.length L) ∧ Aside0 (L.length ≤ c) ∧ Aside0 (Kd.F (Kd.int .i64) wc (fun k_ => ok k_ ∨ w.heap.size ≤ k_) At nt.f1.length nt.f1) ∧ Aside0 (nt.f1.length ≤ ct) ∧ Aside0 (Below base w wc) ∧ Aside0 (∀ k, k < w.heap.size → k ≠ gm → some k ≠ (Value.slice A1 l1.length c1).ownBlock → wc.heap[k]? = w.heap[k]?))
     case first =>
      by_cases hi : 0 ≤ i
      · have hpick := HPK.out
        unfold impl_Memo_recall.pick at hpick
        rw [if_pos hi] at hpick
        by_cases hil : i < (l1.length : Int)
        · rw [if_pos hil] at hpick
          simp only [Option.some.injEq, Prod.mk.injEq] at hpick
          obtain ⟨rfl, rfl⟩ := hpick
          obtain ⟨g, cap, e1, hbg', hlt, cells, hcg⟩ := Kd.N_form HS.out (by omega)
          injection e1 with e2 e3 e4
          subst e2
          subst e4
          obtain ⟨inner, hown', hr', hg0⟩ := notes_own HS.out
          have HG0 : Aside0 (ok g) := ⟨hg0 g rfl⟩
          have hown : w.ownsRow base 86 2 (.slice (some ⟨g, 0, none⟩) l1.length c1) l1.length inner := hown'
          have hr : Reps (Kd.FK k86 w (fun k_ => ok k_ ∧ some k_ ≠ (Value.slice (some ⟨g, 0, none⟩) l1.length c1).ownBlock)) 2 l1 inner := hr'
          have hj : i.toNat < l1.length := by omega
          obtain ⟨At, ct, hcs, hlt2, hRt⟩ := note_F (hr.2 i.toNat _ (List.getElem?_eq_getElem hj))
          have hnt : rd_T86 l1 i = l1[i.toNat] := by simp [rd_T86, hj]
          have hx0 : w.cell? ⟨g, i.toNat * 2, none⟩ = some (.string (rd_T86 l1 i).f0) := by
            rw [hown.cellAt _ (by omega), hnt]
            have := congrArg (fun l => l[0]?) hcs
            simpa using this
          have hx1 : w.cell? ⟨g, i.toNat * 2 + 1, none⟩ = some (.slice At (rd_T86 l1 i).f1.length ct) := by
            rw [hown.cellAt _ (by omega), hnt]
            have := congrArg (fun l => l[1]?) hcs
            simpa using this
          rw [← hnt] at hRt hlt2
          have HLT2 := Aside0.mk hlt2
          have hgm : g ≠ gm := fun e => by
            rw [e, BKM.out] at hcg
            simp at hcg
          have hcells : ∀ (a : Addr) (u : Value), w.cell? a = some u → w3.cell? a = some u := fun a u ha => (HB3.out.cell (World.block_lt_of_cell? w _ ha)).trans ha
          replace hx0 := hcells _ _ hx0
          replace hx1 := hcells _ _ hx1
          have hgs : g < w.heap.size := hlt
          have hgn1 : gn ≠ g := by have := NVN.out; have := NVM.out; have := HGV.out; omega
          have hgn2 : g ≠ gn := hgn1.symm
          have hmn1 : gn ≠ gm := by have := NVN.out; have := NVM.out; omega
          have hmn2 : gm ≠ gn := hmn1.symm
          have hmg2 : gm ≠ g := hgm.symm
          have hcm3 : w3.cell? ⟨gm, 1, none⟩ = some (.slice (some ⟨g, 0, none⟩) l1.length c1) := bc BKM3 1
          have hge : decide (0 ≤ i) = true := decide_eq_true hi
          have HW3 := Aside0.mk (own_setCell (own_setCell (own_setCell (own_setCell (pw_own_below hown HB3.out) (p := ⟨gn, 0, none⟩) (by simpa [Value.ownBlock] using hgn1) (.string a2)) (p := ⟨gn, 1, none⟩) (by simpa [Value.ownBlock] using hgn1) (.slice none 0 0)) (p := ⟨gn, 0, none⟩) (by simpa [Value.ownBlock] using hgn1) (.string (rd_T86 l1 i).f0)) (p := ⟨gn, 1, none⟩) (by simpa [Value.ownBlock] using hgn1) (.slice At (rd_T86 l1 i).f1.length ct))
          have HW64 : Aside0 (wrap64 (i + 1) = i + 1) := ⟨by obtain ⟨_, q1, q2, _⟩ := own_block hown; simp only [maxLen] at q2; unfold wrap64; omega⟩
          have HR1 : Aside0 (∀ u ∈ inner, u.oneCell' = true) := ⟨fun u hu => by
            obtain ⟨q, hq, rfl⟩ := List.getElem_of_mem hu
            have hlen : inner.length = l1.length * 2 := hr.1
            have hK := Kd.FK_now (hr.2 (q / 2) _ (List.getElem?_eq_getElem (by omega)))
            refine k86.K_one hK _ (List.mem_iff_getElem?.mpr ⟨q % 2, ?_⟩)
            rw [List.getElem?_take, if_pos (Nat.mod_lt _ (by decide)), List.getElem?_drop, show q / 2 * 2 + q % 2 = q by omega, List.getElem?_eq_getElem hq]⟩
          have HRR := Aside0.mk hr
          have HRT := Aside0.mk hRt
          have HOW := Aside0.mk hown
          have HI := Aside0.mk hi
          have HIL := Aside0.mk hil
          have HCG := Aside0.mk hcg
          have HBG2 := Aside0.mk hbg'
          clear hr hr' hRt hown hown' hg0 hlt2 hcs hcells hi hil hcg hbg' hlt hnt hj
          rw [hge]
          have hib := eq_true HI.out
          have hilb := eq_true HIL.out
          go_wp2_with (go_at_call 69; refine (slices_Delete.calls base g l1.length c1 i (wrap64 (i + 1)) inner _ HW3.out HR1.out HI.out HIL.out HW64.out).mono ?_; rintro e w5 ⟨rfl, ho, hg⟩; have HO5 := Aside0.mk ho; have HG5 := Aside0.mk hg; have hcm5 : w5.cell? ⟨gm, 1, none⟩ = some (.slice (some ⟨g, 0, none⟩) l1.length c1) := (blk_cell (blk_grown (g := gm) (blk_far (blk_far (blk_far (blk_far BKM3.out (p := ⟨gn, 0, none⟩) hmn2 _) (p := ⟨gn, 1, none⟩) hmn2 _) (p := ⟨gn, 0, none⟩) hmn2 _) (p := ⟨gn, 1, none⟩) hmn2 _) hg (by simpa using hmg2)) 1).trans rfl; have hfm5 : w5.frozen? ⟨gm, 1, none⟩ = false := blk_frozen (blk_grown (g := gm) (blk_far (blk_far (blk_far (blk_far BKM3.out (p := ⟨gn, 0, none⟩) hmn2 _) (p := ⟨gn, 1, none⟩) hmn2 _) (p := ⟨gn, 0, none⟩) hmn2 _) (p := ⟨gn, 1, none⟩) hmn2 _) hg (by simpa using hmg2)) 1; clear ho hg hcm3)
          go_meet
          case rel =>
            have hlenE : (l1.eraseIdx i.toNat).length = l1.length - 1 := by rw [List.length_eraseIdx_of_lt (by have := HIL.out; have := HI.out; omega)]
            have hsame : ∀ k, k < w.heap.size → k ≠ g → k ≠ gm → (w5.setCell ⟨gm, 1, none⟩ (.slice (some ⟨g, 0, none⟩) (l1.length - 1) c1)).heap[k]? = w.heap[k]? := fun k hk h1 h2 => by
              have h3 : k ≠ gn := by have := NVN.out; have := HGV.out; omega
              rw [Below.heap_setCell _ _ _ k h2, HG5.out.block k (by have := HB3.out.size; simp [World.setCell]; omega) (by simpa using h1), Below.heap_setCell _ _ _ k h3, Below.heap_setCell _ _ _ k h3, Below.heap_setCell _ _ _ k h3, Below.heap_setCell _ _ _ k h3, HB3.out.block k hk]
            have hM : ∀ x cs, Kd.FK k86 w (fun k_ => ok k_ ∧ some k_ ≠ (Value.slice (some ⟨g, 0, none⟩) l1.length c1).ownBlock) x cs → Kd.FK k86 (w5.setCell ⟨gm, 1, none⟩ (.slice (some ⟨g, 0, none⟩) (l1.length - 1) c1)) (fun k_ => ok k_ ∧ some k_ ≠ (Value.slice (some ⟨g, 0, none⟩) l1.length c1).ownBlock) x cs := fun x cs h_ => Kd.FK_step h_ (fun k hk hlt => hsame k hlt (fun e => hk.2 (by rw [e]; rfl)) (HOKK.out k hk.1))
            have hrep : Reps (Kd.FK k86 (w5.setCell ⟨gm, 1, none⟩ (.slice (some ⟨g, 0, none⟩) (l1.length - 1) c1)) (fun k_ => ok k_ ∧ some k_ ≠ (Value.slice (some ⟨g, 0, none⟩) l1.length c1).ownBlock)) 2 (l1.eraseIdx i.toNat) (inner.take (i.toNat * 2) ++ inner.drop (i.toNat * 2 + 2)) := by
              rw [List.eraseIdx_eq_take_drop_succ]
              have h1 := HRR.out.imp_ hM
              have h2 := Kd.reps_append (Kd.reps_take h1 (m := i.toNat) (by have := HIL.out; have := HI.out; omega)) (Kd.reps_drop h1 (m := i.toNat + 1))
              rw [Nat.succ_mul] at h2
              exact h2
            have hC := Kd.N_F (notes_N (ok := ok) (own_setCell HO5.out (p := ⟨gm, 1, none⟩) (by simpa [Value.ownBlock] using hmg2) (.slice (some ⟨g, 0, none⟩) (l1.length - 1) c1)) hlenE.symm hrep (fun k hk => by
              simp [Value.ownBlock] at hk
              rw [← hk]
              exact HG0.out) (fun k hk => ⟨hk.1, by simpa [Value.ownBlock] using hk.2⟩))
            have hT := Kd.F_step (W1 := w5.setCell ⟨gm, 1, none⟩ (.slice (some ⟨g, 0, none⟩) (l1.length - 1) c1)) HRT.out (fun k hk hlt => hsame k hlt (fun e => hk.2 (by rw [e]; rfl)) (HOKK.out k hk.1))
            obtain ⟨_, q1, q2, _⟩ := own_block HO5.out
            refine ⟨At, ct, some ⟨g, 0, none⟩, c1, ⟨?_⟩, ⟨?_⟩, ⟨?_⟩, ⟨by rw [hlenE]; exact q1⟩, ⟨Kd.F_mono hT (fun k hk => .inl hk.1)⟩, ⟨HLT2.out⟩, ⟨?_⟩, ⟨fun k hk h1 h2 => hsame k hk (fun e => h2 (by rw [e]; rfl)) h1⟩⟩
            · rw [hlenE]
              exact blk_put (blk_grown (g := gm) (blk_far (blk_far (blk_far (blk_far BKM3.out (p := ⟨gn, 0, none⟩) hmn2 _) (p := ⟨gn, 1, none⟩) hmn2 _) (p := ⟨gn, 0, none⟩) hmn2 _) (p := ⟨gn, 1, none⟩) hmn2 _) HG5.out (by simpa using hmg2)) 1 _ rfl
            · exact blk_far (blk_grown (g := gn) (blk_put (cs := #[.string (rd_T86 l1 i).f0, .slice none 0 0]) (blk_put (cs := #[.string a2, .slice none 0 0]) (blk_put (cs := #[.string a2, .slice none 0 0]) (blk_put BKN.out 0 _ rfl) 1 _ rfl) 0 _ rfl) 1 _ rfl) HG5.out (by simpa using hgn1)) hmn1 _
            · rw [hlenE]
              exact Kd.F_mono hC (fun k hk => .inl hk)
            · refine Below.setCell ?_ HBG.out _
              refine pw_below_grown ?_ _ ?_ HG5.out (fun k hk => by injection hk with hk; rw [← hk]; exact HBG2.out)
              · have hb0 : base ≤ gn := by have := NVN.out; have := NVM.out; have := HBG.out; omega
                have h0 : Below base w w3 := ⟨HB3.out.os, HB3.out.tape, HB3.out.output, HB3.out.size, fun k hk => HB3.out.block k (by have := blk_lt BKM.out; have := HBG.out; omega)⟩
                exact (((h0.setCell hb0 _).setCell hb0 _).setCell hb0 _).setCell hb0 _
              · have := blk_lt BKM.out
                have := HBG.out
                have := HB3.out.size
                simp [World.setCell]
                omega
        · rw [if_neg hil] at hpick
          cases hpick
      · have hpick := HPK.out
        unfold impl_Memo_recall.pick at hpick
        rw [if_neg hi] at hpick
        obtain ⟨t, hbpe, hpick⟩ := Option.bind_eq_some_iff.mp hpick
        simp only [Option.some.injEq, Prod.mk.injEq] at hpick
        obtain ⟨rfl, rfl⟩ := hpick
        have HBP := Aside0.mk hbpe
        clear hbpe; have hge : decide (0 ≤ i) = false := decide_eq_false hi
        have hmn1 : gn ≠ gm := by have := NVN.out; have := NVM.out; omega
        have hmn2 : gm ≠ gn := hmn1.symm
        have hvn1 : gn ≠ gv := by have := NVN.out; omega
        have hvn2 : gv ≠ gn := hvn1.symm
        have hgnw : w.heap.size ≤ gn := by have := NVN.out; have := HGV.out; omega
        have hcv3 : w3.cell? ⟨gv, 0, none⟩ = some (.slice A0 l0.length c0) := bc BKV3 0
        have HB4 : Aside0 (Below w.heap.size w ((w3.setCell ⟨gn, 0, none⟩ (.string a2)).setCell ⟨gn, 1, none⟩ (.slice none 0 0))) := ⟨below_set (below_set HB3.out hgnw) hgnw⟩
        rw [hge]
        go_wp2_with (go_at_call 62; refine (impl_bpe.calls k A0 c0 l0 a2 t _ (Kd.C_below HR0.out HB4.out) HC0.out HBP.out).mono ?_; rintro e w5 ⟨v5, rfl, ho5, hb5⟩; obtain ⟨At, ct, rfl⟩ := Kd.R_slice ho5; have HO5 := Aside0.mk ho5; have HB5 := Aside0.mk hb5; have BKN5 : Aside0 (w5.heap[gn]? = some (.cells #[.string a2, .slice none 0 0] 86 (0, 0))) := ⟨blk_below (blk_put (cs := #[.string a2, .slice none 0 0]) (blk_put (cs := #[.string (⟨#[]⟩ : ByteArray), .slice none 0 0]) BKN.out 0 _ rfl) 1 _ rfl) hb5⟩; have hcn5 : w5.cell? ⟨gn, 1, none⟩ = some (.slice none 0 0) := bc BKN5 1; have hfn5 := blk_frozen BKN5.out 1; clear ho5 hb5)
        go_meet
        case rel =>
          have HB6 : Below w.heap.size w (w5.setCell ⟨gn, 1, none⟩ (.slice At t.length ct)) := below_set (below_step HB4.out HB5.out) hgnw
          have hgs : gn < ((w3.setCell ⟨gn, 0, none⟩ (.string a2)).setCell ⟨gn, 1, none⟩ (.slice none 0 0)).heap.size := by
            have := blk_lt BKN.out
            simpa [World.setCell] using this
          have hT : Kd.R (Kd.int .i64) 3 (w5.setCell ⟨gn, 1, none⟩ (.slice At t.length ct)) _ _ (.slice At t.length ct) t := Kd.R_step (Kd.R_bound HO5.out) (fun k hk hlt => Below.heap_setCell _ _ _ k (fun e => by have := hk.2.1; rw [e] at this; exact absurd (Nat.lt_of_lt_of_le hgs this) (Nat.lt_irrefl _)))
          have hT2 := Kd.R_reads' hT
          have h36 : w.heap.size ≤ ((w3.setCell ⟨gn, 0, none⟩ (.string a2)).setCell ⟨gn, 1, none⟩ (.slice none 0 0)).heap.size := HB4.out.size
          refine ⟨At, ct, A1, c1, ⟨?_⟩, ⟨?_⟩, ⟨Kd.F_mono (Kd.F_below (Kd.N_F HS.out) HB6) (fun k hk => .inl hk)⟩, ⟨HRD.out.2.1⟩, ⟨Kd.F_mono (Kd.R_F hT) (fun k hk => .inr (Nat.le_trans h36 hk.2.1))⟩, ⟨hT2.2.1⟩, ⟨?_⟩, ⟨fun k hk _ _ => HB6.block k hk⟩⟩
          · exact blk_far (blk_below (blk_far (blk_far BKM3.out (p := ⟨gn, 0, none⟩) hmn2 _) (p := ⟨gn, 1, none⟩) hmn2 _) HB5.out) hmn2 _
          · exact blk_put BKN5.out 1 _ rfl
          · exact ⟨HB6.os, HB6.tape, HB6.output, HB6.size, fun k hk => HB6.block k (by have := blk_lt BKM.out; have := HBG.out; omega)⟩
     case rest =>
      obtain ⟨At, ct, A, c, BKM, BKN, HCL, HLC, HCT, HLT, HBW, HKP⟩ := hcut
      have HNM : Aside0 (∀ k, (ok k ∨ w.heap.size ≤ k) → k ≠ gm) := ⟨fun k hk e => hk.elim (fun h => HOKK.out k h e) (fun h => by have := HGM.out; omega)⟩
      have hmn1 : gn ≠ gm := by have := NVN.out; have := NVM.out; omega
      have hmn2 : gm ≠ gn := hmn1.symm
      go_wp2
      refine start_ (n := 11) (S := fun w' => w'.cell? ⟨gm, 0, none⟩ = some (.int .i64 room) ∧ w'.cell? ⟨gm, 1, none⟩ = some (.slice A L.length c) ∧ w'.cell? ⟨gn, 0, none⟩ = some (.string nt.f0) ∧ w'.cell? ⟨gn, 1, none⟩ = some (.slice At nt.f1.length ct)) (ds := [10]) (tb 11 0) (by kernel_rfl) rfl rfl ⟨bc BKM 0, bc BKM 1, bc BKN 0, bc BKN 1⟩ (fun hHeld => ?_)
      refine with_tabW impl_Memo_recall.tab7 impl_Memo_recall.bits7 (fun HT_ HW_ => ?_)
      refine pu 0 41 (tb 11 1) HT_ ?_
      refine pu 3 44 (tb 11 9) HT_ ?_
      refine pu 4 45 (tb 11 25) HT_ ?_
      refine pu 5 46 (tb 11 57) HT_ ?_
      refine tk 1 42 (tb 11 59) rfl rfl HT_ HW_ hHeld (by rintro w' ⟨s0, s1, s2, s3⟩; go_simp; with_reducible rfl) ?_
      refine tk 6 47 (tb 11 123) rfl rfl HT_ HW_ hHeld (by rintro w' ⟨s0, s1, s2, s3⟩; go_simp; with_reducible rfl) ?_
      generalize hwd : wc.drew = wd at hHeld ⊢
      have BKMd : Aside0 (wd.heap[gm]? = some (.cells #[.int .i64 room, .slice A L.length c] 31 (0, 0))) := ⟨hwd ▸ BKM.out⟩
      have BKNd : Aside0 (wd.heap[gn]? = some (.cells #[.string nt.f0, .slice At nt.f1.length ct] 86 (0, 0))) := ⟨hwd ▸ BKN.out⟩
      have HCLd : Aside0 (Kd.F k86 wd (fun k_ => (ok k_ ∨ w.heap.size ≤ k_) ∧ k_ < wd.heap.size) A L.length L) := ⟨Kd.F_bound (hwd ▸ Kd.F_drew HCL.out)⟩
      have HCTd : Aside0 (Kd.F (Kd.int .i64) wd (fun k_ => (ok k_ ∨ w.heap.size ≤ k_) ∧ k_ < wd.heap.size) At nt.f1.length nt.f1) := ⟨Kd.F_bound (hwd ▸ Kd.F_drew HCT.out)⟩
      have HKPd : Aside0 (∀ k, k < w.heap.size → k ≠ gm → some k ≠ (Value.slice A1 l1.length c1).ownBlock → wd.heap[k]? = w.heap[k]?) := ⟨hwd ▸ HKP.out⟩
      have HBWd : Aside0 (Below base w wd) := ⟨hwd ▸ below_drew1 HBW.out⟩
      clear hwd BKM BKN HCL HCT HBW HKP; have HWD : Aside0 (w.heap.size ≤ wd.heap.size) := ⟨HBWd.out.size⟩
      have hbwd : base ≤ wd.heap.size := by have := blk_lt BKMd.out; have := HBG.out; omega
      have HBD := Aside0.mk hbwd
      clear hbwd; refine one_ (i := 2) (N := some 43) (tb 11 127) rfl rfl (one_of HT_.out (by kernel_rfl)) (by decide) (fun K hK => ?_)
      refine value_ (w1 := wd.alloc (.cells #[.string nt.f0, .slice At nt.f1.length ct] 86)) (v := .slice (some ⟨wd.heap.size, 0, none⟩) 1 1) (by rfl) rfl ?_ ?_
      · go_simp
      refine hK.out _ _ ⟨(blk_cell (blk_alloc BKMd.out _) 0).trans rfl, (blk_cell (blk_alloc BKMd.out _) 1).trans rfl, (blk_cell (blk_alloc BKNd.out _) 0).trans rfl, (blk_cell (blk_alloc BKNd.out _) 1).trans rfl⟩ (fun hHeld => ?_)
      clear hK K; refine norm_ (a' := ?_) ?_ ?_
      rotate_left
      · show Act.put _ (some 43) _ = _
        simp only [putL, i64_w, i32_w]; rfl
      refine one_ (i := 7) (N := some 48) (tb 11 255) rfl rfl (one_of HT_.out (by kernel_rfl)) (by decide) (fun K hK => ?_)
      refine step_append_notes (by rfl) (.tmp 43) (.tmp 47) rfl wd.heap.size (.slice (some ⟨wd.heap.size, 0, none⟩) 1 1) [.string nt.f0, .slice At nt.f1.length ct] A L.length c L rfl rfl (World.ownsRow_lit wd #[.string nt.f0, .slice At nt.f1.length ct] 1 (Nat.le_refl _) (by decide) rfl) (ReadsRow.imp_ (R' := Kd.FK k86 wd (fun k_ => (ok k_ ∨ w.heap.size ≤ k_) ∧ k_ < wd.heap.size)) (Kd.F_rows HCLd.out) (below_alloc (Below.refl _ _) _) (fun _ _ h => h)) (fun x cs h => k86.K_one (Kd.FK_now h)) (by simp) (by have := HLL.out; omega) ?_
      intro v8 w8 news ho8 hrep8 hg8
      have HB8 : Aside0 (Below wd.heap.size wd w8) := ⟨pw_below_grown (below_alloc (Below.refl _ _) _) _ (by simp) hg8 (fun k hk => by simp [Value.ownBlock] at hk; omega)⟩
      have hrep9 : Reps (Kd.FK k86 w8 (fun k_ => (ok k_ ∨ w.heap.size ≤ k_) ∧ k_ < wd.heap.size)) 2 (nt :: L) ([.string nt.f0, .slice At nt.f1.length ct] ++ news) := by
        have h1 : Reps (Kd.FK k86 w8 (fun k_ => (ok k_ ∨ w.heap.size ≤ k_) ∧ k_ < wd.heap.size)) 2 [nt] [.string nt.f0, .slice At nt.f1.length ct] := (Reps.none _ 2).snoc (note_FK HLT.out (Kd.F_below HCTd.out HB8.out)) rfl
        exact Kd.reps_append h1 (hrep8.imp_ (fun x cs hx => Kd.FK_below hx HB8.out))
      obtain ⟨A8, c8, rfl⟩ := own_slice ho8
      have hc8 : 1 + L.length ≤ c8 := own_le ho8
      have BKM8 := Aside0.mk (blk_below BKMd.out HB8.out)
      have BKN8 := Aside0.mk (blk_below BKNd.out HB8.out)
      have HCT8 := Aside0.mk (Kd.F_below HCTd.out HB8.out)
      have HKP8 : Aside0 (∀ k, k < w.heap.size → k ≠ gm → some k ≠ (Value.slice A1 l1.length c1).ownBlock → w8.heap[k]? = w.heap[k]?) := ⟨fun k hk h1 h2 => (HB8.out.block k (Nat.lt_of_lt_of_le hk HWD.out)).trans (HKPd.out k hk h1 h2)⟩
      have HBW8 : Aside0 (Below base w w8) := ⟨HBWd.out.trans ⟨HB8.out.os, HB8.out.tape, HB8.out.output, HB8.out.size, fun k hk => HB8.out.block k (Nat.lt_of_lt_of_le hk HBD.out)⟩⟩
      have HO8 := Aside0.mk ho8
      have HP8 := Aside0.mk hrep9
      have HL8 := Aside0.mk hc8
      clear hc8 hrep9 hrep8 ho8 hg8 HB8 HBWd HCTd HCLd BKNd BKMd; refine hK.out _ _ ⟨bc BKM8 0, bc BKM8 1, bc BKN8 0, bc BKN8 1⟩ (fun hHeld => ?_)
      clear hK K; refine norm_ (a' := ?_) ?_ ?_
      rotate_left
      · show Act.put _ (some 48) _ = _
        simp only [putL, i64_w, i32_w]; rfl
      refine pu 8 49 (tb 11 511) HT_ ?_
      refine pu 9 50 (tb 11 1023) HT_ ?_
      refine last_ (i := 10) (N := none) (tb 11 2047) rfl rfl (one_of HT_.out (by kernel_rfl)) (by decide) (fun K hK => ?_)
      have hs8 : w8.cell? ⟨gm, 1, none⟩ = some (.slice A L.length c) := bc BKM8 1
      have hfs8 := blk_frozen BKM8.out 1; refine skip_ (w1 := ?_) (by rfl) rfl ?_ ?_
      rotate_left
      · go_simp; rfl
      refine hK.out _ _ ?_
      clear hK K; refine done_ (done_of HT_.out (by kernel_rfl)) ?_
      go_wp2
      generalize hwe : w8.setCell ⟨gm, 1, none⟩ (.slice A8 (1 + L.length) c8) = we
      have BKM9 : Aside0 (we.heap[gm]? = some (.cells #[.int .i64 room, .slice A8 (1 + L.length) c8] 31 (0, 0))) := ⟨hwe ▸ blk_put BKM8.out 1 _ rfl⟩
      have BKN9 : Aside0 (we.heap[gn]? = some (.cells #[.string nt.f0, .slice At nt.f1.length ct] 86 (0, 0))) := ⟨hwe ▸ blk_far BKN8.out (p := ⟨gm, 1, none⟩) hmn1 _⟩
      have HCT9 : Aside0 (Kd.F (Kd.int .i64) we (fun k_ => (ok k_ ∨ w.heap.size ≤ k_) ∧ k_ < wd.heap.size) At nt.f1.length nt.f1) := ⟨hwe ▸ Kd.F_far HCT8.out (p := ⟨gm, 1, none⟩) (fun k hk => HNM.out k hk.1) _⟩
      have HKP9 : Aside0 (∀ k, k < w.heap.size → k ≠ gm → some k ≠ (Value.slice A1 l1.length c1).ownBlock → we.heap[k]? = w.heap[k]?) := ⟨fun k hk h1 h2 => by rw [← hwe, Below.heap_setCell _ _ _ k h1]; exact HKP8.out k hk h1 h2⟩
      have HO9 : Aside0 (we.ownsRow wd.heap.size 86 2 (.slice A8 (1 + L.length) c8) (1 + L.length) ([.string nt.f0, .slice At nt.f1.length ct] ++ news)) := ⟨hwe ▸ own_setCell HO8.out (p := ⟨gm, 1, none⟩) (own_ne HO8.out BKM8.out (by decide)) _⟩
      have HP9 : Aside0 (Reps (Kd.FK k86 we (fun k_ => (ok k_ ∨ w.heap.size ≤ k_) ∧ k_ < wd.heap.size)) 2 (nt :: L) ([.string nt.f0, .slice At nt.f1.length ct] ++ news)) := ⟨HP8.out.imp_ (fun x cs h => Kd.FK_step h (fun k hk _ => by rw [← hwe]; exact Below.heap_setCell _ _ _ k (HNM.out k hk.1)))⟩
      have HBW9 : Aside0 (Below base w we) := ⟨hwe ▸ HBW8.out.setCell HBG.out _⟩
      clear hwe BKM8 BKN8 HCT8 HKP8 HO8 HP8 HBW8 hs8 hfs8; obtain ⟨jv, hjm, hjs⟩ : ∃ jv : Int, mn ((1 + L.length : Nat) : Int) room = jv ∧ (if room < 1 + (L.length : Int) then room else 1 + (L.length : Int)) = jv := ⟨_, by unfold mn; push_cast; rfl, rfl⟩
      have hj0 : 0 ≤ jv := by have := HRO.out; rw [← hjs]; split <;> omega
      have hj1 : jv ≤ ((1 + L.length : Nat) : Int) := by rw [← hjs]; split <;> omega
      obtain ⟨ti, hti, _, _, _⟩ := info_parts info86
      have hcut := cut_to (P := Try.prog) 29 86 .i64 Try.underlying29 hti A8 (1 + L.length) c8 jv hj0 hj1 HL8.out
      have HJ0 := Aside0.mk hj0
      have HJ1 := Aside0.mk hj1
      have HJM := Aside0.mk hjm
      clear hj0 hj1 hjm hti; refine start_ (n := 19) (S := fun w' => w'.cell? ⟨gm, 0, none⟩ = some (.int .i64 room) ∧ w'.cell? ⟨gm, 1, none⟩ = some (.slice A8 (1 + L.length) c8)) (ds := [18]) (tb 19 0) (by kernel_rfl) rfl rfl ⟨bc BKM9 0, bc BKM9 1⟩ (fun hHeld => ?_)
      refine with_tabW impl_Memo_recall.tab8 impl_Memo_recall.bits8 (fun HT_ HW_ => ?_)
      refine pu 0 51 (tb 19 1) HT_ ?_
      refine pu 1 52 (tb 19 3) HT_ ?_
      refine pu 2 53 (tb 19 7) HT_ ?_
      refine pu 3 54 (tb 19 15) HT_ ?_
      refine tk 4 55 (tb 19 31) rfl rfl HT_ HW_ hHeld (by rintro w' ⟨s0, s1⟩; go_simp; with_reducible rfl) ?_
      refine pu 5 56 (tb 19 63) HT_ ?_
      refine pu 6 57 (tb 19 127) HT_ ?_
      refine pu 7 58 (tb 19 255) HT_ ?_
      refine tk 8 59 (tb 19 511) rfl rfl HT_ HW_ hHeld (by rintro w' ⟨s0, s1⟩; go_simp; with_reducible rfl) ?_
      refine pu 9 60 (tb 19 1023) HT_ ?_
      refine pu 10 61 (tb 19 2047) HT_ ?_
      refine pu 11 62 (tb 19 4095) HT_ ?_
      refine pu 12 63 (tb 19 8191) HT_ ?_
      refine tk 13 64 (tb 19 16383) rfl rfl HT_ HW_ hHeld (by rintro w' ⟨s0, s1⟩; go_simp; with_reducible rfl) ?_
      refine pu 14 65 (tb 19 32767) HT_ ?_
      refine pu 15 66 (tb 19 65535) HT_ ?_
      refine pu 16 67 (tb 19 131071) HT_ ?_
      refine pu 17 68 (tb 19 262143) HT_ ?_
      have hs9 : we.cell? ⟨gm, 1, none⟩ = some (.slice A8 (1 + L.length) c8) := bc BKM9 1
      have hfs9 := blk_frozen BKM9.out 1; refine last_ (i := 18) (N := none) (tb 19 524287) rfl rfl (one_of HT_.out (by kernel_rfl)) (by decide) (fun K hK => ?_)
      refine skip_ (w1 := ?_) (by rfl) rfl ?_ ?_
      rotate_left
      · go_simp; rfl
      refine hK.out _ _ ?_
      clear hK K; refine done_ (done_of HT_.out (by kernel_rfl)) ?_
      generalize hwf : (we.setCell ⟨gm, 1, none⟩ (.slice A8 jv.toNat c8)).drew = wf
      have BKMf : Aside0 (wf.heap[gm]? = some (.cells #[.int .i64 room, .slice A8 jv.toNat c8] 31 (0, 0))) := ⟨hwf ▸ blk_put BKM9.out 1 _ rfl⟩
      have BKNf : Aside0 (wf.heap[gn]? = some (.cells #[.string nt.f0, .slice At nt.f1.length ct] 86 (0, 0))) := ⟨hwf ▸ blk_far BKN9.out (p := ⟨gm, 1, none⟩) hmn1 _⟩
      have HCTf : Aside0 (Kd.F (Kd.int .i64) wf (fun k_ => (ok k_ ∨ w.heap.size ≤ k_) ∧ k_ < wd.heap.size) At nt.f1.length nt.f1) := ⟨hwf ▸ Kd.F_drew (Kd.F_far HCT9.out (p := ⟨gm, 1, none⟩) (fun k hk => HNM.out k hk.1) _)⟩
      have HKPf : Aside0 (∀ k, k < w.heap.size → k ≠ gm → some k ≠ (Value.slice A1 l1.length c1).ownBlock → wf.heap[k]? = w.heap[k]?) := ⟨fun k hk h1 h2 => by rw [← hwf]; exact (Below.heap_setCell _ _ _ k h1).trans (HKP9.out k hk h1 h2)⟩
      have HOf : Aside0 (wf.ownsRow wd.heap.size 86 2 (.slice A8 (1 + L.length) c8) (1 + L.length) ([.string nt.f0, .slice At nt.f1.length ct] ++ news)) := ⟨hwf ▸ own_drew (own_setCell HO9.out (p := ⟨gm, 1, none⟩) (own_ne HO9.out BKM9.out (by decide)) _)⟩
      have HPf : Aside0 (Reps (Kd.FK k86 wf (fun k_ => (ok k_ ∨ w.heap.size ≤ k_) ∧ k_ < wd.heap.size)) 2 (nt :: L) ([.string nt.f0, .slice At nt.f1.length ct] ++ news)) := ⟨HP9.out.imp_ (fun x cs h => Kd.FK_step h (fun k hk _ => by rw [← hwf]; exact Below.heap_setCell _ _ _ k (HNM.out k hk.1)))⟩
      have HBWf : Aside0 (Below base w wf) := ⟨hwf ▸ below_drew1 (HBW9.out.setCell HBG.out _)⟩
      clear hwf BKM9 BKN9 HCT9 HKP9 HO9 HP9 HBW9 hs9 hfs9 hHeld HT_ HW_ hcut; have hcnf : wf.cell? ⟨gn, 1, none⟩ = some (.slice At nt.f1.length ct) := bc BKNf 1
      go_wp2_with (go_at_call 68; refine (impl_copyInts.calls At ct nt.f1 tk9 _ (Kd.F_now HCTf.out) HLT.out HCP.out).mono ?_; rintro e wg ⟨v9, rfl, ho9, hb9⟩; have HO9 := Aside0.mk ho9; have HB9 := Aside0.mk hb9; clear ho9 hb9)
      go_ret2
      have hlen : ((nt :: L).take (mn ((1 + L.length : Nat) : Int) room).toNat).length = jv.toNat := by
        rw [HJM.out, List.length_take]
        have := HJ1.out
        simp only [List.length_cons]
        omega
      have hm : jv.toNat ≤ 1 + L.length := by have := HJ1.out; omega
      have hN := notes_N (ok := fun k_ => ok k_ ∨ w.heap.size ≤ k_) (own_take HOf.out hm) (by rw [List.length_take]; simp only [List.length_cons]; omega) (Kd.reps_take HPf.out (m := jv.toNat) (by simp only [List.length_cons]; omega)) (fun k hk => .inr (Nat.le_trans HWD.out (own_ge (own_take HOf.out hm) k hk))) (fun k hk => ⟨hk.1, fun e => by
        have h1 := own_ge (own_take HOf.out hm) k e.symm
        have h2 := hk.2
        omega⟩)
      have hN2 := Kd.N_elder' (Kd.N_lower hN HBD.out) (Kd.R_base HO9.out) HB9.out
      have hle : w.heap.size ≤ wf.heap.size := HBWf.out.size
      refine ⟨_, A8, c8, ?_, Kd.R_lower HO9.out hle, ?_, ?_, ?_, fun k hk h1 h2 => (HB9.out.block k (Nat.lt_of_lt_of_le hk hle)).trans (HKPf.out k hk h1 h2)⟩
      · first | rfl | (simp; done) | (simp [*]; done)
      · rw [hlen]
        exact blk_below BKMf.out HB9.out
      · rw [hlen, HJM.out]
        exact hN2
      · exact HBWf.out.trans ⟨HB9.out.os, HB9.out.tape, HB9.out.output, HB9.out.size, fun k hk => HB9.out.block k (by have := blk_lt BKMf.out; have := HBG.out; omega)⟩
   · rw [if_neg hroom] at h
     cases h
 · rw [if_neg hL] at h
   cases h
def impl_Recall.f (k : Nat) (l0_0 : List (S95)) (a1_0 : Int) (l1_1 : List (S86)) (a2 : ByteArray) : Option (Int × (List (S86)) × (List Int) × Bool) :=
  (impl_MemoOk.f k l0_0 a1_0 l1_1).bind fun b => (if b = true then ((impl_copyMemo.f k a1_0 l1_1).bind fun q => ((impl_isWord.f a2).bind fun y => (if y = true then ((impl_Memo_recall.f k l0_0 q.1 q.2 a2).bind fun r => ((impl_copyMemo.f k q.1 r.1).bind fun z => (some (z.1, z.2, r.2.1, r.2.2)))) else (some (q.1, q.2, ([] : List Int), false))))) else (some (0, ([] : List (S86)), ([] : List Int), false)))
theorem impl_Memo_recall.mono (l0 : List S95) (room : Int) (l1 : List S86) (a2 : ByteArray) (k : Nat) : LeO (impl_Memo_recall.f k l0 room l1 a2) (impl_Memo_recall.f (k + 1) l0 room l1 a2) := by
  unfold impl_Memo_recall.f impl_Memo_recall.pick
  refine LeO.bind (impl_Memo_at.mono _ _ _ _) (fun i => LeO.bind ?_ (fun q => LeO.refl _))
  exact LeO.ite (LeO.refl _) (LeO.bind (impl_bpe.mono _ _ _) (fun _ => LeO.refl _))
theorem impl_Recall.mono (l0_0 : List (S95)) (a1_0 : Int) (l1_1 : List (S86)) (a2 : ByteArray) (k : Nat) : LeO (impl_Recall.f k l0_0 a1_0 l1_1 a2) (impl_Recall.f (k + 1) l0_0 a1_0 l1_1 a2) := by
  unfold impl_Recall.f
  refine LeO.bind (impl_MemoOk.mono _ _ _ _) (fun b => LeO.ite (LeO.bind (impl_copyMemo.mono _ _ _) (fun q => LeO.bind (LeO.refl _) (fun y => LeO.ite (LeO.bind (impl_Memo_recall.mono _ _ _ _ _) (fun r => LeO.bind (impl_copyMemo.mono _ _ _) (fun z => LeO.refl _))) (LeO.refl _)))) (LeO.refl _))
set_option maxHeartbeats 4000000 in
set_option maxRecDepth 100000 in
theorem impl_Recall.calls (k : Nat) (A0_0 : Option Addr) (c0_0 : Nat) (l0_0 : List (S95)) (a1_0 : Int) (A1_1 : Option Addr) (c1_1 : Nat) (l1_1 : List (S86)) (a2 : ByteArray) (r1 : Int) (r2 : List (S86)) (r3 : List Int) (r4 : Bool) (w : World) (hr0_0 : Kd.C k95 w A0_0 l0_0.length l0_0) (hc0_0 : l0_0.length ≤ c0_0) (hr1_1 : Kd.C k86 w A1_1 l1_1.length l1_1) (hc1_1 : l1_1.length ≤ c1_1) (h : impl_Recall.f k l0_0 a1_0 l1_1 a2 = some (r1, r2, r3, r4)) :
  Calls Try.prog 11 #[.agg #[.slice A0_0 l0_0.length c0_0], .agg #[.int .i64 a1_0, .slice A1_1 l1_1.length c1_1], .string a2] w fun e w' => ∃ v1_ v2_ : Value, e = .returned (.tuple #[.agg #[.int .i64 r1, v1_], v2_, .bool r4]) ∧ Kd.S k86 86 w' w.heap.size (fun k_ => some k_ ≠ (v2_ : Value).ownBlock) v1_ r2 ∧ Kd.R (Kd.int .i64) 3 w' w.heap.size (fun _ => True) v2_ r3 ∧ Below w.heap.size w w' := by
 have hu26 := Try.underlying26
 have hu31 := Try.underlying31
 unfold impl_Recall.f at h
 obtain ⟨b, hok, h⟩ := Option.bind_eq_some_iff.mp h
 have HR0 := Aside0.mk hr0_0
 have HC0 := Aside0.mk hc0_0
 have HR1 := Aside0.mk hr1_1
 have HC1 := Aside0.mk hc1_1
 have HOK := Aside0.mk hok
 have H := Aside0.mk h
 clear hr0_0 hc0_0 hr1_1 hc1_1 hok h
 go_enter Try.func11, Try.ntmps11
 go_upto_if 15 with (first
  | ((with_reducible refine gate_dst (N := 3) rfl ?_); refine bX 3 #[.slice A0_0 l0_0.length c0_0] 26 ?_; intro gv hg w1 hbox hb; have BKV := Aside0.mk hbox; have HB1 := Aside0.mk hb; have GV1 : Aside0 (gv = w.heap.size) := ⟨hg⟩; clear hbox hb hg)
  | ((with_reducible refine gate_dst (N := 4) rfl ?_); refine bX 4 #[.int .i64 a1_0, .slice A1_1 l1_1.length c1_1] 31 ?_; intro gw hg w2 hbox hb; have BKW := Aside0.mk hbox; have BKV2 := bq BKV hb; have HB2 : Aside0 (Below w.heap.size w w2) := ⟨below_step HB1.out hb⟩; have GW1 : Aside0 (gv < gw) := ⟨by rw [hg]; exact blk_lt BKV.out⟩; clear hbox hb hg)
  | ((with_reducible refine gate_dst (N := 6) rfl ?_); refine bX 6 #[.int .i64 0, .slice none 0 0] 31 ?_; intro gr hg w3 hbox hb; have BKR := Aside0.mk hbox; have BKV3 := bq BKV2 hb; have BKW3 := bq BKW hb; have HB3 : Aside0 (Below w.heap.size w w3) := ⟨below_step HB2.out hb⟩; have GR1 : Aside0 (gw < gr) := ⟨by rw [hg]; exact blk_lt BKW.out⟩; have hcv : w3.cell? ⟨gv, 0, none⟩ = some (.slice A0_0 l0_0.length c0_0) := bc BKV3 0; have hcw0 : w3.cell? ⟨gw, 0, none⟩ = some (.int .i64 a1_0) := bc BKW3 0; have hcw1 : w3.cell? ⟨gw, 1, none⟩ = some (.slice A1_1 l1_1.length c1_1) := bc BKW3 1; clear hbox hb hg)
  | (go_at_call 31; refine (impl_MemoOk.calls k A0_0 c0_0 l0_0 a1_0 A1_1 c1_1 l1_1 b _ (Kd.C_below HR0.out HB3.out) HC0.out (Kd.C_below HR1.out HB3.out) HC1.out HOK.out).mono ?_; rintro e w4 ⟨rfl, hb⟩; have BKV4 := bq BKV3 hb; have BKW4 := bq BKW3 hb; have BKR4 := bq BKR hb; have HB4 : Aside0 (Below w.heap.size w w4) := ⟨below_step HB3.out hb⟩; clear hb hcv hcw0 hcw1; have hcv : w4.cell? ⟨gv, 0, none⟩ = some (.slice A0_0 l0_0.length c0_0) := bc BKV4 0; have hcw0 : w4.cell? ⟨gw, 0, none⟩ = some (.int .i64 a1_0) := bc BKW4 0; have hcw1 : w4.cell? ⟨gw, 1, none⟩ = some (.slice A1_1 l1_1.length c1_1) := bc BKW4 1; have hcr0 : w4.cell? ⟨gr, 0, none⟩ = some (.int .i64 0) := bc BKR4 0; have hcr1 : w4.cell? ⟨gr, 1, none⟩ = some (.slice none 0 0) := bc BKR4 1; have hfr0 := blk_frozen BKR4.out 0; have hfr1 := blk_frozen BKR4.out 1))
 cases b with
 | false =>
  have h := H.out; rw [if_neg (by simp)] at h
  simp only [Option.some.injEq, Prod.mk.injEq] at h
  obtain ⟨rfl, rfl, rfl, rfl⟩ := h
  have hgr : w.heap.size ≤ gr := by have := GR1.out; have := GW1.out; have := GV1.out; omega
  go_wp2
  refine bodyPost_ret (results_ctt rfl _ _ gr 31 #[.int .i64 0, .slice none 0 0] (0, 0) _ rfl (blk_put (cs := #[.int .i64 0, .slice none 0 0]) (blk_put (cs := #[.int .i64 0, .slice none 0 0]) BKR4.out 0 _ rfl) 1 _ rfl) Try.underlying31 rfl (by kernel_rfl)) rfl ?_
  exact ⟨.slice none 0 0, .slice none 0 0, rfl, Kd.S_nil _ _ _ _ _, Kd.R_nil _ _ _ _ _, below_set (below_set HB4.out hgr) hgr⟩
 | true =>
  have h := H.out; rw [if_pos rfl] at h
  obtain ⟨⟨q1, q2⟩, hcp, h⟩ := Option.bind_eq_some_iff.mp h
  obtain ⟨y, hy, h⟩ := Option.bind_eq_some_iff.mp h
  have HCP := Aside0.mk hcp
  have HY := Aside0.mk hy
  have H2 := Aside0.mk h
  clear hcp hy h; have hgr : w.heap.size ≤ gr := by have := GR1.out; have := GW1.out; have := GV1.out; omega
  go_upto_if 21 with (first
   | (go_at_call 37; refine (impl_copyMemo.calls k a1_0 A1_1 c1_1 l1_1 q1 q2 _ (Kd.C_below HR1.out HB4.out) HC1.out HCP.out).mono ?_; rintro e w5 ⟨v5, rfl, ho5, hb5⟩; obtain ⟨Av, cv, rfl⟩ := Kd.S_slice ho5; have HS5 := Aside0.mk ho5; have BKV5 := bq BKV4 hb5; have BKW5 := bq BKW4 hb5; have BKR5 := bq BKR4 hb5; have HB5 : Aside0 (Below w.heap.size w w5) := ⟨below_step HB4.out hb5⟩; have HSZ5 : Aside0 (w4.heap.size ≤ w5.heap.size) := ⟨hb5.size⟩; clear ho5 hb5 hcv hcw0 hcw1 hcr0 hcr1 hfr0 hfr1)
   | ((with_reducible refine gate_dst (N := 9) rfl ?_); refine bX 9 #[.int .i64 0, .slice none 0 0] 31 ?_; intro go hg w6 hbox hb; have BKO := Aside0.mk hbox; have BKV6 := bq BKV5 hb; have BKR6 := bq BKR5 hb; have HB6 : Aside0 (Below w.heap.size w w6) := ⟨below_step HB5.out hb⟩; have HS6 := Aside0.mk (Kd.S_below (Kd.S_elderB HS5.out go (Nat.le_of_eq hg.symm)) hb); have GO1 : Aside0 (gr < go) := ⟨by rw [hg]; exact blk_lt BKR5.out⟩; have GO2 : Aside0 (w4.heap.size ≤ go) := ⟨by rw [hg]; exact HSZ5.out⟩; clear hbox hb hg; have hco0 : w6.cell? ⟨go, 0, none⟩ = some (.int .i64 0) := bc BKO 0; have hco1 : w6.cell? ⟨go, 1, none⟩ = some (.slice none 0 0) := bc BKO 1; have hfo0 := blk_frozen BKO.out 0; have hfo1 := blk_frozen BKO.out 1)
   | (go_at_call 38; refine (impl_isWord.calls a2 y _ HY.out).mono ?_; rintro e w7 ⟨rfl, nd, rfl⟩))
  generalize hwx : ((w6.setCell ⟨go, 0, none⟩ (.int .i64 q1)).setCell ⟨go, 1, none⟩ (.slice Av q2.length cv)).drewN nd = wx
  have hrg : gr ≠ go := by have := GO1.out; omega
  have hvg : gv ≠ go := by have := GO1.out; have := GR1.out; have := GW1.out; omega
  have hgo : w.heap.size ≤ go := by have := GO2.out; have := HB4.out.size; omega
  have BKOx : Aside0 (wx.heap[go]? = some (.cells #[.int .i64 q1, .slice Av q2.length cv] 31 (0, 0))) := ⟨hwx ▸ blk_drewN (blk_put (cs := #[.int .i64 q1, .slice none 0 0]) (blk_put (cs := #[.int .i64 0, .slice none 0 0]) BKO.out 0 _ rfl) 1 _ rfl) _⟩
  have BKRx : Aside0 (wx.heap[gr]? = some (.cells #[.int .i64 0, .slice none 0 0] 31 (0, 0))) := ⟨hwx ▸ blk_drewN (blk_far (blk_far BKR6.out (p := ⟨go, 0, none⟩) hrg _) (p := ⟨go, 1, none⟩) hrg _) _⟩
  have BKVx : Aside0 (wx.heap[gv]? = some (.cells #[.slice A0_0 l0_0.length c0_0] 26 (0, 0))) := ⟨hwx ▸ blk_drewN (blk_far (blk_far BKV6.out (p := ⟨go, 0, none⟩) hvg _) (p := ⟨go, 1, none⟩) hvg _) _⟩
  have HSx : Aside0 (Kd.S k86 86 wx w4.heap.size (fun k_ => True ∧ k_ ≠ go) (.slice Av q2.length cv) q2) := ⟨hwx ▸ Kd.S_drewN (Kd.S_far (Kd.S_far HS6.out (p := ⟨go, 0, none⟩) (fun _ hk => hk.2) _) (p := ⟨go, 1, none⟩) (fun _ hk => hk.2) _) _⟩
  have HBx : Aside0 (Below w.heap.size w wx) := ⟨hwx ▸ pw_below_drewN (below_set (below_set HB6.out hgo) hgo) _⟩
  have GRL : Aside0 (gr < w4.heap.size) := ⟨blk_lt BKR4.out⟩
  clear hwx BKO BKV6 BKR6 HB6 HS6 BKV5 BKW5 BKR5 HB5 HS5 hco0 hco1 hfo0 hfo1; have hco0 : wx.cell? ⟨go, 0, none⟩ = some (.int .i64 q1) := bc BKOx 0
  have hco1 : wx.cell? ⟨go, 1, none⟩ = some (.slice Av q2.length cv) := bc BKOx 1
  have hcr0 : wx.cell? ⟨gr, 0, none⟩ = some (.int .i64 0) := bc BKRx 0
  have hcr1 : wx.cell? ⟨gr, 1, none⟩ = some (.slice none 0 0) := bc BKRx 1
  have hfr0 := blk_frozen BKRx.out 0; have hfr1 := blk_frozen BKRx.out 1; have hcv : wx.cell? ⟨gv, 0, none⟩ = some (.slice A0_0 l0_0.length c0_0) := bc BKVx 0
  cases y with
  | false =>
   have h := H2.out; rw [if_neg (by simp)] at h
   simp only [Option.some.injEq, Prod.mk.injEq] at h
   obtain ⟨rfl, rfl, rfl, rfl⟩ := h
   go_wp2
   refine bodyPost_ret (results_ctt rfl _ _ gr 31 #[.int .i64 q1, .slice Av q2.length cv] (0, 0) _ rfl (blk_put (cs := #[.int .i64 q1, .slice none 0 0]) (blk_put (cs := #[.int .i64 0, .slice none 0 0]) BKRx.out 0 _ rfl) 1 _ rfl) Try.underlying31 rfl (by kernel_rfl)) rfl ?_
   refine ⟨_, .slice none 0 0, rfl, Kd.S_mono (Kd.S_lower (Kd.S_step (Kd.S_bound HSx.out) (fun k hk hlt => ?_)) HB4.out.size) (fun k _ => by simp [Value.ownBlock]), Kd.R_nil _ _ _ _ _, below_set (below_set HBx.out hgr) hgr⟩
   have hne : k ≠ gr := by have := hk.2.1; have := GRL.out; omega
   rw [Below.heap_setCell _ _ _ k hne, Below.heap_setCell _ _ _ k hne]
  | true =>
   have h := H2.out; rw [if_pos rfl] at h
   obtain ⟨⟨m1, m2, m3⟩, hrec, h⟩ := Option.bind_eq_some_iff.mp h
   obtain ⟨⟨z1, z2⟩, hcp2, h⟩ := Option.bind_eq_some_iff.mp h
   simp only [Option.some.injEq, Prod.mk.injEq] at h
   obtain ⟨rfl, rfl, rfl, rfl⟩ := h
   have HRC := Aside0.mk hrec
   have HC2 := Aside0.mk hcp2
   clear hrec hcp2; clear hco0 hco1
   go_wp2_with (first
    | (go_at_call 39; refine (impl_Memo_recall.calls k A0_0 c0_0 l0_0 a2 go q1 _ q2 w4.heap.size _ m1 m2 m3 _ (Kd.C_below HR0.out HBx.out) HC0.out BKOx.out (Kd.S_N HSx.out) (fun _ hk => hk.2) GO2.out HRC.out).mono ?_; rintro e wy ⟨v7, Ay, cy, rfl, hoy, hby, hny, hbel, hfr⟩; have hly := (Kd.N_reads' hny).2.1; have hcy := (Kd.N_reads' hny).2.2; clear hny hfr; obtain ⟨At, ct, rfl⟩ := Kd.R_slice hoy; have HOY := Aside0.mk hoy; have BKOy := Aside0.mk hby; have HLY := Aside0.mk hly; have HCY := Aside0.mk hcy; have HBY := Aside0.mk hbel; have BKRy : Aside0 (wy.heap[gr]? = some (.cells #[.int .i64 0, .slice none 0 0] 31 (0, 0))) := ⟨(hbel.block gr GRL.out).trans BKRx.out⟩; clear hoy hby hly hcy hbel hcr0 hcr1 hfr0 hfr1 hcv; have hco0 : wy.cell? ⟨go, 0, none⟩ = some (.int .i64 q1) := bc BKOy 0; have hco1 : wy.cell? ⟨go, 1, none⟩ = some (.slice Ay m1.length cy) := bc BKOy 1)
    | (go_at_call 37; refine (impl_copyMemo.calls k q1 Ay cy m1 z1 z2 _ HCY.out HLY.out HC2.out).mono ?_; rintro e wz ⟨v8, rfl, ho8, hb8⟩; obtain ⟨Az, cz, rfl⟩ := Kd.S_slice ho8; have HSZ := Aside0.mk ho8; have HBZ := Aside0.mk hb8; have BKRz := bq BKRy hb8; clear ho8 hb8; have hcr0 : wz.cell? ⟨gr, 0, none⟩ = some (.int .i64 0) := bc BKRz 0; have hcr1 : wz.cell? ⟨gr, 1, none⟩ = some (.slice none 0 0) := bc BKRz 1; have hfr0 := blk_frozen BKRz.out 0; have hfr1 := blk_frozen BKRz.out 1))
   have h4 : w.heap.size ≤ w4.heap.size := HB4.out.size
   have hx : gr < wx.heap.size := blk_lt BKRx.out
   have hxy : wx.heap.size ≤ wy.heap.size := HBY.out.size
   have hwx : w.heap.size ≤ wx.heap.size := HBx.out.size
   have hBy : Below w.heap.size w wy := HBx.out.trans ⟨HBY.out.os, HBY.out.tape, HBY.out.output, HBY.out.size, fun k hk => HBY.out.block k (Nat.lt_of_lt_of_le hk h4)⟩
   have hBz : Below w.heap.size w wz := below_step hBy HBZ.out
   refine bodyPost_ret (results_ctt rfl _ _ gr 31 #[.int .i64 z1, .slice Az z2.length cz] (0, 0) _ rfl (blk_put (cs := #[.int .i64 z1, .slice none 0 0]) (blk_put (cs := #[.int .i64 0, .slice none 0 0]) BKRz.out 0 _ rfl) 1 _ rfl) Try.underlying31 rfl (by kernel_rfl)) rfl ?_
   refine ⟨_, _, rfl, Kd.S_mono (Kd.S_lower (Kd.S_step (Kd.S_bound HSZ.out) (fun k hk hlt => ?_)) (Nat.le_trans hwx hxy)) (fun k hk e => ?_), Kd.R_lower (Kd.R_mono (Kd.R_step (Kd.R_bound (Kd.R_below HOY.out HBZ.out)) (fun k hk hlt => ?_)) (fun _ _ => trivial)) hwx, below_set (below_set hBz hgr) hgr⟩
   · have hne : k ≠ gr := by have := hk.2.1; omega
     rw [Below.heap_setCell _ _ _ k hne, Below.heap_setCell _ _ _ k hne]
   · have h1 := Kd.R_lt HOY.out k e.symm
     have h2 := hk.2.1
     omega
   · have hne : k ≠ gr := by have := hk.2.1; omega
     rw [Below.heap_setCell _ _ _ k hne, Below.heap_setCell _ _ _ k hne]
def laws_szPairS.f (l0 : List (S106)) (a1 : Int) : Option (Int) := if (wrap64 (a1 - (l0.length : Int))) < 0 then (some (-1)) else (some (wrap64 (a1 - (l0.length : Int))))
set_option maxHeartbeats 8000000 in
set_option maxRecDepth 100000 in
theorem laws_szPairS.calls (A0 : Option Addr) (c0 : Nat) (l0 : List (S106)) (a1 : Int) (r : Int) (w : World) (hr0 : Kd.C k106 w A0 l0.length l0) (hc0 : l0.length ≤ c0) (h : laws_szPairS.f l0 a1 = some r) :
    Calls Try.prog 41 #[.slice A0 l0.length c0, .int .i64 a1] w fun e w' => e = .returned (.int .i64 r) ∧ Drawn0 w w' := by
  have HR0 := Aside0.mk hr0
  have HC0 := Aside0.mk hc0
  clear hr0 hc0; have H : (if (wrap64 (a1 - (l0.length : Int))) < 0 then (some (-1)) else (some (wrap64 (a1 - (l0.length : Int))))) = some r := h
  clear h
  by_cases c3 : (wrap64 (a1 - (l0.length : Int))) < 0
  · rw [if_pos c3] at H
    have c3b0 : decide ((wrap64 (a1 - (l0.length : Int))) < 0) = true := decide_eq_true c3
    clear c3; obtain rfl := Option.some.inj H
    go_enter Try.func41, Try.ntmps41
    go_wp2
    go_ret
    exact ⟨by first | rfl | (simp; done) | (simp [*]; done), by repeat (first | exact Drawn0.refl _ | apply Drawn0.step)⟩
  · rw [if_neg c3] at H
    have c3b0 : decide ((wrap64 (a1 - (l0.length : Int))) < 0) = false := decide_eq_false c3
    clear c3; obtain rfl := Option.some.inj H
    go_enter Try.func41, Try.ntmps41
    go_wp2
    go_ret
    exact ⟨by first | rfl | (simp; done) | (simp [*]; done), by repeat (first | exact Drawn0.refl _ | apply Drawn0.step)⟩
def laws_szVocab.f (l0_0 : List (S106)) (a1 : Int) : Option (Int) := (laws_szPairS.f l0_0 a1).bind fun t186 => (if t186 < 0 then (some (-1)) else (some t186))
set_option maxHeartbeats 8000000 in
set_option maxRecDepth 100000 in
theorem laws_szVocab.calls (A0_0 : Option Addr) (c0_0 : Nat) (l0_0 : List (S106)) (a1 : Int) (r : Int) (w : World) (hr0_0 : Kd.C k106 w A0_0 l0_0.length l0_0) (hc0_0 : l0_0.length ≤ c0_0) (h : laws_szVocab.f l0_0 a1 = some r) :
    Calls Try.prog 14 #[.agg #[.slice A0_0 l0_0.length c0_0], .int .i64 a1] w fun e w' => e = .returned (.int .i64 r) ∧ Below w.heap.size w w' := by
  have hu43 := Try.underlying43
  have HR0_0 := Aside0.mk hr0_0
  have HC0_0 := Aside0.mk hc0_0
  clear hr0_0 hc0_0; have HB := Aside0.mk (Below.refl w.heap.size w)
  have H : ((laws_szPairS.f l0_0 a1).bind fun t186 => (if t186 < 0 then (some (-1)) else (some t186))) = some r := h
  clear h; replace H := Option.bind_eq_some_iff.mp H
  obtain ⟨t186, A30, H⟩ := H
  replace H : (if t186 < 0 then (some (-1)) else (some t186)) = some r := H
  have A3 := Aside0.mk A30
  clear A30
  by_cases c4 : t186 < 0
  · rw [if_pos c4] at H
    have c4b0 : decide (t186 < 0) = true := decide_eq_true c4
    clear c4; obtain rfl := Option.some.inj H
    go_enter Try.func14, Try.ntmps14
    go_wp2_with (first | ((with_reducible refine gate_dst (N := 2) rfl ?_); refine bX 2 #[.slice A0_0 l0_0.length c0_0] 43 ?_; intro gb185 hg w5 hbox hb; have BK185 := Aside0.mk (hbox); have GW185 := bs HB hg; have GE185 := bs HB hg; replace HB := bh HB hb; clear hb hbox hg; have hcz6_0 : w5.cell? ⟨gb185, 0, none⟩ = some (.slice A0_0 l0_0.length c0_0) := bc BK185 0; have hfz6_0 := blk_frozen BK185.out 0) | ((with_reducible refine gate_callee (f := 41) rfl ?_); refine goesC_ (some 8) Try.func41 #[.slice A0_0 l0_0.length c0_0, .int .i64 a1] ?_; (with_reducible refine (laws_szPairS.calls _ _ l0_0 a1 t186 _ ?side1 ?side2 A3.out).mono ?_); (case side1 => exact cX (Kd.C_below HR0_0.out HB.out)); (case side2 => exact HC0_0.out); rintro e w' ⟨rfl, ⟨nd, rfl⟩⟩; refine ⟨_, rfl, ?_⟩))
    go_ret
    exact ⟨eR, iB HB⟩
  · rw [if_neg c4] at H
    have c4b0 : decide (t186 < 0) = false := decide_eq_false c4
    clear c4; obtain rfl := Option.some.inj H
    go_enter Try.func14, Try.ntmps14
    go_wp2_with (first | ((with_reducible refine gate_dst (N := 2) rfl ?_); refine bX 2 #[.slice A0_0 l0_0.length c0_0] 43 ?_; intro gb185 hg w7 hbox hb; have BK185 := Aside0.mk (hbox); have GW185 := bs HB hg; have GE185 := bs HB hg; replace HB := bh HB hb; clear hb hbox hg; have hcz8_0 : w7.cell? ⟨gb185, 0, none⟩ = some (.slice A0_0 l0_0.length c0_0) := bc BK185 0; have hfz8_0 := blk_frozen BK185.out 0) | ((with_reducible refine gate_callee (f := 41) rfl ?_); refine goesC_ (some 8) Try.func41 #[.slice A0_0 l0_0.length c0_0, .int .i64 a1] ?_; (with_reducible refine (laws_szPairS.calls _ _ l0_0 a1 t186 _ ?side1 ?side2 A3.out).mono ?_); (case side1 => exact cX (Kd.C_below HR0_0.out HB.out)); (case side2 => exact HC0_0.out); rintro e w' ⟨rfl, ⟨nd, rfl⟩⟩; refine ⟨_, rfl, ?_⟩))
    go_ret
    exact ⟨eR, iB HB⟩
def laws_szIntS.f (l0 : List Int) (a1 : Int) : Option (Int) := if (wrap64 (a1 - (l0.length : Int))) < 0 then (some (-1)) else (some (wrap64 (a1 - (l0.length : Int))))
set_option maxHeartbeats 8000000 in
set_option maxRecDepth 100000 in
theorem laws_szIntS.calls (A0 : Option Addr) (c0 : Nat) (l0 : List Int) (a1 : Int) (r : Int) (w : World) (hr0 : Kd.C (Kd.int .i64) w A0 l0.length l0) (hc0 : l0.length ≤ c0) (h : laws_szIntS.f l0 a1 = some r) :
    Calls Try.prog 88 #[.slice A0 l0.length c0, .int .i64 a1] w fun e w' => e = .returned (.int .i64 r) ∧ Drawn0 w w' := by
  have HR0 := Aside0.mk hr0
  have HC0 := Aside0.mk hc0
  clear hr0 hc0; have H : (if (wrap64 (a1 - (l0.length : Int))) < 0 then (some (-1)) else (some (wrap64 (a1 - (l0.length : Int))))) = some r := h
  clear h
  by_cases c3 : (wrap64 (a1 - (l0.length : Int))) < 0
  · rw [if_pos c3] at H
    have c3b0 : decide ((wrap64 (a1 - (l0.length : Int))) < 0) = true := decide_eq_true c3
    clear c3; obtain rfl := Option.some.inj H
    go_enter Try.func88, Try.ntmps88
    go_wp2
    go_ret
    exact ⟨by first | rfl | (simp; done) | (simp [*]; done), by repeat (first | exact Drawn0.refl _ | apply Drawn0.step)⟩
  · rw [if_neg c3] at H
    have c3b0 : decide ((wrap64 (a1 - (l0.length : Int))) < 0) = false := decide_eq_false c3
    clear c3; obtain rfl := Option.some.inj H
    go_enter Try.func88, Try.ntmps88
    go_wp2
    go_ret
    exact ⟨by first | rfl | (simp; done) | (simp [*]; done), by repeat (first | exact Drawn0.refl _ | apply Drawn0.step)⟩
def laws_szNote.f (a0_0 : ByteArray) (l0_1 : List Int) (a1 : Int) : Option (Int) := if (wrap64 (a1 - (a0_0.size : Int))) < 0 then (some (-1)) else ((laws_szIntS.f l0_1 (wrap64 (a1 - (a0_0.size : Int)))).bind fun t188 => (if t188 < 0 then (some (-1)) else (some t188)))
set_option maxHeartbeats 8000000 in
set_option maxRecDepth 100000 in
theorem laws_szNote.calls (a0_0 : ByteArray) (A0_1 : Option Addr) (c0_1 : Nat) (l0_1 : List Int) (a1 : Int) (r : Int) (w : World) (hr0_1 : Kd.C (Kd.int .i64) w A0_1 l0_1.length l0_1) (hc0_1 : l0_1.length ≤ c0_1) (h : laws_szNote.f a0_0 l0_1 a1 = some r) :
    Calls Try.prog 72 #[.agg #[.string a0_0, .slice A0_1 l0_1.length c0_1], .int .i64 a1] w fun e w' => e = .returned (.int .i64 r) ∧ Below w.heap.size w w' := by
  have hu104 := Try.underlying104
  have HR0_1 := Aside0.mk hr0_1
  have HC0_1 := Aside0.mk hc0_1
  clear hr0_1 hc0_1; have HB := Aside0.mk (Below.refl w.heap.size w)
  have H : (if (wrap64 (a1 - (a0_0.size : Int))) < 0 then (some (-1)) else ((laws_szIntS.f l0_1 (wrap64 (a1 - (a0_0.size : Int)))).bind fun t188 => (if t188 < 0 then (some (-1)) else (some t188)))) = some r := h
  clear h
  by_cases c3 : (wrap64 (a1 - (a0_0.size : Int))) < 0
  · rw [if_pos c3] at H
    have c3b0 : decide ((wrap64 (a1 - (a0_0.size : Int))) < 0) = true := decide_eq_true c3
    clear c3; obtain rfl := Option.some.inj H
    go_enter Try.func72, Try.ntmps72
    go_wp2_with (first | ((with_reducible refine gate_dst (N := 2) rfl ?_); refine bX 2 #[.string a0_0, .slice A0_1 l0_1.length c0_1] 104 ?_; intro gb187 hg w4 hbox hb; have a9a := Aside0.mk (hbox); have GW187 := bs HB hg; have GE187 := bs HB hg; replace HB := bh HB hb; clear hb hbox hg; obtain ⟨hcz5_0, hcz5_1⟩ := cs2 a9a; obtain ⟨hfz5_0, hfz5_1⟩ := fs2 a9a))
    go_ret
    exact ⟨eR, iB HB⟩
  · rw [if_neg c3] at H
    have c3b0 : decide ((wrap64 (a1 - (a0_0.size : Int))) < 0) = false := decide_eq_false c3
    clear c3; replace H := Option.bind_eq_some_iff.mp H
    obtain ⟨t188, A60, H⟩ := H
    replace H : (if t188 < 0 then (some (-1)) else (some t188)) = some r := H
    have A6 := Aside0.mk A60
    clear A60
    by_cases c7 : t188 < 0
    · rw [if_pos c7] at H
      have c7b0 : decide (t188 < 0) = true := decide_eq_true c7
      clear c7; obtain rfl := Option.some.inj H
      go_enter Try.func72, Try.ntmps72
      go_wp2_with (first | ((with_reducible refine gate_dst (N := 2) rfl ?_); refine bX 2 #[.string a0_0, .slice A0_1 l0_1.length c0_1] 104 ?_; intro gb187 hg w8 hbox hb; have a9a := Aside0.mk (hbox); have GW187 := bs HB hg; have GE187 := bs HB hg; replace HB := bh HB hb; clear hb hbox hg; obtain ⟨hcz9_0, hcz9_1⟩ := cs2 a9a; obtain ⟨hfz9_0, hfz9_1⟩ := fs2 a9a) | ((with_reducible refine gate_callee (f := 88) rfl ?_); refine goesC_ (some 15) Try.func88 #[.slice A0_1 l0_1.length c0_1, .int .i64 (wrap64 (a1 - (a0_0.size : Int)))] ?_; (with_reducible refine (laws_szIntS.calls _ _ l0_1 (wrap64 (a1 - (a0_0.size : Int))) t188 _ ?side1 ?side2 A6.out).mono ?_); (case side1 => exact cX (Kd.C_below HR0_1.out HB.out)); (case side2 => exact HC0_1.out); rintro e w' ⟨rfl, ⟨nd, rfl⟩⟩; refine ⟨_, rfl, ?_⟩))
      go_ret
      exact ⟨eR, iB HB⟩
    · rw [if_neg c7] at H
      have c7b0 : decide (t188 < 0) = false := decide_eq_false c7
      clear c7; obtain rfl := Option.some.inj H
      go_enter Try.func72, Try.ntmps72
      go_wp2_with (first | ((with_reducible refine gate_dst (N := 2) rfl ?_); refine bX 2 #[.string a0_0, .slice A0_1 l0_1.length c0_1] 104 ?_; intro gb187 hg w10 hbox hb; have a9a := Aside0.mk (hbox); have GW187 := bs HB hg; have GE187 := bs HB hg; replace HB := bh HB hb; clear hb hbox hg; obtain ⟨hcz11_0, hcz11_1⟩ := cs2 a9a; obtain ⟨hfz11_0, hfz11_1⟩ := fs2 a9a) | ((with_reducible refine gate_callee (f := 88) rfl ?_); refine goesC_ (some 15) Try.func88 #[.slice A0_1 l0_1.length c0_1, .int .i64 (wrap64 (a1 - (a0_0.size : Int)))] ?_; (with_reducible refine (laws_szIntS.calls _ _ l0_1 (wrap64 (a1 - (a0_0.size : Int))) t188 _ ?side1 ?side2 A6.out).mono ?_); (case side1 => exact cX (Kd.C_below HR0_1.out HB.out)); (case side2 => exact HC0_1.out); rintro e w' ⟨rfl, ⟨nd, rfl⟩⟩; refine ⟨_, rfl, ?_⟩))
      go_ret
      exact ⟨eR, iB HB⟩
end Go.Proofs.Ytddebnchbbmbkaa.PFnExactRecall
