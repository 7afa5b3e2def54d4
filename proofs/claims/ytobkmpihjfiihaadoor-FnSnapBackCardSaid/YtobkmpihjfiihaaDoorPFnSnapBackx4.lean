-- The machine side of a law: written by a program of this session (wip/tools), a turned print.
import Derived.Test.YtobkmpihjfiihaaDoorPFnSnapBackx0
import Derived.Test.YtobkmpihjfiihaaDoorPFnSnapBackx3
namespace Go.Proofs.YtobkmpihjfiihaaDoor.PFnSnapBack
open Go.RowKit Go.Proofs.YtobkmpihjfiihaaDoorW.PrintWords Go.Proofs.YtobkmpihjfiihaaDoorW.PrintLast Go.Proofs.YtobkmpihjfiihaaDoorW.PrintMore
attribute [local go_sem] max2_int min2_int max_two min_two max_three min_three max_four min_four   -- for this text's walks alone
set_option linter.unusedVariables false
set_option linter.unusedSimpArgs false


/-! ### impl_shaBlock: function 39 -/
def cU (l : List Int) : Array Value := (l.map (fun x => Value.int .u32 x)).toArray
theorem cU_size (l : List Int) : (cU l).size = l.length := by simp [cU]
theorem cU_get (l : List Int) (i : Nat) (h : i < l.length) : (cU l)[i]? = some (.int .u32 (l.getD i 0)) := by simp [cU, h]
theorem cU_set (l : List Int) (i : Nat) (v : Int) : (cU l).setIfInBounds i (.int .u32 v) = cU (l.set i v) := by simp [cU, List.map_set]
theorem cU_one (l : List Int) : (cU l).all (·.oneCell') = true := by simp [cU, Array.all_eq_true_iff_forall_mem, Value.oneCell']
theorem blkU {w : World} {g t : Nat} {l : List Int} (h : Aside0 (w.heap[g]? = some (.cells (cU l) t (0, 0)))) (i : Nat) (hi : i < l.length) : w.cell? ⟨g, i, none⟩ = some (.int .u32 (l.getD i 0)) := (blk_cell h.out i).trans (cU_get l i hi)
theorem blkU_set {w : World} {g t : Nat} {l : List Int} (h : Aside0 (w.heap[g]? = some (.cells (cU l) t (0, 0)))) (i : Nat) (v : Int) : (w.setCell ⟨g, i, none⟩ (.int .u32 v)).heap[g]? = some (.cells (cU (l.set i v)) t (0, 0)) := blk_put h.out i _ (cU_set l i v)

def fbV (b : ByteArray) (o : Int) : Int := Go.bits .or .u32 (Go.bits .or .u32 (Go.bits .or .u32 ((((bt b o) % 4294967296) * 16777216) % 4294967296) ((((bt b (o + 1)) % 4294967296) * 65536) % 4294967296)) ((((bt b (o + 2)) % 4294967296) * 256) % 4294967296)) ((bt b (o + 3)) % 4294967296)
/-- The first words of a block: n more. -/
def wds (b : ByteArray) : Nat → List Int
 | 0 => []
 | n + 1 => wds b n ++ [fbV b (4 * (n : Int))]
theorem wds_len (b : ByteArray) (n : Nat) : (wds b n).length = n := by
  induction n with
  | zero => rfl
  | succ n ih => simp [wds, ih]
def rotV (x m : Int) : Int := Go.bits .or .u32 (shl .u32 x (32 + m)) (shr .u32 x (-m))
theorem rot_eq (x m : Int) (hm : m ∈ [-7, -18, -17, -19, -6, -11, -25, -2, -13, -22]) : bits_RotateLeft32.f x m = some (rotV x m) := by
  simp only [List.mem_cons, List.not_mem_nil, or_false] at hm
  rcases hm with rfl | rfl | rfl | rfl | rfl | rfl | rfl | rfl | rfl | rfl <;> (unfold bits_RotateLeft32.f rotV; rfl)
theorem rot_any (x m : Int) (w : World) (hm : m ∈ [-7, -18, -17, -19, -6, -11, -25, -2, -13, -22]) : Calls Tryd.prog 69 #[.int .u32 x, .int .i64 m] w fun e w' => e = .returned (.int .u32 (rotV x m)) ∧ Drawn0 w w' :=
  bits_RotateLeft32.calls x m _ w (rot_eq x m hm)
/-- The word behind these. -/
def nextW (l : List Int) : Int := ((l.getD (l.length - 16) 0) + (Go.bits .xor .u32 (Go.bits .xor .u32 (rotV (l.getD (l.length - 15) 0) (-7)) (rotV (l.getD (l.length - 15) 0) (-18))) ((l.getD (l.length - 15) 0) / 8)) + (l.getD (l.length - 7) 0) + (Go.bits .xor .u32 (Go.bits .xor .u32 (rotV (l.getD (l.length - 2) 0) (-17)) (rotV (l.getD (l.length - 2) 0) (-19))) ((l.getD (l.length - 2) 0) / 1024))) % 4294967296
theorem nextW_eq {l : List Int} {j : Nat} {x16 x15 x7 x2 : Int} (hj : l.length = j) (e16 : l.getD (j - 16) 0 = x16) (e15 : l.getD (j - 15) 0 = x15) (e7 : l.getD (j - 7) 0 = x7) (e2 : l.getD (j - 2) 0 = x2) :
  nextW l = (x16 + (Go.bits .xor .u32 (Go.bits .xor .u32 (rotV x15 (-7)) (rotV x15 (-18))) (x15 / 8)) + x7 + (Go.bits .xor .u32 (Go.bits .xor .u32 (rotV x2 (-17)) (rotV x2 (-19))) (x2 / 1024))) % 4294967296 := by
  subst hj e16 e15 e7 e2
  rfl
def wds2 (b : ByteArray) : Nat → List Int
 | 0 => wds b 16
 | n + 1 => wds2 b n ++ [nextW (wds2 b n)]
theorem wds2_len (b : ByteArray) (n : Nat) : (wds2 b n).length = 16 + n := by
  induction n with
  | zero => exact wds_len b 16
  | succ n ih => simp [wds2, ih]; omega
theorem set_zeros (l : List Int) (n : Nat) (v : Int) (hn : 0 < n) : (l ++ List.replicate n 0).set l.length v = l ++ [v] ++ List.replicate (n - 1) 0 := by
  obtain ⟨m, rfl⟩ : ∃ m, n = m + 1 := ⟨n - 1, by omega⟩
  simp [List.set_append, List.replicate_succ]
theorem getD_left (l r : List Int) (i : Nat) (h : i < l.length) : (l ++ r).getD i 0 = l.getD i 0 := by simp [List.getElem?_append_left h]

/-- One round over the eight words. -/
def rndT (k x v0 v1 v2 v3 v4 v5 v6 v7 : Int) : Int := v7 + (Go.bits .xor .u32 (Go.bits .xor .u32 (rotV v4 (-6)) (rotV v4 (-11))) (rotV v4 (-25))) + (Go.bits .xor .u32 (Go.bits .and .u32 v4 v5) (Go.bits .and .u32 (Go.bits .xor .u32 IntKind.u32.max v4) v6)) + k + x
def rndY (v0 v1 v2 : Int) : Int := Go.bits .xor .u32 (Go.bits .xor .u32 (rotV v0 (-2)) (rotV v0 (-13))) (rotV v0 (-22))
def rndM (v0 v1 v2 : Int) : Int := Go.bits .xor .u32 (Go.bits .xor .u32 (Go.bits .and .u32 v0 v1) (Go.bits .and .u32 v0 v2)) (Go.bits .and .u32 v1 v2)
def rndV (k x : Int) : List Int → List Int
 | [v0, v1, v2, v3, v4, v5, v6, v7] => [(rndT k x v0 v1 v2 v3 v4 v5 v6 v7 + rndY v0 v1 v2 + rndM v0 v1 v2) % 4294967296, v0, v1, v2, (v3 + rndT k x v0 v1 v2 v3 v4 v5 v6 v7) % 4294967296, v4, v5, v6]
 | l => l
def rnds (kt xt s : List Int) : Nat → List Int
 | 0 => s
 | n + 1 => rndV (kt.getD n 0) (xt.getD n 0) (rnds kt xt s n)
theorem eight (l : List Int) (h : l.length = 8) : ∃ v0 v1 v2 v3 v4 v5 v6 v7, l = [v0, v1, v2, v3, v4, v5, v6, v7] := by
  match l, h with
  | [v0, v1, v2, v3, v4, v5, v6, v7], _ => exact ⟨_, _, _, _, _, _, _, _, rfl⟩
theorem rndV_len (k x : Int) (l : List Int) (h : l.length = 8) : (rndV k x l).length = 8 := by
  obtain ⟨v0, v1, v2, v3, v4, v5, v6, v7, rfl⟩ := eight l h
  rfl
theorem rnds_len (kt xt s : List Int) (h : s.length = 8) (n : Nat) : (rnds kt xt s n).length = 8 := by
  induction n with
  | zero => exact h
  | succ n ih => exact rndV_len _ _ _ ih
def addsV (s v : List Int) : Nat → List Int
 | 0 => s
 | n + 1 => (addsV s v n).set n ((s.getD n 0 + v.getD n 0) % 4294967296)
theorem addsV_len (s v : List Int) (n : Nat) : (addsV s v n).length = s.length := by
  induction n with
  | zero => rfl
  | succ n ih => simp [addsV, ih]
theorem addsV_at (s v : List Int) (n i : Nat) (h : n ≤ i) : (addsV s v n).getD i 0 = s.getD i 0 := by
  induction n with
  | zero => rfl
  | succ n ih =>
    have := ih (by omega)
    simp only [addsV, List.getD_eq_getElem?_getD] at this ⊢
    rw [List.getElem?_set_ne (by omega)]
    exact this
/-- The table of the package, as it lies in memory when the call begins. -/
def shaTab : List Int := [1116352408, 1899447441, 3049323471, 3921009573, 961987163, 1508970993, 2453635748, 2870763221, 3624381080, 310598401, 607225278, 1426881987, 1925078388, 2162078206, 2614888103, 3248222580, 3835390401, 4022224774, 264347078, 604807628, 770255983, 1249150122, 1555081692, 1996064986, 2554220882, 2821834349, 2952996808, 3210313671, 3336571891, 3584528711, 113926993, 338241895, 666307205, 773529912, 1294757372, 1396182291, 1695183700, 1986661051, 2177026350, 2456956037, 2730485921, 2820302411, 3259730800, 3345764771, 3516065817, 3600352804, 4094571909, 275423344, 430227734, 506948616, 659060556, 883997877, 958139571, 1322822218, 1537002063, 1747873779, 1955562222, 2024104815, 2227730452, 2361852424, 2428436474, 2756734187, 3204031479, 3329325298]
/-- The state behind one block. -/
def shaB (s : List Int) (b : ByteArray) : List Int := addsV s (rnds shaTab (wds2 b 48) s 64) 8
structure WS (w W : World) (ls lw : List Int) : Prop where
  b : Below w.heap.size w W
  s : W.heap[w.heap.size]? = some (.cells (cU ls) 60 (0, 0))
  r : ∃ lr : List Int, lr.length = 8 ∧ W.heap[w.heap.size + 1]? = some (.cells (cU lr) 60 (0, 0))
  x : W.heap[w.heap.size + 1 + 1]? = some (.cells (cU lw) 92 (0, 0))
theorem WS.drewN {w W : World} {ls lw : List Int} (h : WS w W ls lw) (n : Nat) : WS w (W.drewN n) ls lw := ⟨pw_below_drewN h.b n, h.s, h.r, h.x⟩
theorem WS.drew {w W : World} {ls lw : List Int} (h : WS w W ls lw) : WS w W.drew ls lw := h.drewN 1
theorem WS.init (w : World) (ls : List Int) : WS w (((w.alloc (.cells (cU ls) 60)).alloc (.cells (cU (List.replicate 8 0)) 60)).alloc (.cells (cU (List.replicate 64 0)) 92)) ls (List.replicate 64 0) := by
  refine ⟨(((Below.refl _ _).alloc (Nat.le_refl _) _).alloc (by simp) _).alloc (by simp; omega) _, ?_, ⟨List.replicate 8 0, rfl, ?_⟩, ?_⟩
  · exact blk_alloc (blk_alloc (blk_new _ _) _) _
  · exact blk_alloc (by have := blk_new (w.alloc (.cells (cU ls) 60)) (.cells (cU (List.replicate 8 0)) 60); simpa using this) _
  · have := blk_new ((w.alloc (.cells (cU ls) 60)).alloc (.cells (cU (List.replicate 8 0)) 60)) (.cells (cU (List.replicate 64 0)) 92)
    simpa using this
theorem WS.setX {w W : World} {ls lw : List Int} (h : WS w W ls lw) (i : Nat) (v : Int) : WS w (W.setCell ⟨w.heap.size + 1 + 1, i, none⟩ (.int .u32 v)) ls (lw.set i v) := by
  obtain ⟨lr, e, hr⟩ := h.r
  exact ⟨h.b.setCell (by simp; omega) _, blk_far h.s (by simp; omega) _, ⟨lr, e, blk_far hr (by simp) _⟩, blkU_set ⟨h.x⟩ i v⟩
theorem WS.cellX {w W : World} {ls lw : List Int} (h : WS w W ls lw) (i : Nat) (hi : i < lw.length) : W.cell? ⟨w.heap.size + 1 + 1, i, none⟩ = some (.int .u32 (lw.getD i 0)) := blkU ⟨h.x⟩ i hi
theorem WS.frzX {w W : World} {ls lw : List Int} (h : WS w W ls lw) (i : Nat) : W.frozen? ⟨w.heap.size + 1 + 1, i, none⟩ = false := blk_frozen h.x i
theorem bt_ext (s : ByteArray) (a e j : Nat) (h : a + j < e) (he : e ≤ s.size) : bt (s.extract a e) (j : Int) = bt s ((a + j : Nat) : Int) := by
  have h1 : j < (s.extract a e).size := by simp; omega
  have h2 : a + j < s.size := by omega
  simp only [bt, Int.toNat_natCast]
  rw [dif_pos h1, dif_pos h2]
  simp [ByteArray.getElem_extract]
theorem fourB (b : ByteArray) (i : Nat) (hb : b.size = 64) (hi : i < 16) : impl_fourBytes.f (b.extract (4 * i) 64) = some (fbV b (4 * (i : Int))) := by
  have hs : (b.extract (4 * i) 64).size = 64 - 4 * i := by simp [hb]
  unfold impl_fourBytes.f fbV
  rw [if_pos (by omega), if_pos (by omega), if_pos (by omega), if_pos (by omega)]
  have e0 : bt (b.extract (4 * i) 64) 0 = bt b (4 * (i : Int)) := (bt_ext b (4 * i) 64 0 (by omega) (by omega)).trans (congrArg (bt b) (by omega))
  have e1 : bt (b.extract (4 * i) 64) 1 = bt b (4 * (i : Int) + 1) := (bt_ext b (4 * i) 64 1 (by omega) (by omega)).trans (congrArg (bt b) (by omega))
  have e2 : bt (b.extract (4 * i) 64) 2 = bt b (4 * (i : Int) + 2) := (bt_ext b (4 * i) 64 2 (by omega) (by omega)).trans (congrArg (bt b) (by omega))
  have e3 : bt (b.extract (4 * i) 64) 3 = bt b (4 * (i : Int) + 3) := (bt_ext b (4 * i) 64 3 (by omega) (by omega)).trans (congrArg (bt b) (by omega))
  rw [e0, e1, e2, e3]
theorem WS.below {w W W1 : World} {ls lw : List Int} (h : WS w W ls lw) (hb : Below W.heap.size W W1) : WS w W1 ls lw := by
  obtain ⟨lr, e, hr⟩ := h.r
  exact ⟨below_step h.b hb, blk_below h.s hb, ⟨lr, e, blk_below hr hb⟩, blk_below h.x hb⟩
theorem WS.lt {w W : World} {ls lw : List Int} (h : WS w W ls lw) : w.heap.size + 1 + 1 < W.heap.size := blk_lt h.x
theorem row_far {w : World} {g g' t : Nat} {cs cs' : Array Value} (h : w.heap[g]? = some (.cells cs t (0, 0))) (hne : g ≠ g') : (w.setRow g' cs').heap[g]? = some (.cells cs t (0, 0)) := (setRow_other w g' g cs' hne).trans h
theorem below_row {B : Nat} {w W : World} (h : Below B w W) {g : Nat} (hg : B ≤ g) (cs : Array Value) : Below B w (W.setRow g cs) :=
  h.trans ⟨rfl, rfl, rfl, by simp, fun k hk => setRow_other W g k cs (by omega)⟩
/-- The four blocks of a call: as WS; v besides. -/
structure VS (w W : World) (gv : Nat) (ls lw lv : List Int) : Prop where
  h : WS w W ls lw
  lt : w.heap.size + 1 + 1 < gv
  v : W.heap[gv]? = some (.cells (cU lv) 60 (0, 0))
theorem VS.drewN {w W : World} {gv : Nat} {ls lw lv : List Int} (h : VS w W gv ls lw lv) (n : Nat) : VS w (W.drewN n) gv ls lw lv := ⟨h.h.drewN n, h.lt, h.v⟩
theorem VS.put {w W : World} {gv : Nat} {ls lw lv : List Int} (h : VS w W gv ls lw lv) (l : List Int) : VS w (W.setRow gv (cU l)) gv ls lw l := by
  obtain ⟨⟨b, s, ⟨lr, e, hr⟩, x⟩, lt, v⟩ := h
  exact ⟨⟨below_row b (by omega) _, row_far s (by omega), ⟨lr, e, row_far hr (by omega)⟩, row_far x (by omega)⟩, lt, setRow_heap W gv _ _ 60 _ v⟩
theorem VS.setS {w W : World} {gv : Nat} {ls lw lv : List Int} (h : VS w W gv ls lw lv) (i : Nat) (x : Int) : VS w (W.setCell ⟨w.heap.size, i, none⟩ (.int .u32 x)) gv (ls.set i x) lw lv := by
  obtain ⟨⟨b, s, ⟨lr, e, hr⟩, hx⟩, lt, v⟩ := h
  exact ⟨⟨b.setCell (Nat.le_refl _) _, blkU_set ⟨s⟩ i x, ⟨lr, e, blk_far hr (by simp) _⟩, blk_far hx (by simp; omega) _⟩, lt, blk_far v (by simp; omega) _⟩
def Tab (w : World) : Prop := ∀ i : Nat, i < 64 → w.cell? ⟨0, i, none⟩ = some (.int .u32 (shaTab.getD i 0))
theorem Tab.below {w W : World} (h : Tab w) (hb : Below w.heap.size w W) : Tab W := fun i hi => (hb.cell (p := ⟨0, i, none⟩) (block_lt_of_cell (h i hi))).trans (h i hi)
theorem WS.word {w W : World} {ls : List Int} {b : ByteArray} {i : Nat} (h : WS w W ls (wds b i ++ List.replicate (64 - i) 0)) (hi : i < 64) : WS w (W.setCell ⟨w.heap.size + 1 + 1, i, none⟩ (.int .u32 (fbV b (4 * (i : Int))))) ls (wds b (i + 1) ++ List.replicate (64 - (i + 1)) 0) := by
  have h1 := h.setX i (fbV b (4 * (i : Int)))
  have e := set_zeros (wds b i) (64 - i) (fbV b (4 * (i : Int))) (by omega)
  rw [wds_len] at e
  rw [e] at h1
  exact h1
theorem WS.word2 {w W : World} {ls : List Int} {b : ByteArray} {i : Nat} (h : WS w W ls (wds2 b i ++ List.replicate (48 - i) 0)) (hi : i < 48) : WS w (W.setCell ⟨w.heap.size + 1 + 1, 16 + i, none⟩ (.int .u32 (nextW (wds2 b i)))) ls (wds2 b (i + 1) ++ List.replicate (48 - (i + 1)) 0) := by
  have h1 := h.setX (16 + i) (nextW (wds2 b i))
  have e := set_zeros (wds2 b i) (48 - i) (nextW (wds2 b i)) (by omega)
  rw [wds2_len] at e
  rw [e] at h1
  exact h1
set_option maxHeartbeats 8000000 in
set_option maxRecDepth 100000 in
theorem impl_shaBlock.calls (s : List Int) (b : ByteArray) (w : World) (hs : s.length = 8) (hb : b.size = 64) (hT : Tab w) :
  Calls Tryd.prog 39 #[.agg (cU s), .string b] w fun e w' => e = .returned (.agg (cU (shaB s b))) ∧ Below w.heap.size w w' := by
 have HS := Aside0.mk hs
 have HT := Aside0.mk hT
 clear hs hT
 go_enter Tryd.func39, Tryd.ntmps39
 go_wp2
 go_loopg [22] 16 (fun kq v22 W => ∃ i : Nat, i + kq = 16 ∧ v22 = .int .i64 i ∧ WS w W s (wds b i ++ List.replicate (64 - i) 0))
 case atStart => exact ⟨0, rfl, rfl, WS.init w s⟩
 case round =>
  obtain ⟨i, hi, rfl, HW⟩ := hrel
  by_cases hlt : i < 16
  · have HF := Aside0.mk (fourB b i hb hlt)
    have hc := fun n => (HW.drewN n).cellX i (by simp [wds_len]; omega)
    have hz := fun n => (HW.drewN n).frzX i
    go_wp2_with (go_at_call 68; refine (impl_fourBytes.calls _ _ _ HF.out).mono ?_; rintro e w' ⟨rfl, nd, rfl⟩)
    go_roundg (15 - i)
    case measure => omega
    case rel => exact ⟨i + 1, by omega, by first | rfl | (simp; done), (HW.drewN nd).word (by omega)⟩
  · obtain rfl : i = 16 := by omega
    clear hlt hi
    have HW2 : WS w wr s (wds2 b 0 ++ List.replicate (48 - 0) 0) := HW
    clear HW
    go_wp2
    go_loopg [7] 48 (fun kq v7 W => ∃ i j : Nat, i + kq = 48 ∧ j = 16 + i ∧ v7 = .int .i64 j ∧ WS w W s (wds2 b i ++ List.replicate (48 - i) 0))
    case atStart => exact ⟨0, 16, rfl, rfl, rfl, HW2⟩
    case round =>
     clear HW2
     obtain ⟨i, j, hi, hj, rfl, HW⟩ := hrel
     by_cases hlt : i < 48
     · have hjl : j < 64 := by omega
       have hj16 : 16 ≤ j := by omega
       have hwl := wds2_len b i
       have hc : ∀ (W : World), WS w W s (wds2 b i ++ List.replicate (48 - i) 0) → ∀ q, q < 16 + i → W.cell? ⟨w.heap.size + 1 + 1, q, none⟩ = some (.int .u32 ((wds2 b i).getD q 0)) := fun W h q hq => by
         have := h.cellX q (by simp; omega)
         rwa [getD_left _ _ _ (by omega)] at this
       have ex : ∀ q, q < 16 + i → ∃ x : Int, Aside0 ((wds2 b i).getD q 0 = x) ∧ ∀ n, (wr.drewN n).cell? ⟨w.heap.size + 1 + 1, q, none⟩ = some (.int .u32 x) := fun q hq => ⟨_, ⟨rfl⟩, fun n => hc _ (HW.drewN n) q hq⟩
       obtain ⟨x15, e15, c15⟩ := ex (j - 15) (by omega)
       obtain ⟨x2, e2, c2⟩ := ex (j - 2) (by omega)
       obtain ⟨x16, e16, c16⟩ := ex (j - 16) (by omega)
       obtain ⟨x7, e7, c7⟩ := ex (j - 7) (by omega)
       have ch := fun n => (HW.drewN n).cellX j (by simp; omega)
       have hz := fun n => (HW.drewN n).frzX j
       clear hc ex
       have HJ := Aside0.mk hj
       have HL := Aside0.mk hwl
       have HN : Aside0 (∀ W, WS w W s (wds2 b i ++ List.replicate (48 - i) 0) → WS w (W.setCell ⟨w.heap.size + 1 + 1, j, none⟩ (.int .u32 ((x16 + (Go.bits .xor .u32 (Go.bits .xor .u32 (rotV x15 (-7)) (rotV x15 (-18))) (x15 / 8)) + x7 + (Go.bits .xor .u32 (Go.bits .xor .u32 (rotV x2 (-17)) (rotV x2 (-19))) (x2 / 1024))) % 4294967296))) s (wds2 b (i + 1) ++ List.replicate (48 - (i + 1)) 0)) := ⟨fun W h => by
         have h1 := h.word2 hlt
         rw [nextW_eq (HL.out.trans HJ.out.symm) e16.out e15.out e7.out e2.out, ← HJ.out] at h1
         exact h1⟩
       have HI := Aside0.mk hi
       clear hj hwl hi hlt
       go_wp2
       go_quiet (fail)
       go_wp2_with (go_at_call 69; refine (rot_any _ _ _ (by decide)).mono ?_; rintro e w' ⟨rfl, nd, rfl⟩)
       go_region
       go_wp2
       go_roundg (47 - i)
       case measure => have := HI.out; have := HJ.out; omega
       case rel => exact ⟨i + 1, j + 1, by have := HJ.out; have := HI.out; omega, by have := HJ.out; omega, by first | rfl | (simp; done), HN.out _ (HW.drewN _)⟩
     · obtain rfl : i = 48 := by omega
       subst hj
       clear hlt hi
       have HX : WS w wr s (wds2 b 48) := by simpa using HW
       clear HW
       have i60 : (Tryd.prog.info? 60).map (·.size) = some 8 := by kernel_rfl
       have I60 := Aside0.mk i60
       clear i60
       have hsz : (cU s).size = 8 := (cU_size s).trans HS.out
       have HSZ := Aside0.mk hsz
       clear hsz
       go_wp2_with (first
        | ((with_reducible refine gate_dst (N := 76) rfl ?_); refine wpList_load_row rfl 60 (.tmp 2) rfl w.heap.size rfl 60 (cU s) (0, 0) _ HX.s Tryd.underlying60 rfl (I60.out.trans (congrArg some HSZ.out.symm)) ?_)
        | ((with_reducible refine gate_dst (N := 12) rfl ?_); refine box_event ?hg (N := 12) ?hd (cs := cU (List.replicate 8 0)) (t := 60) ?hr ?_; (case hd => rfl); (case hg => rfl); (case hr => first | (go_simp; done) | (go_simp; rfl)); intro gv hg w1 hbox hb; have HX1 := HX.below hb; have HLT := Aside0.mk (hg ▸ HX.lt : w.heap.size + 1 + 1 < gv); have HV1 := Aside0.mk hbox; clear hb hbox hg)
        | ((with_reducible refine gate_store (t := 60) (p := 12) rfl ?_); refine wpList_store_row rfl 60 (.tmp 12) (.tmp 76) rfl gv (cU s) rfl rfl 60 (cU (List.replicate 8 0)) HV1.out (I60.out.trans (congrArg some HSZ.out.symm)) HSZ.out.symm (cU_one s) ?_; have HV2 : VS w (w1.setRow gv (cU s)) gv s (wds2 b 48) s := VS.put ⟨HX1, HLT.out, HV1.out⟩ s; clear HX1 HLT HV1))
       clear HX
       go_loopg [77] 64 (fun kq v77 W => ∃ i : Nat, i + kq = 64 ∧ v77 = .int .i64 i ∧ VS w W gv s (wds2 b 48) (rnds shaTab (wds2 b 48) s i))
       case atStart => exact ⟨0, rfl, rfl, HV2⟩
       case round =>
        clear HV2
        obtain ⟨i, hi, rfl, HW⟩ := hrel
        by_cases hlt : i < 64
        · obtain ⟨v0, v1, v2, v3, v4, v5, v6, v7, ev⟩ := eight _ (rnds_len shaTab (wds2 b 48) s HS.out i)
          have HE := Aside0.mk ev
          have HI := Aside0.mk hi
          have hx : ∃ x : Int, Aside0 ((wds2 b 48).getD i 0 = x) ∧ ∀ n, (wr.drewN n).cell? ⟨w.heap.size + 1 + 1, i, none⟩ = some (.int .u32 x) := ⟨_, ⟨rfl⟩, fun n => (HW.drewN n).h.cellX i (by rw [wds2_len]; omega)⟩
          obtain ⟨x, ex, cx⟩ := hx
          have hk : ∃ x : Int, Aside0 (shaTab.getD i 0 = x) ∧ ∀ n, (wr.drewN n).cell? ⟨0, i, none⟩ = some (.int .u32 x) := ⟨_, ⟨rfl⟩, fun n => HT.out.below (HW.drewN n).h.b i hlt⟩
          obtain ⟨kk, ek, ck⟩ := hk
          rw [ev] at HW
          clear ev hi
          have HN : Aside0 (∀ W, VS w W gv s (wds2 b 48) [v0, v1, v2, v3, v4, v5, v6, v7] → VS w (W.setRow gv (cU (rndV kk x [v0, v1, v2, v3, v4, v5, v6, v7]))) gv s (wds2 b 48) (rnds shaTab (wds2 b 48) s (i + 1))) := ⟨fun W h => by
            show VS w _ gv s (wds2 b 48) (rndV (shaTab.getD i 0) ((wds2 b 48).getD i 0) (rnds shaTab (wds2 b 48) s i))
            rw [ek.out, ex.out, HE.out]
            exact h.put _⟩
          have c0 : ∀ n, (wr.drewN n).cell? ⟨gv, 0, none⟩ = some (.int .u32 v0) := fun n => (blk_cell HW.v 0).trans rfl
          have c1 : ∀ n, (wr.drewN n).cell? ⟨gv, 1, none⟩ = some (.int .u32 v1) := fun n => (blk_cell HW.v 1).trans rfl
          have c2 : ∀ n, (wr.drewN n).cell? ⟨gv, 2, none⟩ = some (.int .u32 v2) := fun n => (blk_cell HW.v 2).trans rfl
          have c3 : ∀ n, (wr.drewN n).cell? ⟨gv, 3, none⟩ = some (.int .u32 v3) := fun n => (blk_cell HW.v 3).trans rfl
          have c4 : ∀ n, (wr.drewN n).cell? ⟨gv, 4, none⟩ = some (.int .u32 v4) := fun n => (blk_cell HW.v 4).trans rfl
          have c5 : ∀ n, (wr.drewN n).cell? ⟨gv, 5, none⟩ = some (.int .u32 v5) := fun n => (blk_cell HW.v 5).trans rfl
          have c6 : ∀ n, (wr.drewN n).cell? ⟨gv, 6, none⟩ = some (.int .u32 v6) := fun n => (blk_cell HW.v 6).trans rfl
          have c7 : ∀ n, (wr.drewN n).cell? ⟨gv, 7, none⟩ = some (.int .u32 v7) := fun n => (blk_cell HW.v 7).trans rfl
          go_wp2
          go_quiet (fail)
          go_wp2_with (go_at_call 69; refine (rot_any _ _ _ (by decide)).mono ?_; rintro e w' ⟨rfl, nd, rfl⟩)
          go_quiet (fail)
          go_wp2_with (first
           | (go_at_call 69; refine (rot_any _ _ _ (by decide)).mono ?_; rintro e w' ⟨rfl, nd, rfl⟩)
           | ((with_reducible refine gate_store (t := 60) (p := 12) rfl ?_); refine wpList_store_row rfl 60 (.tmp 12) (.tmp 160) rfl gv (cU (rndV kk x [v0, v1, v2, v3, v4, v5, v6, v7])) rfl ?hy 60 (cU [v0, v1, v2, v3, v4, v5, v6, v7]) HW.v I60.out rfl (cU_one _) ?_; (case hy => first | rfl | (go_simp; rfl))))
          go_roundg (63 - i)
          case measure => have := HI.out; omega
          case rel => exact ⟨i + 1, by have := HI.out; omega, by first | rfl | (simp; done), HN.out _ (HW.drewN _)⟩
        · obtain rfl : i = 64 := by omega
          clear hlt hi
          have HV : VS w wr gv (addsV s (rnds shaTab (wds2 b 48) s 64) 0) (wds2 b 48) (rnds shaTab (wds2 b 48) s 64) := HW
          clear HW
          have HRL := Aside0.mk (rnds_len shaTab (wds2 b 48) s HS.out 64)
          obtain ⟨lv, elv⟩ : ∃ l, rnds shaTab (wds2 b 48) s 64 = l := ⟨_, rfl⟩
          have HLV := Aside0.mk elv
          rw [elv] at HV HRL
          clear elv
          go_wp2
          go_loopg [162] 8 (fun kq v162 W => ∃ i : Nat, i + kq = 8 ∧ v162 = .int .i64 i ∧ VS w W gv (addsV s lv i) (wds2 b 48) lv)
          case atStart => exact ⟨0, rfl, rfl, HV⟩
          case round =>
           clear HV
           obtain ⟨i, hi, rfl, HW⟩ := hrel
           by_cases hlt : i < 8
           · have HI := Aside0.mk hi
             have hx : ∃ x : Int, Aside0 (s.getD i 0 = x) ∧ wr.cell? ⟨w.heap.size, i, none⟩ = some (.int .u32 x) := ⟨_, ⟨rfl⟩, by
               have := blkU ⟨HW.h.s⟩ i (by rw [addsV_len, HS.out]; omega)
               rwa [addsV_at _ _ _ _ (Nat.le_refl _)] at this⟩
             obtain ⟨x, ex, cx⟩ := hx
             have hy : ∃ x : Int, Aside0 (lv.getD i 0 = x) ∧ wr.cell? ⟨gv, i, none⟩ = some (.int .u32 x) := ⟨_, ⟨rfl⟩, blkU ⟨HW.v⟩ i (by rw [HRL.out]; omega)⟩
             obtain ⟨y, ey, cy⟩ := hy
             have hz : wr.frozen? ⟨w.heap.size, i, none⟩ = false := blk_frozen HW.h.s i
             clear hi
             have HN : Aside0 (∀ W, VS w W gv (addsV s lv i) (wds2 b 48) lv → VS w (W.setCell ⟨w.heap.size, i, none⟩ (.int .u32 ((x + y) % 4294967296))) gv (addsV s lv (i + 1)) (wds2 b 48) lv) := ⟨fun W h => by
               show VS w _ gv ((addsV s lv i).set i ((s.getD i 0 + lv.getD i 0) % 4294967296)) (wds2 b 48) lv
               rw [ex.out, ey.out]
               exact h.setS i _⟩
             go_wp2
             go_region
             go_wp2
             go_roundg (7 - i)
             case measure => have := HI.out; omega
             case rel => exact ⟨i + 1, by have := HI.out; omega, by first | rfl | (simp; done), HN.out _ (HW.drewN 1)⟩
           · obtain rfl : i = 8 := by omega
             clear hlt hi
             have HSF := Aside0.mk ((cU_size (addsV s lv 8)).trans ((addsV_len s lv 8).trans HS.out))
             obtain ⟨lr, elr, hr⟩ := HW.h.r
             have HLR := Aside0.mk ((cU_size lr).trans elr)
             have HR := Aside0.mk hr
             clear elr hr
             go_wp2_with (first
              | ((with_reducible refine gate_dst (N := 175) rfl ?_); refine wpList_load_row rfl 60 (.tmp 2) rfl w.heap.size rfl 60 (cU (addsV s lv 8)) (0, 0) _ HW.h.s Tryd.underlying60 rfl (I60.out.trans (congrArg some HSF.out.symm)) ?_)
              | ((with_reducible refine gate_store (t := 60) (p := 4) rfl ?_); refine wpList_store_row rfl 60 (.tmp 4) (.tmp 175) rfl (w.heap.size + 1) (cU (addsV s lv 8)) rfl rfl 60 (cU lr) HR.out (I60.out.trans (congrArg some HSF.out.symm)) (HLR.out.trans HSF.out.symm) (cU_one _) ?_))
             refine bodyPost_ret (v := .agg (cU (addsV s lv 8))) (results_cell_row rfl _ _ (w.heap.size + 1) 60 (cU (addsV s lv 8)) (0, 0) _ rfl (setRow_heap _ _ _ _ 60 _ HR.out) Tryd.underlying60 rfl (I60.out.trans (congrArg some HSF.out.symm))) rfl ⟨?_, below_row HW.h.b (by omega) _⟩
             rw [shaB, HLV.out]


/-! ### impl_Sha: function 10 -/
theorem exec_load_row {P : Program} {o : Oper} {a : Act} {w : World} (ty : TypeId) (x : Operand) (ho : o.op = .load ty x)
    (g : Nat) (hx : a.eval x = .pointer (some ⟨g, 0, none⟩)) (t : TypeId) (cs : Array Value) (fr : Nat × Nat) (d : TypeDesc) (hg : w.heap[g]? = some (.cells cs t fr))
    (hu : P.underlying ty = some d) (hd : (match d with | .struct _ | .array _ _ => true | _ => false) = true) (hi : (P.info? ty).map (·.size) = some cs.size) :
    (execOp a.eval o).run P w = .ok (.value (.agg cs)) w := by
  unfold execOp
  simp only [ho, hx, Instr.loadAt, Instr.sureAddr, Sem.run_bind, Sem.run_pure, Result.andThen_ok, run_loadVar_row w g t ty cs fr d hg hu hd hi]
theorem exec_store_row {P : Program} {o : Oper} {a : Act} {w : World} (ty : TypeId) (x y : Operand) (ho : o.op = .store ty x y)
    (g : Nat) (cells : Array Value) (hx : a.eval x = .pointer (some ⟨g, 0, none⟩)) (hy : a.eval y = .agg cells)
    (t : TypeId) (old : Array Value) (hg : w.heap[g]? = some (.cells old t (0, 0))) (hi : (P.info? ty).map (·.size) = some cells.size)
    (hold : old.size = cells.size) (h1 : cells.all (·.oneCell') = true) :
    (execOp a.eval o).run P w = .ok .skip (w.setRow g cells) := by
  unfold execOp
  simp only [ho, hx, hy, Instr.storeAt, Instr.sureAddr, Sem.run_bind, Sem.run_pure, Result.andThen_ok, run_storeVar_row w g t ty old cells hg hi hold h1]
/-- What a call of Sha has: the state's block. -/
structure SS (w W : World) (g : Nat) (st : List Int) : Prop where
  b : Below w.heap.size w W
  lt : w.heap.size ≤ g
  s : W.heap[g]? = some (.cells (cU st) 60 (0, 0))
theorem SS.put {w W : World} {g : Nat} {st : List Int} (h : SS w W g st) (l : List Int) : SS w (W.setRow g (cU l)) g l := ⟨below_row h.b h.lt _, h.lt, setRow_heap W g _ _ 60 _ h.s⟩
theorem SS.below {w W W1 : World} {g : Nat} {st : List Int} (h : SS w W g st) (hb : Below W.heap.size W W1) : SS w W1 g st := ⟨below_step h.b hb, h.lt, blk_below h.s hb⟩
theorem SS.drew {w W : World} {g : Nat} {st : List Int} (h : SS w W g st) : SS w W.drew g st := ⟨below_drew1 h.b, h.lt, h.s⟩
theorem SS.drewN {w W : World} {g : Nat} {st : List Int} (h : SS w W g st) (n : Nat) : SS w (W.drewN n) g st := ⟨pw_below_drewN h.b n, h.lt, h.s⟩
theorem index_at (st : List Int) (i : Nat) (x : Int) (hi : i < 8) (hc : (cU st)[i]? = some (.int .u32 x)) (W : World) : (Instr.index 60 (.agg (cU st)) (.int .i64 (i : Int))).run Tryd.prog W = .ok (.int .u32 x) W := by
  have h8 : (0 : Int) ≤ (i : Int) ∧ (i : Int) < ((8 : Nat) : Int) := by omega
  have hz : (sizeOf 59).run Tryd.prog W = .ok 1 W := by kernel_rfl
  simp only [Instr.index, asIntOf, Sem.run_bind, Sem.run_pure, Result.andThen_ok, run_underlying Tryd.underlying60, if_pos h8, hz, part, Tryd.isAgg59]
  simp [hc]
theorem shaB_len (s : List Int) (b : ByteArray) : (shaB s b).length = s.length := addsV_len _ _ _
def shaInit : List Int := [1779033703, 3144134277, 1013904242, 2773480762, 1359893119, 2600822924, 528734635, 1541459225]
def impl_Sha.pre (k : Nat) (a0 : ByteArray) : Option (ByteArray) := if a0.size + 1 ≤ 9223372036854775807 then (if 0 ≤ (wrap64 ((Int.tmod (wrap64 (64 - (Int.tmod (wrap64 ((a0.size : Int) + 9)) 64))) 64) + 1)) then (if (wrap64 ((Int.tmod (wrap64 (64 - (Int.tmod (wrap64 ((a0.size : Int) + 9)) 64))) 64) + 1) : Int).toNat ≤ 281474976710656 then ((some (List.replicate (wrap64 ((Int.tmod (wrap64 (64 - (Int.tmod (wrap64 ((a0.size : Int) + 9)) 64))) 64) + 1) : Int).toNat 0 : List Int)).bind fun y106 => (if (a0 ++ (⟨#[128]⟩ : ByteArray)).size + (strOfNums y106).size ≤ 9223372036854775807 then ((impl_Fixed.f k (wrap64 (8 * (a0.size : Int))) 7).bind fun t109 => (if ((a0 ++ (⟨#[128]⟩ : ByteArray)) ++ (strOfNums y106)).size + t109.size ≤ 9223372036854775807 then (some (((a0 ++ (⟨#[128]⟩ : ByteArray)) ++ (strOfNums y106)) ++ t109)) else (none))) else (none))) else (none)) else (none)) else (none)
theorem impl_Sha.pmono : ∀ a0 k, LeO (impl_Sha.pre k a0) (impl_Sha.pre (k + 1) a0) := by
 intro a0 k
 unfold impl_Sha.pre
 repeat' first
   | (with_reducible exact impl_Fixed.mono _ _ _)
   | (with_reducible exact LeO.refl _)
   | (with_reducible exact LeO.none _)
   | (with_reducible refine LeO.ite ?_ ?_)
   | (with_reducible refine LeO.bind ?_ (fun _ => ?_))
   | exact impl_Fixed.mono _ _ _
   | exact LeO.none _
   | refine LeO.ite ?_ ?_
   | refine LeO.bind ?_ (fun _ => ?_)

/-- The state behind the blocks from i on. -/
def impl_Sha.l0 : Nat → List Int → ByteArray → Nat → Option (List Int)
 | 0, _, _, _ => none
 | k + 1, s, p, i => if i < p.size then (if i + 64 ≤ p.size then impl_Sha.l0 k (shaB s (p.extract i (i + 64))) p (i + 64) else none) else some s
/-- The text of the words from i on, n of them. -/
def impl_Sha.l1 (k : Nat) (s : List Int) : Nat → Nat → ByteArray → Option ByteArray
 | 0, _, o => some o
 | n + 1, i, o => (impl_Fixed.f k (s.getD i 0) 4).bind fun t => if o.size + t.size ≤ 9223372036854775807 then impl_Sha.l1 k s n (i + 1) (o ++ t) else none
def impl_Sha.f (k : Nat) (a0 : ByteArray) : Option ByteArray := (impl_Sha.pre k a0).bind fun p => (impl_Sha.l0 k shaInit p 0).bind fun s => if (s.length = 8) ∧ (∀ x ∈ s, 0 ≤ x ∧ x < 4294967296) ∧ p.size ≤ 1152921504606846976 then impl_Sha.l1 k s 8 0 (⟨#[]⟩ : ByteArray) else none
def impl_Sha.T3 : Bool × List (List Nat × List Nat) := (true, [([], []), ([0], [0]), ([], []), ([2], [2]), ([3, 3], [3]), ([4], [4]), ([1, 5], [1, 5]), ([], []), ([7], [7]), ([6, 8], [6, 8]), ([9, 8, 0, 1, 2, 3, 4, 5, 6, 7, 8, 9], [9])])
def impl_Sha.B3 : List Nat := [0, 1, 0, 4, 12, 28, 63, 0, 128, 511, 1023]
theorem impl_Sha.tab3 : rtab .any (opsOf Tryd.f10 3) = impl_Sha.T3 := by kernel_rfl
theorem impl_Sha.bits3 : waitsOk impl_Sha.T3.2 impl_Sha.B3 = true := by kernel_rfl

theorem impl_Sha.mono_l0 : ∀ k s p i, LeO (impl_Sha.l0 k s p i) (impl_Sha.l0 (k + 1) s p i)
 | 0, _, _, _ => fun r h => by simp [impl_Sha.l0] at h
 | k + 1, s, p, i => by
  unfold impl_Sha.l0
  exact LeO.ite (LeO.ite (impl_Sha.mono_l0 k _ _ _) (LeO.none _)) (LeO.refl _)
theorem impl_Sha.mono_l1 (k : Nat) (s : List Int) : ∀ n i o, LeO (impl_Sha.l1 k s n i o) (impl_Sha.l1 (k + 1) s n i o)
 | 0, _, _ => LeO.refl _
 | n + 1, i, o => by
  unfold impl_Sha.l1
  exact LeO.bind (impl_Fixed.mono _ _ _) (fun _ => LeO.ite (impl_Sha.mono_l1 k s n _ _) (LeO.none _))
theorem impl_Sha.mono : ∀ a0 k, LeO (impl_Sha.f k a0) (impl_Sha.f (k + 1) a0) := fun a0 k =>
  LeO.bind (impl_Sha.pmono _ _) (fun _ => LeO.bind (impl_Sha.mono_l0 _ _ _ _) (fun _ => LeO.ite (impl_Sha.mono_l1 _ _ _ _ _) (LeO.none _)))
set_option maxHeartbeats 8000000 in
set_option maxRecDepth 100000 in
theorem impl_Sha.calls (k : Nat) (a0 : ByteArray) (r : ByteArray) (w : World) (h : impl_Sha.f k a0 = some r) (hTab : Tab w := by first | (with_reducible exact HTAB.out) | (with_reducible exact HTAB.out.below HB.out) | exact HTAB.out.below (by repeat (first | (with_reducible first | exact HB.out | apply below_alloc | apply pw_below_drewN | apply below_drew1 | refine below_set ?_ (Aside0.out (by assumption))) | exact HB.out))) :
  Calls Tryd.prog 10 #[.string a0] w fun e w' => e = .returned (.string r) ∧ Below w.heap.size w w' := by
 obtain ⟨p_, hp, h2⟩ := Option.bind_eq_some_iff.mp h
 obtain ⟨sf, hsf, h3⟩ := Option.bind_eq_some_iff.mp h2
 obtain ⟨hg, hout⟩ : ((sf.length = 8) ∧ (∀ x ∈ sf, 0 ≤ x ∧ x < 4294967296) ∧ p_.size ≤ 1152921504606846976) ∧ impl_Sha.l1 k sf 8 0 (⟨#[]⟩ : ByteArray) = some r := by
  by_cases hc : (sf.length = 8) ∧ (∀ x ∈ sf, 0 ≤ x ∧ x < 4294967296) ∧ p_.size ≤ 1152921504606846976
  · rw [if_pos hc] at h3; exact ⟨hc, h3⟩
  · rw [if_neg hc] at h3; exact absurd h3 (by simp)
 have HG8 := Aside0.mk hg
 have HL0 := Aside0.mk hsf
 have HOUT := Aside0.mk hout
 have HTAB := Aside0.mk hTab
 clear h h2 h3 hg hsf hout hTab
 have HB := Aside0.mk (Below.refl w.heap.size w)
 have H : (if a0.size + 1 ≤ 9223372036854775807 then (if 0 ≤ (wrap64 ((Int.tmod (wrap64 (64 - (Int.tmod (wrap64 ((a0.size : Int) + 9)) 64))) 64) + 1)) then (if (wrap64 ((Int.tmod (wrap64 (64 - (Int.tmod (wrap64 ((a0.size : Int) + 9)) 64))) 64) + 1) : Int).toNat ≤ 281474976710656 then ((some (List.replicate (wrap64 ((Int.tmod (wrap64 (64 - (Int.tmod (wrap64 ((a0.size : Int) + 9)) 64))) 64) + 1) : Int).toNat 0 : List Int)).bind fun y106 => (if (a0 ++ (⟨#[128]⟩ : ByteArray)).size + (strOfNums y106).size ≤ 9223372036854775807 then ((impl_Fixed.f k (wrap64 (8 * (a0.size : Int))) 7).bind fun t109 => (if ((a0 ++ (⟨#[128]⟩ : ByteArray)) ++ (strOfNums y106)).size + t109.size ≤ 9223372036854775807 then (some (((a0 ++ (⟨#[128]⟩ : ByteArray)) ++ (strOfNums y106)) ++ t109)) else (none))) else (none))) else (none)) else (none)) else (none)) = some p_ := hp
 clear hp
 by_cases c2 : a0.size + 1 ≤ 9223372036854775807
 ·rw [if_pos c2] at H
  have c2b0 := eq_true c2
  have c2b1 : decide (a0.size + 1 ≤ 9223372036854775807) = true := decide_eq_true c2
  try have c2b2 : (9223372036854775807 < a0.size + 1) = False := eq_false (Nat.not_lt.2 c2)
  obtain ⟨ji3, hji3⟩ : ∃ j_ : Int, (wrap64 ((Int.tmod (wrap64 (64 - (Int.tmod (wrap64 ((a0.size : Int) + 9)) 64))) 64) + 1)) = j_ := ⟨_, rfl⟩
  replace H : (if 0 ≤ (ji3) then (if (ji3 : Int).toNat ≤ 281474976710656 then ((some (List.replicate (ji3 : Int).toNat 0 : List Int)).bind fun y106 => (if (a0 ++ (⟨#[128]⟩ : ByteArray)).size + (strOfNums y106).size ≤ 9223372036854775807 then ((impl_Fixed.f k (wrap64 (8 * (a0.size : Int))) 7).bind fun t109 => (if ((a0 ++ (⟨#[128]⟩ : ByteArray)) ++ (strOfNums y106)).size + t109.size ≤ 9223372036854775807 then (some (((a0 ++ (⟨#[128]⟩ : ByteArray)) ++ (strOfNums y106)) ++ t109)) else (none))) else (none))) else (none)) else (none)) = some p_ := by first | (rw [hji3] at H; exact H) | (simp only [hji3] at H ⊢; exact H)
  have hji3w : (IntKind.i64.wrap ((Int.tmod (wrap64 (64 - (Int.tmod (wrap64 ((a0.size : Int) + 9)) 64))) 64) + 1)) = ji3 := (i64_w _).trans hji3
  by_cases c4 : 0 ≤ (ji3)
  ·rw [if_pos c4] at H
   have c4b0 := eq_true c4
   have c4b1 : decide (0 ≤ (ji3)) = true := decide_eq_true c4
   clear c4
   by_cases c5 : (ji3 : Int).toNat ≤ 281474976710656
   ·rw [if_pos c5] at H
    have c5b0 := eq_true c5
    have c5b1 : decide ((ji3 : Int).toNat ≤ 281474976710656) = true := decide_eq_true c5
    clear c5
    obtain ⟨y106, hy106⟩ : ∃ y_ : List Int, y_ = (List.replicate (ji3 : Int).toNat 0) := ⟨_, rfl⟩
    replace H : (if (a0 ++ (⟨#[128]⟩ : ByteArray)).size + (strOfNums y106).size ≤ 9223372036854775807 then ((impl_Fixed.f k (wrap64 (8 * (a0.size : Int))) 7).bind fun t109 => (if ((a0 ++ (⟨#[128]⟩ : ByteArray)) ++ (strOfNums y106)).size + t109.size ≤ 9223372036854775807 then (some (((a0 ++ (⟨#[128]⟩ : ByteArray)) ++ (strOfNums y106)) ++ t109)) else (none))) else (none)) = some p_ := by first | (rw [hy106]; with_reducible exact H) | (have H2_ := (Option.bind_some _ _).symm.trans H; rw [hy106]; with_reducible exact H2_) | (have H2_ := (Option.bind_some _ _).symm.trans H; with_reducible exact H2_) | with_reducible exact H | (rw [hy106]; exact H) | exact H
    have Ny106 := Aside0.mk hy106
    clear hy106
    by_cases c6 : (a0 ++ (⟨#[128]⟩ : ByteArray)).size + (strOfNums y106).size ≤ 9223372036854775807
    ·rw [if_pos c6] at H
     have c6b0 := eq_true c6
     have c6b1 : decide ((a0 ++ (⟨#[128]⟩ : ByteArray)).size + (strOfNums y106).size ≤ 9223372036854775807) = true := decide_eq_true c6
     try have c6b2 : (9223372036854775807 < (a0 ++ (⟨#[128]⟩ : ByteArray)).size + (strOfNums y106).size) = False := eq_false (Nat.not_lt.2 c6)
     try have c6b6 : (9223372036854775807 < (a0.size + (⟨#[128]⟩ : ByteArray).size) + (strOfNums y106).size) = False := eq_false (by have h_ := c6; simp only [ByteArray.size_append] at h_; omega)
     try have c6b6 : (9223372036854775807 < (a0.size + (⟨#[128]⟩ : ByteArray).size) + (strOfNums y106).size) = False := eq_false (by have h_ := c6; simp only [ByteArray.size_append] at h_; omega)
     have c6c : (9223372036854775807 < a0.size + 1 + (strOfNums y106).size) = False := eq_false (by have h_ := c6; simp only [ByteArray.size_append] at h_; have e_ : (⟨#[128]⟩ : ByteArray).size = 1 := rfl; omega)
     replace H := Option.bind_eq_some_iff.mp H
     obtain ⟨t109, A70, H⟩ := H
     replace H : (if ((a0 ++ (⟨#[128]⟩ : ByteArray)) ++ (strOfNums y106)).size + t109.size ≤ 9223372036854775807 then (some (((a0 ++ (⟨#[128]⟩ : ByteArray)) ++ (strOfNums y106)) ++ t109)) else (none)) = some p_ := H
     have A7 := Aside0.mk A70
     clear A70
     by_cases c8 : ((a0 ++ (⟨#[128]⟩ : ByteArray)) ++ (strOfNums y106)).size + t109.size ≤ 9223372036854775807
     ·rw [if_pos c8] at H
      have c8b0 := eq_true c8
      have c8b1 : decide (((a0 ++ (⟨#[128]⟩ : ByteArray)) ++ (strOfNums y106)).size + t109.size ≤ 9223372036854775807) = true := decide_eq_true c8
      try have c8b2 : (9223372036854775807 < ((a0 ++ (⟨#[128]⟩ : ByteArray)) ++ (strOfNums y106)).size + t109.size) = False := eq_false (Nat.not_lt.2 c8)
      try have c8b6 : (9223372036854775807 < ((a0.size + (⟨#[128]⟩ : ByteArray).size) + (strOfNums y106).size) + t109.size) = False := eq_false (by have h_ := c8; simp only [ByteArray.size_append] at h_; omega)
      try have c8b6 : (9223372036854775807 < ((a0.size + (⟨#[128]⟩ : ByteArray).size) + (strOfNums y106).size) + t109.size) = False := eq_false (by have h_ := c8; simp only [ByteArray.size_append] at h_; omega)
      have c8c : (9223372036854775807 < a0.size + 1 + (strOfNums y106).size + t109.size) = False := eq_false (by have h_ := c8; simp only [ByteArray.size_append] at h_; have e_ : (⟨#[128]⟩ : ByteArray).size = 1 := rfl; omega)
      obtain rfl := Option.some.inj H
      go_enter Tryd.func10, Tryd.ntmps10
      try go_wp2
      have n0_ := Aside0.mk (below_drew1 HB.out)
      clear HB
      have HB := n0_
      clear n0_
      refine start_ (n := 11) (S := fun w' => True) (ds := []) #[false, false, false, false, false, false, false, false, false, false, false] (by kernel_rfl) rfl rfl trivial (fun hHeld => ?_); refine with_tabW impl_Sha.tab3 impl_Sha.bits3 (fun HT_ HW_ => ?_)
      (first | (rw [drewN_self w]; generalize hq_ : World.drewN w _ = wq_ at hHeld ⊢; replace HB : Aside0 (Below w.heap.size w wq_.drew) := ⟨by rw [← hq_]; exact below_drew1 (pw_below_drewN (Below.refl _ _) _)⟩; clear hq_; generalize wq_.drew = w9 at HB hHeld ⊢) | (generalize w.drew = w9 at HB hHeld ⊢))
      refine pure_ (i := 0) (N := some 20) (v := ?_) (a' := ?_) #[true, false, false, false, false, false, false, false, false, false, false] rfl rfl (any_of HT_.out (by kernel_rfl)) (fun _ _ _ h => h) (Or.inl ⟨by rfl, ?_⟩) ?_ ?_
      rotate_left
      ·intro w'
       go_simp
       with_reducible rfl
      rotate_left
      ·simp only [Act.put, List.setIfInBounds_toArray, List.set_cons_zero, List.set_cons_succ, i64_w, i32_w]
       rfl
      refine pure_ (i := 1) (N := some 21) (v := ?_) (a' := ?_) #[true, true, false, false, false, false, false, false, false, false, false] rfl rfl (any_of HT_.out (by kernel_rfl)) (fun _ _ _ h => h) (Or.inl ⟨by rfl, ?_⟩) ?_ ?_
      rotate_left
      ·intro w'
       go_simp
       with_reducible rfl
      rotate_left
      ·simp only [Act.put, List.setIfInBounds_toArray, List.set_cons_zero, List.set_cons_succ, i64_w, i32_w]
       rfl
      refine pure_ (i := 2) (N := some 22) (v := ?_) (a' := ?_) #[true, true, true, false, false, false, false, false, false, false, false] rfl rfl (any_of HT_.out (by kernel_rfl)) (fun _ _ _ h => h) (Or.inl ⟨by rfl, ?_⟩) ?_ ?_
      rotate_left
      ·intro w'
       go_simp
       with_reducible rfl
      rotate_left
      ·simp only [Act.put, List.setIfInBounds_toArray, List.set_cons_zero, List.set_cons_succ, i64_w, i32_w]
       rfl
      refine pure_ (i := 3) (N := some 23) (v := ?_) (a' := ?_) #[true, true, true, true, false, false, false, false, false, false, false] rfl rfl (any_of HT_.out (by kernel_rfl)) (fun _ _ _ h => h) (Or.inl ⟨by rfl, ?_⟩) ?_ ?_
      rotate_left
      ·intro w'
       go_simp
       with_reducible rfl
      rotate_left
      ·simp only [Act.put, List.setIfInBounds_toArray, List.set_cons_zero, List.set_cons_succ, i64_w, i32_w]
       rfl
      refine pure_ (i := 7) (N := some 27) (v := ?_) (a' := ?_) #[true, true, true, true, false, false, false, true, false, false, false] rfl rfl (any_of HT_.out (by kernel_rfl)) (fun _ _ _ h => h) (Or.inl ⟨by rfl, ?_⟩) ?_ ?_
      rotate_left
      ·intro w'
       go_simp
       with_reducible rfl
      rotate_left
      ·simp only [Act.put, List.setIfInBounds_toArray, List.set_cons_zero, List.set_cons_succ, i64_w, i32_w]
       rfl
      refine join_ (σ := Value) 2 #[true, true, true, true, true, true, true, true, true, false, false] (fun s_ => [(24, s_), (25, .string (strOfNums y106)), (28, .string t109), (26, .string ((a0 ++ (⟨#[128]⟩ : ByteArray)) ++ (strOfNums y106)))]) (fun s_ w' => (Kd.R (Kd.int .u8) 5 w' w.heap.size (fun _ => True) s_ y106) ∧ (Below w.heap.size w w')) ?_ ?_
      rotate_left
      ·intro hCont
       refine two_ (i := 4) (j := 8) (Ni := some 24) (Nj := some 28) #[true, true, true, true, true, false, false, true, false, false, false] #[true, true, true, true, false, false, false, true, true, false, false] rfl rfl rfl rfl (two_of HT_.out (by kernel_rfl)) (by decide) (by decide) (fun K hK => ?_) (fun K hK => ?_)
       ·skip
        refine Kd.R_make_step (Kd.int .u8) _ 5 (by rfl) (N := 24) rfl 24 _ _ rfl ji3 rfl rfl Tryd.underlying24 (.int .u8 0) 1 info5 rfl (by decide) (by omega) 0 (ok := fun _ => True) (okp := fun _ => True) rfl (fun _ hk => hk) trivial (of_decide_eq_true (by first | (with_reducible assumption) | assumption)) (Nat.le_trans (Nat.mul_le_mul_right _ (of_decide_eq_true (by first | (with_reducible assumption) | assumption) : ji3.toNat ≤ 281474976710656)) (by omega)) (Below.refl _ _) (Nat.le_refl _) ?_
        intro v107 w10 ho11 hb hg_ hnew_
        clear hg_ hnew_
        (first | rw [← Ny106.out] at ho11 | (simp only [Int.reduceToNat] at ho11; rw [← Ny106.out] at ho11))
        have n0_ := Aside0.mk (Kd.R_lower ho11 (below_size (by repeat (first | (with_reducible first | exact HB.out | apply below_alloc | apply pw_below_drewN | apply below_drew1) | exact HB.out))))
        have n1_ := Aside0.mk (below_step (by repeat (first | (with_reducible first | exact HB.out | apply below_alloc | apply pw_below_drewN | apply below_drew1) | exact HB.out)) hb)
        clear HB
        have HO108 := n0_
        have HB := n1_
        clear n0_ n1_
        clear hb ho11
        refine hK.out _ _ trivial (fun hHeld => ?_)
        clear hK K
        refine norm_ (a' := ?_) ?_ ?_
        rotate_left
        ·show Act.put _ (some 24) _ = _
         simp only [Act.put, List.setIfInBounds_toArray, List.set_cons_zero, List.set_cons_succ, i64_w, i32_w]
         rfl
        refine two_ (i := 5) (j := 8) (Ni := some 25) (Nj := some 28) #[true, true, true, true, true, true, false, true, false, false, false] #[true, true, true, true, true, false, false, true, true, false, false] rfl rfl rfl rfl (two_of HT_.out (by kernel_rfl)) (by decide) (by decide) (fun K hK => ?_) (fun K hK => ?_)
        ·skip
         have hcv12 := own_string (P := Tryd.prog) Tryd.underlying24 Tryd.underlying5 Tryd.underlying9 (Kd.own_of_R HO108.out)
         refine value_ (w1 := ?_) (v := ?_) (by rfl) rfl ?_ ?_
         rotate_left 2
         ·go_simp
          constructor
          ·rfl
          ·rfl
         clear hcv12
         refine hK.out _ _ trivial (fun hHeld => ?_)
         clear hK K
         refine norm_ (a' := ?_) ?_ ?_
         rotate_left
         ·show Act.put _ (some 25) _ = _
          simp only [Act.put, List.setIfInBounds_toArray, List.set_cons_zero, List.set_cons_succ, i64_w, i32_w]
          rfl
         refine pure_ (i := 6) (N := some 26) (v := ?_) (a' := ?_) #[true, true, true, true, true, true, true, true, false, false, false] rfl rfl (any_of HT_.out (by kernel_rfl)) (fun _ _ _ h => h) (Or.inl ⟨by rfl, ?_⟩) ?_ ?_
         rotate_left
         ·intro w'
          go_simp
          with_reducible rfl
         rotate_left
         ·simp only [Act.put, List.setIfInBounds_toArray, List.set_cons_zero, List.set_cons_succ, i64_w, i32_w]
          rfl
         refine one_ (i := 8) (N := some 28) #[true, true, true, true, true, true, true, true, true, false, false] rfl rfl (one_of HT_.out (by kernel_rfl)) (by decide) (fun K hK => ?_)
         refine goes_ Tryd.func38 (by kernel_rfl) rfl #[.int .i64 (wrap64 (8 * (a0.size : Int))), .int .i64 7] (by rfl) rfl rfl (by (try simp only [List.map_toArray, List.map_cons, List.map_nil]); first | done | rfl | (simp only [List.length_drop, List.length_take]; rfl)) ?_
         with_reducible refine (impl_Fixed.calls k (wrap64 (8 * (a0.size : Int))) 7 t109 _ A7.out).mono ?_
         rintro e w13 ⟨rfl, hb⟩
         refine ⟨_, rfl, ?_⟩
         have n0_ := Aside0.mk (Kd.R_below (by (with_reducible repeat (first | apply Kd.R_alloc | apply Kd.R_drewN | apply Kd.R_drew)); exact HO108.out) hb)
         have n1_ := Aside0.mk (below_step (by repeat (first | (with_reducible first | exact HB.out | apply below_alloc | apply pw_below_drewN | apply below_drew1) | exact HB.out)) hb)
         clear HO108
         clear HB
         have HO108 := n0_
         have HB := n1_
         clear n0_ n1_
         (try clear hb)
         (try clear hb2)
         (try clear hk)
         (try clear hi)
         refine hK.out _ _ trivial (fun hHeld => ?_)
         clear hK K
         refine norm_ (a' := ?_) ?_ ?_
         rotate_left
         ·show Act.put _ (some 28) _ = _
          simp only [Act.put, List.setIfInBounds_toArray, List.set_cons_zero, List.set_cons_succ, i64_w, i32_w]
          rfl
         exact norm_ (by simp only [putAll, Act.put, List.setIfInBounds_toArray, List.set_cons_zero, List.set_cons_succ]) (hCont (v107) _ ⟨(by (with_reducible repeat (first | apply Kd.R_alloc | apply Kd.R_drewN | apply Kd.R_drew)); exact HO108.out), (by repeat (first | (with_reducible first | exact HB.out | apply below_alloc | apply pw_below_drewN | apply below_drew1) | exact HB.out))⟩)
        ·skip
         refine goes_ Tryd.func38 (by kernel_rfl) rfl #[.int .i64 (wrap64 (8 * (a0.size : Int))), .int .i64 7] (by rfl) rfl rfl (by (try simp only [List.map_toArray, List.map_cons, List.map_nil]); first | done | rfl | (simp only [List.length_drop, List.length_take]; rfl)) ?_
         with_reducible refine (impl_Fixed.calls k (wrap64 (8 * (a0.size : Int))) 7 t109 _ A7.out).mono ?_
         rintro e w12 ⟨rfl, hb⟩
         refine ⟨_, rfl, ?_⟩
         have n0_ := Aside0.mk (Kd.R_below (by (with_reducible repeat (first | apply Kd.R_alloc | apply Kd.R_drewN | apply Kd.R_drew)); exact HO108.out) hb)
         have n1_ := Aside0.mk (below_step (by repeat (first | (with_reducible first | exact HB.out | apply below_alloc | apply pw_below_drewN | apply below_drew1) | exact HB.out)) hb)
         clear HO108
         clear HB
         have HO108 := n0_
         have HB := n1_
         clear n0_ n1_
         (try clear hb)
         (try clear hb2)
         (try clear hk)
         (try clear hi)
         refine hK.out _ _ trivial (fun hHeld => ?_)
         clear hK K
         refine norm_ (a' := ?_) ?_ ?_
         rotate_left
         ·show Act.put _ (some 28) _ = _
          simp only [Act.put, List.setIfInBounds_toArray, List.set_cons_zero, List.set_cons_succ, i64_w, i32_w]
          rfl
         refine one_ (i := 5) (N := some 25) #[true, true, true, true, true, true, false, true, true, false, false] rfl rfl (one_of HT_.out (by kernel_rfl)) (by decide) (fun K hK => ?_)
         have hcv13 := own_string (P := Tryd.prog) Tryd.underlying24 Tryd.underlying5 Tryd.underlying9 (Kd.own_of_R HO108.out)
         refine value_ (w1 := ?_) (v := ?_) (by rfl) rfl ?_ ?_
         rotate_left 2
         ·go_simp
          constructor
          ·rfl
          ·rfl
         clear hcv13
         refine hK.out _ _ trivial (fun hHeld => ?_)
         clear hK K
         refine norm_ (a' := ?_) ?_ ?_
         rotate_left
         ·show Act.put _ (some 25) _ = _
          simp only [Act.put, List.setIfInBounds_toArray, List.set_cons_zero, List.set_cons_succ, i64_w, i32_w]
          rfl
         refine pure_ (i := 6) (N := some 26) (v := ?_) (a' := ?_) #[true, true, true, true, true, true, true, true, true, false, false] rfl rfl (any_of HT_.out (by kernel_rfl)) (fun _ _ _ h => h) (Or.inl ⟨by rfl, ?_⟩) ?_ ?_
         rotate_left
         ·intro w'
          go_simp
          with_reducible rfl
         rotate_left
         ·simp only [Act.put, List.setIfInBounds_toArray, List.set_cons_zero, List.set_cons_succ, i64_w, i32_w]
          rfl
         exact norm_ (by simp only [putAll, Act.put, List.setIfInBounds_toArray, List.set_cons_zero, List.set_cons_succ]) (hCont (v107) _ ⟨(by (with_reducible repeat (first | apply Kd.R_alloc | apply Kd.R_drewN | apply Kd.R_drew)); exact HO108.out), (by repeat (first | (with_reducible first | exact HB.out | apply below_alloc | apply pw_below_drewN | apply below_drew1) | exact HB.out))⟩)
       ·skip
        refine goes_ Tryd.func38 (by kernel_rfl) rfl #[.int .i64 (wrap64 (8 * (a0.size : Int))), .int .i64 7] (by rfl) rfl rfl (by (try simp only [List.map_toArray, List.map_cons, List.map_nil]); first | done | rfl | (simp only [List.length_drop, List.length_take]; rfl)) ?_
        with_reducible refine (impl_Fixed.calls k (wrap64 (8 * (a0.size : Int))) 7 t109 _ A7.out).mono ?_
        rintro e w10 ⟨rfl, hb⟩
        refine ⟨_, rfl, ?_⟩
        have n0_ := Aside0.mk (below_step (by repeat (first | (with_reducible first | exact HB.out | apply below_alloc | apply pw_below_drewN | apply below_drew1) | exact HB.out)) hb)
        clear HB
        have HB := n0_
        clear n0_
        (try clear hb)
        (try clear hb2)
        (try clear hk)
        (try clear hi)
        refine hK.out _ _ trivial (fun hHeld => ?_)
        clear hK K
        refine norm_ (a' := ?_) ?_ ?_
        rotate_left
        ·show Act.put _ (some 28) _ = _
         simp only [Act.put, List.setIfInBounds_toArray, List.set_cons_zero, List.set_cons_succ, i64_w, i32_w]
         rfl
        refine one_ (i := 4) (N := some 24) #[true, true, true, true, true, false, false, true, true, false, false] rfl rfl (one_of HT_.out (by kernel_rfl)) (by decide) (fun K hK => ?_)
        refine Kd.R_make_step (Kd.int .u8) _ 5 (by rfl) (N := 24) rfl 24 _ _ rfl ji3 rfl rfl Tryd.underlying24 (.int .u8 0) 1 info5 rfl (by decide) (by omega) 0 (ok := fun _ => True) (okp := fun _ => True) rfl (fun _ hk => hk) trivial (of_decide_eq_true (by first | (with_reducible assumption) | assumption)) (Nat.le_trans (Nat.mul_le_mul_right _ (of_decide_eq_true (by first | (with_reducible assumption) | assumption) : ji3.toNat ≤ 281474976710656)) (by omega)) (Below.refl _ _) (Nat.le_refl _) ?_
        intro v107 w11 ho12 hb hg_ hnew_
        clear hg_ hnew_
        (first | rw [← Ny106.out] at ho12 | (simp only [Int.reduceToNat] at ho12; rw [← Ny106.out] at ho12))
        have n0_ := Aside0.mk (Kd.R_lower ho12 (below_size (by repeat (first | (with_reducible first | exact HB.out | apply below_alloc | apply pw_below_drewN | apply below_drew1) | exact HB.out))))
        have n1_ := Aside0.mk (below_step (by repeat (first | (with_reducible first | exact HB.out | apply below_alloc | apply pw_below_drewN | apply below_drew1) | exact HB.out)) hb)
        clear HB
        have HO108 := n0_
        have HB := n1_
        clear n0_ n1_
        clear hb ho12
        refine hK.out _ _ trivial (fun hHeld => ?_)
        clear hK K
        refine norm_ (a' := ?_) ?_ ?_
        rotate_left
        ·show Act.put _ (some 24) _ = _
         simp only [Act.put, List.setIfInBounds_toArray, List.set_cons_zero, List.set_cons_succ, i64_w, i32_w]
         rfl
        refine one_ (i := 5) (N := some 25) #[true, true, true, true, true, true, false, true, true, false, false] rfl rfl (one_of HT_.out (by kernel_rfl)) (by decide) (fun K hK => ?_)
        have hcv13 := own_string (P := Tryd.prog) Tryd.underlying24 Tryd.underlying5 Tryd.underlying9 (Kd.own_of_R HO108.out)
        refine value_ (w1 := ?_) (v := ?_) (by rfl) rfl ?_ ?_
        rotate_left 2
        ·go_simp
         constructor
         ·rfl
         ·rfl
        clear hcv13
        refine hK.out _ _ trivial (fun hHeld => ?_)
        clear hK K
        refine norm_ (a' := ?_) ?_ ?_
        rotate_left
        ·show Act.put _ (some 25) _ = _
         simp only [Act.put, List.setIfInBounds_toArray, List.set_cons_zero, List.set_cons_succ, i64_w, i32_w]
         rfl
        refine pure_ (i := 6) (N := some 26) (v := ?_) (a' := ?_) #[true, true, true, true, true, true, true, true, true, false, false] rfl rfl (any_of HT_.out (by kernel_rfl)) (fun _ _ _ h => h) (Or.inl ⟨by rfl, ?_⟩) ?_ ?_
        rotate_left
        ·intro w'
         go_simp
         with_reducible rfl
        rotate_left
        ·simp only [Act.put, List.setIfInBounds_toArray, List.set_cons_zero, List.set_cons_succ, i64_w, i32_w]
         rfl
        exact norm_ (by simp only [putAll, Act.put, List.setIfInBounds_toArray, List.set_cons_zero, List.set_cons_succ]) (hCont (v107) _ ⟨(by (with_reducible repeat (first | apply Kd.R_alloc | apply Kd.R_drewN | apply Kd.R_drew)); exact HO108.out), (by repeat (first | (with_reducible first | exact HB.out | apply below_alloc | apply pw_below_drewN | apply below_drew1) | exact HB.out))⟩)
      rintro v107 w14 ⟨h0_, h1_⟩
      have n0_ : Aside0 (Kd.R (Kd.int .u8) 5 w14 w.heap.size (fun _ => True) v107 y106) := ⟨h0_⟩
      have n1_ : Aside0 (Below w.heap.size w w14) := ⟨h1_⟩
      clear HB
      clear h0_ h1_
      have HO108 := n0_
      have HB := n1_
      clear n0_ n1_
      have hHeld := trivial
      refine norm_ (a' := ?_) ?_ ?_
      rotate_left
      ·simp only [putAll, Act.put, List.setIfInBounds_toArray, List.set_cons_zero, List.set_cons_succ]
       rfl
      refine pure_ (i := 9) (N := some 29) (v := ?_) (a' := ?_) #[true, true, true, true, true, true, true, true, true, true, false] rfl rfl (any_of HT_.out (by kernel_rfl)) (fun _ _ _ h => h) (Or.inl ⟨by rfl, ?_⟩) ?_ ?_
      rotate_left
      ·intro w'
       go_simp
       with_reducible rfl
      rotate_left
      ·simp only [Act.put, List.setIfInBounds_toArray, List.set_cons_zero, List.set_cons_succ, i64_w, i32_w]
       rfl
      refine pure_ (i := 10) (N := some 5) (v := ?_) (a' := ?_) #[true, true, true, true, true, true, true, true, true, true, true] rfl rfl (any_of HT_.out (by kernel_rfl)) (fun _ _ _ h => h) (Or.inl ⟨by rfl, ?_⟩) ?_ ?_
      rotate_left
      ·intro w'
       go_simp
       with_reducible rfl
      rotate_left
      ·simp only [Act.put, List.setIfInBounds_toArray, List.set_cons_zero, List.set_cons_succ, i64_w, i32_w]
       rfl
      refine done_ (done_of HT_.out (by kernel_rfl)) ?_
      obtain ⟨pp, hpp⟩ : ∃ q_ : ByteArray, a0 ++ (⟨#[128]⟩ : ByteArray) ++ strOfNums y106 ++ t109 = q_ := ⟨_, rfl⟩
      simp only [hpp]
      rw [hpp] at HL0 HG8
      obtain ⟨hg8, hgr, hgp⟩ := HG8.out
      have HG := Aside0.mk hg8
      have HGR := Aside0.mk hgr
      have I60 : Aside0 ((Tryd.prog.info? 60).map (·.size) = some 8) := ⟨by kernel_rfl⟩
      clear hpp HG8 hg8 hgr HO108 c2 c2b0 c2b1 c2b2 hji3 hji3w c4b0 c4b1 c5b0 c5b1 c6 c6b0 c6b1 c6c c8 c8b0 c8b1 c8c
      (try clear c6b2)
      (try clear c6b6)
      (try clear c8b2)
      (try clear c8b6)
      clear HT_ HW_ hHeld
      go_wp2_with (first
       | ((with_reducible refine gate_dst (N := 6) rfl ?_); refine box_event ?hg (N := 6) ?hd (cs := cU (List.replicate 8 0)) (t := 60) ?hr ?_; (case hd => rfl); (case hg => rfl); (case hr => first | (go_simp; done) | (go_simp; rfl)); intro gs hg w1 hbox hb; have HLT := Aside0.mk (hg ▸ HB.out.size : w.heap.size ≤ gs); have HV1 := Aside0.mk hbox; have HB1 := Aside0.mk (below_step HB.out hb); clear hb hbox hg)
       | ((with_reducible refine gate_store (t := 60) (p := 6) rfl ?_); refine wpList_store_row rfl 60 (.tmp 6) (.tmp 30) rfl gs (cU shaInit) rfl rfl 60 (cU (List.replicate 8 0)) HV1.out I60.out rfl (cU_one _) ?_; have HV2 : SS w (w1.setRow gs (cU shaInit)) gs shaInit := SS.put ⟨HB1.out, HLT.out, HV1.out⟩ shaInit; clear HV1 HB1 HLT))
      clear HB
      go_loopg [7] k (fun kq v7 W => ∃ (i : Nat) (st : List Int), v7 = .int .i64 i ∧ Aside0 (impl_Sha.l0 kq st pp i = some sf) ∧ Aside0 (kq ≤ k) ∧ Aside0 (st.length = 8) ∧ SS w W gs st)
      case atStart => exact ⟨0, shaInit, rfl, HL0, ⟨Nat.le_refl _⟩, ⟨rfl⟩, HV2⟩
      case round =>
       clear HL0 HV2
       obtain ⟨i, st, rfl, HA, HK1, H8, HW⟩ := hrel
       cases gk with
       | zero => exact absurd HA.out (by simp [impl_Sha.l0])
       | succ k1 =>
        have H := HA.out
        clear HA
        simp only [impl_Sha.l0] at H
        by_cases c1 : i < pp.size
        · rw [if_pos c1] at H
          by_cases c2 : i + 64 ≤ pp.size
          · rw [if_pos c2] at H
            have H' := Aside0.mk H
            clear H
            go_wp2
            have hw : IntKind.i64.wrap ((i : Int) + 64) = (i : Int) + 64 := IntWalk.i64_in _ (by omega)
            have hsl0 : (0 : Int) ≤ (i : Int) := by omega
            have hsl : ∀ w', (Instr.slice 9 (.string pp) (some (.int .i64 (i : Int))) (some (.int .i64 ((i : Int) + 64))) none).run Tryd.prog w' = .ok (.string (pp.extract i (i + 64))) w' := fun w' => by
              have h_ := run_slice_string (P := Tryd.prog) w' 9 pp .i64 .i64 (i : Int) ((i : Int) + 64) Tryd.underlying9 (by omega) (by omega) (by omega)
              rwa [show ((i : Int)).toNat = i from by omega, show ((i : Int) + 64).toNat = i + 64 from by omega] at h_
            have HCU := Aside0.mk ((cU_size st).trans H8.out)
            have HB8 := Aside0.mk ((shaB_len st (pp.extract i (i + 64))).trans H8.out)
            have HCB := Aside0.mk ((cU_size (shaB st (pp.extract i (i + 64)))).trans HB8.out)
            have HEX : Aside0 ((pp.extract i (i + 64)).size = 64) := ⟨by simp; omega⟩
            refine start_ (n := 8) (S := fun w' => w'.heap[gs]? = some (.cells (cU st) 60 (0, 0))) (ds := [7]) #[false, false, false, false, false, false, false, false] (by kernel_rfl) rfl rfl HW.drew.s (fun hHeld => ?_)
            refine pure_ (i := 1) (N := some 38) (v := ?_) (a' := ?_) #[false, true, false, false, false, false, false, false] rfl rfl (by kernel_rfl) (fun _ _ _ h => h) (Or.inl ⟨by rfl, ?_⟩) ?_ ?_
            rotate_left
            · intro w'
              go_simp
              with_reducible rfl
            rotate_left
            · simp only [Act.put, List.setIfInBounds_toArray, List.set_cons_zero, List.set_cons_succ, i64_w, i32_w]
              rfl
            refine pure_ (i := 2) (N := some 39) (v := ?_) (a' := ?_) #[false, true, true, false, false, false, false, false] rfl rfl (by kernel_rfl) (fun _ _ _ h => h) (Or.inl ⟨by rfl, ?_⟩) ?_ ?_
            rotate_left
            · intro w'
              go_simp
              with_reducible rfl
            rotate_left
            · simp only [Act.put, List.setIfInBounds_toArray, List.set_cons_zero, List.set_cons_succ, i64_w, i32_w]
              rfl
            refine pure_ (i := 3) (N := some 40) (v := ?_) (a' := ?_) #[false, true, true, true, false, false, false, false] rfl rfl (by kernel_rfl) (fun _ _ _ h => h) (Or.inl ⟨by rfl, ?_⟩) ?_ ?_
            rotate_left
            · intro w'
              go_simp
              with_reducible rfl
            rotate_left
            · simp only [Act.put, List.setIfInBounds_toArray, List.set_cons_zero, List.set_cons_succ, i64_w, i32_w]
              rfl
            refine pure_ (i := 4) (N := some 41) (v := ?_) (a' := ?_) #[false, true, true, true, true, false, false, false] rfl rfl (by kernel_rfl) (fun _ _ _ h => h) (Or.inl ⟨by rfl, ?_⟩) ?_ ?_
            rotate_left
            · intro w'
              go_simp
              with_reducible rfl
            rotate_left
            · simp only [Act.put, List.setIfInBounds_toArray, List.set_cons_zero, List.set_cons_succ, i64_w, i32_w]
              rfl
            refine pure_ (i := 5) (N := some 42) (v := ?_) (a' := ?_) #[false, true, true, true, true, true, false, false] rfl rfl (by kernel_rfl) (fun _ _ _ h => h) (Or.inl ⟨by rfl, ?_⟩) ?_ ?_
            rotate_left
            · intro w'
              go_simp
              with_reducible rfl
            rotate_left
            · simp only [Act.put, List.setIfInBounds_toArray, List.set_cons_zero, List.set_cons_succ, i64_w, i32_w]
              rfl
            refine take_ (i := 0) (N := some 37) (v := ?_) (a' := ?_) #[true, true, true, true, true, true, false, false] rfl rfl (by kernel_rfl) (fun _ _ _ h => h) (Or.inl ⟨by rfl, ?_⟩) hHeld ?_ ?_
            rotate_left
            · intro w' s0
              refine exec_load_row 60 (.tmp 6) ?_ gs ?_ 60 (cU st) (0, 0) _ s0 Tryd.underlying60 rfl (I60.out.trans (congrArg some HCU.out.symm))
              · rfl
              · rfl
            rotate_left
            · simp only [Act.put, List.setIfInBounds_toArray, List.set_cons_zero, List.set_cons_succ, i64_w, i32_w]
              rfl
            refine one_ (i := 6) (N := some 43) #[true, true, true, true, true, true, true, false] rfl rfl (by kernel_rfl) (by decide) (fun K hK => ?_)
            refine goes_ Tryd.func39 (by kernel_rfl) rfl #[.agg (cU st), .string (pp.extract i (i + 64))] (by rfl) rfl rfl (by simp only [List.map_toArray, List.map_cons, List.map_nil]; rfl) ?_
            with_reducible refine (impl_shaBlock.calls st (pp.extract i (i + 64)) _ H8.out HEX.out (HTAB.out.below (below_drew1 HW.b))).mono ?_
            rintro e w3 ⟨rfl, hb⟩
            refine ⟨_, rfl, ?_⟩
            have HW3 : SS w w3 gs st := HW.drew.below hb
            clear hb HW
            refine hK.out _ _ HW3.s (fun hHeld => ?_)
            clear hK K
            refine norm_ (a' := ?_) ?_ ?_
            rotate_left
            · show Act.put _ (some 43) _ = _
              simp only [Act.put, List.setIfInBounds_toArray, List.set_cons_zero, List.set_cons_succ, i64_w, i32_w]
              rfl
            refine last_ (i := 7) (N := none) #[true, true, true, true, true, true, true, true] rfl rfl (by kernel_rfl) (by decide) (fun K hK => ?_)
            refine skip_ (w1 := ?_) (by rfl) rfl ?_ ?_
            rotate_left
            · refine exec_store_row 60 (.tmp 6) (.tmp 43) ?_ gs (cU (shaB st (pp.extract i (i + 64)))) ?_ ?_ 60 (cU st) HW3.s (I60.out.trans (congrArg some HCB.out.symm)) (HCU.out.trans HCB.out.symm) (cU_one _)
              · rfl
              · rfl
              · rfl
            refine hK.out _ _ ?_
            clear hK
            clear K
            refine done_ (by kernel_rfl) ?_
            have HW4 := HW3.put (shaB st (pp.extract i (i + 64)))
            clear HW3 hHeld
            go_wp2
            go_roundg k1
            case measure => omega
            case rel => exact ⟨i + 64, shaB st (pp.extract i (i + 64)), by first | rfl | (simp; done), H', ⟨by have := HK1.out; omega⟩, HB8, HW4⟩
          · rw [if_neg c2] at H
            exact absurd H (by simp)
        · rw [if_neg c1] at H
          obtain rfl := Option.some.inj H
          have HCU := Aside0.mk ((cU_size st).trans H8.out)
          go_wp2_with (first
           | ((with_reducible refine gate_dst (N := 44) rfl ?_); refine wpList_load_row rfl 60 (.tmp 6) rfl gs rfl 60 (cU st) (0, 0) _ HW.s Tryd.underlying60 rfl (I60.out.trans (congrArg some HCU.out.symm)) ?_))
          go_loopg [8, 45] 8 (fun kq v8 v45 W => ∃ (i : Nat) (o : ByteArray), i + kq = 8 ∧ v8 = .string o ∧ v45 = .int .i64 i ∧ Aside0 (impl_Sha.l1 k st kq i o = some r) ∧ Aside0 (Below w.heap.size w W))
          case atStart => exact ⟨0, ⟨#[]⟩, rfl, rfl, rfl, HOUT, ⟨HW.b⟩⟩
          case round =>
           clear HOUT HW
           obtain ⟨i, o, hi, rfl, rfl, HA, HB⟩ := hrel
           have HI := Aside0.mk hi
           cases gk with
           | zero =>
            have H := HA.out
            clear HA
            simp only [impl_Sha.l1] at H
            obtain rfl := Option.some.inj H
            obtain rfl : i = 8 := by omega
            clear hi
            go_wp2
            go_ret
            exact ⟨by first | rfl | (simp; done), HB.out⟩
           | succ n =>
            have H := HA.out
            clear HA
            simp only [impl_Sha.l1] at H
            obtain ⟨t, ht, H⟩ := Option.bind_eq_some_iff.mp H
            have hlt : i < 8 := by omega
            obtain ⟨x, hx⟩ : ∃ x, st.getD i 0 = x := ⟨_, rfl⟩
            have hl : i < st.length := by rw [H8.out]; omega
            have hxm : 0 ≤ x ∧ x < 4294967296 := HGR.out x (by rw [← hx]; simp [List.getElem?_eq_getElem hl])
            obtain ⟨hx0, hx1⟩ := hxm
            rw [hx] at ht
            have HT := Aside0.mk ht
            by_cases c3 : o.size + t.size ≤ 9223372036854775807
            · rw [if_pos c3] at H
              have H' := Aside0.mk H
              have hci : (cU st)[i]? = some (.int .u32 x) := hx ▸ cU_get st i (by rw [H8.out]; omega)
              have hix : ∀ W, (Instr.index 60 (.agg (cU st)) (.int .i64 (i : Int))).run Tryd.prog W = .ok (.int .u32 x) W := index_at st i x hlt hci
              have hcv : IntKind.i64.wrap x = x := IntWalk.i64_in _ (by omega)
              have hsz9 : (9223372036854775807 < o.size + t.size) = False := eq_false (by omega)
              clear H ht hi hx hci
              go_wp2_with (go_at_call 38; (with_reducible refine (impl_Fixed.calls k x 4 t _ HT.out).mono ?_); rintro e w' ⟨rfl, hb⟩; have HB1 := Aside0.mk (below_step HB.out hb); clear hb)
              go_roundg n
              case measure => omega
              case rel => exact ⟨i + 1, o ++ t, by have := HI.out; omega, by first | rfl | (simp; done), by first | rfl | (simp; done), H', HB1⟩
            · rw [if_neg c3] at H
              exact absurd H (by simp)
     ·rw [if_neg c8] at H
      exact absurd H (by simp)
    ·rw [if_neg c6] at H
     exact absurd H (by simp)
   ·rw [if_neg c5] at H
    exact absurd H (by simp)
  ·rw [if_neg c4] at H
   exact absurd H (by simp)
 ·rw [if_neg c2] at H
  exact absurd H (by simp)

end Go.Proofs.YtobkmpihjfiihaaDoor.PFnSnapBack
