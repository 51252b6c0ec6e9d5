/- slices.Insert of one element into a row of the call's own, and slices.Delete of one out of it, at a struct type: what the row holds behind. Conditions: stated with each. -/
import Derived.Test.YtgfacdhkamphiaaProg
import Derived.WalkKit
import Derived.Lib.Walk
import Derived.Lib.SliceRun
import Derived.Lib.JoinLaws
import Derived.Lib.AppendZeros
import Derived.Lib.AppendZerosOnto
import Derived.Lib.Overlaps
import Derived.Laws.Externs
import Derived.Laws.IdiomCopy
import Derived.Laws.NewBlocks
import Derived.Maps.AppendAt
import Derived.Deep.RegionLaw
import Derived.IntWalk
import Derived.Shelf.Spec.SlicesInsertGrow
set_option linter.unusedVariables false
set_option linter.unusedSimpArgs false
namespace Go.Proofs.Ytgfacdhkamphiaa.Ins
open Go.RowKit Go.Lib
variable {P : Program}

theorem hide {p : Prop} (h : p) : Hid p := h
theorem add_lit (g o j : Nat) : (⟨g, o, none⟩ : Addr).add j = ⟨g, o + j, none⟩ := by unfold Addr.add; split <;> simp_all

/-- copy(dst, src) at elements of k cells. -/
theorem run_copy_k (k : Nat) (w : World) (dT sT ty elem : TypeId) (b o dLen dCap : Nat) (a : Addr) (sLen sCap : Nat) (cs : List Value)
    (hu : P.underlying dT = some (.slice elem)) (hs : (P.info? elem).map (·.size) = some k) (hn : cs.length = Nat.min sLen dLen * k)
    (hsrc : ∀ j v, cs[j]? = some v → w.cell? (a.add j) = some v) (hc : ∀ j, j < cs.length → (w.cell? ⟨b, o + j, none⟩).isSome = true) (hf : ∀ j, j < cs.length → w.frozen? ⟨b, o + j, none⟩ = false) (h1 : ∀ v ∈ cs, v.oneCell' = true) :
    (Builtin.copy_ #[dT, sT] ty #[.slice (some ⟨b, o, none⟩) dLen dCap, .slice (some a) sLen sCap]).run P w = .ok (goInt (Nat.min sLen dLen)) (w.setCells b o cs) := by
  have hl := run_loadCells_list (P := P) w a cs hsrc
  have hst := run_storeCells_cells (P := P) b o cs 0 w (by simpa using hc) (by simpa using hf) h1
  cases hq : P.info? elem with
  | none => simp [hq] at hs
  | some i =>
    have hi : i.size = k := by simpa [hq] using hs
    simp [Builtin.copy_, run_underlying hu, Builtin.lenOf, Builtin.firstCells, sizeOf, typeInfo, hq, hi, ← hn, hl, hst]

/-- clear(s) at elements of k cells, n > 0 of them: what stands there is some list of one-cell values, of that length; nothing else turns. -/
theorem run_clear_k (w : World) (t e ty : TypeId) (z : Value) (ht : P.underlying t = some (.slice e)) (hv : ∀ w, (zeroValue e).run P w = .ok z w) (b o n c : Nat) (hn : 0 < n) (zc : List Value)
    (hz : (Builtin.zeroCells z.cells n).toList = zc) (h1 : ∀ v ∈ zc, v.oneCell' = true)
    (hc : ∀ j, j < zc.length → (w.cell? ⟨b, o + j, none⟩).isSome = true) (hf : ∀ j, j < zc.length → w.frozen? ⟨b, o + j, none⟩ = false) :
    (Builtin.clear_ #[t] ty #[.slice (some ⟨b, o, none⟩) n c]).run P w = .ok (.tuple #[]) (w.setCells b o zc) := by
  have hst := run_storeCells_cells (P := P) b o zc 0 w (by simpa using hc) (by simpa using hf) h1
  simp only [Nat.add_zero] at hst
  obtain ⟨m, rfl⟩ : ∃ m, n = m + 1 := ⟨n - 1, by omega⟩
  simp [Builtin.clear_, run_underlying ht, hv, hz, hst]

/-- The block that setCells writes into, whole. -/
theorem heap_setCells_same (g : Nat) (t : TypeId) : ∀ (vs : List Value) (o : Nat) (w : World) (cs : Array Value), w.heap[g]? = some (.cells cs t (0, 0)) → ∃ cs', (w.setCells g o vs).heap[g]? = some (.cells cs' t (0, 0)) ∧ cs'.size = cs.size
  | [], _, _, cs, h => ⟨cs, h, rfl⟩
  | v :: r, o, w, cs, h => by
    obtain ⟨cs', h1, h2⟩ := heap_setCells_same g t r (o + 1) (w.setCell ⟨g, o, none⟩ v) (cs.setIfInBounds o v) (by simp [World.setCell, Array.getElem?_modify, h])
    exact ⟨cs', h1, h2.trans (by simp)⟩
theorem heap_setCells_size (g : Nat) : ∀ (vs : List Value) (o : Nat) (w : World), (w.setCells g o vs).heap.size = w.heap.size
  | [], _, _ => rfl
  | v :: r, o, w => by rw [World.setCells, heap_setCells_size g r]; simp [World.setCell]
theorem rest_setCells (g : Nat) : ∀ (vs : List Value) (o : Nat) (w : World), (w.setCells g o vs).os = w.os ∧ (w.setCells g o vs).tape = w.tape ∧ (w.setCells g o vs).output = w.output
  | [], _, _ => ⟨rfl, rfl, rfl⟩
  | v :: r, o, w => by rw [World.setCells]; exact rest_setCells g r (o + 1) _
theorem heap_setCells_far (g : Nat) : ∀ (vs : List Value) (o : Nat) (w : World) (i : Nat), i ≠ g → (w.setCells g o vs).heap[i]? = w.heap[i]?
  | [], _, _, _, _ => rfl
  | v :: r, o, w, i, h => by rw [World.setCells, heap_setCells_far g r (o + 1) _ i h]; exact Below.heap_setCell w ⟨g, o, none⟩ v i h
/-- Only block g has turned. -/
theorem grownBy_setCells {w W : World} {row : Option Nat} (h : w.grownBy W row) (g o : Nat) (vs : List Value) (hg : row = some g ∨ w.heap.size ≤ g) : w.grownBy (W.setCells g o vs) row :=
  ⟨(rest_setCells g vs o W).1.trans h.os, (rest_setCells g vs o W).2.1.trans h.tape, (rest_setCells g vs o W).2.2.trans h.output, by rw [heap_setCells_size]; exact h.size,
    fun i hi hne => by
      rw [heap_setCells_far g vs o W i (by
        rintro rfl
        rcases hg with hg | hg
        · exact hne hg.symm
        · omega)]
      exact h.block i hi hne⟩
/-- A row by its cells. -/
theorem owns_of_cells {W : World} {base g cap n k : Nat} {e : TypeId} {xs : List Value} (hH : ∃ cs, W.heap[g]? = some (.cells cs e (0, 0)) ∧ cs.size = cap * k) (hb : base ≤ g) (hn : n ≤ cap) (hm : cap ≤ maxLen)
    (hx : xs.length = n * k) (hc : ∀ j v, xs[j]? = some v → W.cell? ⟨g, j, none⟩ = some v) : W.ownsRow base e k (.slice (some ⟨g, 0, none⟩) n cap) n xs := by
  obtain ⟨cs, h1, h2⟩ := hH
  refine ⟨hx, .inr ⟨g, cap, cs, rfl, hb, h1, hn, hm, h2, ?_⟩⟩
  apply List.ext_getElem?
  intro j
  have hcs : ∀ i, W.cell? ⟨g, i, none⟩ = cs[i]? := fun i => cell_of_row W g i cs e (0, 0) h1
  have hle : n * k ≤ cs.size := by rw [h2]; exact Nat.mul_le_mul_right _ hn
  rw [List.getElem?_take]
  split
  · rename_i hj
    have hj2 : j < xs.length := by omega
    have := hc j xs[j] (List.getElem?_eq_getElem hj2)
    rw [hcs] at this
    rw [List.getElem?_eq_getElem hj2, Array.getElem?_toList, this]
  · rw [List.getElem?_eq_none (by omega)]
theorem owns_cell {w : World} {base n k g cap : Nat} {e : TypeId} {xs : List Value} (h : w.ownsRow base e k (.slice (some ⟨g, 0, none⟩) n cap) n xs) : (∀ j v, xs[j]? = some v → w.cell? ⟨g, j, none⟩ = some v) ∧ (∀ j, j < cap * k → (w.cell? ⟨g, j, none⟩).isSome = true) ∧ (∀ j, w.frozen? ⟨g, j, none⟩ = false) ∧ n ≤ cap ∧ cap ≤ maxLen ∧ base ≤ g ∧ xs.length = n * k ∧ (∃ cs, w.heap[g]? = some (.cells cs e (0, 0)) ∧ cs.size = cap * k) := by
  obtain ⟨h1, h2⟩ := h
  rcases h2 with ⟨h2, _⟩ | ⟨g', cap', cs, hv, hb, hh, hn, hm, hs, ht⟩
  · cases h2
  · injection hv with hv1 hv2 hv3
    injection hv1 with hv1
    injection hv1 with hv1
    subst hv1; subst hv3
    have hcs : ∀ i, w.cell? ⟨g, i, none⟩ = cs[i]? := fun i => cell_of_row w g i cs e (0, 0) hh
    refine ⟨fun j v hj => ?_, fun j hj => ?_, fun j => by simp [World.frozen?, hh], hn, hm, hb, h1, cs, hh, hs⟩
    · rw [← ht, List.getElem?_take] at hj
      split at hj
      · rw [hcs, ← Array.getElem?_toList]; exact hj
      · cases hj
    · rw [hcs, Array.getElem?_eq_getElem (by omega)]; rfl

/-! ### slices.Insert, function 115 -/
theorem info45 : (Try.prog.info? 45).map (fun i => (i.zero, i.size, i.bytes)) = some (some (.agg #[.string ⟨#[]⟩, .string ⟨#[]⟩, .int .i64 0]), 3, 40) := by kernel_rfl
theorem overlaps_no (W : World) (vb g o lb cb k : Nat) (cs : Array Value) (cur : Array Value) (hv : W.heap[vb]? = some (.cells cs 45 (0, 0))) (hg : W.heap[g]? = some (.cells cur 45 (0, 0))) (h0 : cur.size ≠ 0) (hne : vb ≠ g) :
    (callFunc 124 #[.slice (some ⟨vb, 0, none⟩) 1 1, .slice (some ⟨g, o, none⟩) lb cb]).run Try.prog W = .ok (.value (.bool false)) W := by
  rw [run_callFunc_extern Try.func124 (by kernel_rfl) (by kernel_rfl) (by kernel_rfl) (e := Extern.SlicesOverlaps.overlaps #[28, 28] #[4]) (by kernel_rfl),
    Lib.run_overlaps_apart W 28 4 45 Try.underlying28 3 Try.sizeOf45 ⟨vb, 0, none⟩ ⟨g, o, none⟩ 1 1 lb cb hne 45 45 cs.size cur.size (by simp [World.shape?, hv]) (by simp [World.shape?, hg]) h0 (by simp [World.frozen?, hv]) (by simp [World.frozen?, hv])]
  rfl

def Put (base n : Nat) (v : Value) (ys : List Value) (w : World) (e : Ending) (w' : World) : Prop :=
  ∃ v1, e = .returned v1 ∧ w'.ownsRow base 45 3 v1 n ys ∧ w.grownBy w' v.ownBlock ∧ (v1.ownBlock = v.ownBlock ∨ v1.ownBlock = some w.heap.size)
set_option maxHeartbeats 4000000 in
set_option maxRecDepth 100000 in
theorem ins_end (base n vb : Nat) (v : Value) (xs f : List Value) (w : World) (ho : w.ownsRow base 45 3 v n xs) (hv : w.heap[vb]? = some (.cells f.toArray 45 (0, 0))) (hf : f.length = 3) (h1 : ∀ u ∈ f, u.oneCell' = true) (hbase : base ≤ w.heap.size) (hbig : (n + 1) * 40 ≤ 140737488355328) :
    Calls Try.prog 115 #[v, .int .i64 n, .slice (some ⟨vb, 0, none⟩) 1 1] w (Put base (n + 1) v (xs ++ f) w) := by
  obtain ⟨i0, hi, hz0, hz1, hz2⟩ := info_parts info45
  have hrun : ∀ ty, ∃ v' w', (Builtin.append_ #[28, 28] ty #[v, .slice (some ⟨vb, 0, none⟩) 1 1]).run Try.prog w = .ok v' w' ∧ w'.ownsRow base 45 3 v' (n + 1) (xs ++ f) ∧ w.grownBy w' v.ownBlock ∧ (v' = .slice none 0 0 ↔ v = .slice none 0 0 ∧ 1 = 0) ∧ (v'.ownBlock = v.ownBlock ∨ v'.ownBlock = some w.heap.size) := fun ty =>
    run_append_own_at (P := Try.prog) w base 28 ty 45 i0 _ 3 40 Try.underlying28 hi hz0 hz1 hz2 rfl (by decide) v n xs ho ⟨vb, 0, none⟩ 1 1 f (by simpa using hf) (fun j u hj => by
      rw [add_lit, Nat.zero_add, cell_of_row w vb j f.toArray 45 (0, 0) hv]; simpa using hj) h1 (by unfold maxLen; omega) hbig hbase
  obtain ⟨v1, w1, hr, h2, h3, _, h4⟩ := hrun 28
  have hP : Put base (n + 1) v (xs ++ f) w (.returned v1) w1 := ⟨v1, rfl, h2, h3, h4⟩
  clear h2 h3 h4 hrun hv h1 hi hz0 hz1 hz2
  have hn63 : (n : Int) ≤ 9223372036854775807 := by omega
  rcases ho.2 with ⟨rfl, rfl⟩ | ⟨g, cap, cur, rfl, hgb, hh, hnc, hm, hcs, ht⟩
  · clear ho
    go_enter Try.func115, Try.ntmps115
    go_wp2_with (at_builtin; refine Lib.wpList_append_run _ rfl _ _ _ _ rfl _ _ rfl rfl _ _ hr ?_)
    go_ret
    exact hP
  · unfold maxLen at hm
    clear ho hh hcs ht
    go_enter Try.func115, Try.ntmps115
    go_wp2_with (at_builtin; refine Lib.wpList_append_run _ rfl _ _ _ _ rfl _ _ rfl rfl _ _ hr ?_)
    all_goals (go_ret; exact hP)

theorem isSome_setCells (b : Nat) (vs : List Value) (o : Nat) (w : World) (h : ∀ j, j < vs.length → (w.cell? ⟨b, o + j, none⟩).isSome = true) (k : Nat) (hk : (w.cell? ⟨b, k, none⟩).isSome = true) : ((w.setCells b o vs).cell? ⟨b, k, none⟩).isSome = true := by
  by_cases hin : o ≤ k ∧ k < o + vs.length
  · have := World.cell?_setCells_in b vs o w h (k - o) (by omega)
    rw [show o + (k - o) = k by omega] at this
    rw [this]; rfl
  · rw [World.cell?_setCells_out b vs o w ⟨b, k, none⟩ (fun _ _ => by show k < o ∨ o + vs.length ≤ k; omega)]
    exact hk
set_option maxHeartbeats 4000000 in
set_option maxRecDepth 100000 in
theorem ins_room (base n i vb g cap : Nat) (xs f : List Value) (w : World) (hi : i < n) (hroom : n + 1 ≤ cap) (ho : w.ownsRow base 45 3 (.slice (some ⟨g, 0, none⟩) n cap) n xs) (hx1 : ∀ u ∈ xs, u.oneCell' = true)
    (hv : w.heap[vb]? = some (.cells f.toArray 45 (0, 0))) (hne : vb ≠ g) (hf : f.length = 3) (h1 : ∀ u ∈ f, u.oneCell' = true) :
    Calls Try.prog 115 #[.slice (some ⟨g, 0, none⟩) n cap, .int .i64 i, .slice (some ⟨vb, 0, none⟩) 1 1] w (Put base (n + 1) (.slice (some ⟨g, 0, none⟩) n cap) (xs.take (i * 3) ++ (f ++ xs.drop (i * 3))) w) := by
  obtain ⟨hxc, hsp, hfz, hnc, hm, hgb, hxl, cur, hh, hcs⟩ := owns_cell ho
  have hov : ∀ o lb cb, (callFunc 124 #[.slice (some ⟨vb, 0, none⟩) 1 1, .slice (some ⟨g, o, none⟩) lb cb]).run Try.prog w = .ok (.value (.bool false)) w := fun o lb cb => overlaps_no w vb g o lb cb 0 _ _ hv hh (by omega) hne
  have hvc : ∀ j v, f[j]? = some v → w.cell? ⟨vb, j, none⟩ = some v := fun j v hj => by rw [cell_of_row w vb j f.toArray 45 (0, 0) hv]; simpa using hj
  have hsz : (Try.prog.info? 45).map (·.size) = some 3 := by
    obtain ⟨i0, hi0, h0, h1, h2⟩ := info_parts info45
    rw [hi0]; simp [h1]
  unfold maxLen at hm
  have hdl : (xs.drop (i * 3)).length = (n - i) * 3 := by rw [List.length_drop, hxl]; omega
  have hcp1 : ∀ ty dc sc, (Builtin.copy_ #[28, 28] ty #[.slice (some ⟨g, (i + 1) * 3, none⟩) (n - i) dc, .slice (some ⟨g, i * 3, none⟩) (n + 1 - i) sc]).run Try.prog w.drew = .ok (goInt (n - i : Nat)) (w.drew.setCells g ((i + 1) * 3) (xs.drop (i * 3))) := fun ty dc sc => by
    have hmin : Nat.min (n + 1 - i) (n - i) = n - i := by simp only [Nat.min_def]; split <;> omega
    have h := run_copy_k (P := Try.prog) 3 w.drew 28 28 ty 45 g ((i + 1) * 3) (n - i) dc ⟨g, i * 3, none⟩ (n + 1 - i) sc (xs.drop (i * 3)) Try.underlying28 hsz (by rw [hmin]; exact hdl)
      (fun j v hj => by rw [add_lit]; exact hxc (i * 3 + j) v (by rwa [List.getElem?_drop] at hj))
      (fun j hj => hsp _ (by omega)) (fun j hj => hfz _) (fun v hv => hx1 v (List.mem_of_mem_drop hv))
    rw [hmin] at h
    exact h
  obtain ⟨W1, hW1⟩ : ∃ W1, W1 = w.drew.setCells g ((i + 1) * 3) (xs.drop (i * 3)) := ⟨_, rfl⟩
  have hsp1 : ∀ k, k < (n + 1) * 3 → (W1.cell? ⟨g, k, none⟩).isSome = true := fun k hk => by
    rw [hW1]
    exact isSome_setCells g (xs.drop (i * 3)) ((i + 1) * 3) w.drew (fun j hj => hsp _ (by omega)) _ (hsp k (by omega))
  have hcp2 : ∀ (W : World), (∀ x, W.cell? x = W1.cell? x) → (∀ x, W.frozen? x = W1.frozen? x) → ∀ ty dc, (Builtin.copy_ #[28, 28] ty #[.slice (some ⟨g, i * 3, none⟩) (n + 1 - i) dc, .slice (some ⟨vb, 0, none⟩) 1 1]).run Try.prog W = .ok (goInt 1) (W.setCells g (i * 3) f) := fun W hWc hWf ty dc => by
    have hmin : Nat.min 1 (n + 1 - i) = 1 := by simp only [Nat.min_def]; split <;> omega
    have h := run_copy_k (P := Try.prog) 3 W 28 28 ty 45 g (i * 3) (n + 1 - i) dc ⟨vb, 0, none⟩ 1 1 f Try.underlying28 hsz (by rw [hmin]; exact hf)
      (fun j v hj => by
        rw [add_lit, Nat.zero_add, hWc, hW1, World.cell?_setCells_out g _ _ _ _ (fun h _ => absurd h hne)]
        exact hvc j v hj)
      (fun j hj => by rw [hWc]; exact hsp1 _ (by omega)) (fun j hj => by rw [hWf, hW1, World.frozen?_setCells]; exact hfz _) h1
    rw [hmin] at h
    exact h
  have hP : ∀ q, Put base (n + 1) (.slice (some ⟨g, 0, none⟩) n cap) (xs.take (i * 3) ++ (f ++ xs.drop (i * 3))) w (.returned (.slice (some ⟨g, 0, none⟩) (n + 1) cap)) ((W1.drewN q).setCells g (i * 3) f) := fun q => by
    obtain ⟨c1, hc1, hs1⟩ := heap_setCells_same g 45 (xs.drop (i * 3)) ((i + 1) * 3) w.drew cur hh
    obtain ⟨c2, hc2, hs2⟩ := heap_setCells_same g 45 f (i * 3) (W1.drewN q) c1 (by rw [hW1]; exact hc1)
    refine ⟨_, rfl, owns_of_cells ⟨c2, hc2, by rw [hs2, hs1, hcs]⟩ hgb hroom (by unfold maxLen; omega) (by simp [hxl, hf]; omega) (fun j v hj => ?_), ?_, .inl rfl⟩
    · have htl : (xs.take (i * 3)).length = i * 3 := by rw [List.length_take]; omega
      by_cases c : i * 3 ≤ j ∧ j < i * 3 + f.length
      · have := World.cell?_setCells_in g f (i * 3) (W1.drewN q) (fun j hj => hsp1 _ (by omega)) (j - i * 3) (by omega)
        rw [show i * 3 + (j - i * 3) = j by omega] at this
        rw [this]
        rw [List.getElem?_append_right (by omega), htl, List.getElem?_append_left (by omega), List.getElem?_eq_getElem (by omega)] at hj
        exact hj
      · rw [World.cell?_setCells_out g f (i * 3) _ ⟨g, j, none⟩ (fun _ _ => by show j < i * 3 ∨ i * 3 + f.length ≤ j; omega)]
        show W1.cell? _ = _
        rw [hW1]
        by_cases c2 : j < i * 3
        · rw [World.cell?_setCells_out g _ _ _ ⟨g, j, none⟩ (fun _ _ => by show j < (i + 1) * 3 ∨ _; omega)]
          rw [List.getElem?_append_left (by omega), List.getElem?_take, if_pos c2] at hj
          exact hxc j v hj
        · rw [List.getElem?_append_right (by omega), htl, List.getElem?_append_right (by omega), hf] at hj
          have hjl := (List.getElem?_eq_some_iff.1 hj).1
          have := World.cell?_setCells_in g (xs.drop (i * 3)) ((i + 1) * 3) w.drew (fun j hj => hsp _ (by omega)) (j - i * 3 - 3) hjl
          rw [show (i + 1) * 3 + (j - i * 3 - 3) = j by omega] at this
          rw [this, ← hj, List.getElem?_eq_getElem hjl]
    · refine grownBy_setCells (w := w) (W := W1.drewN q) ?_ g _ _ (.inl rfl)
      have h0 : w.grownBy w.drew (some g) := ⟨rfl, rfl, rfl, Nat.le_refl _, fun _ _ _ => rfl⟩
      have h2 := grownBy_setCells h0 g ((i + 1) * 3) (xs.drop (i * 3)) (.inl rfl)
      rw [← hW1] at h2
      exact ⟨h2.os, h2.tape, h2.output, h2.size, h2.block⟩
  have HP := hide hP
  clear hP
  rw [← hW1] at hcp1
  have hz2 : ¬ ((i : Int) = (n : Int)) := by omega
  have hw1 : IntKind.i64.wrap ((i : Int) + 1) = (i : Int) + 1 := by rw [IntKind.wrap_i64]; omega
  have hw2 : IntKind.i64.wrap ((n : Int) + 1) = (n : Int) + 1 := by rw [IntKind.wrap_i64]; omega
  have hb1 : (0 : Int) ≤ (i : Int) + 1 := by omega
  have hin : i ≤ n := by omega
  have htn : ((i : Int) + 1).toNat = i + 1 := by omega
  have htn2 : ((n : Int) + 1).toNat = n + 1 := by omega
  have hb2 : ¬ (cap = i + 1) := by omega
  have hb3 : (i : Int) ≤ (n : Int) + 1 := by omega
  have hb4 : ¬ (cap = i) := by omega
  have hb5 : ¬ ((cap : Int) < (n : Int) + 1) := by omega
  clear ho hx1 hv hxc hsp hfz hxl hh hcs hvc hdl hsp1 hsz hf h1 hgb hW1
  go_enter Try.func115, Try.ntmps115
  go_wp2_with (simp only [hov])
  go_region_law (refine step_copy_runI rfl _ _ 28 28 rfl _ _ (by simp [Act.eval, Act.put]) (by simp [Act.eval, Act.put]) (hcp1 _ _ _) ?_)
  go_wp2_with (at_builtin; refine wpList_copy_runI _ rfl _ _ 28 28 rfl _ _ rfl rfl (hcp2 _ (fun _ => rfl) (fun _ => rfl) _ _) ?_)
  go_ret
  exact HP.out 0

abbrev zf : Array Value := (Value.agg #[.string ⟨#[]⟩, .string ⟨#[]⟩, .int .i64 0]).cells
set_option maxHeartbeats 4000000 in
set_option maxRecDepth 100000 in
theorem ins_grow (base n i vb g cap : Nat) (xs f : List Value) (w : World) (hi : i < n) (hroom : cap < n + 1) (ho : w.ownsRow base 45 3 (.slice (some ⟨g, 0, none⟩) n cap) n xs) (hx1 : ∀ u ∈ xs, u.oneCell' = true)
    (hv : w.heap[vb]? = some (.cells f.toArray 45 (0, 0))) (hf : f.length = 3) (h1 : ∀ u ∈ f, u.oneCell' = true) (hbase : base ≤ w.heap.size) (hbig : (n + 1) * 40 ≤ 140737488355328) :
    Calls Try.prog 115 #[.slice (some ⟨g, 0, none⟩) n cap, .int .i64 i, .slice (some ⟨vb, 0, none⟩) 1 1] w (Put base (n + 1) (.slice (some ⟨g, 0, none⟩) n cap) (xs.take (i * 3) ++ (f ++ xs.drop (i * 3))) w) := by
  obtain ⟨hxc, hsp, hfz, hnc, hm, hgb, hxl, cur, hh, hcs⟩ := owns_cell ho
  have hvc : ∀ j v, f[j]? = some v → w.cell? ⟨vb, j, none⟩ = some v := fun j v hj => by rw [cell_of_row w vb j f.toArray 45 (0, 0) hv]; simpa using hj
  obtain ⟨i0, hi0, hz0, hzs, hzb⟩ := info_parts info45
  have hsz : (Try.prog.info? 45).map (·.size) = some 3 := by rw [hi0]; simp [hzs]
  unfold maxLen at hm
  have hdl : (xs.drop (i * 3)).length = (n - i) * 3 := by rw [List.length_drop, hxl]; omega
  have hgw : g < w.heap.size := (Array.getElem?_eq_some_iff.1 hh).1
  have hvw : vb < w.heap.size := (Array.getElem?_eq_some_iff.1 hv).1
  have hold : (Builtin.firstCells i0.size i (.slice (some ⟨g, 0, none⟩) i cap)).run Try.prog w.drew = .ok (xs.take (i * 3)).toArray w.drew := by
    rw [hzs]
    exact run_firstCells_some w.drew 3 i ⟨g, 0, none⟩ i cap (xs.take (i * 3)) (by rw [List.length_take]; omega) (fun j v hj => by
      rw [add_lit, Nat.zero_add]
      rw [List.getElem?_take] at hj
      split at hj
      · exact hxc j v hj
      · cases hj)
  obtain ⟨G, hG⟩ : ∃ G, G = grownCap w (n + 1) cap 45 := ⟨_, rfl⟩
  have hGn : n + 1 ≤ G := by rw [hG]; exact grownCap_ge w _ _ _
  have hG63 : G ≤ maxLen := by rw [hG]; exact grownCap_le_maxLen w (n + 1) cap 45 (by unfold maxLen; omega)
  obtain ⟨ROW, hROW⟩ : ∃ ROW : Array Value, ROW = (xs.take (i * 3)).toArray ++ Builtin.zeroCells zf (n + 1 - i) ++ Builtin.zeroCells zf (G - (n + 1)) := ⟨_, rfl⟩
  have hRs : ROW.size = G * 3 := by
    rw [hROW]
    simp [Builtin.zeroCells, Value.cells, hxl]
    omega
  have hrz : ∀ ty, (Builtin.append_ #[28, 3] ty #[.slice (some ⟨g, 0, none⟩) i cap, .int .i64 ((n : Int) + 1 - (i : Int))]).run Try.prog w =
      .ok (.slice (some ⟨w.heap.size, 0, none⟩) (n + 1) G) (w.drew.alloc (.cells ROW 45)) := fun ty => by
    have hkk : (n : Int) + 1 - (i : Int) = ((n + 1 - i : Nat) : Int) := by omega
    have hik : i + (n + 1 - i) = n + 1 := by omega
    have h := Lib.run_append_grow_zeros w 28 3 ty 45 i0 _ .i64 .i64 Try.underlying28 Try.underlying3 hi0 hz0 (some ⟨g, 0, none⟩) i cap (xs.take (i * 3)) hold (n + 1 - i) (by omega) (by rw [hzs]; omega) (by omega) (by omega) (by rw [hzb]; omega) (by rw [hzb, hik]; exact growslice_fits hroom hbig)
    rw [hik] at h
    rw [hkk, hROW, hG]
    exact h
  obtain ⟨W1, hW1⟩ : ∃ W1, W1 = w.drew.alloc (.cells ROW 45) := ⟨_, rfl⟩
  rw [← hW1] at hrz
  have hNb : W1.heap[w.heap.size]? = some (.cells ROW 45 (0, 0)) := by rw [hW1]; exact heap_alloc_new w.drew _
  have hN : ∀ j, j < G * 3 → (W1.cell? ⟨w.heap.size, j, none⟩).isSome = true := fun j hj => by
    rw [cell_of_row W1 w.heap.size j ROW 45 (0, 0) hNb, Array.getElem?_eq_getElem (by omega)]; rfl
  have hNf : ∀ j, W1.frozen? ⟨w.heap.size, j, none⟩ = false := fun j => by simp [World.frozen?, hNb]
  have hOg : ∀ j v, w.cell? ⟨g, j, none⟩ = some v → W1.cell? ⟨g, j, none⟩ = some v := fun j v h => by rw [hW1, World.cell?_alloc_past (w := w.drew) _ g j hgw]; exact h
  have hOv : ∀ j v, w.cell? ⟨vb, j, none⟩ = some v → W1.cell? ⟨vb, j, none⟩ = some v := fun j v h => by rw [hW1, World.cell?_alloc_past (w := w.drew) _ vb j hvw]; exact h
  have hcpA : ∀ (W : World), (∀ x, W.cell? x = W1.cell? x) → (∀ x, W.frozen? x = W1.frozen? x) → ∀ ty dc, (Builtin.copy_ #[28, 28] ty #[.slice (some ⟨w.heap.size, i * 3, none⟩) (n + 1 - i) dc, .slice (some ⟨vb, 0, none⟩) 1 1]).run Try.prog W = .ok (goInt 1) (W.setCells w.heap.size (i * 3) f) := fun W hWc hWf ty dc => by
    have hmin : Nat.min 1 (n + 1 - i) = 1 := by simp only [Nat.min_def]; split <;> omega
    have h := run_copy_k (P := Try.prog) 3 W 28 28 ty 45 w.heap.size (i * 3) (n + 1 - i) dc ⟨vb, 0, none⟩ 1 1 f Try.underlying28 hsz (by rw [hmin]; exact hf)
      (fun j v hj => by rw [add_lit, Nat.zero_add, hWc]; exact hOv _ v (hvc j v hj))
      (fun j hj => by rw [hWc]; exact hN _ (by omega)) (fun j hj => by rw [hWf]; exact hNf _) h1
    rw [hmin] at h
    exact h
  have hcpB : ∀ (W : World), (∀ x, W.cell? x = (W1.setCells w.heap.size (i * 3) f).cell? x) → (∀ x, W.frozen? x = (W1.setCells w.heap.size (i * 3) f).frozen? x) → ∀ ty dc sc, (Builtin.copy_ #[28, 28] ty #[.slice (some ⟨w.heap.size, (i + 1) * 3, none⟩) (n - i) dc, .slice (some ⟨g, i * 3, none⟩) (n - i) sc]).run Try.prog W = .ok (goInt (n - i : Nat)) (W.setCells w.heap.size ((i + 1) * 3) (xs.drop (i * 3))) := fun W hWc hWf ty dc sc => by
    have hmin : Nat.min (n - i) (n - i) = n - i := by simp only [Nat.min_def]; split <;> omega
    have h := run_copy_k (P := Try.prog) 3 W 28 28 ty 45 w.heap.size ((i + 1) * 3) (n - i) dc ⟨g, i * 3, none⟩ (n - i) sc (xs.drop (i * 3)) Try.underlying28 hsz (by rw [hmin]; exact hdl)
      (fun j v hj => by
        rw [add_lit, hWc, World.cell?_setCells_out _ _ _ _ _ (fun h _ => absurd h (show g ≠ w.heap.size by omega))]
        exact hOg _ v (hxc (i * 3 + j) v (by rwa [List.getElem?_drop] at hj)))
      (fun j hj => by rw [hWc]; exact isSome_setCells w.heap.size f (i * 3) W1 (fun t ht => hN _ (by omega)) _ (hN _ (by omega)))
      (fun j hj => by rw [hWf, World.frozen?_setCells]; exact hNf _) (fun v hv => hx1 v (List.mem_of_mem_drop hv))
    rw [hmin] at h
    exact h
  have hP : ∀ q q2, Put base (n + 1) (.slice (some ⟨g, 0, none⟩) n cap) (xs.take (i * 3) ++ (f ++ xs.drop (i * 3))) w (.returned (.slice (some ⟨w.heap.size, 0, none⟩) (n + 1) G)) ((((W1.drewN q).setCells w.heap.size (i * 3) f).drewN q2).setCells w.heap.size ((i + 1) * 3) (xs.drop (i * 3))) := fun q q2 => by
    obtain ⟨c1, hc1, hs1⟩ := heap_setCells_same w.heap.size 45 f (i * 3) (W1.drewN q) ROW hNb
    obtain ⟨c2, hc2, hs2⟩ := heap_setCells_same w.heap.size 45 (xs.drop (i * 3)) ((i + 1) * 3) (((W1.drewN q).setCells w.heap.size (i * 3) f).drewN q2) c1 hc1
    have hsA : ∀ k, k < G * 3 → ((((W1.drewN q).setCells w.heap.size (i * 3) f).drewN q2).cell? ⟨w.heap.size, k, none⟩).isSome = true := fun k hk =>
      isSome_setCells w.heap.size f (i * 3) (W1.drewN q) (fun t ht => hN _ (by omega)) k (hN _ hk)
    refine ⟨_, rfl, owns_of_cells ⟨c2, hc2, by rw [hs2, hs1, hRs]⟩ hbase hGn hG63 (by simp [hxl, hf]; omega) (fun j v hj => ?_), ?_, .inr rfl⟩
    · have htl : (xs.take (i * 3)).length = i * 3 := by rw [List.length_take]; omega
      by_cases c : (i + 1) * 3 ≤ j
      · rw [List.getElem?_append_right (by omega), htl, List.getElem?_append_right (by omega), hf] at hj
        have hjl := (List.getElem?_eq_some_iff.1 hj).1
        have := World.cell?_setCells_in w.heap.size (xs.drop (i * 3)) ((i + 1) * 3) (((W1.drewN q).setCells w.heap.size (i * 3) f).drewN q2) (fun j hj => hsA _ (by omega)) (j - i * 3 - 3) hjl
        rw [show (i + 1) * 3 + (j - i * 3 - 3) = j by omega] at this
        rw [this, ← hj, List.getElem?_eq_getElem hjl]
      · rw [World.cell?_setCells_out w.heap.size _ _ _ ⟨w.heap.size, j, none⟩ (fun _ _ => by show j < (i + 1) * 3 ∨ _; omega)]
        show ((W1.drewN q).setCells w.heap.size (i * 3) f).cell? _ = _
        by_cases c2 : i * 3 ≤ j
        · have := World.cell?_setCells_in w.heap.size f (i * 3) (W1.drewN q) (fun j hj => hN _ (by omega)) (j - i * 3) (by omega)
          rw [show i * 3 + (j - i * 3) = j by omega] at this
          rw [this]
          rw [List.getElem?_append_right (by omega), htl, List.getElem?_append_left (by omega), List.getElem?_eq_getElem (by omega)] at hj
          exact hj
        · rw [World.cell?_setCells_out w.heap.size _ _ _ ⟨w.heap.size, j, none⟩ (fun _ _ => by show j < i * 3 ∨ _; omega)]
          show W1.cell? _ = _
          rw [cell_of_row W1 w.heap.size j ROW 45 (0, 0) hNb, hROW]
          rw [List.getElem?_append_left (by omega)] at hj
          rw [Array.getElem?_append_left (by simp; omega), Array.getElem?_append_left (by simp; omega), List.getElem?_toArray]
          exact hj
    · have h0 : w.grownBy W1 (some g) := by
        rw [hW1]
        have h := World.grownBy_alloc w (.cells ROW 45) (some g)
        exact ⟨h.os, h.tape, h.output, h.size, h.block⟩
      have h2 := grownBy_setCells (w := w) (W := W1.drewN q) ⟨h0.os, h0.tape, h0.output, h0.size, h0.block⟩ w.heap.size (i * 3) f (.inr (Nat.le_refl _))
      exact grownBy_setCells (w := w) (W := ((W1.drewN q).setCells w.heap.size (i * 3) f).drewN q2) ⟨h2.os, h2.tape, h2.output, h2.size, h2.block⟩ w.heap.size _ _ (.inr (Nat.le_refl _))
  have HP := hide hP
  clear hP
  subst hW1
  have hE1 : ∀ x, ((w.alloc (.cells ROW 45)).drew).cell? x = (w.drew.alloc (.cells ROW 45)).cell? x := fun x => rfl
  have hE2 : ∀ x, ((w.alloc (.cells ROW 45)).drew).frozen? x = (w.drew.alloc (.cells ROW 45)).frozen? x := fun x => rfl
  have hF1 : ∀ x, (((w.alloc (.cells ROW 45)).drew.setCells w.heap.size (i * 3) f).drew).cell? x = ((w.drew.alloc (.cells ROW 45)).setCells w.heap.size (i * 3) f).cell? x := fun x => rfl
  have hF2 : ∀ x, (((w.alloc (.cells ROW 45)).drew.setCells w.heap.size (i * 3) f).drew).frozen? x = ((w.drew.alloc (.cells ROW 45)).setCells w.heap.size (i * 3) f).frozen? x := fun x => rfl
  have hz2 : ¬ ((i : Int) = (n : Int)) := by omega
  have hz3 : (cap : Int) < (n : Int) + 1 := by omega
  have hw1 : IntKind.i64.wrap ((i : Int) + 1) = (i : Int) + 1 := by rw [IntKind.wrap_i64]; omega
  have hb1 : (0 : Int) ≤ (i : Int) + 1 := by omega
  have hin : i ≤ n := by omega
  have htn : ((i : Int) + 1).toNat = i + 1 := by omega
  have hb3 : (i : Int) ≤ (n : Int) := by omega
  have hGi : ¬ (G = i) := by omega
  have hGim : ¬ (G = i + 1) := by omega
  have hci : ¬ (cap = i) := by omega
  unfold maxLen at hG63
  clear ho hx1 hv hxc hsp hfz hxl hh hcs hvc hdl hsz hf h1 hgb hold hG hROW hRs hN hNf hNb hOg hOv hi0 hz0 hzs hzb
  go_enter Try.func115, Try.ntmps115
  go_wp2_with (first
    | (at_builtin; refine Lib.wpList_append_run _ rfl _ _ _ _ rfl _ _ rfl rfl _ _ (hrz _) ?_)
    | (at_builtin; refine wpList_copy_runI _ rfl _ _ 28 28 rfl _ _ rfl rfl (hcpA _ hE1 hE2 _ _) ?_)
    | (at_builtin; refine wpList_copy_runI _ rfl _ _ 28 28 rfl _ _ rfl rfl (hcpB _ (fun _ => rfl) (fun _ => rfl) _ _ _) ?_))
  go_region_law (refine step_copy_runI rfl _ _ 28 28 rfl (.slice (some ⟨w.heap.size, (i + 1) * 3, none⟩) (n - i) (G - (i + 1))) (.slice (some ⟨g, i * 3, none⟩) (n - i) (cap - i)) (by simp [Act.eval, Act.put]) (by simp [Act.eval, Act.put]) (hcpB _ hF1 hF2 3 (G - (i + 1)) (cap - i)) ?_)
  go_wp2
  go_ret
  exact HP.out 0 1

/-- slices.Insert of one element at i ≤ n, whatever room there is. -/
theorem ins_own (base n i vb : Nat) (v : Value) (xs f : List Value) (w : World) (hi : i ≤ n) (ho : w.ownsRow base 45 3 v n xs) (hx1 : ∀ u ∈ xs, u.oneCell' = true)
    (hv : w.heap[vb]? = some (.cells f.toArray 45 (0, 0))) (hne : v.ownBlock ≠ some vb) (hf : f.length = 3) (h1 : ∀ u ∈ f, u.oneCell' = true) (hbase : base ≤ w.heap.size) (hbig : (n + 1) * 40 ≤ 140737488355328) :
    Calls Try.prog 115 #[v, .int .i64 i, .slice (some ⟨vb, 0, none⟩) 1 1] w (Put base (n + 1) v (xs.take (i * 3) ++ (f ++ xs.drop (i * 3))) w) := by
  by_cases hin : i = n
  · subst hin
    have hl := ho.1
    rw [List.take_of_length_le (by omega), List.drop_of_length_le (by omega), List.append_nil]
    exact ins_end base i vb v xs f w ho hv hf h1 hbase hbig
  · have hlt : i < n := by omega
    have hs := ho
    rcases hs.2 with ⟨_, h0⟩ | ⟨g, cap, cur, rfl, _⟩
    · omega
    · by_cases hr : n + 1 ≤ cap
      · exact ins_room base n i vb g cap xs f w hlt hr ho hx1 hv (fun e => hne (by simp [Value.ownBlock, e])) hf h1
      · exact ins_grow base n i vb g cap xs f w hlt (by omega) ho hx1 hv hf h1 hbase hbig

/-! ### slices.Delete, function 84, of one element -/
def Cut (base n g cap : Nat) (ys : List Value) (w : World) (e : Ending) (w' : World) : Prop :=
  e = .returned (.slice (some ⟨g, 0, none⟩) n cap) ∧ w'.ownsRow base 45 3 (.slice (some ⟨g, 0, none⟩) n cap) n ys ∧ w.grownBy w' (some g)
set_option maxHeartbeats 4000000 in
set_option maxRecDepth 100000 in
theorem del_own (base n i g cap : Nat) (xs : List Value) (w : World) (hi : i < n) (ho : w.ownsRow base 45 3 (.slice (some ⟨g, 0, none⟩) n cap) n xs) (hx1 : ∀ u ∈ xs, u.oneCell' = true) :
    Calls Try.prog 84 #[.slice (some ⟨g, 0, none⟩) n cap, .int .i64 i, .int .i64 ((i : Int) + 1)] w (Cut base (n - 1) g cap (xs.take (i * 3) ++ xs.drop ((i + 1) * 3)) w) := by
  obtain ⟨hxc, hsp, hfz, hnc, hm, hgb, hxl, cur, hh, hcs⟩ := owns_cell ho
  obtain ⟨i0, hi0, hz0, hzs, hzb⟩ := info_parts info45
  have hml := hm
  unfold maxLen at hm
  obtain ⟨news, hnews⟩ : ∃ news, news = xs.drop ((i + 1) * 3) := ⟨_, rfl⟩
  have hlen : news.length = (n - (i + 1)) * 3 := by rw [hnews, List.length_drop, hxl]; omega
  obtain ⟨W1, hW1⟩ : ∃ W1, W1 = w.drew.setCells g (i * 3) news := ⟨_, rfl⟩
  obtain ⟨c1, hc1, hs1⟩ := heap_setCells_same g 45 news (i * 3) w.drew cur hh
  rw [← hW1] at hc1
  have hsp1 : ∀ j, j < cap * 3 → (W1.cell? ⟨g, j, none⟩).isSome = true := fun j hj => by
    rw [cell_of_row W1 g j c1 45 (0, 0) hc1, Array.getElem?_eq_getElem (by omega)]; rfl
  have hfz1 : ∀ j, W1.frozen? ⟨g, j, none⟩ = false := fun j => by simp [World.frozen?, hc1]
  obtain ⟨zc, hzc⟩ : ∃ zc, zc = (Builtin.zeroCells zf 1).toList := ⟨_, rfl⟩
  have hzl : zc.length = 3 := by rw [hzc]; simp [Builtin.zeroCells, zf, Value.cells]
  have hz1 : ∀ v ∈ zc, v.oneCell' = true := by
    have e : zc = [.string ⟨#[]⟩, .string ⟨#[]⟩, .int .i64 0] := by rw [hzc]; first | rfl | (simp [Builtin.zeroCells, zf, Value.cells]; done) | kernel_rfl
    rw [e]; intro v hv; simp at hv; rcases hv with rfl | rfl | rfl <;> rfl
  have hcl : ∀ ty cc, (Builtin.clear_ #[28] ty #[.slice (some ⟨g, (n - 1) * 3, none⟩) 1 cc]).run Try.prog W1 = .ok (.tuple #[]) (W1.setCells g ((n - 1) * 3) zc) := fun ty cc =>
    run_clear_k W1 28 45 ty _ Try.underlying28 Try.zeroValue45 g ((n - 1) * 3) 1 cc (by omega) zc hzc.symm hz1 (fun j hj => hsp1 _ (by omega)) (fun j hj => hfz1 _)
  have hP : Cut base (n - 1) g cap (xs.take (i * 3) ++ xs.drop ((i + 1) * 3)) w (.returned (.slice (some ⟨g, 0, none⟩) (n - 1) cap)) (W1.setCells g ((n - 1) * 3) zc) := by
    obtain ⟨c2, hc2, hs2⟩ := heap_setCells_same g 45 zc ((n - 1) * 3) W1 c1 hc1
    refine ⟨rfl, owns_of_cells ⟨c2, hc2, by rw [hs2, hs1, hcs]⟩ hgb (by omega) hml (by simp [hxl]; omega) (fun j v hj => ?_), ?_⟩
    · have hjl := (List.getElem?_eq_some_iff.1 hj).1
      rw [List.length_append, List.length_take, List.length_drop] at hjl
      rw [World.cell?_setCells_out g zc _ _ ⟨g, j, none⟩ (fun _ _ => by show j < (n - 1) * 3 ∨ _; omega), hW1]
      have htl : (xs.take (i * 3)).length = i * 3 := by rw [List.length_take]; omega
      by_cases c2 : j < i * 3
      · rw [World.cell?_setCells_out g _ _ _ ⟨g, j, none⟩ (fun _ _ => by show j < i * 3 ∨ _; omega)]
        rw [List.getElem?_append_left (by omega), List.getElem?_take, if_pos c2] at hj
        exact hxc j v hj
      · rw [List.getElem?_append_right (by omega), htl, ← hnews] at hj
        have hjn := (List.getElem?_eq_some_iff.1 hj).1
        have := World.cell?_setCells_in g news (i * 3) w.drew (fun j hj => hsp _ (by omega)) (j - i * 3) hjn
        rw [show i * 3 + (j - i * 3) = j by omega] at this
        rw [this, ← hj, List.getElem?_eq_getElem hjn]
    · refine grownBy_setCells (w := w) (W := W1) ?_ g _ _ (.inl rfl)
      rw [hW1]
      exact grownBy_setCells (w := w) (W := w.drew) ⟨rfl, rfl, rfl, Nat.le_refl _, fun _ _ _ => rfl⟩ g _ _ (.inl rfl)
  have HP := hide hP
  clear hP
  obtain ⟨A, hA, hsrc⟩ : ∃ A : Addr, (if cap = i + 1 then (some (⟨g, 0, none⟩ : Addr)) else some ⟨g, (i + 1) * 3, none⟩) = some A ∧ Hid (∀ t u, news[t]? = some u → w.drew.cell? (A.add t) = some u) := by
    by_cases h : cap = i + 1
    · refine ⟨⟨g, 0, none⟩, by simp [h], fun t u hu => ?_⟩
      have h0 : news.length = 0 := by rw [hlen]; omega
      rw [List.length_eq_zero_iff.1 h0] at hu
      simp at hu
    · refine ⟨⟨g, (i + 1) * 3, none⟩, by simp [h], fun t u hu => ?_⟩
      rw [hnews, List.getElem?_drop] at hu
      rw [add_lit]
      exact hxc _ _ hu
  have s1 := hide hlen
  have s2 : Hid (∀ u ∈ news, u.oneCell' = true) := fun u hu => hx1 u (List.mem_of_mem_drop (hnews ▸ hu))
  have s3 : Hid (∀ t, t < news.length → (w.drew.cell? ⟨g, 0 + i * 3 + t, none⟩).isSome = true ∧ w.drew.frozen? ⟨g, 0 + i * 3 + t, none⟩ = false) := by
    intro t ht
    exact ⟨hsp _ (by omega), hfz _⟩
  have hW := hide hW1
  have S0 := hide hi0
  have S1 := hide hzs
  have hic : i ≤ cap := by omega
  have hjc : i + 1 ≤ cap := by omega
  have hin : i + 1 ≤ n := by omega
  have hne : ¬ ((i : Int) = (i : Int) + 1) := by omega
  have hb2 : (i : Int) + 1 ≤ (n : Int) := by omega
  have hb1 : (0 : Int) ≤ (i : Int) + 1 := by omega
  have htn : ((i : Int) + 1).toNat = i + 1 := by omega
  have e1 : i + (n - (i + 1)) = n - 1 := by omega
  have e2 : n - (n - 1) = 1 := by omega
  clear ho hx1 hxc hsp hfz hxl hh hcs hc1 hs1 hsp1 hfz1 hzc hzl hz1 hlen hnews hW1 hi0 hz0 hzs hzb hgb hml
  go_enter Try.func84, Try.ntmps84
  go_wp2_with fail
  go_region_law (refine step_append_room rfl (.tmp 22) (.tmp 25) 28 rfl 45 i0 3 Try.underlying28 S0.out S1.out g 0 i cap (by simp [Act.eval, Act.put]) A (n - (i + 1)) (cap - (i + 1)) news (by simp [Act.eval, Act.put]) s1.out hsrc.out s2.out (by omega) s3.out ?_; rw [Nat.zero_add, ← hW.out])
  go_wp2
  go_ret
  exact HP.out
end Go.Proofs.Ytgfacdhkamphiaa.Ins
