/- Walks of functions that the law FnLive reaches, turned by this session from a print of which a part did not build; what was changed is listed in wip/patches of the proofs' repo. -/
import Derived.Test.YtgfacdhkamphiaaOFnLivex0
import Derived.Test.YtgfacdhkamphiaaOFnLivex1
namespace Go.Proofs.Ytgfacdhkamphiaa.PFnLive
open Go.RowKit Go.Proofs.YtgfacdhkamphiaaW.PrintWords Go.Proofs.YtgfacdhkamphiaaW.PrintLast Go.Proofs.YtgfacdhkamphiaaW.PrintMore
attribute [local go_sem] max2_int min2_int max_two min_two max_three min_three max_four min_four   -- for this text's walks alone
set_option linter.unusedVariables false
set_option linter.unusedSimpArgs false

/-! ### impl_Entry_102: function 102 (a text of its own) -/
/-! #### slices.DeleteFunc at entries: the row as cells while it is rewritten -/
theorem getD_at {α : Type} {l : List α} {j : Nat} {x z : α} (h : l[j]? = some x) : l.getD j z = x := by rw [List.getD_eq_getElem?_getD, h]; rfl
/-- A row of elements apart, as cells: what each element's cells are and which blocks are its own. -/
theorem S_raw {w : World} {base g n cap : Nat} {ok : Nat → Prop} {xs : List S90} (h : Kd.S k90 90 w base ok (.slice (some ⟨g, 0, none⟩) n cap) xs) :
    ∃ (rows : List (List Value)) (okj : Nat → Nat → Prop), rows.length = n ∧ xs.length = n ∧ n ≤ cap ∧ (Kd.raw 5).R 90 w base (fun _ => True) (.slice (some ⟨g, 0, none⟩) n cap) rows ∧
      (∀ j x c, xs[j]? = some x → rows[j]? = some c → k90.M w base (okj j) x c) ∧ (∀ i j k, okj i k → okj j k → i = j) ∧ (∀ j k, okj j k → ok k ∧ k ≠ g) ∧ ok g ∧ base ≤ g := by
  obtain ⟨f, hR⟩ := h
  have hn := (Kd.R_reads' hR).1
  have hc := (Kd.R_reads' hR).2.1
  have hb := Kd.R_base hR g (by simp [Value.ownBlock])
  rw [List.length_zipIdx] at hn
  have hgo : some g = (Value.slice (some ⟨g, 0, none⟩) n cap).ownBlock := by simp [Value.ownBlock]
  obtain ⟨hok0, inner, ho, hr⟩ := hR
  have hlen : inner.length = xs.length * 5 := by have := hr.1; rw [List.length_zipIdx] at this; exact this
  have hkg : ∀ k, some k ≠ (Value.slice (some ⟨g, 0, none⟩) n cap).ownBlock → k ≠ g := fun k hk he => hk (by rw [he]; exact hgo)
  refine ⟨(List.range xs.length).map fun j => (inner.drop (j * 5)).take 5, fun j k => (ok k ∧ k ≠ g) ∧ f k = j, by rw [List.length_map, List.length_range, hn], hn.symm, hc, ⟨fun _ _ => trivial, inner, ?_, ?_, fun j p hj => ?_⟩, fun j x c hx hcj => ?_, fun i j k h1 h2 => h1.2.symm.trans h2.2, fun j k h => h.1, hok0 g hgo.symm, hb⟩
  · rw [List.length_map, List.length_range]; rw [List.length_zipIdx] at ho; exact ho
  · rw [List.length_map, List.length_range]; exact hlen
  · rw [List.getElem?_map] at hj
    obtain ⟨j', hj', rfl⟩ := Option.map_eq_some_iff.1 hj
    obtain ⟨hl, he⟩ := List.getElem?_eq_some_iff.1 hj'
    rw [List.getElem_range] at he
    subst he
    rw [List.length_range] at hl
    have hm := (Kd.tag f k90).K_of_M (hr.2 j _ (Kd.zip_at (List.getElem?_eq_getElem hl)))
    exact ⟨rfl, (Kd.tag f k90).K_len hm, (Kd.tag f k90).K_one hm⟩
  · have hjl := (List.getElem?_eq_some_iff.1 hx).1
    rw [List.getElem?_map, List.getElem?_range hjl] at hcj
    obtain rfl := Option.some.inj hcj
    exact k90.M_mono (fun k hk => ⟨⟨hk.1.1, hkg k hk.1.2⟩, hk.2⟩) (hr.2 j _ (Kd.zip_at hx))
/-- .. and back. -/
theorem raw_S {W : World} {base g m cap : Nat} {ok : Nat → Prop} {ys : List S90} {rows : List (List Value)} (h : (Kd.raw 5).R 90 W base (fun _ => True) (.slice (some ⟨g, 0, none⟩) m cap) rows) (hl : ys.length = rows.length) (okj : Nat → Nat → Prop)
    (hM : ∀ j x c, ys[j]? = some x → rows[j]? = some c → k90.M W base (okj j) x c) (hap : ∀ i j k, okj i k → okj j k → i = j) (hok : ∀ j k, okj j k → ok k ∧ k ≠ g) (hg : ok g) : Kd.S k90 90 W base ok (.slice (some ⟨g, 0, none⟩) m cap) ys := by
  obtain ⟨_, inner, ho, hr⟩ := h
  have hgo : (Value.slice (some ⟨g, 0, none⟩) m cap).ownBlock = some g := by simp [Value.ownBlock]
  obtain ⟨f, hf⟩ := Kd.reps_tag (d := k90) (w := W) (base := base) (ok := fun k => ok k ∧ some k ≠ (Value.slice (some ⟨g, 0, none⟩) m cap).ownBlock) (xs := ys) (inner := inner) okj hap
    (fun j k hk => ⟨(hok j k hk).1, by rw [hgo]; intro e; injection e with e; exact (hok j k hk).2 e⟩) (by rw [hl]; exact hr.1) (fun j x hx => by
      have hjl := (List.getElem?_eq_some_iff.1 hx).1
      have hc := hr.2 j _ (List.getElem?_eq_getElem (by omega : j < rows.length))
      have e : (inner.drop (j * 5)).take 5 = rows[j]'(by omega) := hc.1
      show k90.M W base (okj j) x ((inner.drop (j * 5)).take 5)
      rw [e]
      exact hM j x _ hx (List.getElem?_eq_getElem (by omega)))
  exact ⟨f, fun k hk => by rw [hgo] at hk; injection hk with hk; exact hk ▸ hg, inner, by rw [List.length_zipIdx, hl]; exact ho, hf⟩
/-- The front of a row stays while cells behind it are written. -/
theorem raw_front {W : World} {base g n cap m o : Nat} {rows : List (List Value)} (h : (Kd.raw 5).R 90 W base (fun _ => True) (.slice (some ⟨g, 0, none⟩) n cap) rows) (hm : m ≤ n) (vs : List Value) (ho : m * 5 ≤ o) (hfit : o + vs.length ≤ cap * 5) :
    (Kd.raw 5).R 90 (W.setCells g o vs) base (fun _ => True) (.slice (some ⟨g, 0, none⟩) m cap) (rows.take m) := by
  have hn := (Kd.R_reads' h).1
  obtain ⟨h0, inner, hown, hr⟩ := Kd.R_take (m := m) h (by omega)
  refine ⟨fun _ _ => trivial, inner, ?_, hr⟩
  obtain ⟨h1, h2⟩ := hown
  rcases h2 with ⟨hv, _⟩ | ⟨g', cap', cur, hv, hb, hh, hnc, hcm, hcs, ht⟩
  · cases hv
  · injection hv with ha _ hc
    injection ha with ha
    injection ha with hg
    subst hg; subst hc
    obtain ⟨cur', h3, h4, h5⟩ := setCells_row vs o W cur hh (by have : (Kd.raw 5).sz = 5 := rfl; rw [hcs, this]; exact hfit)
    have e5 : (Kd.raw 5).sz = 5 := rfl
    have hl2 : (rows.take m).length = m := by rw [List.length_take]; omega
    refine ⟨h1, .inr ⟨g, cap, cur', by rw [hl2], hb, h3, hnc, hcm, by rw [h4, hcs], ?_⟩⟩
    rw [hl2, e5] at ht ⊢
    have hmc : m * 5 ≤ cap * 5 := Nat.mul_le_mul_right _ (by rw [hl2] at hnc; exact hnc)
    have hlt : m * 5 ≤ (cur.toList.take o).length := by rw [List.length_take, Array.length_toList, hcs, e5]; omega
    rw [h5, List.append_assoc, List.take_append_of_le_length hlt, List.take_take, Nat.min_eq_left ho]
    exact ht
theorem run_clear5 (w : World) (t e ty : TypeId) (z : Value) (ht : Try.prog.underlying t = some (.slice e)) (hv : ∀ w, (zeroValue e).run Try.prog w = .ok z w) (b o n c : Nat) (hn : 0 < n) (zc : List Value)
    (hz : (Builtin.zeroCells z.cells n).toList = zc) (h1 : ∀ v ∈ zc, v.oneCell' = true)
    (hc : ∀ j, j < zc.length → (w.cell? ⟨b, o + j, none⟩).isSome = true) (hf : ∀ j, j < zc.length → w.frozen? ⟨b, o + j, none⟩ = false) :
    (Builtin.clear_ #[t] ty #[.slice (some ⟨b, o, none⟩) n c]).run Try.prog w = .ok (.tuple #[]) (w.setCells b o zc) := by
  have hst := run_storeCells_cells (P := Try.prog) b o zc 0 w (by simpa using hc) (by simpa using hf) h1
  simp only [Nat.add_zero] at hst
  obtain ⟨m, rfl⟩ : ∃ m, n = m + 1 := ⟨n - 1, by omega⟩
  simp [Builtin.clear_, run_underlying ht, hv, hz, hst]
abbrev EntryZ : Value := .agg #[.string ⟨#[]⟩, .int .i64 0, .int .i64 0, .string ⟨#[]⟩, .slice none 0 0]
theorem zero_one (n : Nat) : ∀ v ∈ (Builtin.zeroCells EntryZ.cells n).toList, v.oneCell' = true := by
  intro v hv
  simp only [Builtin.zeroCells, Array.toList_map, List.mem_map] at hv
  obtain ⟨i, _, rfl⟩ := hv
  have hs : EntryZ.cells.size = 5 := by simp [EntryZ, Value.cells]
  rw [hs]
  have hi : i % 5 < 5 := Nat.mod_lt _ (by omega)
  generalize i % 5 = q at hi
  have : EntryZ.cells = #[.string ⟨#[]⟩, .int .i64 0, .int .i64 0, .string ⟨#[]⟩, .slice none 0 0] := by simp [EntryZ, Value.cells]
  rw [this]
  rcases q with _ | _ | _ | _ | _ | q <;> first | rfl | omega
/-- Which elements are kept of the first j. -/
def keptIdx (p : S90 → Bool) (xs : List S90) (j : Nat) : List Nat := (List.range j).filter fun q => !p (rd_T90 xs q)
theorem keptIdx_succ (p : S90 → Bool) (xs : List S90) (j : Nat) : keptIdx p xs (j + 1) = keptIdx p xs j ++ (if p (rd_T90 xs j) = true then [] else [j]) := by
  unfold keptIdx
  rw [List.range_succ, List.filter_append]
  congr 1
  cases h : p (rd_T90 xs j) <;> simp [h]
theorem keptIdx_all (p : S90 → Bool) (xs : List S90) : ∀ (j : Nat), (∀ q, q < j → p (rd_T90 xs q) = false) → keptIdx p xs j = List.range j
  | 0, _ => rfl
  | j + 1, h => by rw [keptIdx_succ, keptIdx_all p xs j (fun q hq => h q (by omega)), h j (by omega), List.range_succ]; rfl
theorem keptIdx_lt (p : S90 → Bool) (xs : List S90) (j : Nat) : ∀ q ∈ keptIdx p xs j, q < j := fun q hq => List.mem_range.1 (List.mem_filter.1 hq).1
theorem keptIdx_len (p : S90 → Bool) (xs : List S90) (j : Nat) : (keptIdx p xs j).length ≤ j := by
  have := List.length_filter_le (fun q : Nat => !p (rd_T90 xs q)) (List.range j)
  rwa [List.length_range] at this
theorem keptIdx_nodup (p : S90 → Bool) (xs : List S90) (j : Nat) : (keptIdx p xs j).Nodup := List.Pairwise.filter _ List.nodup_range
theorem rd_nat {xs : List S90} {j : Nat} {x : S90} (h : xs[j]? = some x) : rd_T90 xs (j : Int) = x := by unfold rd_T90; rw [Int.toNat_natCast]; exact getD_at h
theorem range_rd (xs : List S90) : (List.range xs.length).map (fun q : Nat => rd_T90 xs (q : Int)) = xs := by
  apply List.ext_getElem?
  intro j
  rw [List.getElem?_map]
  by_cases h : j < xs.length
  · rw [List.getElem?_range h, List.getElem?_eq_getElem h, Option.map_some, rd_nat (List.getElem?_eq_getElem h)]
  · rw [List.getElem?_eq_none (by simpa using Nat.le_of_not_lt h), List.getElem?_eq_none (Nat.le_of_not_lt h)]; rfl
theorem keptIdx_filter (p : S90 → Bool) (xs : List S90) : (keptIdx p xs xs.length).map (fun q : Nat => rd_T90 xs (q : Int)) = xs.filter (fun x => !p x) := by
  conv => rhs; rw [← range_rd xs, List.filter_map]
  rfl
theorem idxFrom_cases (p : S90 → Bool) (xs : List S90) : ∀ (d i : Nat), i + d = xs.length → (∀ q, q < i → p (rd_T90 xs q) = false) →
    (idxFrom p (xs.drop i) i = -1 ∧ ∀ q, q < xs.length → p (rd_T90 xs q) = false) ∨ ∃ j : Nat, j < xs.length ∧ idxFrom p (xs.drop i) i = j ∧ p (rd_T90 xs j) = true ∧ ∀ q, q < j → p (rd_T90 xs q) = false := by
  intro d
  induction d with
  | zero => intro i hi h; left; rw [List.drop_of_length_le (by omega)]; exact ⟨rfl, fun q hq => h q (by omega)⟩
  | succ d ih =>
    intro i hi h
    rw [idx_step (by omega)]
    by_cases hp : p (rd_T90 xs i) = true
    · right; rw [if_pos hp]; exact ⟨i, by omega, rfl, hp, h⟩
    · rw [if_neg hp]
      exact ih (i + 1) (by omega) (fun q hq => by
        by_cases hqi : q = i
        · subst hqi; simpa using hp
        · exact h q (by omega))
/-- The row while slices.DeleteFunc works: i are kept of the first j, the rest is as it was. -/
structure DInv (p : S90 → Bool) (xs : List S90) (rows : List (List Value)) (w0 w W : World) (g n cap i j : Nat) (cur : List (List Value)) : Prop where
  raw : (Kd.raw 5).R 90 W w0.heap.size (fun _ => True) (.slice (some ⟨g, 0, none⟩) n cap) cur
  len : cur.length = n
  ie : i = (keptIdx p xs j).length
  lt : i < j
  front : cur.take i = (keptIdx p xs j).map (fun q => rows.getD q [])
  back : cur.drop j = rows.drop j
  B : Below w0.heap.size w0 W
  K : Kept w W (fun k => k = g)
section
variable {p : S90 → Bool} {xs : List S90} {rows : List (List Value)} {w0 w W W1 : World} {g n cap i j : Nat} {cur : List (List Value)}
theorem DInv.ge (h : DInv p xs rows w0 w W g n cap i j cur) : w0.heap.size ≤ g ∧ g < W.heap.size := ⟨Kd.R_base h.raw g (by simp [Value.ownBlock]), Kd.R_lt h.raw g (by simp [Value.ownBlock])⟩
theorem DInv.move (h : DInv p xs rows w0 w W g n cap i j cur) (hg : W1.heap[g]? = W.heap[g]?) (hB : Below w0.heap.size w0 W1) (hK : Kept w W1 (fun k => k = g)) : DInv p xs rows w0 w W1 g n cap i j cur :=
  ⟨Kd.R_mono (Kd.R_move (Kd.R_tight rfl h.raw) (fun k hk => by simp [Value.ownBlock] at hk; subst hk; exact hg)) (fun _ _ => trivial), h.len, h.ie, h.lt, h.front, h.back, hB, hK⟩
theorem DInv.below (h : DInv p xs rows w0 w W g n cap i j cur) (hb : Below W.heap.size W W1) : DInv p xs rows w0 w W1 g n cap i j cur := h.move (hb.block g h.ge.2) (below_step h.B hb) (h.K.below hb)
theorem DInv.slot (h : DInv p xs rows w0 w W g n cap i j cur) {m : Nat} (hm : m < n) : (∀ q u, (cur.getD m [])[q]? = some u → W.cell? ⟨g, m * 5 + q, none⟩ = some u) ∧ (cur.getD m []).length = 5 ∧ ∀ q, W.frozen? ⟨g, m * 5 + q, none⟩ = false := by
  obtain ⟨c, hcl, hM, hcc, hfr⟩ := Kd.R_elem h.raw [] (m : Int) (by omega) (by omega)
  rw [Int.toNat_natCast] at hM hcc hfr
  have e : c = cur.getD m [] := hM.1
  rw [← e]
  exact ⟨hcc, hcl, hfr⟩
theorem DInv.slots (h : DInv p xs rows w0 w W g n cap i j cur) {m : Nat} (hm : m < n) : ∃ q0 q1 q2 q3 q4, W.cell? ⟨g, m * 5, none⟩ = some q0 ∧ W.cell? ⟨g, m * 5 + 1, none⟩ = some q1 ∧ W.cell? ⟨g, m * 5 + 2, none⟩ = some q2 ∧ W.cell? ⟨g, m * 5 + 3, none⟩ = some q3 ∧ W.cell? ⟨g, m * 5 + 4, none⟩ = some q4 ∧
    W.frozen? ⟨g, m * 5, none⟩ = false ∧ W.frozen? ⟨g, m * 5 + 1, none⟩ = false ∧ W.frozen? ⟨g, m * 5 + 2, none⟩ = false ∧ W.frozen? ⟨g, m * 5 + 3, none⟩ = false ∧ W.frozen? ⟨g, m * 5 + 4, none⟩ = false := by
  obtain ⟨hcc, hcl, hfr⟩ := h.slot hm
  exact ⟨_, _, _, _, _, hcc 0 _ (List.getElem?_eq_getElem (by omega)), hcc 1 _ (List.getElem?_eq_getElem (by omega)), hcc 2 _ (List.getElem?_eq_getElem (by omega)), hcc 3 _ (List.getElem?_eq_getElem (by omega)), hcc 4 _ (List.getElem?_eq_getElem (by omega)), hfr 0, hfr 1, hfr 2, hfr 3, hfr 4⟩
theorem DInv.at_j (h : DInv p xs rows w0 w W g n cap i j cur) (hj : j < n) : cur.getD j [] = rows.getD j [] := by
  have h1 : cur[j]? = rows[j]? := by
    have := congrArg (fun z => z[0]?) h.back
    simpa using this
  rw [List.getD_eq_getElem?_getD, List.getD_eq_getElem?_getD, h1]
theorem DInv.skip (h : DInv p xs rows w0 w W g n cap i j cur) (hp : p (rd_T90 xs j) = true) : DInv p xs rows w0 w W g n cap i (j + 1) cur := by
  have e : keptIdx p xs (j + 1) = keptIdx p xs j := by rw [keptIdx_succ, if_pos hp, List.append_nil]
  refine ⟨h.raw, h.len, by rw [e]; exact h.ie, by have := h.lt; omega, by rw [e]; exact h.front, ?_, h.B, h.K⟩
  rw [← List.drop_drop, h.back, List.drop_drop]
/-- A block made since: the row stays. -/
theorem DInv.made {b : Nat} (h : DInv p xs rows w0 w W g n cap i j cur) (hb : Below w0.heap.size w0 W1) (hK : Kept W W1 (fun k => k = b)) (hge : W.heap.size ≤ b) : DInv p xs rows w0 w W1 g n cap i j cur :=
  h.move (hK.2 g h.ge.2 (fun e => by have := h.ge.2; omega)) hb (h.K.then_ hK (fun k hk => .inr (by have := h.K.1; omega)))
theorem nodup_inj {α : Type} {l : List α} (h : l.Nodup) {i j : Nat} (hi : i < l.length) (hj : j < l.length) (e : l[i] = l[j]) : i = j := by
  rcases Nat.lt_trichotomy i j with h1 | h1 | h1
  · exact absurd e (List.pairwise_iff_getElem.1 h i j hi hj h1)
  · exact h1
  · exact absurd e.symm (List.pairwise_iff_getElem.1 h j i hj hi h1)
theorem take_put {α : Type} : ∀ (l : List α) (i : Nat) (x : α), i < l.length → (l.set i x).take (i + 1) = l.take i ++ [x]
  | [], i, x, h => absurd h (by simp)
  | y :: l, 0, x, _ => by simp
  | y :: l, i + 1, x, h => by
    rw [List.set_cons_succ, List.take_succ_cons, List.take_succ_cons, take_put l i x (by simpa using h), List.cons_append]
theorem DInv.keep (h : DInv p xs rows w0 w W g n cap i j cur) (hj : j < n) (hp : p (rd_T90 xs j) = false) {c : List Value} (hc : rows.getD j [] = c) (hc5 : c.length = 5) (h1 : ∀ u ∈ c, u.oneCell' = true) :
    DInv p xs rows w0 w (W.setCells g (i * 5) c) g n cap (i + 1) (j + 1) (cur.set i c) := by
  have hi : i < n := by have := h.lt; omega
  obtain ⟨c0, hcl, hM, hcc, hfr⟩ := Kd.R_elem h.raw [] (i : Int) (by omega) (by omega)
  obtain ⟨hraw, hg⟩ := Kd.R_seg h.raw (i : Int) (by omega) (by omega) (c := c0) (seg := c) (j := 0) (x' := c) (okp := fun _ => False) hcl hcc (by rw [hc5]; exact Nat.le_refl _)
    (by
      have e : c0.take 0 ++ c ++ c0.drop (0 + c.length) = c := by rw [List.take_zero, List.nil_append, List.drop_of_length_le (by rw [hcl, hc5]; exact Nat.le_refl _), List.append_nil]
      rw [e]; exact ⟨rfl, hc5, h1⟩) (fun _ hk => hk.elim)
  rw [show ((i : Int).toNat * (Kd.raw 5).sz + 0) = i * 5 from by rw [Int.toNat_natCast]; rfl] at hraw hg
  rw [Int.toNat_natCast] at hraw
  have e : keptIdx p xs (j + 1) = keptIdx p xs j ++ [j] := by rw [keptIdx_succ, hp, if_neg (by decide)]
  refine ⟨hraw, by rw [List.length_set]; exact h.len, by rw [e, List.length_append, ← h.ie]; rfl, by have := h.lt; omega, ?_, ?_, ⟨hg.os.trans h.B.os, hg.tape.trans h.B.tape, hg.output.trans h.B.output, Nat.le_trans h.B.size hg.size, fun k hk => (hg.block k (Nat.lt_of_lt_of_le hk h.B.size) (fun e => by injection e with e; have := h.ge.1; omega)).trans (h.B.block k hk)⟩, Kept.of_grown hg h.K (fun k e => .inl (by injection e with e; exact e.symm))⟩
  · rw [take_put _ _ _ (by rw [h.len]; exact hi), h.front, e, List.map_append, List.map_cons, List.map_nil, hc]
  · rw [List.drop_set_of_lt (by have := h.lt; omega), ← List.drop_drop, h.back, List.drop_drop]
/-- At the end: the kept elements, apart. -/
theorem DInv.fin {okj : Nat → Nat → Prop} {ok : Nat → Prop} {z : List Value} (h : DInv p xs rows w0 w W g n cap i n cur) (hx : xs.length = n) (hr : rows.length = n) (hnc : n ≤ cap) (hM : ∀ j x c, xs[j]? = some x → rows[j]? = some c → k90.M w w0.heap.size (okj j) x c) (hap : ∀ i j k, okj i k → okj j k → i = j) (hok : ∀ j k, okj j k → ok k ∧ k ≠ g) (hg : ok g) (hz : i * 5 + z.length ≤ cap * 5) :
    i = (xs.filter fun x => !p x).length ∧ Kd.S k90 90 (W.setCells g (i * 5) z) w0.heap.size ok (.slice (some ⟨g, 0, none⟩) i cap) (xs.filter fun x => !p x) ∧ Below w0.heap.size w0 (W.setCells g (i * 5) z) := by
  have hi : i < n := h.lt
  have ef := keptIdx_filter p xs
  rw [hx] at ef
  have el : i = (xs.filter fun x => !p x).length := by rw [← ef, List.length_map]; exact h.ie
  have hfar : ∀ k, k ≠ g → (W.setCells g (i * 5) z).heap[k]? = W.heap[k]? := fun k hk => setCells_far z _ k hk
  obtain ⟨s1, s2, s3, s4⟩ := setCells_same g z (i * 5) W
  refine ⟨el, ?_, ⟨s1.trans h.B.os, s2.trans h.B.tape, s3.trans h.B.output, by rw [s4]; exact h.B.size, fun k hk => (hfar k (by have := h.ge.1; omega)).trans (h.B.block k hk)⟩⟩
  have hraw := raw_front h.raw (m := i) (by omega) z (Nat.le_refl _) hz
  rw [h.front] at hraw
  refine raw_S hraw (by rw [← el, List.length_map]; exact h.ie) (fun r k => ∃ q, (keptIdx p xs n)[r]? = some q ∧ okj q k) (fun r x c hxr hcr => ?_) (fun r s k h1 h2 => ?_) (fun r k hk => by obtain ⟨q, _, hq⟩ := hk; exact hok q k hq) hg
  · rw [← ef, List.getElem?_map] at hxr
    rw [List.getElem?_map] at hcr
    obtain ⟨q, hq, rfl⟩ := Option.map_eq_some_iff.1 hxr
    rw [hq] at hcr
    obtain rfl := Option.some.inj hcr
    have hqn : q < n := keptIdx_lt p xs n q (List.mem_of_getElem? hq)
    have hxq : xs[q]? = some (xs[q]'(by omega)) := List.getElem?_eq_getElem (by omega)
    have hrq : rows[q]? = some (rows[q]'(by omega)) := List.getElem?_eq_getElem (by omega)
    show k90.M _ _ _ (rd_T90 xs (q : Int)) (rows.getD q [])
    rw [rd_nat hxq, getD_at hrq]
    exact Kd.M_step (k90.M_mono (fun k hk => ⟨q, hq, hk⟩) (hM q _ _ hxq hrq)) (fun k hk hlt => by
      obtain ⟨q', _, hq'⟩ := hk
      have hkg := (hok q' k hq').2
      exact (hfar k hkg).trans (h.K.2 k hlt hkg))
  · obtain ⟨q1, e1, o1⟩ := h1
    obtain ⟨q2, e2, o2⟩ := h2
    have := hap q1 q2 k o1 o2
    subst this
    obtain ⟨l1, g1⟩ := List.getElem?_eq_some_iff.1 e1
    obtain ⟨l2, g2⟩ := List.getElem?_eq_some_iff.1 e2
    exact nodup_inj (keptIdx_nodup p xs n) l1 l2 (g1.trans g2.symm)
end
abbrev EntC : Array Value := #[.string ⟨#[]⟩, .int .i64 0, .int .i64 0, .string ⟨#[]⟩, .slice none 0 0]
def put5 (W : World) (b o : Nat) (s0 : ByteArray) (a1 a2 : Int) (s3 : ByteArray) (v4 : Value) : World :=
  ((((W.setCell ⟨b, o, none⟩ (.string s0)).setCell ⟨b, o + 1, none⟩ (.int .i64 a1)).setCell ⟨b, o + 2, none⟩ (.int .i64 a2)).setCell ⟨b, o + 3, none⟩ (.string s3)).setCell ⟨b, o + 4, none⟩ v4
theorem put5_cells (W : World) (b o : Nat) (s0 : ByteArray) (a1 a2 : Int) (s3 : ByteArray) (v4 : Value) : put5 W b o s0 a1 a2 s3 v4 = W.setCells b o [.string s0, .int .i64 a1, .int .i64 a2, .string s3, v4] := rfl
theorem put5_box {W : World} {b : Nat} {s0 : ByteArray} {a1 a2 : Int} {s3 : ByteArray} {v4 : Value} (h : W.heap[b]? = some (.cells EntC 90 (0, 0))) : (put5 W b 0 s0 a1 a2 s3 v4).heap[b]? = some (.cells #[.string s0, .int .i64 a1, .int .i64 a2, .string s3, v4] 90 (0, 0)) := by
  refine blk_put (cs := #[.string s0, .int .i64 a1, .int .i64 a2, .string s3, .slice none 0 0]) ?_ 4 _ rfl
  refine blk_put (cs := #[.string s0, .int .i64 a1, .int .i64 a2, .string ⟨#[]⟩, .slice none 0 0]) ?_ 3 _ rfl
  refine blk_put (cs := #[.string s0, .int .i64 a1, .int .i64 0, .string ⟨#[]⟩, .slice none 0 0]) ?_ 2 _ rfl
  refine blk_put (cs := #[.string s0, .int .i64 0, .int .i64 0, .string ⟨#[]⟩, .slice none 0 0]) ?_ 1 _ rfl
  exact blk_put (cs := EntC) h 0 _ rfl
theorem put5_kept {W : World} {b o : Nat} {s0 : ByteArray} {a1 a2 : Int} {s3 : ByteArray} {v4 : Value} : Kept W (put5 W b o s0 a1 a2 s3 v4) (fun k => k = b) :=
  Kept.setCell (S := fun k => k = b) (p := ⟨b, o + 4, none⟩) (Kept.setCell (S := fun k => k = b) (p := ⟨b, o + 3, none⟩) (Kept.setCell (S := fun k => k = b) (p := ⟨b, o + 2, none⟩) (Kept.setCell (S := fun k => k = b) (p := ⟨b, o + 1, none⟩) (Kept.setCell (S := fun k => k = b) (p := ⟨b, o, none⟩) (Kept.refl W _) (.inl rfl) _) (.inl rfl) _) (.inl rfl) _) (.inl rfl) _) (.inl rfl) _
theorem put5_below {w0 W : World} {b o : Nat} {s0 : ByteArray} {a1 a2 : Int} {s3 : ByteArray} {v4 : Value} (h : Below w0.heap.size w0 W) (hb : w0.heap.size ≤ b) : Below w0.heap.size w0 (put5 W b o s0 a1 a2 s3 v4) :=
  below_set (below_set (below_set (below_set (below_set h hb) hb) hb) hb) hb
set_option maxHeartbeats 8000000 in
set_option maxRecDepth 100000 in
theorem slices_DeleteFunc_some (p : S90 → Bool) (gf : Nat) (lb : Array Value) (eg : ∀ args w, (callFunc gf args).run Try.prog w = .ok (.enter gf args) w) (g n cap : Nat) (xs : List S90) (w0 w : World) (ok : Nat → Prop) (hB : Below w0.heap.size w0 w)
    (hS : Kd.S k90 90 w w0.heap.size ok (.slice (some ⟨g, 0, none⟩) n cap) xs)
    (hp : ∀ (W : World) (x : S90) (A4 : Option Addr) (c4 : Nat), Kept w W (fun k => k = g) → Calls Try.prog gf (#[.agg #[.string x.f0, .int .i64 x.f1.f0, .int .i64 x.f1.f1, .string x.f1.f2, .slice A4 x.f1.f3.length c4]] ++ lb) W fun e w' => e = .returned (.bool (p x)) ∧ Below W.heap.size W w') :
    Calls Try.prog 102 #[.slice (some ⟨g, 0, none⟩) n cap, .func (.func gf) #[] lb] w fun e w' => e = .returned (.slice (some ⟨g, 0, none⟩) (xs.filter fun x => !p x).length cap) ∧
      Kd.S k90 90 w' w0.heap.size ok (.slice (some ⟨g, 0, none⟩) (xs.filter fun x => !p x).length cap) (xs.filter fun x => !p x) ∧ Below w0.heap.size w0 w' := by
  have huE := Try.underlying90
  have huV := Try.underlying75
  obtain ⟨hn, hnc, hC⟩ := Kd.S_reads' hS
  have hmx : n ≤ 9223372036854775807 := by have := hC.2.1; omega
  have e6 : ∀ args w, (callFunc 95 args).run Try.prog w = .ok (.enter 95 args) w := enters_of Try.func95 (by kernel_rfl) rfl
  have hIF := slices_IndexFunc95 p gf lb eg (some ⟨g, 0, none⟩) cap xs w hC (fun W x A4 c4 hb => (hp W x A4 c4 (Kept.of_below hb _)).mono (fun e w' h => ⟨h.1, below_step hb h.2⟩))
  rw [← hn] at hIF
  rcases idxFrom_cases p xs xs.length 0 (by omega) (fun q hq => absurd hq (Nat.not_lt_zero _)) with ⟨e1, hall⟩ | ⟨k0, hk0, e1, ht, hall⟩
  · rw [List.drop_zero, show ((0 : Nat) : Int) = 0 from rfl] at e1
    rw [e1] at hIF
    have hf : xs.filter (fun x => !p x) = xs := by
      rw [← keptIdx_filter p xs, keptIdx_all p xs xs.length hall, range_rd]
    rw [hf, ← hn]
    have HS := Aside0.mk hS
    have HB := Aside0.mk hB
    clear hS hp hC hall hf hB e1 hn
    go_enter Try.func102, Try.ntmps102
    go_wp2_with (go_at_fn 95; refine hIF.mono ?_; rintro e w' ⟨rfl, hb⟩)
    go_ret
    exact ⟨rfl, Kd.S_below HS.out hb, below_step HB.out hb⟩
  · rw [List.drop_zero, show ((0 : Nat) : Int) = 0 from rfl] at e1
    rw [e1] at hIF
    obtain ⟨rows, okj, hr, hx, -, hraw, hM, hap, hok, hg, hgb⟩ := S_raw hS
    have hne1 : ((k0 : Int) == -1) = false := beq_eq_false_iff_ne.2 (by omega)
    have H0 := Aside0.mk (show DInv p xs rows w0 w w g n cap k0 (k0 + 1) rows from ⟨hraw, hr, by rw [keptIdx_succ, if_pos ht, List.append_nil, keptIdx_all p xs k0 hall, List.length_range], Nat.lt_succ_self _, by
      rw [keptIdx_succ, if_pos ht, List.append_nil, keptIdx_all p xs k0 hall]
      apply List.ext_getElem?
      intro q
      rw [List.getElem?_take, List.getElem?_map]
      by_cases h : q < k0
      · rw [if_pos h, List.getElem?_range h, List.getElem?_eq_getElem (by omega : q < rows.length), Option.map_some, getD_at (List.getElem?_eq_getElem (by omega))]
      · rw [if_neg h, List.getElem?_eq_none (by simpa using Nat.le_of_not_lt h)]; rfl, rfl, hB, Kept.refl w _⟩)
    have HP := Aside0.mk hp
    have FIN := Aside0.mk (And.intro hM (And.intro hap (And.intro hok hg)))
    have hk1 : k0 + 1 ≤ n := by omega
    have hx' : xs.length = n := hx
    clear hS hp hC hall hB hM hap hok hg hraw hn e1 ht hx
    go_enter Try.func102, Try.ntmps102
    go_wp2_with (go_at_fn 95; refine hIF.mono ?_; rintro e w' ⟨rfl, hb⟩; have H1 := Aside0.mk (H0.out.below hb); clear hb H0)
    go_loopg [5, 6, 7] n (fun gg s5 s6 _ wr => ∃ (i j : Nat) (cur : List (List Value)), s5 = .int .i64 i ∧ s6 = .int .i64 j ∧ j ≤ n ∧ n - j ≤ gg ∧ Aside0 (DInv p xs rows w0 w wr g n cap i j cur))
    case atStart => exact ⟨k0, k0 + 1, rows, rfl, by go_num, hk1, by omega, H1⟩
    case round =>
      clear H1 hIF
      obtain ⟨i, j, cur, rfl, rfl, hjn, hgg, I⟩ := hrel
      by_cases hlt : j < n
      · have hltz : (j : Int) < (n : Int) := by omega
        have hin : i < n := by have := I.out.lt; omega
        have hiz : (i : Int) < (n : Int) := by omega
        obtain ⟨hcc, hcl, hfr⟩ := I.out.slot hlt
        rw [I.out.at_j hlt] at hcc
        obtain ⟨v4, ec, hR4⟩ := k90_openM (FIN.out.1 j _ _ (List.getElem?_eq_getElem (by omega : j < xs.length)) (List.getElem?_eq_getElem (by omega : j < rows.length)))
        have ex : rd_T90 xs (j : Int) = xs[j]'(by omega) := rd_nat (List.getElem?_eq_getElem (by omega))
        obtain ⟨A4, c4, rfl⟩ := Kd.R_slice hR4
        rw [← getD_at (z := []) (List.getElem?_eq_getElem (by omega : j < rows.length)), ← ex] at ec
        rw [ec] at hcc
        have EC := Aside0.mk ec
        clear hcl hfr hR4 ec ex
        have hx0 := hcc 0 _ rfl
        have hx1 := hcc 1 _ rfl
        have hx2 := hcc 2 _ rfl
        have hx3 := hcc 3 _ rfl
        have hx4 := hcc 4 _ rfl
        rw [Nat.add_zero] at hx0
        clear hcc
        have hpx := HP.out
        generalize hy : rd_T90 xs (j : Int) = y at hx0 hx1 hx2 hx3 hx4 EC
        have HY := Aside0.mk hy
        clear hy
        cases hq : p y with
        | true =>
          have HQ := Aside0.mk hq
          clear hpx hq
          go_wp2_with (first
            | ((with_reducible refine gate_dst (N := 7) rfl ?_); refine box_event ?hgA (N := 7) ?hdA (cs := EntC) (t := 90) ?hrA ?_; (case hdA => rfl); (case hgA => rfl); (case hrA => first | (go_simp; done) | (go_simp; rfl)); intro b7 hg7 W1 hbox hb; have hz0 := blk_cell hbox 0; have hz1 := blk_cell hbox 1; have hz2 := blk_cell hbox 2; have hz3 := blk_cell hbox 3; have hz4 := blk_cell hbox 4; have hf0 := blk_frozen hbox 0; have hf1 := blk_frozen hbox 1; have hf2 := blk_frozen hbox 2; have hf3 := blk_frozen hbox 3; have hf4 := blk_frozen hbox 4; have I1 := Aside0.mk (I.out.below hb); have B1 := Aside0.mk (And.intro hbox (And.intro (show wr.heap.size ≤ b7 by rw [hg7]; exact Nat.le_refl _) hb)); clear hbox hb hg7)
            | ((with_reducible refine gate_store (t := 90) (p := 7) rfl ?_); refine store_event (t := 90) (p := 7) (v := ?vo7) (w1 := put5 W1 b7 0 y.f0 y.f1.f0 y.f1.f1 y.f1.f2 (.slice A4 y.f1.f3.length c4)) ?hg ?ho ?hn ?hr ?_; (case ho => rfl); (case hg => rfl); (case hn => rfl); (case hr => unfold put5; first | (go_simp; done) | (go_simp; rfl)); intro W2 hw; have hk2 : Kept W1 W2 (fun k => k = b7) := (by rw [hw]; exact put5_kept); have hbx := (show W2.heap[b7]? = some (.cells #[.string y.f0, .int .i64 y.f1.f0, .int .i64 y.f1.f1, .string y.f1.f2, .slice A4 y.f1.f3.length c4] 90 (0, 0)) by rw [hw]; exact put5_box B1.out.1); have hB2 : Below w0.heap.size w0 W2 := (by rw [hw]; exact put5_below I1.out.B (by have := I.out.ge; have := B1.out.2.1; omega)); have I2 := Aside0.mk (show DInv p xs rows w0 w W2 g n cap i j cur from I1.out.move (hk2.2 g I1.out.ge.2 (by have := I.out.ge; have := B1.out.2.1; omega)) hB2 (I1.out.K.then_ hk2 (fun k hk => .inr (by have := I.out.K.1; have := B1.out.2.1; omega)))); have B2 := Aside0.mk hbx; have hu0 := (blk_cell hbx 0).trans rfl; have hu1 := (blk_cell hbx 1).trans rfl; have hu2 := (blk_cell hbx 2).trans rfl; have hu3 := (blk_cell hbx 3).trans rfl; have hu4 := (blk_cell hbx 4).trans rfl; clear hk2 hbx hB2 hw hz0 hz1 hz2 hz3 hz4 hf0 hf1 hf2 hf3 hf4 B1 I1 hx0 hx1 hx2 hx3 hx4)
            | (go_at_fn gf; refine (HP.out W2 y A4 c4 I2.out.K).mono ?_; rintro e W3 ⟨rfl, hb⟩; rw [HQ.out]; have I3 := Aside0.mk (I2.out.below hb); have hb3 := blk_below B2.out hb; clear hb B2 I2 hu0 hu1 hu2 hu3 hu4 hb3))
          go_roundg (n - (j + 1))
          case measure => omega
          case rel => exact ⟨i, j + 1, cur, rfl, by go_num, by omega, by omega, ⟨I3.out.skip (by rw [HY.out]; exact HQ.out)⟩⟩
        | false =>
          have HQ := Aside0.mk hq
          clear hpx hq
          go_wp2_with (first
            | ((with_reducible refine gate_dst (N := 7) rfl ?_); refine box_event ?hgA (N := 7) ?hdA (cs := EntC) (t := 90) ?hrA ?_; (case hdA => rfl); (case hgA => rfl); (case hrA => first | (go_simp; done) | (go_simp; rfl)); intro b7 hg7 W1 hbox hb; have hz0 := blk_cell hbox 0; have hz1 := blk_cell hbox 1; have hz2 := blk_cell hbox 2; have hz3 := blk_cell hbox 3; have hz4 := blk_cell hbox 4; have hf0 := blk_frozen hbox 0; have hf1 := blk_frozen hbox 1; have hf2 := blk_frozen hbox 2; have hf3 := blk_frozen hbox 3; have hf4 := blk_frozen hbox 4; have I1 := Aside0.mk (I.out.below hb); have B1 := Aside0.mk (And.intro hbox (And.intro (show wr.heap.size ≤ b7 by rw [hg7]; exact Nat.le_refl _) hb)); clear hbox hb hg7)
            | ((with_reducible refine gate_store (t := 90) (p := 7) rfl ?_); refine store_event (t := 90) (p := 7) (v := ?vo7) (w1 := put5 W1 b7 0 y.f0 y.f1.f0 y.f1.f1 y.f1.f2 (.slice A4 y.f1.f3.length c4)) ?hg ?ho ?hn ?hr ?_; (case ho => rfl); (case hg => rfl); (case hn => rfl); (case hr => unfold put5; first | (go_simp; done) | (go_simp; rfl)); intro W2 hw; have hk2 : Kept W1 W2 (fun k => k = b7) := (by rw [hw]; exact put5_kept); have hbx := (show W2.heap[b7]? = some (.cells #[.string y.f0, .int .i64 y.f1.f0, .int .i64 y.f1.f1, .string y.f1.f2, .slice A4 y.f1.f3.length c4] 90 (0, 0)) by rw [hw]; exact put5_box B1.out.1); have hB2 : Below w0.heap.size w0 W2 := (by rw [hw]; exact put5_below I1.out.B (by have := I.out.ge; have := B1.out.2.1; omega)); have I2 := Aside0.mk (show DInv p xs rows w0 w W2 g n cap i j cur from I1.out.move (hk2.2 g I1.out.ge.2 (by have := I.out.ge; have := B1.out.2.1; omega)) hB2 (I1.out.K.then_ hk2 (fun k hk => .inr (by have := I.out.K.1; have := B1.out.2.1; omega)))); have B2 := Aside0.mk hbx; have hu0 := (blk_cell hbx 0).trans rfl; have hu1 := (blk_cell hbx 1).trans rfl; have hu2 := (blk_cell hbx 2).trans rfl; have hu3 := (blk_cell hbx 3).trans rfl; have hu4 := (blk_cell hbx 4).trans rfl; clear hk2 hbx hB2 hw hz0 hz1 hz2 hz3 hz4 hf0 hf1 hf2 hf3 hf4 B1 I1 hx0 hx1 hx2 hx3 hx4)
            | (go_at_fn gf; refine (HP.out W2 y A4 c4 I2.out.K).mono ?_; rintro e W3 ⟨rfl, hb⟩; rw [HQ.out]; have I3 := Aside0.mk (I2.out.below hb); have hb3 := blk_below B2.out hb; clear hb B2 I2 hu0 hu1 hu2 hu3 hu4; have hu0 := (blk_cell hb3 0).trans rfl; have hu1 := (blk_cell hb3 1).trans rfl; have hu2 := (blk_cell hb3 2).trans rfl; have hu3 := (blk_cell hb3 3).trans rfl; have hu4 := (blk_cell hb3 4).trans rfl; obtain ⟨q0, q1, q2, q3, q4, ho0, ho1, ho2, ho3, ho4, hf0, hf1, hf2, hf3, hf4⟩ := I3.out.slots hin; clear hb3)
            | ((with_reducible refine gate_store (t := 90) (p := 33) rfl ?_); refine store_event (t := 90) (p := 33) (v := ?vo33) (w1 := put5 W3 g (i * 5) y.f0 y.f1.f0 y.f1.f1 y.f1.f2 (.slice A4 y.f1.f3.length c4)) ?hg ?ho ?hn ?hr ?_; (case ho => rfl); (case hg => rfl); (case hn => rfl); (case hr => unfold put5; first | (go_simp; done) | (go_simp; rfl)); intro W4 hw; have I4 := Aside0.mk (show DInv p xs rows w0 w W4 g n cap (i + 1) (j + 1) (cur.set i [.string y.f0, .int .i64 y.f1.f0, .int .i64 y.f1.f1, .string y.f1.f2, .slice A4 y.f1.f3.length c4]) by rw [hw, put5_cells]; exact I3.out.keep hlt (by rw [HY.out]; exact HQ.out) EC.out rfl (by intro u hu; simp at hu; rcases hu with rfl | rfl | rfl | rfl | rfl <;> rfl)); clear hw hu0 hu1 hu2 hu3 hu4 ho0 ho1 ho2 ho3 ho4 hf0 hf1 hf2 hf3 hf4 I3))
          go_roundg (n - (j + 1))
          case measure => omega
          case rel => exact ⟨i + 1, j + 1, _, by go_num, by go_num, by omega, by omega, I4⟩
      · obtain rfl : j = n := by omega
        have hltz : ¬ (j : Int) < (j : Int) := by omega
        have hin : i < j := I.out.lt
        have hiz : (i : Int) ≤ (j : Int) := by omega
        have hic : ¬ (cap = i) := by omega
        have hic2 : ¬ (cap - i = 0) := by omega
        obtain ⟨zc, hzc⟩ : ∃ zc, zc = (Builtin.zeroCells EntryZ.cells (j - i)).toList := ⟨_, rfl⟩
        have hzl : zc.length = (j - i) * 5 := by rw [hzc, Array.length_toList, size_zeroCells]; simp [EntryZ, Value.cells]
        have hsl : ∀ q, q < zc.length → (wr.cell? ⟨g, i * 5 + q, none⟩).isSome = true ∧ wr.frozen? ⟨g, i * 5 + q, none⟩ = false := fun q hq => by
          have hm : i + q / 5 < j := by omega
          obtain ⟨hcc, hcl, hfr⟩ := I.out.slot hm
          have e : (i + q / 5) * 5 + q % 5 = i * 5 + q := by omega
          have h1 := hcc (q % 5) _ (List.getElem?_eq_getElem (by rw [hcl]; exact Nat.mod_lt _ (by omega)))
          have h2 := hfr (q % 5)
          rw [e] at h1 h2
          exact ⟨by rw [h1]; rfl, h2⟩
        have hcl : ∀ ty cc, (Builtin.clear_ #[78] ty #[.slice (some ⟨g, i * 5, none⟩) (j - i) cc]).run Try.prog wr = .ok (.tuple #[]) (wr.setCells g (i * 5) zc) := fun ty cc =>
          run_clear5 wr 78 90 ty _ Try.underlying78 Try.zeroValue90 g (i * 5) (j - i) cc (by omega) zc hzc.symm (by rw [hzc]; exact zero_one _) (fun q hq => (hsl q hq).1) (fun q hq => (hsl q hq).2)
        obtain ⟨f1, f2, f3⟩ := I.out.fin hx' hr hnc FIN.out.1 FIN.out.2.1 FIN.out.2.2.1 FIN.out.2.2.2 (z := zc) (by rw [hzl]; omega)
        have F := Aside0.mk (And.intro f1 (And.intro f2 f3))
        clear hzc hzl hsl f1 f2 f3
        go_wp2
        all_goals try (exfalso; first | (have h_ := of_decide_eq_true c4b0; omega) | (have h_ := of_decide_eq_false c4b0; omega))
        go_ret
        have e := F.out.1
        rw [← e]
        exact ⟨rfl, F.out.2.1, F.out.2.2⟩

/-! ### impl_copyTable: function 103 -/
def impl_copyTable.l0 : Nat → List (S90) → List (S90) → Int → Int → Option ((List (S90)))
  | 0, _, _, _, _ => none
  | k + 1, x3, x6, x7, x8 => if x8 < x7 then (if 0 ≤ x8 then (if x8 < (x6.length : Int) then ((impl_copyVal.f ((rd_T90 x6 x8).f1.f0) ((rd_T90 x6 x8).f1.f1) ((rd_T90 x6 x8).f1.f2) ((rd_T90 x6 x8).f1.f3)).bind fun bt143 => (if x3.length < 1954687338268 then (impl_copyTable.l0 k (x3 ++ [(⟨(rd_T90 x6 x8).f0, (⟨bt143.1, bt143.2.1, bt143.2.2.1, bt143.2.2.2⟩ : S75)⟩ : S90)]) x6 x7 (wrap64 (x8 + 1))) else (none))) else (none)) else (none)) else (some x3)
def impl_copyTable.f (k : Nat) (l0 : List (S90)) : Option ((List (S90))) := impl_copyTable.l0 k ([] : List (S90)) l0 (l0.length : Int) 0
theorem impl_copyTable.mono_l : ∀ k, (∀ y0 y1 y2 y3, LeO (impl_copyTable.l0 k y0 y1 y2 y3) (impl_copyTable.l0 (k + 1) y0 y1 y2 y3))
  | 0 => fun _ _ _ _ r h => by simp [impl_copyTable.l0] at h
  | k + 1 => by
    have ih0 := impl_copyTable.mono_l k
    · intro y0 y1 y2 y3
      unfold impl_copyTable.l0
      repeat' first
      | (with_reducible exact ih0 _ _ _ _)
      | (with_reducible exact LeO.refl _)
      | (with_reducible exact LeO.none _)
      | (with_reducible refine LeO.ite ?_ ?_)
      | (with_reducible refine LeO.bind ?_ (fun _ => ?_))
      | exact ih0 _ _ _ _
      | exact LeO.none _
      | refine LeO.ite ?_ ?_
      | refine LeO.bind ?_ (fun _ => ?_)
theorem impl_copyTable.mono : ∀ a0 k, LeO (impl_copyTable.f k a0) (impl_copyTable.f (k + 1) a0) := by
  intro a0 k
  have ih0 := impl_copyTable.mono_l k
  unfold impl_copyTable.f
  repeat' first
      | (with_reducible exact ih0 _ _ _ _)
      | (with_reducible exact LeO.refl _)
      | (with_reducible exact LeO.none _)
      | (with_reducible refine LeO.ite ?_ ?_)
      | (with_reducible refine LeO.bind ?_ (fun _ => ?_))
      | exact ih0 _ _ _ _
      | exact LeO.none _
      | refine LeO.ite ?_ ?_
      | refine LeO.bind ?_ (fun _ => ?_)
def impl_copyTable.T5 : Bool × List (List Nat × List Nat) := (true, [([], []), ([], []), ([1], [1]), ([], []), ([3], [3]), ([4], [4]), ([2, 5], [2, 5]), ([6], [6]), ([0, 7, 5], [0, 7]), ([8, 8, 0, 1, 2, 3, 4, 5, 6, 7, 8], [0, 8])])
def impl_copyTable.B5 : List Nat := [0, 0, 2, 0, 8, 24, 62, 126, 255, 511]
theorem impl_copyTable.tab5 : rtab .any (opsOf Try.f103 5) = impl_copyTable.T5 := by kernel_rfl
theorem impl_copyTable.bits5 : waitsOk impl_copyTable.T5.2 impl_copyTable.B5 = true := by kernel_rfl
set_option maxHeartbeats 8000000 in
set_option maxRecDepth 100000 in
theorem impl_copyTable.calls (k : Nat) (A0 : Option Addr) (c0 : Nat) (l0 : List (S90)) (r : List (S90)) (w : World) (hr0 : Kd.C k90 w A0 l0.length l0) (hc0 : l0.length ≤ c0) (h : impl_copyTable.f k l0 = some r) :
    Calls Try.prog 103 #[.slice A0 l0.length c0] w fun e w' => ∃ v0_ : Value, e = .returned (v0_) ∧ Kd.S k90 90 w' w.heap.size (fun _ => True) v0_ r ∧ Below w.heap.size w w' := by
  have hu90 := Try.underlying90
  have hu75 := Try.underlying75
  have HR0 := Aside0.mk hr0
  have HC0 := Aside0.mk hc0
  clear hr0 hc0
  have HB := Aside0.mk (Below.refl w.heap.size w)
  have H : (impl_copyTable.l0 k ([] : List (S90)) l0 (l0.length : Int) 0) = some r := h
  clear h
  have H' := Aside0.mk H
  clear H
  go_enter Try.func103, Try.ntmps103
  go_wp2
  go_loopg [3, 8] k (fun kq v3 v8 w' => ∃ (x3_1 : List (S90)) (x8_1 : Int), v8 = .int .i64 x8_1 ∧ Aside0 (impl_copyTable.l0 kq x3_1 l0 (l0.length : Int) x8_1 = some r) ∧ Aside0 (kq ≤ k) ∧ Aside0 (Kd.S k90 90 w' w.heap.size (fun _ => True) v3 x3_1) ∧ Aside0 (Below w.heap.size w w'))
  case atStart => exact ⟨(([] : List (S90))), (0), (by first | rfl | (simp; done) | (simp [*]; done)), H', ⟨Nat.le_refl _⟩, ⟨by first | exact Kd.S_nil _ _ _ _ _ | exact Kd.N_nil _ _ _ _ _ | exact Kd.V_nil _ _ _ _ _ | exact Kd.Q_nil _ _ _ _ _ | exact Kd.R_nil _ _ _ _ _⟩, ⟨by repeat (first | (with_reducible first | exact HB.out | apply below_alloc | apply pw_below_drewN | apply below_drew1) | exact HB.out)⟩⟩
  case round =>
    clear H'
    try clear c1
    obtain ⟨x3_1, x8_1, rfl, HA, HK1, HO_3, HB⟩ := hrel
    cases gk with
    | zero => exact absurd HA.out (by simp [impl_copyTable.l0])
    | succ k1 =>
      have H := HA.out
      clear HA
      simp only [impl_copyTable.l0] at H
      by_cases c2 : x8_1 < (l0.length : Int)
      · rw [if_pos c2] at H
        have c2b0 : decide (x8_1 < (l0.length : Int)) = true := decide_eq_true c2
        clear c2
        by_cases c3 : 0 ≤ x8_1
        · rw [if_pos c3] at H
          have c3b0 : decide (0 ≤ x8_1) = true := decide_eq_true c3
          clear c3
          by_cases c4 : x8_1 < (l0.length : Int)
          · rw [if_pos c4] at H
            have c4b0 : decide (x8_1 < (l0.length : Int)) = true := decide_eq_true c4
            clear c4
            replace H := Option.bind_eq_some_iff.mp H
            obtain ⟨⟨t143, t144, t145, t146⟩, A50, H⟩ := H
            replace H : (if x3_1.length < 1954687338268 then (impl_copyTable.l0 k1 (x3_1 ++ [(⟨(rd_T90 l0 x8_1).f0, (⟨t143, t144, t145, t146⟩ : S75)⟩ : S90)]) l0 (l0.length : Int) (wrap64 (x8_1 + 1))) else (none)) = some r := H
            have A5 := Aside0.mk A50
            clear A50
            by_cases c6 : x3_1.length < 1954687338268
            · rw [if_pos c6] at H
              have LMc6 := Aside0.mk c6
              clear c6
              obtain ⟨y149, hy149⟩ : ∃ y_ : List (S90), y_ = (x3_1 ++ [(⟨(rd_T90 l0 x8_1).f0, (⟨t143, t144, t145, t146⟩ : S75)⟩ : S90)]) := ⟨_, rfl⟩
              replace H : (impl_copyTable.l0 k1 y149 l0 (l0.length : Int) (wrap64 (x8_1 + 1))) = some r := by first | (rw [hy149]; with_reducible exact H) | (have H2_ := (Option.bind_some _ _).symm.trans H; rw [hy149]; with_reducible exact H2_) | (have H2_ := (Option.bind_some _ _).symm.trans H; with_reducible exact H2_) | with_reducible exact H | (rw [hy149]; exact H) | exact H
              have Ny149 := Aside0.mk hy149
              clear hy149
              have H' := Aside0.mk H
              clear H
              have p141 : 0 ≤ (x8_1 : Int) := of_decide_eq_true (by first | (with_reducible assumption) | assumption)
              have q141 : x8_1 < (l0.length : Int) := of_decide_eq_true (by first | (with_reducible assumption) | assumption)
              obtain ⟨ad141, A141_4, c141_4, e141, hx141_0, hx141_1, hx141_2, hx141_3, hx141_4, hl141_4, hi141_4⟩ := at_T90 HR0.out x8_1 p141 q141
              cases e141
              replace hx141_0 := (HB.out.cell (World.block_lt_of_cell? w _ hx141_0)).trans hx141_0
              replace hx141_1 := (HB.out.cell (World.block_lt_of_cell? w _ hx141_1)).trans hx141_1
              replace hx141_2 := (HB.out.cell (World.block_lt_of_cell? w _ hx141_2)).trans hx141_2
              replace hx141_3 := (HB.out.cell (World.block_lt_of_cell? w _ hx141_3)).trans hx141_3
              replace hx141_4 := (HB.out.cell (World.block_lt_of_cell? w _ hx141_4)).trans hx141_4
              have HR141_4 := Aside0.mk hi141_4
              have HC141_4 := Aside0.mk hl141_4
              clear hi141_4 hl141_4
              replace p141 := eq_true p141
              replace q141 := eq_true q141
              try go_wp2_with (first | ((with_reducible refine gate_dst (N := 5) rfl ?_); refine box_event ?hg (N := 5) ?hd (cs := #[.string (⟨#[]⟩ : ByteArray), .int .i64 0, .int .i64 0, .string (⟨#[]⟩ : ByteArray), .slice none 0 0]) (t := 90) ?hr ?_; (case hd => rfl); (case hg => rfl); (case hr => first | (go_simp; done) | (go_simp; rfl)); intro gb142 hg w7 hbox hb; have n0_ := Aside0.mk (Kd.S_below (Kd.S_elderB (by (with_reducible repeat (first | apply Kd.S_alloc | apply Kd.S_drewN | apply Kd.S_drew)); exact HO_3.out) gb142 (Nat.le_of_eq hg.symm)) hb); have n1_ := Aside0.mk (below_step (by repeat (first | (with_reducible first | exact HB.out | apply below_alloc | apply pw_below_drewN | apply below_drew1) | exact HB.out)) hb); have n2_ := Aside0.mk (hbox); have n3_ := Aside0.mk ((by rw [hg]; exact (below_size (by repeat (first | (with_reducible first | exact HB.out | apply below_alloc | apply pw_below_drewN | apply below_drew1) | exact HB.out))) : w.heap.size ≤ gb142)); have n4_ := Aside0.mk ((by rw [hg]; exact (below_size (by repeat (first | (with_reducible first | exact HB.out | apply below_alloc | apply pw_below_drewN | apply below_drew1) | exact HB.out))) : w.heap.size ≤ gb142)); clear HO_3; clear HB; have HO_3 := n0_; have HB := n1_; have BK142 := n2_; have GW142 := n3_; have GE142 := n4_; clear n0_ n1_ n2_ n3_ n4_; clear hb hbox hg; have hcz8_0 : w7.cell? ⟨gb142, 0, none⟩ = some (.string (⟨#[]⟩ : ByteArray)) := (blk_cell BK142.out 0).trans rfl; have hcz8_1 : w7.cell? ⟨gb142, 1, none⟩ = some (.int .i64 0) := (blk_cell BK142.out 1).trans rfl; have hcz8_2 : w7.cell? ⟨gb142, 2, none⟩ = some (.int .i64 0) := (blk_cell BK142.out 2).trans rfl; have hcz8_3 : w7.cell? ⟨gb142, 3, none⟩ = some (.string (⟨#[]⟩ : ByteArray)) := (blk_cell BK142.out 3).trans rfl; have hcz8_4 : w7.cell? ⟨gb142, 4, none⟩ = some (.slice none 0 0) := (blk_cell BK142.out 4).trans rfl; have hfz8_0 := blk_frozen BK142.out 0; have hfz8_1 := blk_frozen BK142.out 1; have hfz8_2 := blk_frozen BK142.out 2; have hfz8_3 := blk_frozen BK142.out 3; have hfz8_4 := blk_frozen BK142.out 4))
              have n0_ : Aside0 (Kd.S k90 90 (((((w7.setCell ⟨gb142, 0, none⟩ (.string ((rd_T90 l0 x8_1).f0))).setCell ⟨gb142, 1, none⟩ (.int .i64 ((rd_T90 l0 x8_1).f1.f0))).setCell ⟨gb142, 2, none⟩ (.int .i64 ((rd_T90 l0 x8_1).f1.f1))).setCell ⟨gb142, 3, none⟩ (.string ((rd_T90 l0 x8_1).f1.f2))).setCell ⟨gb142, 4, none⟩ (.slice A141_4 ((rd_T90 l0 x8_1).f1.f3).length c141_4)) w.heap.size (fun k_ => k_ ≠ gb142) u3 x3_1) := ⟨by (with_reducible repeat (first | apply Kd.S_alloc | apply Kd.S_drewN | apply Kd.S_drew)); exact Kd.S_mono (Kd.S_far (p := ⟨gb142, 4, none⟩) (Kd.S_far (p := ⟨gb142, 3, none⟩) (Kd.S_far (p := ⟨gb142, 2, none⟩) (Kd.S_far (p := ⟨gb142, 1, none⟩) (Kd.S_far (p := ⟨gb142, 0, none⟩) (Kd.S_mono HO_3.out (fun k_ hk => (⟨hk, hk.2⟩ : _ ∧ k_ ≠ gb142))) (fun _ hk => hk.2) (.string ((rd_T90 l0 x8_1).f0))) (fun _ hk => hk.2) (.int .i64 ((rd_T90 l0 x8_1).f1.f0))) (fun _ hk => hk.2) (.int .i64 ((rd_T90 l0 x8_1).f1.f1))) (fun _ hk => hk.2) (.string ((rd_T90 l0 x8_1).f1.f2))) (fun _ hk => hk.2) (.slice A141_4 ((rd_T90 l0 x8_1).f1.f3).length c141_4)) (fun _ hk => hk.1.2)⟩
              have n1_ : Aside0 ((((((w7.setCell ⟨gb142, 0, none⟩ (.string ((rd_T90 l0 x8_1).f0))).setCell ⟨gb142, 1, none⟩ (.int .i64 ((rd_T90 l0 x8_1).f1.f0))).setCell ⟨gb142, 2, none⟩ (.int .i64 ((rd_T90 l0 x8_1).f1.f1))).setCell ⟨gb142, 3, none⟩ (.string ((rd_T90 l0 x8_1).f1.f2))).setCell ⟨gb142, 4, none⟩ (.slice A141_4 ((rd_T90 l0 x8_1).f1.f3).length c141_4)).heap[gb142]? = some (.cells #[.string ((rd_T90 l0 x8_1).f0), .int .i64 ((rd_T90 l0 x8_1).f1.f0), .int .i64 ((rd_T90 l0 x8_1).f1.f1), .string ((rd_T90 l0 x8_1).f1.f2), .slice A141_4 ((rd_T90 l0 x8_1).f1.f3).length c141_4] 90 (0, 0))) := ⟨by (with_reducible repeat (first | refine blk_drewN ?_ _ | refine blk_drew ?_ | refine blk_alloc ?_ _)); refine blk_put (cs := #[.string ((rd_T90 l0 x8_1).f0), .int .i64 ((rd_T90 l0 x8_1).f1.f0), .int .i64 ((rd_T90 l0 x8_1).f1.f1), .string ((rd_T90 l0 x8_1).f1.f2), .slice none 0 0]) ?_ 4 _ rfl; (with_reducible repeat (first | refine blk_drewN ?_ _ | refine blk_drew ?_ | refine blk_alloc ?_ _)); refine blk_put (cs := #[.string ((rd_T90 l0 x8_1).f0), .int .i64 ((rd_T90 l0 x8_1).f1.f0), .int .i64 ((rd_T90 l0 x8_1).f1.f1), .string (⟨#[]⟩ : ByteArray), .slice none 0 0]) ?_ 3 _ rfl; (with_reducible repeat (first | refine blk_drewN ?_ _ | refine blk_drew ?_ | refine blk_alloc ?_ _)); refine blk_put (cs := #[.string ((rd_T90 l0 x8_1).f0), .int .i64 ((rd_T90 l0 x8_1).f1.f0), .int .i64 0, .string (⟨#[]⟩ : ByteArray), .slice none 0 0]) ?_ 2 _ rfl; (with_reducible repeat (first | refine blk_drewN ?_ _ | refine blk_drew ?_ | refine blk_alloc ?_ _)); refine blk_put (cs := #[.string ((rd_T90 l0 x8_1).f0), .int .i64 0, .int .i64 0, .string (⟨#[]⟩ : ByteArray), .slice none 0 0]) ?_ 1 _ rfl; (with_reducible repeat (first | refine blk_drewN ?_ _ | refine blk_drew ?_ | refine blk_alloc ?_ _)); refine blk_put (cs := #[.string (⟨#[]⟩ : ByteArray), .int .i64 0, .int .i64 0, .string (⟨#[]⟩ : ByteArray), .slice none 0 0]) ?_ 0 _ rfl; (with_reducible repeat (first | refine blk_drewN ?_ _ | refine blk_drew ?_ | refine blk_alloc ?_ _)); exact BK142.out⟩
              have n2_ : Aside0 (Below w.heap.size w (((((w7.setCell ⟨gb142, 0, none⟩ (.string ((rd_T90 l0 x8_1).f0))).setCell ⟨gb142, 1, none⟩ (.int .i64 ((rd_T90 l0 x8_1).f1.f0))).setCell ⟨gb142, 2, none⟩ (.int .i64 ((rd_T90 l0 x8_1).f1.f1))).setCell ⟨gb142, 3, none⟩ (.string ((rd_T90 l0 x8_1).f1.f2))).setCell ⟨gb142, 4, none⟩ (.slice A141_4 ((rd_T90 l0 x8_1).f1.f3).length c141_4))) := ⟨by repeat (first | (with_reducible first | exact HB.out | apply below_alloc | apply pw_below_drewN | apply below_drew1 | refine below_set ?_ GE142.out) | exact HB.out)⟩
              (try clear HO_3)
              (try clear BK142)
              (try clear HB)
              generalize (((((w7.setCell ⟨gb142, 0, none⟩ (.string ((rd_T90 l0 x8_1).f0))).setCell ⟨gb142, 1, none⟩ (.int .i64 ((rd_T90 l0 x8_1).f1.f0))).setCell ⟨gb142, 2, none⟩ (.int .i64 ((rd_T90 l0 x8_1).f1.f1))).setCell ⟨gb142, 3, none⟩ (.string ((rd_T90 l0 x8_1).f1.f2))).setCell ⟨gb142, 4, none⟩ (.slice A141_4 ((rd_T90 l0 x8_1).f1.f3).length c141_4)) = w9 at n0_ n1_ n2_ ⊢
              have HO_3 := n0_
              have BK142 := n1_
              have HB := n2_
              clear n0_ n1_ n2_
              have n0_ := Aside0.mk (Kd.S_drew HO_3.out)
              have n1_ := Aside0.mk (blk_drew BK142.out)
              have n2_ := Aside0.mk (below_drew1 HB.out)
              clear HO_3
              clear BK142
              clear HB
              have HO_3 := n0_
              have BK142 := n1_
              have HB := n2_
              clear n0_ n1_ n2_
              refine start_ (n := 10) (S := fun w' => w'.cell? ⟨gb142, 0, none⟩ = some (.string ((rd_T90 l0 x8_1).f0)) ∧ w'.cell? ⟨gb142, 1, none⟩ = some (.int .i64 ((rd_T90 l0 x8_1).f1.f0)) ∧ w'.cell? ⟨gb142, 2, none⟩ = some (.int .i64 ((rd_T90 l0 x8_1).f1.f1)) ∧ w'.cell? ⟨gb142, 3, none⟩ = some (.string ((rd_T90 l0 x8_1).f1.f2)) ∧ w'.cell? ⟨gb142, 4, none⟩ = some (.slice A141_4 ((rd_T90 l0 x8_1).f1.f3).length c141_4)) (ds := []) #[false, false, false, false, false, false, false, false, false, false] (by kernel_rfl) rfl rfl ⟨(blk_cell BK142.out 0).trans rfl, (blk_cell BK142.out 1).trans rfl, (blk_cell BK142.out 2).trans rfl, (blk_cell BK142.out 3).trans rfl, (blk_cell BK142.out 4).trans rfl⟩ (fun hHeld => ?_); refine with_tabW impl_copyTable.tab5 impl_copyTable.bits5 (fun HT_ HW_ => ?_)
              generalize w9.drew = w10 at HO_3 BK142 HB hHeld ⊢
              refine pure_ (i := 0) (N := some 12) (v := ?_) (a' := ?_) #[true, false, false, false, false, false, false, false, false, false] rfl rfl (any_of HT_.out (by kernel_rfl)) (fun _ _ _ h => h) (Or.inl ⟨by rfl, ?_⟩) ?_ ?_
              rotate_left
              · intro w'
                go_simp
                with_reducible rfl
              rotate_left
              · simp only [Act.put, List.setIfInBounds_toArray, List.set_cons_zero, List.set_cons_succ, i64_w, i32_w]
                rfl
              refine pure_ (i := 1) (N := some 13) (v := ?_) (a' := ?_) #[true, true, false, false, false, false, false, false, false, false] rfl rfl (any_of HT_.out (by kernel_rfl)) (fun _ _ _ h => h) (Or.inl ⟨by rfl, ?_⟩) ?_ ?_
              rotate_left
              · intro w'
                go_simp
                with_reducible rfl
              rotate_left
              · simp only [Act.put, List.setIfInBounds_toArray, List.set_cons_zero, List.set_cons_succ, i64_w, i32_w]
                rfl
              refine pure_ (i := 3) (N := some 15) (v := ?_) (a' := ?_) #[true, true, false, true, false, false, false, false, false, false] rfl rfl (any_of HT_.out (by kernel_rfl)) (fun _ _ _ h => h) (Or.inl ⟨by rfl, ?_⟩) ?_ ?_
              rotate_left
              · intro w'
                go_simp
                with_reducible rfl
              rotate_left
              · simp only [Act.put, List.setIfInBounds_toArray, List.set_cons_zero, List.set_cons_succ, i64_w, i32_w]
                rfl
              refine take_ (i := 2) (N := some 14) (v := ?_) (a' := ?_) #[true, true, true, true, false, false, false, false, false, false] rfl rfl (take_ofW HT_.out HW_.out (by kernel_rfl)) (fun _ _ _ h => h) (Or.inl ⟨by rfl, ?_⟩) hHeld ?_ ?_
              rotate_left
              · rintro w' ⟨s0, s1, s2, s3, s4⟩
                go_simp
                with_reducible rfl
              rotate_left
              · simp only [Act.put, List.setIfInBounds_toArray, List.set_cons_zero, List.set_cons_succ, i64_w, i32_w]
                rfl
              refine take_ (i := 4) (N := some 16) (v := ?_) (a' := ?_) #[true, true, true, true, true, false, false, false, false, false] rfl rfl (take_ofW HT_.out HW_.out (by kernel_rfl)) (fun _ _ _ h => h) (Or.inl ⟨by rfl, ?_⟩) hHeld ?_ ?_
              rotate_left
              · rintro w' ⟨s0, s1, s2, s3, s4⟩
                go_simp
                with_reducible rfl
              rotate_left
              · simp only [Act.put, List.setIfInBounds_toArray, List.set_cons_zero, List.set_cons_succ, i64_w, i32_w]
                rfl
              refine one_ (i := 5) (N := some 17) #[true, true, true, true, true, true, false, false, false, false] rfl rfl (one_of HT_.out (by kernel_rfl)) (by decide) (fun K hK => ?_)
              refine goes_ Try.func97 (by kernel_rfl) rfl #[.agg #[.int .i64 ((rd_T90 l0 x8_1).f1.f0), .int .i64 ((rd_T90 l0 x8_1).f1.f1), .string ((rd_T90 l0 x8_1).f1.f2), .slice A141_4 ((rd_T90 l0 x8_1).f1.f3).length c141_4]] (by rfl) rfl rfl (by (try simp only [List.map_toArray, List.map_cons, List.map_nil]); first | done | rfl | (simp only [List.length_drop, List.length_take]; rfl)) ?_
              with_reducible refine (impl_copyVal.calls ((rd_T90 l0 x8_1).f1.f0) ((rd_T90 l0 x8_1).f1.f1) ((rd_T90 l0 x8_1).f1.f2) _ _ ((rd_T90 l0 x8_1).f1.f3) t143 t144 t145 t146 _ ?side1 ?side2 A5.out).mono ?_
              (case side1 => repeat (first | exact (Kd.C_below HR141_4.out HB.out) | (with_reducible refine Kd.C_alloc ?_ _) | (with_reducible refine Kd.C_drewN ?_ _) | (with_reducible refine Kd.C_drew ?_)))
              (case side2 => exact HC141_4.out)
              rintro e w11 ⟨v147, rfl, ho0, hb⟩
              refine ⟨_, rfl, ?_⟩
              have n0_ := Aside0.mk (Kd.S_elder' (by (with_reducible repeat (first | apply Kd.S_alloc | apply Kd.S_drewN | apply Kd.S_drew)); exact HO_3.out) (Kd.R_base ho0) hb)
              have n1_ := Aside0.mk (Kd.R_lower ho0 (below_size (by repeat (first | (with_reducible first | exact HB.out | apply below_alloc | apply pw_below_drewN | apply below_drew1 | refine below_set ?_ GE142.out) | exact HB.out))))
              have n2_ := Aside0.mk (blk_below (g := gb142) (o := .cells #[.string ((rd_T90 l0 x8_1).f0), .int .i64 ((rd_T90 l0 x8_1).f1.f0), .int .i64 ((rd_T90 l0 x8_1).f1.f1), .string ((rd_T90 l0 x8_1).f1.f2), .slice A141_4 ((rd_T90 l0 x8_1).f1.f3).length c141_4] 90 (0, 0)) (by (with_reducible repeat (first | refine blk_drewN ?_ _ | refine blk_drew ?_ | refine blk_alloc ?_ _)); exact BK142.out) hb)
              have n3_ := Aside0.mk (below_step (by repeat (first | (with_reducible first | exact HB.out | apply below_alloc | apply pw_below_drewN | apply below_drew1 | refine below_set ?_ GE142.out) | exact HB.out)) hb)
              clear HO_3
              clear BK142
              clear HB
              have HO_3 := n0_
              have HO148 := n1_
              have BK142 := n2_
              have HB := n3_
              clear n0_ n1_ n2_ n3_
              (try clear hb)
              (try clear hb2)
              (try clear hk)
              (try clear hi)
              (try clear ho0)
              obtain ⟨Ao12, co12, eo12⟩ := Kd.R_slice HO148.out
              (first | subst eo12 | (injection eo12 with f1_ f2_ f3_; have f4_ := f1_.symm; have f5_ := f3_.symm; clear f1_ f2_ f3_; subst f4_; subst f5_))
              refine hK.out _ _ ⟨(blk_cell BK142.out 0).trans rfl, (blk_cell BK142.out 1).trans rfl, (blk_cell BK142.out 2).trans rfl, (blk_cell BK142.out 3).trans rfl, (blk_cell BK142.out 4).trans rfl⟩ (fun hHeld => ?_)
              clear hK K
              refine norm_ (a' := ?_) ?_ ?_
              rotate_left
              · show Act.put _ (some 17) _ = _
                simp only [Act.put, List.setIfInBounds_toArray, List.set_cons_zero, List.set_cons_succ, i64_w, i32_w]
                rfl
              refine pure_ (i := 6) (N := some 18) (v := ?_) (a' := ?_) #[true, true, true, true, true, true, true, false, false, false] rfl rfl (any_of HT_.out (by kernel_rfl)) (fun _ _ _ h => h) (Or.inl ⟨by rfl, ?_⟩) ?_ ?_
              rotate_left
              · intro w'
                go_simp
                with_reducible rfl
              rotate_left
              · simp only [Act.put, List.setIfInBounds_toArray, List.set_cons_zero, List.set_cons_succ, i64_w, i32_w]
                rfl
              refine one_ (i := 7) (N := some 19) #[true, true, true, true, true, true, true, true, false, false] rfl rfl (one_of HT_.out (by kernel_rfl)) (by decide) (fun K hK => ?_)
              refine value_ (w1 := ?_) (v := ?_) (by rfl) rfl ?_ ?_
              rotate_left 2
              · go_simp
                constructor
                · rfl
                · rfl
              refine hK.out _ _ ⟨(blk_cell (blk_alloc BK142.out _) 0).trans rfl, (blk_cell (blk_alloc BK142.out _) 1).trans rfl, (blk_cell (blk_alloc BK142.out _) 2).trans rfl, (blk_cell (blk_alloc BK142.out _) 3).trans rfl, (blk_cell (blk_alloc BK142.out _) 4).trans rfl⟩ (fun hHeld => ?_)
              clear hK K
              refine norm_ (a' := ?_) ?_ ?_
              rotate_left
              · show Act.put _ (some 19) _ = _
                simp only [Act.put, List.setIfInBounds_toArray, List.set_cons_zero, List.set_cons_succ, i64_w, i32_w]
                rfl
              refine one_ (i := 8) (N := some 20) #[true, true, true, true, true, true, true, true, true, false] rfl rfl (one_of HT_.out (by kernel_rfl)) (by decide) (fun K hK => ?_)
              refine Kd.S_append_step k90 (w0 := w) w.heap.size (by rfl) (.tmp 12) (.tmp 19) 78 90 (.agg #[(.string ⟨#[]⟩), (.int .i64 0), (.int .i64 0), (.string ⟨#[]⟩), (.slice none 0 0)]) 72 rfl Try.underlying78 info90 rfl (by decide) (by omega) u3 x3_1 (⟨(rd_T90 l0 x8_1).f0, (⟨t143, t144, t145, t146⟩ : S75)⟩ : S90) [.string ((rd_T90 l0 x8_1).f0), .int .i64 t143, .int .i64 t144, .string t145, .slice Ao12 t146.length co12] (fun k_ => k_ ≠ gb142) (fun k_ => some k_ = (.slice Ao12 t146.length co12 : Value).ownBlock) rfl rfl ?aP (fun k_ hk_ => ((Kd.R_mono (ok' := fun k_ => ((fun k_ => k_ ≠ gb142)) k_ ∧ some k_ ≠ (u3 : Value).ownBlock) (Kd.R_types (Kd.R_apart' (HO148.out) (Kd.S_typed HO_3.out) (by decide)) BK142.out (by decide)) (fun k_ hk => ⟨hk.2, hk.1.2⟩))).1 k_ hk_.symm) ?aF ?aO ?aB ?aS ?aL ?_
              (case aP => exact k90_mkM _ _ _ (⟨(rd_T90 l0 x8_1).f0, (⟨t143, t144, t145, t146⟩ : S75)⟩ : S90) (Kd.R_mono (Kd.R_tight rfl (Kd.R_mono (ok' := fun k_ => ((fun k_ => k_ ≠ gb142)) k_ ∧ some k_ ≠ (u3 : Value).ownBlock) (Kd.R_types (Kd.R_apart' (HO148.out) (Kd.S_typed HO_3.out) (by decide)) BK142.out (by decide)) (fun k_ hk => ⟨hk.2, hk.1.2⟩))) (fun _ h_ => h_)))
              (case aB => exact (by repeat (first | (with_reducible first | exact HB.out | apply below_alloc | apply pw_below_drewN | apply below_drew1 | refine below_set ?_ GE142.out) | exact HB.out)))
              (case aF => exact (fun k_ hk => Kd.freshB (g := gb142) (o := .cells #[.string ((rd_T90 l0 x8_1).f0), .int .i64 ((rd_T90 l0 x8_1).f1.f0), .int .i64 ((rd_T90 l0 x8_1).f1.f1), .string ((rd_T90 l0 x8_1).f1.f2), .slice A141_4 ((rd_T90 l0 x8_1).f1.f3).length c141_4] 90 (0, 0)) (by (with_reducible repeat (first | refine blk_drewN ?_ _ | refine blk_drew ?_ | refine blk_alloc ?_ _)); exact BK142.out) k_ hk))
              (case aO => exact (by (with_reducible repeat (first | apply Kd.S_alloc | apply Kd.S_drewN | apply Kd.S_drew)); exact Kd.S_mono HO_3.out (fun k_ hk => ⟨hk.1, fun e_ => hk.2 e_⟩)))
              (case aS => exact (below_size (by repeat (first | (with_reducible first | exact HB.out | apply below_alloc | apply pw_below_drewN | apply below_drew1 | refine below_set ?_ GE142.out) | exact HB.out))))
              (case aL => have := LMc6.out; omega)
              intro v150 w13 ho hb hg hat
              rw [← Ny149.out] at ho
              have n0_ := Aside0.mk (blk_grown (g := gb142) (o := .cells #[.string ((rd_T90 l0 x8_1).f0), .int .i64 ((rd_T90 l0 x8_1).f1.f0), .int .i64 ((rd_T90 l0 x8_1).f1.f1), .string ((rd_T90 l0 x8_1).f1.f2), .slice A141_4 ((rd_T90 l0 x8_1).f1.f3).length c141_4] 90 (0, 0)) (by (with_reducible repeat (first | refine blk_drewN ?_ _ | refine blk_drew ?_ | refine blk_alloc ?_ _)); exact BK142.out) hg (Kd.S_away HO_3.out (fun _ hk => hk.1)))
              have n1_ := Aside0.mk (hb)
              have n2_ := Aside0.mk (ho)
              clear BK142
              clear HB
              clear HO_3
              clear HO148
              have BK142 := n0_
              have HB := n1_
              have HO151 := n2_
              clear n0_ n1_ n2_
              clear ho hb hg hat
              refine hK.out _ _ ⟨(blk_cell BK142.out 0).trans rfl, (blk_cell BK142.out 1).trans rfl, (blk_cell BK142.out 2).trans rfl, (blk_cell BK142.out 3).trans rfl, (blk_cell BK142.out 4).trans rfl⟩ (fun hHeld => ?_)
              clear hK K
              refine norm_ (a' := ?_) ?_ ?_
              rotate_left
              · show Act.put _ (some 20) _ = _
                simp only [Act.put, List.setIfInBounds_toArray, List.set_cons_zero, List.set_cons_succ, i64_w, i32_w]
                rfl
              refine pure_ (i := 9) (N := some 3) (v := ?_) (a' := ?_) #[true, true, true, true, true, true, true, true, true, true] rfl rfl (any_of HT_.out (by kernel_rfl)) (fun _ _ _ h => h) (Or.inl ⟨by rfl, ?_⟩) ?_ ?_
              rotate_left
              · intro w'
                go_simp
                with_reducible rfl
              rotate_left
              · simp only [Act.put, List.setIfInBounds_toArray, List.set_cons_zero, List.set_cons_succ, i64_w, i32_w]
                rfl
              refine done_ (done_of HT_.out (by kernel_rfl)) ?_
              try go_wp2
              go_roundg k1
              case measure => have := HK1.out; omega
              case rel => exact ⟨(y149), (wrap64 (x8_1 + 1)), (by first | rfl | (simp; done) | (simp [*]; done)), H', ⟨by have := HK1.out; omega⟩, ⟨by (with_reducible repeat (first | apply Kd.S_alloc | apply Kd.S_drewN | apply Kd.S_drew)); exact Kd.S_mono HO151.out (fun _ hk => trivial)⟩, ⟨by repeat (first | (with_reducible first | exact HB.out | apply below_alloc | apply pw_below_drewN | apply below_drew1 | refine below_set ?_ GE142.out) | exact HB.out)⟩⟩
            · rw [if_neg c6] at H
              exact absurd H (by simp)
          · rw [if_neg c4] at H
            exact absurd H (by simp)
        · rw [if_neg c3] at H
          exact absurd H (by simp)
      · rw [if_neg c2] at H
        have c2b0 : decide (x8_1 < (l0.length : Int)) = false := decide_eq_false c2
        clear c2
        obtain rfl := Option.some.inj H
        go_wp2
        all_goals try (exfalso; first | (have h_ := of_decide_eq_true c4b0; omega) | (have h_ := of_decide_eq_false c4b0; omega))
        go_ret
        exact ⟨_, by first | rfl | (simp [errW_none, errW_some] <;> rfl) | (simp [*, errW_none, errW_some] <;> rfl), by (with_reducible repeat (first | apply Kd.S_alloc | apply Kd.S_drewN | apply Kd.S_drew)); exact HO_3.out, by repeat (first | (with_reducible first | exact HB.out | apply below_alloc | apply pw_below_drewN | apply below_drew1) | exact HB.out)⟩

/-! ### impl_Live: function 58 (a text of its own) -/
set_option maxHeartbeats 8000000 in
set_option maxRecDepth 100000 in
theorem slices_DeleteFunc_none (p : S90 → Bool) (gf : Nat) (lb : Array Value) (eg : ∀ args w, (callFunc gf args).run Try.prog w = .ok (.enter gf args) w) (A : Option Addr) (c : Nat) (w : World)
    (hp : ∀ (W : World) (x : S90) (A4 : Option Addr) (c4 : Nat), Below w.heap.size w W → Calls Try.prog gf (#[.agg #[.string x.f0, .int .i64 x.f1.f0, .int .i64 x.f1.f1, .string x.f1.f2, .slice A4 x.f1.f3.length c4]] ++ lb) W fun e w' => e = .returned (.bool (p x)) ∧ Below w.heap.size w w') :
    Calls Try.prog 102 #[.slice A 0 c, .func (.func gf) #[] lb] w fun e w' => e = .returned (.slice A 0 c) ∧ Below w.heap.size w w' := by
  have e6 : ∀ args w, (callFunc 95 args).run Try.prog w = .ok (.enter 95 args) w := enters_of Try.func95 (by kernel_rfl) rfl
  have hIF := slices_IndexFunc95 p gf lb eg A c [] w ⟨rfl, Nat.zero_le _, fun h => absurd h (Nat.lt_irrefl 0)⟩ hp
  rw [show idxFrom p [] 0 = -1 from rfl, show ([] : List S90).length = 0 from rfl] at hIF
  clear hp
  go_enter Try.func102, Try.ntmps102
  go_wp2_with (go_at_fn 95; refine hIF.mono ?_; rintro e w' ⟨rfl, hb⟩)
  go_ret
  exact ⟨rfl, hb⟩
def delE (now : Int) (x : S90) : Bool := (x.f1.f1 != 0) && decide (x.f1.f1 ≤ now)
theorem live_pred (now : Int) (B g : Nat) (w : World) (hB : B < w.heap.size) (hg : B ≠ g) (hcell : w.cell? ⟨B, 0, none⟩ = some (.int .i64 now)) : ∀ (W : World) (x : S90) (A4 : Option Addr) (c4 : Nat), Kept w W (fun k => k = g) →
    Calls Try.prog 104 (#[.agg #[.string x.f0, .int .i64 x.f1.f0, .int .i64 x.f1.f1, .string x.f1.f2, .slice A4 x.f1.f3.length c4]] ++ #[.pointer (some ⟨B, 0, none⟩)]) W fun e w' => e = .returned (.bool (delE now x)) ∧ Below W.heap.size W w' := fun W x A4 c4 hb => by
  have hc : W.cell? ⟨B, 0, none⟩ = some (.int .i64 now) := cell_kept hcell hb hg
  have hBW : B < W.heap.size := Nat.lt_of_lt_of_le hB hb.1
  have hne : B ≠ W.heap.size := by omega
  have huE := Try.underlying90
  have huV := Try.underlying75
  show Calls Try.prog 104 #[.agg #[.string x.f0, .int .i64 x.f1.f0, .int .i64 x.f1.f1, .string x.f1.f2, .slice A4 x.f1.f3.length c4], .pointer (some ⟨B, 0, none⟩)] W _
  unfold delE
  cases h1 : (x.f1.f1 != 0) with
  | false =>
    rw [Bool.false_and]
    go_enter Try.func104, Try.ntmps104
    go_wp2
    all_goals try (exfalso; first | (have h_ := of_decide_eq_true c4b0; omega) | (have h_ := of_decide_eq_false c4b0; omega))
    go_ret
    exact ⟨rfl, below_alloc (Below.refl _ _) _⟩
  | true =>
    rw [Bool.true_and]
    go_enter Try.func104, Try.ntmps104
    go_wp2
    all_goals try (exfalso; first | (have h_ := of_decide_eq_true c4b0; omega) | (have h_ := of_decide_eq_false c4b0; omega))
    go_ret
    exact ⟨rfl, below_alloc (Below.refl _ _) _⟩
def impl_Live.f (k : Nat) (l0 : List S90) (a1 : Int) : Option (List S90) := (impl_copyTable.f k l0).bind fun t => some (t.filter fun x => !delE a1 x)
theorem impl_Live.mono : ∀ a0 a1 k, LeO (impl_Live.f k a0 a1) (impl_Live.f (k + 1) a0 a1) := by
  intro a0 a1 k
  unfold impl_Live.f
  exact LeO.bind (impl_copyTable.mono _ _) (fun _ => LeO.refl _)
set_option maxHeartbeats 8000000 in
set_option maxRecDepth 100000 in
theorem impl_Live.calls (k : Nat) (A0 : Option Addr) (c0 : Nat) (l0 : List S90) (a1 : Int) (r : List S90) (w : World) (hr0 : Kd.C k90 w A0 l0.length l0) (hc0 : l0.length ≤ c0) (h : impl_Live.f k l0 a1 = some r) :
    Calls Try.prog 58 #[.slice A0 l0.length c0, .int .i64 a1] w fun e w' => ∃ v0_ : Value, e = .returned (v0_) ∧ Kd.S k90 90 w' w.heap.size (fun _ => True) v0_ r ∧ Below w.heap.size w w' := by
  have huE := Try.underlying90
  have huV := Try.underlying75
  have eg : ∀ args w, (callFunc 104 args).run Try.prog w = .ok (.enter 104 args) w := enters_of Try.func104 (by kernel_rfl) rfl
  unfold impl_Live.f at h
  obtain ⟨t, ht, h⟩ := Option.bind_eq_some_iff.mp h
  obtain rfl := Option.some.inj h
  obtain ⟨W0, hW0⟩ : ∃ W0, W0 = w.alloc (.cells #[.int .i64 a1] 3) := ⟨_, rfl⟩
  have hB0 : Below w.heap.size w W0 := by rw [hW0]; exact below_alloc (Below.refl _ _) _
  have hk0 : W0.cell? ⟨w.heap.size, 0, none⟩ = some (.int .i64 a1) := by rw [hW0]; simp
  have hs0 : w.heap.size < W0.heap.size := by rw [hW0]; simp
  have hcp := impl_copyTable.calls k A0 c0 l0 t W0 (Kd.C_below hr0 hB0) hc0 ht
  have HB0 := Aside0.mk hB0
  have HK0 := Aside0.mk (And.intro hk0 hs0)
  clear hr0 hc0 ht hB0 hk0 hs0
  rcases t with _ | ⟨x, t⟩
  · go_enter Try.func58, Try.ntmps58
    go_wp2_with (first
      | (go_at_call 103; rw [← hW0]; refine hcp.mono ?_; rintro e W1 ⟨v, rfl, hS, hb⟩; obtain ⟨A1, c1, rfl⟩ := Kd.S_slice hS; have HS1 := Aside0.mk (And.intro hS hb); clear hS hb hcp)
      | (go_at_call 102; refine (slices_DeleteFunc_none (delE a1) 104 #[.pointer (some ⟨w.heap.size, 0, none⟩)] eg A1 c1 _ (fun W x A4 c4 hb => ((live_pred a1 w.heap.size W1.heap.size W1 (Nat.lt_of_lt_of_le HK0.out.2 HS1.out.2.size) (by have := HS1.out.2.size; have := HK0.out.2; omega) ((HS1.out.2.cell (p := ⟨w.heap.size, 0, none⟩) HK0.out.2).trans HK0.out.1)) W x A4 c4 (Kept.of_below hb _)).mono (fun e w' h => ⟨h.1, below_step hb h.2⟩))).mono ?_; rintro e W2 ⟨rfl, hb⟩; have HF := Aside0.mk (show Kd.S k90 90 W2 w.heap.size (fun _ => True) (.slice A1 0 c1) (([] : List S90).filter fun x => !delE a1 x) ∧ Below w.heap.size w W2 from ⟨Kd.S_lower (Kd.S_below HS1.out.1 hb) (below_size HB0.out), below_step (below_step HB0.out HS1.out.2) hb⟩); clear hb HS1))
    go_ret
    exact ⟨_, rfl, HF.out.1, HF.out.2⟩
  · go_enter Try.func58, Try.ntmps58
    go_wp2_with (first
      | (go_at_call 103; rw [← hW0]; refine hcp.mono ?_; rintro e W1 ⟨v, rfl, hS, hb⟩; obtain ⟨g, c1, rfl, hge, hlt, -⟩ := Kd.S_form hS (by simp); have HS1 := Aside0.mk (And.intro hS (And.intro hb (And.intro hge hlt))); clear hS hb hcp hge hlt)
      | (go_at_call 102; refine (slices_DeleteFunc_some (delE a1) 104 #[.pointer (some ⟨w.heap.size, 0, none⟩)] eg g (x :: t).length c1 (x :: t) w W1 (fun _ => True) (below_step HB0.out HS1.out.2.1) (Kd.S_lower HS1.out.1 (below_size HB0.out)) (live_pred a1 w.heap.size g W1 (Nat.lt_of_lt_of_le HK0.out.2 HS1.out.2.1.size) (by have := HK0.out.2; have := HS1.out.2.2.1; omega) ((HS1.out.2.1.cell (p := ⟨w.heap.size, 0, none⟩) HK0.out.2).trans HK0.out.1))).mono ?_; rintro e W2 ⟨rfl, hS2, hb2⟩; have HF := Aside0.mk (And.intro hS2 hb2); clear hS2 hb2 HS1))
    go_ret
    exact ⟨_, rfl, HF.out.1, HF.out.2⟩

/-! ### spec_l01Figure: function 126 -/
def spec_l01Figure.f (a0 : Int) : Option (Int) := if a0 < 10 then (some ((wrap64 (48 + a0)) % 256)) else (some ((wrap64 ((wrap64 (97 + a0)) - 10)) % 256))
set_option maxHeartbeats 8000000 in
set_option maxRecDepth 100000 in
theorem spec_l01Figure.calls (a0 : Int) (r : Int) (w : World) (h : spec_l01Figure.f a0 = some r) :
    Calls Try.prog 126 #[.int .i64 a0] w fun e w' => e = .returned (.int .u8 r) ∧ Drawn0 w w' := by
  have H : (if a0 < 10 then (some ((wrap64 (48 + a0)) % 256)) else (some ((wrap64 ((wrap64 (97 + a0)) - 10)) % 256))) = some r := h
  clear h
  by_cases c2 : a0 < 10
  · rw [if_pos c2] at H
    have c2b0 : decide (a0 < 10) = true := decide_eq_true c2
    clear c2
    obtain rfl := Option.some.inj H
    go_enter Try.func126, Try.ntmps126
    go_wp2
    all_goals try (exfalso; first | (have h_ := of_decide_eq_true c4b0; omega) | (have h_ := of_decide_eq_false c4b0; omega))
    go_ret
    exact ⟨by first | rfl | (simp; done) | (simp [*]; done), by repeat (first | exact Drawn0.refl _ | apply Drawn0.step)⟩
  · rw [if_neg c2] at H
    have c2b0 : decide (a0 < 10) = false := decide_eq_false c2
    clear c2
    obtain rfl := Option.some.inj H
    go_enter Try.func126, Try.ntmps126
    go_wp2
    all_goals try (exfalso; first | (have h_ := of_decide_eq_true c4b0; omega) | (have h_ := of_decide_eq_false c4b0; omega))
    go_ret
    exact ⟨by first | rfl | (simp; done) | (simp [*]; done), by repeat (first | exact Drawn0.refl _ | apply Drawn0.step)⟩

/-! ### spec_Decimal: function 117 -/
def spec_Decimal.l0 : Nat → Int → Bool → ByteArray → Option (ByteArray)
  | 0, _, _, _ => none
  | k + 1, x0, x3, x4 => if x0 = 0 then (if x3 = true then (if 1 + x4.size ≤ 9223372036854775807 then (some ((⟨#[45]⟩ : ByteArray) ++ x4)) else (none)) else (some x4)) else (if (Int.tmod x0 10) < 0 then ((spec_l01Figure.f (wrap64 (-(Int.tmod x0 10)))).bind fun t152 => ((some (([t152] : List Int) : List Int)).bind fun y153 => (if (strOfNums y153).size + x4.size ≤ 9223372036854775807 then (spec_Decimal.l0 k (wrap64 (Int.tdiv x0 10)) x3 ((strOfNums y153) ++ x4)) else (none)))) else ((spec_l01Figure.f (Int.tmod x0 10)).bind fun t156 => ((some (([t156] : List Int) : List Int)).bind fun y157 => (if (strOfNums y157).size + x4.size ≤ 9223372036854775807 then (spec_Decimal.l0 k (wrap64 (Int.tdiv x0 10)) x3 ((strOfNums y157) ++ x4)) else (none)))))
def spec_Decimal.f (k : Nat) (a0 : Int) : Option (ByteArray) := if a0 = 0 then (some (⟨#[48]⟩ : ByteArray)) else (spec_Decimal.l0 k a0 (decide (a0 < 0)) (⟨#[]⟩ : ByteArray))
theorem spec_Decimal.mono_l : ∀ k, (∀ y0 y1 y2, LeO (spec_Decimal.l0 k y0 y1 y2) (spec_Decimal.l0 (k + 1) y0 y1 y2))
  | 0 => fun _ _ _ r h => by simp [spec_Decimal.l0] at h
  | k + 1 => by
    have ih0 := spec_Decimal.mono_l k
    · intro y0 y1 y2
      unfold spec_Decimal.l0
      repeat' first
      | (with_reducible exact ih0 _ _ _)
      | (with_reducible exact LeO.refl _)
      | (with_reducible exact LeO.none _)
      | (with_reducible refine LeO.ite ?_ ?_)
      | (with_reducible refine LeO.bind ?_ (fun _ => ?_))
      | exact ih0 _ _ _
      | exact LeO.none _
      | refine LeO.ite ?_ ?_
      | refine LeO.bind ?_ (fun _ => ?_)
theorem spec_Decimal.mono : ∀ a0 k, LeO (spec_Decimal.f k a0) (spec_Decimal.f (k + 1) a0) := by
  intro a0 k
  have ih0 := spec_Decimal.mono_l k
  unfold spec_Decimal.f
  repeat' first
      | (with_reducible exact ih0 _ _ _)
      | (with_reducible exact LeO.refl _)
      | (with_reducible exact LeO.none _)
      | (with_reducible refine LeO.ite ?_ ?_)
      | (with_reducible refine LeO.bind ?_ (fun _ => ?_))
      | exact ih0 _ _ _
      | exact LeO.none _
      | refine LeO.ite ?_ ?_
      | refine LeO.bind ?_ (fun _ => ?_)
set_option maxHeartbeats 8000000 in
set_option maxRecDepth 100000 in
theorem spec_Decimal.calls (k : Nat) (a0 : Int) (r : ByteArray) (w : World) (h : spec_Decimal.f k a0 = some r) :
    Calls Try.prog 117 #[.int .i64 a0] w fun e w' => e = .returned (.string r) ∧ Below w.heap.size w w' := by
  have HB := Aside0.mk (Below.refl w.heap.size w)
  have H : (if a0 = 0 then (some (⟨#[48]⟩ : ByteArray)) else (spec_Decimal.l0 k a0 (decide (a0 < 0)) (⟨#[]⟩ : ByteArray))) = some r := h
  clear h
  by_cases c2 : a0 = 0
  · rw [if_pos c2] at H
    have c2b0 : (a0 == 0) = true := beq_iff_eq.mpr c2
    have c2b1 : (a0 != 0) = false := bne_eq_false_iff_eq.mpr c2
    clear c2
    obtain rfl := Option.some.inj H
    go_enter Try.func117, Try.ntmps117
    go_wp2
    all_goals try (exfalso; first | (have h_ := of_decide_eq_true c4b0; omega) | (have h_ := of_decide_eq_false c4b0; omega))
    go_ret
    exact ⟨by first | rfl | (simp [errW_none, errW_some] <;> rfl) | (simp [*, errW_none, errW_some] <;> rfl), by repeat (first | (with_reducible first | exact HB.out | apply below_alloc | apply pw_below_drewN | apply below_drew1) | exact HB.out)⟩
  · rw [if_neg c2] at H
    have c2b0 : (a0 == 0) = false := beq_eq_false_iff_ne.mpr c2
    have c2b1 : (a0 != 0) = true := bne_iff_ne.mpr c2
    have H' := Aside0.mk H
    clear H
    go_enter Try.func117, Try.ntmps117
    go_wp2
    go_loopg [0, 4] k (fun kq v0 v4 w' => ∃ (x0_1 : Int) (x4_1 : ByteArray), v0 = .int .i64 x0_1 ∧ v4 = .string x4_1 ∧ Aside0 (spec_Decimal.l0 kq x0_1 (decide (a0 < 0)) x4_1 = some r) ∧ Aside0 (kq ≤ k) ∧ Aside0 (Below w.heap.size w w'))
    case atStart => exact ⟨(a0), ((⟨#[]⟩ : ByteArray)), (by first | rfl | (simp; done) | (simp [*]; done)), (by first | rfl | (simp; done) | (simp [*]; done)), H', ⟨Nat.le_refl _⟩, ⟨by repeat (first | (with_reducible first | exact HB.out | apply below_alloc | apply pw_below_drewN | apply below_drew1) | exact HB.out)⟩⟩
    case round =>
      clear H'
      try clear c1
      try clear c2
      try clear c2b0
      try clear c2b1
      try clear p2
      obtain ⟨x0_1, x4_1, rfl, rfl, HA, HK1, HB⟩ := hrel
      cases gk with
      | zero => exact absurd HA.out (by simp [spec_Decimal.l0])
      | succ k1 =>
        have H := HA.out
        clear HA
        simp only [spec_Decimal.l0] at H
        by_cases c3 : x0_1 = 0
        · rw [if_pos c3] at H
          have c3b0 : (x0_1 == 0) = true := beq_iff_eq.mpr c3
          have c3b1 : (x0_1 != 0) = false := bne_eq_false_iff_eq.mpr c3
          clear c3
          by_cases c4 : (decide (a0 < 0)) = true
          · rw [if_pos c4] at H
            have c4b0 : (decide (a0 < 0)) = true := c4
            clear c4
            by_cases c5 : 1 + x4_1.size ≤ 9223372036854775807
            · rw [if_pos c5] at H
              have c5b0 := eq_true c5
              have c5b1 : decide (1 + x4_1.size ≤ 9223372036854775807) = true := decide_eq_true c5
              try have c5b2 : (9223372036854775807 < 1 + x4_1.size) = False := eq_false (Nat.not_lt.2 c5)
              obtain rfl := Option.some.inj H
              go_wp2
              all_goals try (exfalso; first | (have h_ := of_decide_eq_true c4b0; omega) | (have h_ := of_decide_eq_false c4b0; omega))
              go_ret
              exact ⟨by first | rfl | (simp [errW_none, errW_some] <;> rfl) | (simp [*, errW_none, errW_some] <;> rfl), by repeat (first | (with_reducible first | exact HB.out | apply below_alloc | apply pw_below_drewN | apply below_drew1) | exact HB.out)⟩
            · rw [if_neg c5] at H
              exact absurd H (by simp)
          · rw [if_neg c4] at H
            have c4b0 : (decide (a0 < 0)) = false := by simpa using c4
            clear c4
            obtain rfl := Option.some.inj H
            go_wp2
            all_goals try (exfalso; first | (have h_ := of_decide_eq_true c4b0; omega) | (have h_ := of_decide_eq_false c4b0; omega))
            go_ret
            exact ⟨by first | rfl | (simp [errW_none, errW_some] <;> rfl) | (simp [*, errW_none, errW_some] <;> rfl), by repeat (first | (with_reducible first | exact HB.out | apply below_alloc | apply pw_below_drewN | apply below_drew1) | exact HB.out)⟩
        · rw [if_neg c3] at H
          have c3b0 : (x0_1 == 0) = false := beq_eq_false_iff_ne.mpr c3
          have c3b1 : (x0_1 != 0) = true := bne_iff_ne.mpr c3
          by_cases c6 : (Int.tmod x0_1 10) < 0
          · rw [if_pos c6] at H
            have c6b0 : decide ((Int.tmod x0_1 10) < 0) = true := decide_eq_true c6
            clear c6
            replace H := Option.bind_eq_some_iff.mp H
            obtain ⟨t152, A70, H⟩ := H
            replace H : ((some (([t152] : List Int) : List Int)).bind fun y153 => (if (strOfNums y153).size + x4_1.size ≤ 9223372036854775807 then (spec_Decimal.l0 k1 (wrap64 (Int.tdiv x0_1 10)) (decide (a0 < 0)) ((strOfNums y153) ++ x4_1)) else (none))) = some r := H
            have A7 := Aside0.mk A70
            clear A70
            obtain ⟨y153, hy153⟩ : ∃ y_ : List Int, y_ = (([t152] : List Int)) := ⟨_, rfl⟩
            replace H : (if (strOfNums y153).size + x4_1.size ≤ 9223372036854775807 then (spec_Decimal.l0 k1 (wrap64 (Int.tdiv x0_1 10)) (decide (a0 < 0)) ((strOfNums y153) ++ x4_1)) else (none)) = some r := by first | (rw [hy153]; with_reducible exact H) | (have H2_ := (Option.bind_some _ _).symm.trans H; rw [hy153]; with_reducible exact H2_) | (have H2_ := (Option.bind_some _ _).symm.trans H; with_reducible exact H2_) | with_reducible exact H | (rw [hy153]; exact H) | exact H
            have Ny153 := Aside0.mk hy153
            clear hy153
            by_cases c8 : (strOfNums y153).size + x4_1.size ≤ 9223372036854775807
            · rw [if_pos c8] at H
              have c8b0 := eq_true c8
              have c8b1 : decide ((strOfNums y153).size + x4_1.size ≤ 9223372036854775807) = true := decide_eq_true c8
              try have c8b2 : (9223372036854775807 < (strOfNums y153).size + x4_1.size) = False := eq_false (Nat.not_lt.2 c8)
              have H' := Aside0.mk H
              clear H
              go_wp2_with (first | ((with_reducible refine gate_callee (f := 126) rfl ?_); refine goesL_ (some 19) rfl rfl Try.func126 (by kernel_rfl) rfl #[.int .i64 (wrap64 (-(Int.tmod x0_1 10)))] rfl (by (try simp only [List.map_toArray, List.map_cons, List.map_nil]); first | done | rfl | (simp only [List.length_drop, List.length_take]; rfl)) ?_; (with_reducible refine (spec_l01Figure.calls (wrap64 (-(Int.tmod x0_1 10))) t152 _ A7.out).mono ?_); rintro e w' ⟨rfl, ⟨nd, rfl⟩⟩; refine ⟨_, rfl, ?_⟩) | ((with_reducible refine gate_dst (N := 20) rfl ?_); refine Kd.R_lit (Kd.int .u8) _ 5 ?hg (N := 20) ?hd (xs := ([t152] : List Int)) (inner := [.int .u8 t152]) (ok := fun _ => True) (okp := fun _ => True) ?hr ?hp (fun _ hk => hk) trivial (Below.refl _ _) (Nat.le_refl _) (by simp) ?_; (case hd => rfl); (case hg => rfl); (case hr => first | (go_simp; done) | (go_simp; rfl)); (case hp => exact (Reps.one (show Kd.M (Kd.int .u8) _ _ _ t152 [.int .u8 t152] from rfl) (Reps.none _ _))); intro v154 w9 ho10 hb hg_ hnew_; clear hg_ hnew_; (first | rw [← Ny153.out] at ho10 | (simp only [Int.reduceToNat] at ho10; rw [← Ny153.out] at ho10)); have n0_ := Aside0.mk (Kd.R_lower ho10 (below_size (by repeat (first | (with_reducible first | exact HB.out | apply below_alloc | apply pw_below_drewN | apply below_drew1) | exact HB.out)))); have n1_ := Aside0.mk (below_step (by repeat (first | (with_reducible first | exact HB.out | apply below_alloc | apply pw_below_drewN | apply below_drew1) | exact HB.out)) hb); clear HB; have HO155 := n0_; have HB := n1_; clear n0_ n1_; clear hb ho10; have hcv11 := own_string (P := Try.prog) Try.underlying36 Try.underlying5 Try.underlying9 (Kd.own_of_R HO155.out)))
              go_roundg k1
              case measure => have := HK1.out; omega
              case rel => exact ⟨(wrap64 (Int.tdiv x0_1 10)), ((strOfNums y153) ++ x4_1), (by first | rfl | (simp; done) | (simp [*]; done)), (by first | rfl | (simp; done) | (simp [*]; done)), H', ⟨by have := HK1.out; omega⟩, ⟨by repeat (first | (with_reducible first | exact HB.out | apply below_alloc | apply pw_below_drewN | apply below_drew1) | exact HB.out)⟩⟩
            · rw [if_neg c8] at H
              exact absurd H (by simp)
          · rw [if_neg c6] at H
            have c6b0 : decide ((Int.tmod x0_1 10) < 0) = false := decide_eq_false c6
            clear c6
            replace H := Option.bind_eq_some_iff.mp H
            obtain ⟨t156, A120, H⟩ := H
            replace H : ((some (([t156] : List Int) : List Int)).bind fun y157 => (if (strOfNums y157).size + x4_1.size ≤ 9223372036854775807 then (spec_Decimal.l0 k1 (wrap64 (Int.tdiv x0_1 10)) (decide (a0 < 0)) ((strOfNums y157) ++ x4_1)) else (none))) = some r := H
            have A12 := Aside0.mk A120
            clear A120
            obtain ⟨y157, hy157⟩ : ∃ y_ : List Int, y_ = (([t156] : List Int)) := ⟨_, rfl⟩
            replace H : (if (strOfNums y157).size + x4_1.size ≤ 9223372036854775807 then (spec_Decimal.l0 k1 (wrap64 (Int.tdiv x0_1 10)) (decide (a0 < 0)) ((strOfNums y157) ++ x4_1)) else (none)) = some r := by first | (rw [hy157]; with_reducible exact H) | (have H2_ := (Option.bind_some _ _).symm.trans H; rw [hy157]; with_reducible exact H2_) | (have H2_ := (Option.bind_some _ _).symm.trans H; with_reducible exact H2_) | with_reducible exact H | (rw [hy157]; exact H) | exact H
            have Ny157 := Aside0.mk hy157
            clear hy157
            by_cases c13 : (strOfNums y157).size + x4_1.size ≤ 9223372036854775807
            · rw [if_pos c13] at H
              have c13b0 := eq_true c13
              have c13b1 : decide ((strOfNums y157).size + x4_1.size ≤ 9223372036854775807) = true := decide_eq_true c13
              try have c13b2 : (9223372036854775807 < (strOfNums y157).size + x4_1.size) = False := eq_false (Nat.not_lt.2 c13)
              have H' := Aside0.mk H
              clear H
              go_wp2_with (first | ((with_reducible refine gate_callee (f := 126) rfl ?_); refine goesL_ (some 19) rfl rfl Try.func126 (by kernel_rfl) rfl #[.int .i64 (Int.tmod x0_1 10)] rfl (by (try simp only [List.map_toArray, List.map_cons, List.map_nil]); first | done | rfl | (simp only [List.length_drop, List.length_take]; rfl)) ?_; (with_reducible refine (spec_l01Figure.calls (Int.tmod x0_1 10) t156 _ A12.out).mono ?_); rintro e w' ⟨rfl, ⟨nd, rfl⟩⟩; refine ⟨_, rfl, ?_⟩) | ((with_reducible refine gate_dst (N := 20) rfl ?_); refine Kd.R_lit (Kd.int .u8) _ 5 ?hg (N := 20) ?hd (xs := ([t156] : List Int)) (inner := [.int .u8 t156]) (ok := fun _ => True) (okp := fun _ => True) ?hr ?hp (fun _ hk => hk) trivial (Below.refl _ _) (Nat.le_refl _) (by simp) ?_; (case hd => rfl); (case hg => rfl); (case hr => first | (go_simp; done) | (go_simp; rfl)); (case hp => exact (Reps.one (show Kd.M (Kd.int .u8) _ _ _ t156 [.int .u8 t156] from rfl) (Reps.none _ _))); intro v158 w14 ho15 hb hg_ hnew_; clear hg_ hnew_; (first | rw [← Ny157.out] at ho15 | (simp only [Int.reduceToNat] at ho15; rw [← Ny157.out] at ho15)); have n0_ := Aside0.mk (Kd.R_lower ho15 (below_size (by repeat (first | (with_reducible first | exact HB.out | apply below_alloc | apply pw_below_drewN | apply below_drew1) | exact HB.out)))); have n1_ := Aside0.mk (below_step (by repeat (first | (with_reducible first | exact HB.out | apply below_alloc | apply pw_below_drewN | apply below_drew1) | exact HB.out)) hb); clear HB; have HO159 := n0_; have HB := n1_; clear n0_ n1_; clear hb ho15; have hcv16 := own_string (P := Try.prog) Try.underlying36 Try.underlying5 Try.underlying9 (Kd.own_of_R HO159.out)))
              go_roundg k1
              case measure => have := HK1.out; omega
              case rel => exact ⟨(wrap64 (Int.tdiv x0_1 10)), ((strOfNums y157) ++ x4_1), (by first | rfl | (simp; done) | (simp [*]; done)), (by first | rfl | (simp; done) | (simp [*]; done)), H', ⟨by have := HK1.out; omega⟩, ⟨by repeat (first | (with_reducible first | exact HB.out | apply below_alloc | apply pw_below_drewN | apply below_drew1) | exact HB.out)⟩⟩
            · rw [if_neg c13] at H
              exact absurd H (by simp)

end Go.Proofs.Ytgfacdhkamphiaa.PFnLive
