/- The bytes of a conversion as a row of the call's own. Written for this claim. -/
import Derived.Test.YtlekhcopddajbaaGreatDoorFew
import Derived.Lib.ConvBytes
namespace Go.Proofs.YtlekhcopddajbaaGreatDoor
set_option linter.unusedVariables false
namespace Md
open Go Go.RowKit Go.Proofs.YtlekhcopddajbaaGreatDoorW.PrintWords

/-- The bytes that a call owns; their row may bear a conversion's mark (it freezes none of the row's cells). -/
def OwnsM (w : World) (base e : Nat) (v : Value) (xs : List Int) : Prop :=
  (v = .slice none 0 0 ∧ xs = []) ∨
  ∃ g cap cur fz, v = .slice (some ⟨g, 0, none⟩) xs.length cap ∧ base ≤ g ∧ w.heap[g]? = some (.cells cur e fz) ∧ (fz = (0, 0) ∨ cur.size ≤ fz.1) ∧ xs.length ≤ cap ∧ cap ≤ maxLen ∧ cur.size = cap ∧ cur.toList.take xs.length = nums .u8 xs
def R (e : Nat) (w : World) (base : Nat) (ok : Nat → Prop) (v : Value) (xs : List Int) : Prop := (∀ k, v.ownBlock = some k → ok k) ∧ OwnsM w base e v xs
section
variable {e : Nat} {w w1 W : World} {base : Nat} {ok ok' : Nat → Prop} {u v v1 : Value} {xs : List Int}
theorem of_own (h : w.ownsRow base e 1 v xs.length (nums .u8 xs)) : OwnsM w base e v xs := by
  obtain ⟨_, h2⟩ := h
  rcases h2 with ⟨rfl, h0⟩ | ⟨g, cap, cur, rfl, hb, hg, hn, hm, hs, ht⟩
  · exact .inl ⟨rfl, List.eq_nil_of_length_eq_zero h0⟩
  · exact .inr ⟨g, cap, cur, (0, 0), rfl, hb, hg, .inl rfl, hn, hm, by simpa using hs, by simpa using ht⟩
theorem R_mono (h : R e w base ok v xs) (hok : ∀ k, ok k → ok' k) : R e w base ok' v xs := ⟨fun k hk => hok k (h.1 k hk), h.2⟩
theorem R_at (h : R e w base ok v xs) : ∀ k, v.ownBlock = some k → base ≤ k ∧ ∃ cells fz, w.heap[k]? = some (.cells cells e fz) := by
  intro k hk
  rcases h.2 with ⟨rfl, _⟩ | ⟨g, cap, cur, fz, rfl, hb, hg, _⟩
  · simp [Value.ownBlock] at hk
  · have : g = k := by simpa [Value.ownBlock] using hk
    subst this
    exact ⟨hb, cur, fz, hg⟩
theorem R_lt (h : R e w base ok v xs) : ∀ k, v.ownBlock = some k → k < w.heap.size := fun k hk => by
  obtain ⟨_, _, _, hg⟩ := R_at h k hk
  exact (Array.getElem?_eq_some_iff.1 hg).1
theorem R_base (h : R e w base ok v xs) : ∀ k, v.ownBlock = some k → base ≤ k := fun k hk => (R_at h k hk).1
theorem R_bound (h : R e w base ok v xs) : R e w base (fun k => ok k ∧ base ≤ k ∧ k < w.heap.size ∧ ∃ cells fz, w.heap[k]? = some (.cells cells e fz)) v xs :=
  ⟨fun k hk => ⟨h.1 k hk, R_base h k hk, R_lt h k hk, (R_at h k hk).2⟩, h.2⟩
theorem R_move (h : R e w base ok v xs) (hm : ∀ k, ok k → w1.heap[k]? = w.heap[k]?) : R e w1 base ok v xs := by
  refine ⟨h.1, ?_⟩
  rcases h.2 with hn | ⟨g, cap, cur, fz, rfl, hb, hg, rest⟩
  · exact .inl hn
  · exact .inr ⟨g, cap, cur, fz, rfl, hb, (hm g (h.1 g rfl)).trans hg, rest⟩
theorem R_lower {base' : Nat} (h : R e w base ok v xs) (hb : base' ≤ base) : R e w base' ok v xs := by
  refine ⟨h.1, ?_⟩
  rcases h.2 with hn | ⟨g, cap, cur, fz, rfl, hb', rest⟩
  · exact .inl hn
  · exact .inr ⟨g, cap, cur, fz, rfl, Nat.le_trans hb hb', rest⟩
theorem R_step (h : R e w base ok v xs) (hm : ∀ k, ok k → k < w.heap.size → w1.heap[k]? = w.heap[k]?) : R e w1 base ok v xs :=
  R_mono (R_move (R_bound h) (fun k hk => hm k hk.1 hk.2.2.1)) (fun _ hk => hk.1)
theorem R_below (h : R e w base ok v xs) (hb : Below w.heap.size w w1) : R e w1 base ok v xs := R_step h (fun k _ hk => hb.block k hk)
theorem R_grown (h : R e w base ok v xs) {row : Option Nat} (hg : w.grownBy w1 row) (hok : ∀ k, ok k → some k ≠ row) : R e w1 base ok v xs := R_step h (fun k ho hk => hg.block k hk (hok k ho))
theorem R_far (h : R e w base ok v xs) {p : Addr} (hok : ∀ k, ok k → k ≠ p.block) (u : Value) : R e (w.setCell p u) base ok v xs := R_step h (fun k ho _ => Below.heap_setCell w p u k (hok k ho))
theorem R_alloc (h : R e w base ok v xs) (o : Obj) : R e (w.alloc o) base ok v xs := R_below h (below_alloc (Below.refl _ _) o)
theorem R_drew (h : R e w base ok v xs) : R e w.drew base ok v xs := R_below h (below_drew (Below.refl _ _))
theorem R_drewN (h : R e w base ok v xs) (m : Nat) : R e (w.drewN m) base ok v xs := R_below h (pw_below_drewN (Below.refl _ _) m)
theorem R_types (h : R e w base ok v xs) {g t : Nat} {cells : Array Value} (hb : w.heap[g]? = some (.cells cells t (0, 0))) (ht : ∀ q, q ∈ e :: (Kd.int .u8).E → q ≠ t) : R e w base (fun k => ok k ∧ k ≠ g) v xs :=
  R_mono (R_bound h) (fun k hk => ⟨hk.1, by
    obtain ⟨_, _, _, cells', fz, hc⟩ := hk
    rintro rfl
    rw [hc] at hb
    injection hb with hb
    injection hb with _ hb
    exact ht e List.mem_cons_self hb⟩)
theorem R_ne (h : R e w base ok v xs) {g t : Nat} {cells : Array Value} (hb : w.heap[g]? = some (.cells cells t (0, 0))) (ht : e ≠ t) : some g ≠ v.ownBlock := fun he => by
  obtain ⟨_, cells', fz, hc⟩ := R_at h g he.symm
  rw [hc] at hb
  injection hb with hb
  injection hb with _ hb
  exact ht hb
theorem R_after (h : R e W base (fun k => ok k ∧ some k ≠ v.ownBlock) u xs) (hg : W.grownBy w1 v.ownBlock) (hat : v1.ownBlock = v.ownBlock ∨ ∃ b, v1.ownBlock = some b ∧ W.heap.size ≤ b) : R e w1 base (fun k => ok k ∧ some k ≠ v1.ownBlock) u xs := by
  refine R_mono (R_move (R_bound h) (fun k hk => hg.block k hk.2.2.1 hk.1.2)) (fun k hk => ⟨hk.1.1, ?_⟩)
  rcases hat with hat | ⟨b, hb, hle⟩
  · rw [hat]; exact hk.1.2
  · rw [hb]
    intro he
    injection he with he
    have := hk.2.2.1
    omega
theorem R_elder' (hu : R e W base ok u xs) (hbase : ∀ k, v.ownBlock = some k → W.heap.size ≤ k) (hb : Below W.heap.size W w1) : R e w1 base (fun k => ok k ∧ some k ≠ v.ownBlock) u xs :=
  R_mono (R_move (R_bound hu) (fun k hk => hb.block k hk.2.2.1)) (fun k hk => ⟨hk.1, fun he => by have := hbase k he.symm; have := hk.2.2.1; omega⟩)
theorem R_new' (h : R e w1 W.heap.size ok v xs) (hlt : ∀ k, u.ownBlock = some k → k < W.heap.size) : R e w1 W.heap.size (fun k => ok k ∧ some k ≠ u.ownBlock) v xs :=
  R_mono (R_bound h) (fun k hk => ⟨hk.1, fun he => by have := hlt k he.symm; have := hk.2.1; omega⟩)
theorem R_slice (h : R e w base ok v xs) : ∃ A c, v = .slice A xs.length c := by
  rcases h.2 with ⟨rfl, rfl⟩ | ⟨g, cap, cur, fz, rfl, _⟩
  · exact ⟨none, 0, rfl⟩
  · exact ⟨_, _, rfl⟩
theorem own_of_R (h : R e w base ok v xs) : OwnsM w base e v xs := h.2
theorem M_cells {g : Nat} {cur : Array Value} {fz : Nat × Nat} (hg : w.heap[g]? = some (.cells cur e fz)) (ht : cur.toList.take xs.length = nums .u8 xs) (j : Nat) (p : Int) (hp : xs[j]? = some p) : w.cell? ((⟨g, 0, none⟩ : Addr).add j) = some (.int .u8 p) := by
  have hj : j < xs.length := (List.getElem?_eq_some_iff.1 hp).1
  have hadd : (⟨g, 0, none⟩ : Addr).add j = ⟨g, j, none⟩ := by unfold Addr.add; split <;> simp_all
  rw [hadd, cell_of_row w g j cur e fz hg]
  have h2 : (nums .u8 xs)[j]? = some (.int .u8 p) := by simp [nums, hp]
  rw [← ht, List.getElem?_take, if_pos hj] at h2
  simpa using h2
theorem R_reads' {A : Option Addr} {n c : Nat} (h : R e w base ok (.slice A n c) xs) : n = xs.length ∧ n ≤ c ∧ (Kd.int .u8).C w A xs.length xs := by
  rcases h.2 with ⟨he, rfl⟩ | ⟨g, cap, cur, fz, he, hb, hg, hf, hn, hm, hs, ht⟩
  · injection he with h1 h2 h3
    subst h1; subst h2; subst h3
    exact ⟨rfl, Nat.le_refl _, Kd.C_nil _ _⟩
  · injection he with h1 h2 h3
    subst h1; subst h2; subst h3
    refine ⟨rfl, hn, rfl, by simp only [maxLen] at hm; omega, fun _ => ⟨_, rfl, fun j p hp => ⟨[.int .u8 p], rfl, rfl, fun i u hu => ?_⟩⟩⟩
    cases i with
    | succ i => simp at hu
    | zero =>
      simp at hu
      subst hu
      have := M_cells hg ht j p hp
      simpa [Kd.int, Kd.scalar] using this
theorem own_string {P : Program} {e' src dst e : TypeId} (hs : P.underlying src = some (.slice e)) (he : P.underlying e = some (.int .u8)) (hd : P.underlying dst = some .string)
    (h : OwnsM w base e' v xs) : (convert src dst v).run P w = .ok (.string (strOfNums xs)) w := by
  rcases h with ⟨rfl, rfl⟩ | ⟨g, cap, cur, fz, rfl, hb, hg, hf, hn, hm, hsz, ht⟩
  · exact run_convert_bytes_nil w src e hs he 0 0 dst hd
  · refine run_convert_bytes_arg w src e hs he g 0 xs.length cap xs rfl (fun i hi => ?_) dst hd
    have hc := M_cells hg ht i (xs.getD i 0) (by simp [List.getElem?_eq_getElem (show i < xs.length by omega), List.getD_eq_getElem?_getD])
    have ha : (⟨g, 0, none⟩ : Addr).add i = ⟨g, 0 + i, none⟩ := by unfold Addr.add; split <;> simp_all
    rwa [ha] at hc
end

theorem R_form {e : Nat} {w : World} {base : Nat} {ok : Nat → Prop} {v : Value} {xs : List Int} (h : R e w base ok v xs) (hp : 0 < xs.length) : ∃ g cap, v = .slice (some ⟨g, 0, none⟩) xs.length cap ∧ base ≤ g ∧ g < w.heap.size ∧ ∃ cells, ∃ fz, w.heap[g]? = some (.cells cells e fz) := by
  rcases h.2 with ⟨_, rfl⟩ | ⟨g, cap, cur, fz, rfl, hb, hg, _⟩
  · exact absurd hp (by simp)
  · exact ⟨g, cap, rfl, hb, (Array.getElem?_eq_some_iff.1 hg).1, cur, fz, hg⟩
theorem types_of {α : Type} {d : Kd α} {e : Nat} {w : World} {base : Nat} {ok : Nat → Prop} {v : Value} {xs : List α} (h : d.R e w base ok v xs) {g t : Nat} {cells : Array Value} (hb : ∃ fz, w.heap[g]? = some (.cells cells t fz)) (ht : ∀ q, q ∈ e :: d.E → q ≠ t) : d.R e w base (fun k => ok k ∧ k ≠ g) v xs :=
  Kd.R_mono (Kd.R_bound h) (fun k hk => ⟨hk.1, by
    obtain ⟨_, _, _, q, hq, cells', hc⟩ := hk
    obtain ⟨fz, hb⟩ := hb
    rintro rfl
    rw [hc] at hb
    injection hb with hb
    injection hb with _ hb
    exact ht q hq hb⟩)
theorem R_celln {e g n cap : Nat} {W : World} {base : Nat} {ok : Nat → Prop} {xs : List Int} (d : Int) (h : R e W base ok (.slice (some ⟨g, 0, none⟩) n cap) xs) (i : Int) (h0 : 0 ≤ i) (hi : i < n) : W.cell? ⟨g, i.toNat, none⟩ = some (.int .u8 (rdOf d xs i)) ∧ W.frozen? ⟨g, i.toNat, none⟩ = false := by
  rcases h.2 with ⟨he, _⟩ | ⟨g', cap', cur, fz, he, hb, hg, hf, hn, hm, hs, ht⟩
  · injection he with h1; cases h1
  · injection he with h1 h2 h3
    injection h1 with h1; injection h1 with h1
    subst h1; subst h2; subst h3
    have hj : i.toNat < xs.length := by omega
    have hc := M_cells hg ht i.toNat xs[i.toNat] (List.getElem?_eq_getElem hj)
    rw [add_plain] at hc
    refine ⟨by rw [hc]; simp [rdOf, List.getD_eq_getElem?_getD, List.getElem?_eq_getElem hj], ?_⟩
    rcases hf with rfl | hf
    · simp [World.frozen?, hg]
    · obtain ⟨lo, hi'⟩ := fz
      simp only [World.frozen?, hg, Bool.and_eq_false_iff, decide_eq_false_iff_not]
      left
      simp only at hf
      omega
theorem R_putn {e g n cap : Nat} {W : World} {base : Nat} {ok : Nat → Prop} {xs : List Int} (h : R e W base ok (.slice (some ⟨g, 0, none⟩) n cap) xs) (i : Int) (x : Int) : R e (W.setCell ⟨g, i.toNat, none⟩ (.int .u8 x)) base ok (.slice (some ⟨g, 0, none⟩) n cap) (xs.set i.toNat x) := by
  refine ⟨h.1, ?_⟩
  rcases h.2 with ⟨he, _⟩ | ⟨g', cap', cur, fz, he, hb, hg, hf, hn, hm, hs, ht⟩
  · injection he with h1; cases h1
  · injection he with h1 h2 h3
    injection h1 with h1; injection h1 with h1
    subst h1; subst h2; subst h3
    refine .inr ⟨g, cap, _, fz, by rw [List.length_set], hb, (by rw [setCell_eq_setRow W g i.toNat cur e fz _ hg]; exact setRow_heap W g cur _ e _ hg), ?_, by rw [List.length_set]; exact hn, hm, by rw [Array.size_setIfInBounds]; exact hs, ?_⟩
    · rcases hf with hf | hf
      · exact .inl hf
      · exact .inr (by rw [Array.size_setIfInBounds]; exact hf)
    · rw [List.length_set, Array.toList_setIfInBounds, List.take_set, ht]
      simp [nums, List.map_set]

theorem run_storeCells_atT (P : Program) (g o : Nat) (t : TypeId) (fz : Nat × Nat) : ∀ (vs : List Value) (i : Nat) (cur : Array Value) (w : World), w.heap[g]? = some (.cells cur t fz) → cur.size ≤ fz.1 → o + i + vs.length ≤ cur.size → (∀ v ∈ vs, v.oneCell' = true) →
    (storeCells ⟨g, o, none⟩ vs i).run P w = .ok () (w.setRow g (cur.toList.take (o + i) ++ vs ++ cur.toList.drop (o + i + vs.length)).toArray)
  | [], i, cur, w, hg, _, _, _ => by
    simp only [storeCells, List.append_nil, List.length_nil, Nat.add_zero, List.take_append_drop, Array.toArray_toList]
    rw [setRow_self w g cur t fz hg]
    rfl
  | v :: rest, i, cur, w, hg, hfz, hl, h1 => by
    have hi : o + i < cur.size := by simp at hl; omega
    have hadd : (⟨g, o, none⟩ : Addr).add i = ⟨g, o + i, none⟩ := by unfold Addr.add; split <;> simp_all
    have hcell : w.cell? ⟨g, o + i, none⟩ = some cur[o + i] := by simp [World.cell?, hg, hi]
    have hfro : w.frozen? ⟨g, o + i, none⟩ = false := by
      obtain ⟨lo, hi'⟩ := fz
      simp only [World.frozen?, hg, Bool.and_eq_false_iff, decide_eq_false_iff_not]
      left
      simp only at hfz
      omega
    have hst : (store ((⟨g, o, none⟩ : Addr).add i) v).run P w = .ok () (w.setRow g (cur.setIfInBounds (o + i) v)) := by
      rw [hadd, run_store P w _ v _ (h1 v (by simp)), hcell]
      simp [hfro, setCell_eq_setRow w g (o + i) cur t fz v hg]
    have ih := run_storeCells_atT P g o t fz rest (i + 1) (cur.setIfInBounds (o + i) v) (w.setRow g (cur.setIfInBounds (o + i) v)) (setRow_heap w g cur _ t _ hg) (by simpa using hfz) (by simp at hl ⊢; omega) (fun x hx => h1 x (by simp [hx]))
    simp only [storeCells, Sem.run_bind, hst, Result.andThen_ok, ih, setRow_setRow]
    congr 3
    have e := list_seg_step cur.toList (o + i) v rest (by simp at hl ⊢; omega)
    simpa [Array.toList_setIfInBounds, Nat.add_assoc] using e

theorem run_append {P : Program} {W : World} (base : Nat) (t ty e : TypeId) (i : TypeInfo) (ht : P.underlying t = some (.slice e)) (hi : P.info? e = some i) (hz : i.zero = some (.int .u8 0)) (hs1 : i.size = 1) (hby : 0 < i.bytes)
    {v : Value} {xs ys : List Int} {A : Option Addr} {m c : Nat} (HO : OwnsM W base e v xs) (hm : ys.length = m) (HR : 0 < m → ∃ ad, A = some ad ∧ ∀ j p, ys[j]? = some p → W.cell? (ad.add j) = some (.int .u8 p))
    (hbase : base ≤ W.heap.size) (hl : (xs.length + m) * i.bytes ≤ 140737488355328) :
    ∃ v1 w1, (Builtin.append_ #[t, t] ty #[v, .slice A m c]).run P W = .ok v1 w1 ∧ OwnsM w1 base e v1 (xs ++ ys) ∧ W.grownBy w1 v.ownBlock ∧ (v1.ownBlock = v.ownBlock ∨ v1.ownBlock = some W.heap.size) := by
  have hlen : xs.length + m ≤ 140737488355328 := Nat.le_trans (Nat.le_mul_of_pos_right _ hby) hl
  by_cases hm0 : m = 0
  · subst hm0
    obtain rfl : ys = [] := List.eq_nil_of_length_eq_zero hm
    refine ⟨v, W, ?_, by simpa using HO, World.grownBy.refl W _, .inl rfl⟩
    rcases HO with ⟨rfl, rfl⟩ | ⟨g, cap, cur, fz, rfl, hb, hg, hf, hnc, hcm, hcs, htk⟩
    · rcases A with _ | ad <;> simp [Builtin.append_, run_underlying ht, sizeOf, typeInfo, hi, Builtin.lenOf, Builtin.firstCells, loadCells, loadCellsFrom]
    · rcases A with _ | ad <;> simp [Builtin.append_, run_underlying ht, sizeOf, typeInfo, hi, Builtin.lenOf, Builtin.firstCells, hnc, storeCells, loadCells, loadCellsFrom]
  · obtain ⟨ad, rfl, hc⟩ := HR (by omega)
    have hnews : ∀ j u, (nums .u8 ys)[j]? = some u → W.cell? (ad.add j) = some u := by
      intro j u hu
      rcases h : ys[j]? with _ | p
      · simp [nums, h] at hu
      · have := hc j p h
        simp [nums, h] at hu
        rw [this, hu]
    have h1 : ∀ u ∈ nums .u8 ys, u.oneCell' = true := by
      intro u hu; simp only [nums, List.mem_map] at hu; obtain ⟨q, _, rfl⟩ := hu; rfl
    have hnl : (nums .u8 ys).length = m * 1 := by simp [nums, hm]
    have hxl : (nums .u8 xs).length = xs.length := by simp [nums]
    have e2 : nums .u8 xs ++ nums .u8 ys = nums .u8 (xs ++ ys) := by simp [nums]
    have fin : ∀ v1 w1, w1.ownsRow base e 1 v1 (xs.length + m) (nums .u8 xs ++ nums .u8 ys) → OwnsM w1 base e v1 (xs ++ ys) := by
      intro v1 w1 h
      refine of_own ?_
      rw [List.length_append, hm, ← e2]
      exact h
    have own : W.ownsRow base e 1 v xs.length (nums .u8 xs) → ∃ v1 w1, (Builtin.append_ #[t, t] ty #[v, .slice (some ad) m c]).run P W = .ok v1 w1 ∧ OwnsM w1 base e v1 (xs ++ ys) ∧ W.grownBy w1 v.ownBlock ∧ (v1.ownBlock = v.ownBlock ∨ v1.ownBlock = some W.heap.size) := by
      intro ho
      obtain ⟨v1, w1, hr, h2, h3, _, h5⟩ := run_append_own_at (P := P) W base t ty e i (.int .u8 0) 1 i.bytes ht hi hz hs1 rfl rfl (by omega) v xs.length (nums .u8 xs) ho ad m c (nums .u8 ys) hnl hnews h1 (by simp only [maxLen]; omega) hl hbase
      exact ⟨v1, w1, hr, fin _ _ h2, h3, h5⟩
    rcases HO with ⟨rfl, rfl⟩ | ⟨g, cap, cur, fz, rfl, hb, hg, hf, hnc, hcm, hcs, htk⟩
    · exact own (own_nil _ _ _ _)
    rcases hf with rfl | hf
    · exact own ⟨by simp [nums], .inr ⟨g, cap, cur, rfl, hb, hg, hnc, hcm, by simpa using hcs, by simpa using htk⟩⟩
    clear own
    by_cases hroom : xs.length + m ≤ cap
    · have hfit : xs.length + (nums .u8 ys).length ≤ cur.size := by rw [hnl, hcs]; omega
      have hfc := run_firstCells_some (P := P) W i.size m ad m c (nums .u8 ys) (by rw [hnl, hs1]) hnews
      have hst := run_storeCells_atT P g xs.length e fz (nums .u8 ys) 0 cur W hg hf (by simpa using hfit) h1
      simp only [Nat.add_zero] at hst
      have hr : (Builtin.append_ #[t, t] ty #[.slice (some ⟨g, 0, none⟩) xs.length cap, .slice (some ad) m c]).run P W =
          .ok (.slice (some ⟨g, 0, none⟩) (xs.length + m) cap) (W.setRow g (cur.toList.take xs.length ++ nums .u8 ys ++ cur.toList.drop (xs.length + (nums .u8 ys).length)).toArray) := by
        rw [hs1] at hfc
        simp [Builtin.append_, run_underlying ht, sizeOf, typeInfo, hi, Builtin.lenOf, hroom, hfc, Addr.add_lit, hst, hs1]
      refine ⟨_, _, hr, .inr ⟨g, cap, _, fz, by rw [List.length_append, hm], hb, setRow_heap W g cur _ e _ hg, .inr ?_, by rw [List.length_append, hm]; exact hroom, hcm, ?_, ?_⟩, ⟨rfl, rfl, rfl, by simp, fun k _ hk => setRow_other W g k _ (fun e => hk (by simp [Value.ownBlock, e]))⟩, .inl rfl⟩
      · simp only [List.size_toArray, List.length_append, List.length_take, List.length_drop, Array.length_toList]
        omega
      · simp only [List.size_toArray, List.length_append, List.length_take, List.length_drop, Array.length_toList]
        omega
      · rw [htk, e2]
        simp only [List.length_append]
        have : xs.length + ys.length = (nums .u8 (xs ++ ys)).length := by simp [nums]
        rw [this]
        exact List.take_left
    · have holds : ∀ j u, (nums .u8 xs)[j]? = some u → W.cell? ((⟨g, 0, none⟩ : Addr).add j) = some u := by
        intro j u hu
        rcases h : xs[j]? with _ | p
        · simp [nums, h] at hu
        · have := M_cells hg htk j p h
          simp [nums, h] at hu
          rw [this, hu]
      have hr := run_append_grow (P := P) W t ty e i (.int .u8 0) ht hi hz ⟨g, 0, none⟩ xs.length cap (nums .u8 xs) (by rw [hxl, hs1]; omega) holds ad m c (nums .u8 ys) (by rw [hnl, hs1]) hnews (by omega) (by omega) (growslice_fits (by omega) hl)
      have hge := grownCap_ge W (xs.length + m) cap e
      have hcm2 : grownCap W (xs.length + m) cap e ≤ maxLen := grownCap_le_maxLen W (xs.length + m) cap e (by simp only [maxLen]; omega)
      refine ⟨_, _, hr, .inr ⟨W.heap.size, _, _, (0, 0), by rw [List.length_append, hm], hbase, heap_alloc_new W.drew _, .inl rfl, by rw [List.length_append, hm]; exact hge, hcm2, ?_, ?_⟩, ⟨rfl, rfl, rfl, by simp, fun k hk _ => Go.heap_alloc_old W.drew _ hk⟩, .inr rfl⟩
      · simp only [Array.size_append, List.size_toArray, size_zeroCells, hxl, hnl]
        simp [Value.cells]
        omega
      · simp only [Array.toList_append, List.append_assoc]
        rw [← List.append_assoc, e2]
        have : (xs ++ ys).length = (nums .u8 (xs ++ ys)).length := by simp [nums]
        rw [this]
        exact List.take_left

theorem conv_own {W : World} (base : Nat) (e : TypeId) (s : ByteArray) (hl : s.size < 140737488355328) (hbase : base ≤ W.heap.size) :
    OwnsM (Lib.bytesWorld W e s) base e (.slice (some ⟨W.heap.size, 0, none⟩) s.size (grownCap W s.size 0 e)) (bytesOf s) := by
  have hge := grownCap_ge W s.size 0 e
  have hcm : grownCap W s.size 0 e ≤ maxLen := grownCap_le_maxLen W s.size 0 e (by simp only [maxLen]; omega)
  have hsz : s.data.size = s.size := rfl
  refine .inr ⟨W.heap.size, _, _, _, by rw [bytesOf_length], hbase, Lib.bytesWorld_at_new W e s, .inr (Nat.le_refl _), by rw [bytesOf_length]; exact hge, hcm, ?_, ?_⟩
  · simp only [Lib.bytesCells, Array.size_append, Array.size_map, Array.size_replicate, hsz]
    omega
  · rw [bytesOf_length]
    simp only [Lib.bytesCells, Array.toList_append, Array.toList_map]
    have h1 : nums .u8 (bytesOf s) = s.data.toList.map (fun b => Value.int .u8 b.toNat) := by simp [nums, bytesOf]
    rw [h1]
    have h2 : s.size = (s.data.toList.map (fun b => Value.int .u8 b.toNat)).length := by simp [hsz]
    rw [h2]
    exact List.take_left

section
variable {P : Program} {ops : Array Oper} {rest : List Oper} {o : Oper} {a : Act} {Q : Exit → Act → World → Prop} {Kc : Act → World → Prop}
theorem conv_exec {W : World} (src dst e : TypeId) (x : Operand) (ho : o.op = .convert src dst x) {u : TypeDesc}
    (hs : P.underlying src = some u) (hd : P.underlying dst = some (.slice e)) (he : P.underlying e = some (.int .u8)) (s : ByteArray) (hx : a.eval x = .string s) :
    (execOp a.eval o).run P W = .ok (.value (.slice (some ⟨W.heap.size, 0, none⟩) s.size (grownCap W s.size 0 e))) (Lib.bytesWorld W e s) := by
  have hr := Lib.run_convert_string_bytes (P := P) W src dst e s hs hd he
  simp [execOp, ho, hx, hr]
theorem conv_told {W w0 : World} {base e : Nat} (s : ByteArray) {ok okp : Nat → Prop} (hok : ∀ k, okp k → ok k) (hfresh : ok W.heap.size) (hl : s.size < 140737488355328) (HB : Below base w0 W) (hbase : base ≤ W.heap.size) {C : Prop}
    (h : R e (Lib.bytesWorld W e s) base ok (.slice (some ⟨W.heap.size, 0, none⟩) s.size (grownCap W s.size 0 e)) (bytesOf s) → Below base w0 (Lib.bytesWorld W e s) → W.grownBy (Lib.bytesWorld W e s) none → (∃ b, (Value.slice (some ⟨W.heap.size, 0, none⟩) s.size (grownCap W s.size 0 e)).ownBlock = some b ∧ W.heap.size ≤ b) → C) : C := by
  refine h ⟨fun k hk => ?_, conv_own base e s hl hbase⟩ (bytes_below HB hbase e s) ⟨rfl, rfl, rfl, by rw [Lib.bytesWorld_size]; omega, fun k hk _ => Lib.bytesWorld_at_old W e s k hk⟩ ⟨_, rfl, Nat.le_refl _⟩
  have : W.heap.size = k := by simpa [Value.ownBlock] using hk
  subst this
  exact hfresh
theorem R_conv_step {w0 W : World} (base e : Nat) (hw : Region.wanted o (yielded ops a.tmps) = true) {N : Tmp} (_hd : o.dst = some N) (src dst : TypeId) (x : Operand) (ho : o.op = .convert src dst x) {u : TypeDesc}
    (hs : P.underlying src = some u) (hd : P.underlying dst = some (.slice e)) (he : P.underlying e = some (.int .u8)) (s : ByteArray) (hx : a.eval x = .string s) {ok okp : Nat → Prop} (hok : ∀ k, okp k → ok k) (hfresh : ok W.heap.size) (hl : s.size < 140737488355328) (HB : Below base w0 W) (hbase : base ≤ W.heap.size)
    (h : ∀ v1 w1, R e w1 base ok v1 (bytesOf s) → Below base w0 w1 → W.grownBy w1 none → (∃ b, v1.ownBlock = some b ∧ W.heap.size ≤ b) → Kc (a.put o.dst v1) w1) : if Region.wanted o (yielded ops a.tmps) = true then Oper.wp P o a W Kc Q else Kc (a.put o.dst undef) W :=
  event_step hw (conv_exec src dst e x ho hs hd he s hx) (conv_told s hok hfresh hl HB hbase (h _ _))
theorem R_conv {w0 W : World} (base e : Nat) (hgd : o.guard = none) {N : Tmp} (_hd : o.dst = some N) (src dst : TypeId) (x : Operand) (ho : o.op = .convert src dst x) {u : TypeDesc}
    (hs : P.underlying src = some u) (hd : P.underlying dst = some (.slice e)) (he : P.underlying e = some (.int .u8)) (s : ByteArray) (hx : a.eval x = .string s) {ok okp : Nat → Prop} (hok : ∀ k, okp k → ok k) (hfresh : ok W.heap.size) (hl : s.size < 140737488355328) (HB : Below base w0 W) (hbase : base ≤ W.heap.size)
    (h : ∀ v1 w1, R e w1 base ok v1 (bytesOf s) → Below base w0 w1 → W.grownBy w1 none → (∃ b, v1.ownBlock = some b ∧ W.heap.size ≤ b) → wpList P ops Q rest (a.put o.dst v1) w1) : wpList P ops Q (o :: rest) a W :=
  Kd.event_run hgd (conv_exec src dst e x ho hs hd he s hx) (conv_told s hok hfresh hl HB hbase (h _ _))
theorem append_run {Rr : Int → List Value → Prop} {w0 W : World} (base : Nat) (s x : Operand) (t e : TypeId) (z : Value) (bytes : Nat)
    (ho : o.op = .call { callee := .builtin .append, args := #[s, x], argTypes := #[t, t] })
    (ht : P.underlying t = some (.slice e)) (hinfo : (P.info? e).map (fun i => (i.zero, i.size, i.bytes)) = some (some z, 1, bytes)) (hz : z = .int .u8 0) (hb0 : 0 < bytes)
    (v : Value) (xs ys : List Int) (A : Option Addr) (m c : Nat) (ok okp : Nat → Prop) (hs : a.eval s = v) (hx : a.eval x = .slice A m c)
    (HO : R e W base ok v xs) (HR : ReadsRow Rr 1 W A m ys) (hKM : ∀ x cs, Rr x cs → (Kd.int .u8).M W base okp x cs) (hfresh : ∀ k, W.heap.size ≤ k → ok k)
    (HB : Below base w0 W) (hbase : base ≤ W.heap.size) (hl : (xs.length + m) * bytes ≤ 140737488355328) :
    ∃ v1 w1, (Builtin.append_ #[t, t] o.type #[v, .slice A m c]).run P W = .ok v1 w1 ∧ R e w1 base ok v1 (xs ++ ys) ∧ Below base w0 w1 ∧ W.grownBy w1 v.ownBlock ∧ (v1.ownBlock = v.ownBlock ∨ ∃ b, v1.ownBlock = some b ∧ W.heap.size ≤ b) := by
  obtain ⟨i0, hi, hzz⟩ := Option.map_eq_some_iff.1 hinfo
  simp only [Prod.mk.injEq] at hzz
  obtain ⟨hz0, hz1, hz2⟩ := hzz
  subst hz2
  have hm : ys.length = m := HR.1
  obtain ⟨v1, w1, hr, h2, h3, h5⟩ := run_append (P := P) (W := W) base t o.type e i0 ht hi (by rw [hz0, hz]) hz1 hb0 (A := A) (c := c) HO.2 hm (fun hp => by
    obtain ⟨ad, he, hc⟩ := HR.2.2 hp
    refine ⟨ad, he, fun j p hjp => ?_⟩
    obtain ⟨cs, _, hcs, hcell⟩ := hc j p hjp
    have hM := hKM p cs hcs
    simp only [Kd.int, Kd.scalar] at hM
    subst hM
    simpa using hcell 0 _ rfl) hbase hl
  refine ⟨v1, w1, hr, ⟨fun k hk => ?_, h2⟩, HB.grown h3 hbase (R_base HO), h3, ?_⟩
  · rcases h5 with h5 | h5
    · exact HO.1 k (h5 ▸ hk)
    · rw [h5] at hk
      injection hk with hk
      exact hfresh k (by omega)
  · rcases h5 with h5 | h5
    · exact .inl h5
    · exact .inr ⟨_, h5, Nat.le_refl _⟩
theorem R_append_rows_step {Rr : Int → List Value → Prop} {w0 W : World} (base : Nat) (hw : Region.wanted o (yielded ops a.tmps) = true) (s x : Operand) (t e : TypeId) (z : Value) (bytes : Nat)
    (ho : o.op = .call { callee := .builtin .append, args := #[s, x], argTypes := #[t, t] })
    (ht : P.underlying t = some (.slice e)) (hinfo : (P.info? e).map (fun i => (i.zero, i.size, i.bytes)) = some (some z, 1, bytes)) (hz : z = .int .u8 0) (_hs0 : 0 < 1) (hb0 : 0 < bytes)
    (v : Value) (xs ys : List Int) (A : Option Addr) (m c : Nat) (ok okp : Nat → Prop) (hs : a.eval s = v) (hx : a.eval x = .slice A m c)
    (HO : R e W base ok v xs) (HR : ReadsRow Rr 1 W A m ys) (hKM : ∀ x cs, Rr x cs → (Kd.int .u8).M W base okp x cs) (_hokp : ∀ k, okp k → ok k ∧ some k ≠ v.ownBlock) (hfresh : ∀ k, W.heap.size ≤ k → ok k)
    (HB : Below base w0 W) (hbase : base ≤ W.heap.size) (hl : (xs.length + m) * bytes ≤ 140737488355328)
    (h : ∀ v1 w1, R e w1 base ok v1 (xs ++ ys) → Below base w0 w1 → W.grownBy w1 v.ownBlock → (v1.ownBlock = v.ownBlock ∨ ∃ b, v1.ownBlock = some b ∧ W.heap.size ≤ b) → Kc (a.put o.dst v1) w1) :
    if Region.wanted o (yielded ops a.tmps) = true then Oper.wp P o a W Kc Q else Kc (a.put o.dst undef) W := by
  obtain ⟨v1, w1, hr, h2, h3, h4, h5⟩ := append_run base s x t e z bytes ho ht hinfo hz hb0 v xs ys A m c ok okp hs hx HO HR hKM hfresh HB hbase hl
  rw [if_pos hw]
  unfold Oper.wp execOp
  simp only [ho, resolve, invoke, builtin, Sem.run_bind, Sem.run_pure, Result.andThen_ok, List.map_toArray, List.map_cons, List.map_nil, hs, hx, hr]
  exact h _ _ h2 h3 h4 h5
end
end Md

end Go.Proofs.YtlekhcopddajbaaGreatDoor
