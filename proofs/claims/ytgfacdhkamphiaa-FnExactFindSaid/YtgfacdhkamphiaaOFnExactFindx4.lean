/- Walks of functions that the law FnExactFind reaches, turned by this session from a print of which a part did not build; what was changed is listed in wip/patches of the proofs' repo. -/
import Derived.Test.YtgfacdhkamphiaaOFnExactFindx0
import Derived.Test.YtgfacdhkamphiaaOFnExactFindx1
import Derived.Test.YtgfacdhkamphiaaOFnExactFindx2
import Derived.Test.YtgfacdhkamphiaaOFnExactFindx3
namespace Go.Proofs.Ytgfacdhkamphiaa.PFnExactFind
open Go.RowKit Go.Proofs.YtgfacdhkamphiaaW.PrintWords Go.Proofs.YtgfacdhkamphiaaW.PrintLast Go.Proofs.YtgfacdhkamphiaaW.PrintMore
attribute [local go_sem] max2_int min2_int max_two min_two max_three min_three max_four min_four   -- for this text's walks alone
set_option linter.unusedVariables false
set_option linter.unusedSimpArgs false

/-! ### laws_heldStringS: function 101 -/
def laws_heldStringS.l0 : Nat → List ByteArray → Int → Int → Option (Int)
  | 0, _, _, _ => none
  | k + 1, x0, x1, x5 => if x5 < (x0.length : Int) then (if 0 ≤ x5 then ((laws_markText.f k x1).bind fun t182 => (if (rdOf ByteArray.empty x0 x5).toList = t182.toList then (laws_heldStringS.l0 k x0 (wrap64 (x1 + 1)) (wrap64 (x5 + 1))) else (some (-1)))) else (none)) else (some x1)
def laws_heldStringS.f (k : Nat) (l0 : List ByteArray) (a1 : Int) : Option (Int) := laws_heldStringS.l0 k l0 a1 0
theorem laws_heldStringS.mono_l : ∀ k, (∀ y0 y1 y2, LeO (laws_heldStringS.l0 k y0 y1 y2) (laws_heldStringS.l0 (k + 1) y0 y1 y2))
  | 0 => fun _ _ _ r h => by simp [laws_heldStringS.l0] at h
  | k + 1 => by
    have ih0 := laws_heldStringS.mono_l k
    · intro y0 y1 y2
      unfold laws_heldStringS.l0
      repeat' first
      | (with_reducible exact ih0 _ _ _)
      | (with_reducible exact laws_markText.mono _ _)
      | (with_reducible exact LeO.refl _)
      | (with_reducible exact LeO.none _)
      | (with_reducible refine LeO.ite ?_ ?_)
      | (with_reducible refine LeO.bind ?_ (fun _ => ?_))
      | exact ih0 _ _ _
      | exact laws_markText.mono _ _
      | exact LeO.none _
      | refine LeO.ite ?_ ?_
      | refine LeO.bind ?_ (fun _ => ?_)
theorem laws_heldStringS.mono : ∀ a0 a1 k, LeO (laws_heldStringS.f k a0 a1) (laws_heldStringS.f (k + 1) a0 a1) := by
  intro a0 a1 k
  have ih0 := laws_heldStringS.mono_l k
  unfold laws_heldStringS.f
  repeat' first
      | (with_reducible exact ih0 _ _ _)
      | (with_reducible exact laws_markText.mono _ _)
      | (with_reducible exact LeO.refl _)
      | (with_reducible exact LeO.none _)
      | (with_reducible refine LeO.ite ?_ ?_)
      | (with_reducible refine LeO.bind ?_ (fun _ => ?_))
      | exact ih0 _ _ _
      | exact laws_markText.mono _ _
      | exact LeO.none _
      | refine LeO.ite ?_ ?_
      | refine LeO.bind ?_ (fun _ => ?_)
set_option maxHeartbeats 8000000 in
set_option maxRecDepth 100000 in
theorem laws_heldStringS.calls (k : Nat) (A0 : Option Addr) (c0 : Nat) (l0 : List ByteArray) (a1 : Int) (r : Int) (w : World) (hr0 : Kd.C Kd.string w A0 l0.length l0) (hc0 : l0.length ≤ c0) (h : laws_heldStringS.f k l0 a1 = some r) :
    Calls Try.prog 101 #[.slice A0 l0.length c0, .int .i64 a1] w fun e w' => e = .returned (.int .i64 r) ∧ Below w.heap.size w w' := by
  have HR0 := Aside0.mk hr0
  have HC0 := Aside0.mk hc0
  clear hr0 hc0
  have HB := Aside0.mk (Below.refl w.heap.size w)
  have H : (laws_heldStringS.l0 k l0 a1 0) = some r := h
  clear h
  have H' := Aside0.mk H
  clear H
  go_enter Try.func101, Try.ntmps101
  go_wp2
  go_loopg [1, 5] k (fun kq v1 v5 w' => ∃ (x1_1 : Int) (x5_1 : Int), v1 = .int .i64 x1_1 ∧ v5 = .int .i64 x5_1 ∧ Aside0 (laws_heldStringS.l0 kq l0 x1_1 x5_1 = some r) ∧ Aside0 (kq ≤ k) ∧ Aside0 (Below w.heap.size w w'))
  case atStart => exact ⟨(a1), (0), (by first | rfl | (simp; done) | (simp [*]; done)), (by first | rfl | (simp; done) | (simp [*]; done)), H', ⟨Nat.le_refl _⟩, ⟨by repeat (first | (with_reducible first | exact HB.out | apply below_alloc | apply pw_below_drewN | apply below_drew1) | exact HB.out)⟩⟩
  case round =>
    clear H'
    try clear c1
    try clear p2
    obtain ⟨x1_1, x5_1, rfl, rfl, HA, HK1, HB⟩ := hrel
    cases gk with
    | zero => exact absurd HA.out (by simp [laws_heldStringS.l0])
    | succ k1 =>
      have H := HA.out
      clear HA
      simp only [laws_heldStringS.l0] at H
      by_cases c3 : x5_1 < (l0.length : Int)
      · rw [if_pos c3] at H
        have c3b0 : decide (x5_1 < (l0.length : Int)) = true := decide_eq_true c3
        clear c3
        by_cases c4 : 0 ≤ x5_1
        · rw [if_pos c4] at H
          have c4b0 : decide (0 ≤ x5_1) = true := decide_eq_true c4
          clear c4
          replace H := Option.bind_eq_some_iff.mp H
          obtain ⟨t182, A50, H⟩ := H
          replace H : (if (rdOf ByteArray.empty l0 x5_1).toList = t182.toList then (laws_heldStringS.l0 k1 l0 (wrap64 (x1_1 + 1)) (wrap64 (x5_1 + 1))) else (some (-1))) = some r := H
          have A5 := Aside0.mk A50
          clear A50
          by_cases c6 : (rdOf ByteArray.empty l0 x5_1).toList = t182.toList
          · rw [if_pos c6] at H
            have c6b0 : ((rdOf ByteArray.empty l0 x5_1).toList == t182.toList) = true := beq_iff_eq.mpr c6
            have c6b1 : ((rdOf ByteArray.empty l0 x5_1).toList != t182.toList) = false := bne_eq_false_iff_eq.mpr c6
            clear c6
            have H' := Aside0.mk H
            clear H
            try go_wp2
            have n0_ := Aside0.mk (below_drew1 HB.out)
            clear HB
            have HB := n0_
            clear n0_
            have p181 : 0 ≤ (x5_1 : Int) := of_decide_eq_true (by first | (with_reducible assumption) | assumption)
            have q181 : x5_1 < (l0.length : Int) := of_decide_eq_true (by first | (with_reducible assumption) | assumption)
            obtain ⟨ad181, e181, hx181_0⟩ := Kd.at_string HR0.out x5_1 p181 q181
            have hw181_0 := hx181_0
            cases e181
            replace hx181_0 := (HB.out.cell (World.block_lt_of_cell? w _ hx181_0)).trans hx181_0
            replace p181 := eq_true p181
            replace q181 := eq_true q181
            refine start_ (n := 7) (S := fun w' => w'.cell? (ad181.add (x5_1).toNat) = some (.string (rdOf ByteArray.empty l0 x5_1))) (ds := []) #[false, false, false, false, false, false, false] (by kernel_rfl) rfl rfl (((HB.out.cell (World.block_lt_of_cell? w _ hw181_0)).trans hw181_0)) (fun hHeld => ?_)
            generalize wr.drew = w7 at HB hx181_0 hHeld ⊢
            refine pure_ (i := 0) (N := some 12) (v := ?_) (a' := ?_) #[true, false, false, false, false, false, false] rfl rfl (by kernel_rfl) (fun _ _ _ h => h) (Or.inl ⟨by rfl, ?_⟩) ?_ ?_
            rotate_left
            · intro w'
              go_simp
              with_reducible rfl
            rotate_left
            · simp only [Act.put, List.setIfInBounds_toArray, List.set_cons_zero, List.set_cons_succ, i64_w, i32_w]
              rfl
            refine pure_ (i := 1) (N := some 13) (v := ?_) (a' := ?_) #[true, true, false, false, false, false, false] rfl rfl (by kernel_rfl) (fun _ _ _ h => h) (Or.inl ⟨by rfl, ?_⟩) ?_ ?_
            rotate_left
            · intro w'
              go_simp
              with_reducible rfl
            rotate_left
            · simp only [Act.put, List.setIfInBounds_toArray, List.set_cons_zero, List.set_cons_succ, i64_w, i32_w]
              rfl
            refine pure_ (i := 2) (N := some 14) (v := ?_) (a' := ?_) #[true, true, true, false, false, false, false] rfl rfl (by kernel_rfl) (fun _ _ _ h => h) (Or.inl ⟨by rfl, ?_⟩) ?_ ?_
            rotate_left
            · intro w'
              go_simp
              with_reducible rfl
            rotate_left
            · simp only [Act.put, List.setIfInBounds_toArray, List.set_cons_zero, List.set_cons_succ, i64_w, i32_w]
              rfl
            refine pure_ (i := 4) (N := some 16) (v := ?_) (a' := ?_) #[true, true, true, false, true, false, false] rfl rfl (by kernel_rfl) (fun _ _ _ h => h) (Or.inl ⟨by rfl, ?_⟩) ?_ ?_
            rotate_left
            · intro w'
              go_simp
              with_reducible rfl
            rotate_left
            · simp only [Act.put, List.setIfInBounds_toArray, List.set_cons_zero, List.set_cons_succ, i64_w, i32_w]
              rfl
            refine take_ (i := 3) (N := some 15) (v := ?_) (a' := ?_) #[true, true, true, true, true, false, false] rfl rfl (by kernel_rfl) (fun _ _ _ h => h) (Or.inl ⟨by rfl, ?_⟩) hHeld ?_ ?_
            rotate_left
            · intro w' s0
              go_simp
              with_reducible rfl
            rotate_left
            · simp only [Act.put, List.setIfInBounds_toArray, List.set_cons_zero, List.set_cons_succ, i64_w, i32_w]
              rfl
            refine one_ (i := 5) (N := some 17) #[true, true, true, true, true, true, false] rfl rfl (by kernel_rfl) (by decide) (fun K hK => ?_)
            refine goes_ Try.func86 (by kernel_rfl) rfl #[.int .i64 x1_1] (by rfl) rfl rfl (by (try simp only [List.map_toArray, List.map_cons, List.map_nil]); first | done | rfl | (simp only [List.length_drop, List.length_take]; rfl)) ?_
            with_reducible refine (laws_markText.calls k1 x1_1 t182 _ A5.out).mono ?_
            rintro e w8 ⟨rfl, hb⟩
            refine ⟨_, rfl, ?_⟩
            have n0_ := Aside0.mk (below_step (by repeat (first | (with_reducible first | exact HB.out | apply below_alloc | apply pw_below_drewN | apply below_drew1) | exact HB.out)) hb)
            clear HB
            have HB := n0_
            clear n0_
            (try clear hb)
            (try clear hb2)
            (try clear hk)
            (try clear hi)
            refine hK.out _ _ (((HB.out.cell (World.block_lt_of_cell? w _ hw181_0)).trans hw181_0)) (fun hHeld => ?_)
            clear hK K
            refine norm_ (a' := ?_) ?_ ?_
            rotate_left
            · show Act.put _ (some 17) _ = _
              simp only [Act.put, List.setIfInBounds_toArray, List.set_cons_zero, List.set_cons_succ, i64_w, i32_w]
              rfl
            refine pure_ (i := 6) (N := some 18) (v := ?_) (a' := ?_) #[true, true, true, true, true, true, true] rfl rfl (by kernel_rfl) (fun _ _ _ h => h) (Or.inl ⟨by rfl, ?_⟩) ?_ ?_
            rotate_left
            · intro w'
              go_simp
              with_reducible rfl
            rotate_left
            · simp only [Act.put, List.setIfInBounds_toArray, List.set_cons_zero, List.set_cons_succ, i64_w, i32_w]
              rfl
            refine done_ (by kernel_rfl) ?_
            try go_wp2
            go_roundg k1
            case measure => have := HK1.out; omega
            case rel => exact ⟨(wrap64 (x1_1 + 1)), (wrap64 (x5_1 + 1)), (by first | rfl | (simp; done) | (simp [*]; done)), (by first | rfl | (simp; done) | (simp [*]; done)), H', ⟨by have := HK1.out; omega⟩, ⟨by repeat (first | (with_reducible first | exact HB.out | apply below_alloc | apply pw_below_drewN | apply below_drew1) | exact HB.out)⟩⟩
          · rw [if_neg c6] at H
            have c6b0 : ((rdOf ByteArray.empty l0 x5_1).toList == t182.toList) = false := beq_eq_false_iff_ne.mpr c6
            have c6b1 : ((rdOf ByteArray.empty l0 x5_1).toList != t182.toList) = true := bne_iff_ne.mpr c6
            obtain rfl := Option.some.inj H
            try go_wp2
            have n0_ := Aside0.mk (below_drew1 HB.out)
            clear HB
            have HB := n0_
            clear n0_
            have p181 : 0 ≤ (x5_1 : Int) := of_decide_eq_true (by first | (with_reducible assumption) | assumption)
            have q181 : x5_1 < (l0.length : Int) := of_decide_eq_true (by first | (with_reducible assumption) | assumption)
            obtain ⟨ad181, e181, hx181_0⟩ := Kd.at_string HR0.out x5_1 p181 q181
            have hw181_0 := hx181_0
            cases e181
            replace hx181_0 := (HB.out.cell (World.block_lt_of_cell? w _ hx181_0)).trans hx181_0
            replace p181 := eq_true p181
            replace q181 := eq_true q181
            refine start_ (n := 7) (S := fun w' => w'.cell? (ad181.add (x5_1).toNat) = some (.string (rdOf ByteArray.empty l0 x5_1))) (ds := []) #[false, false, false, false, false, false, false] (by kernel_rfl) rfl rfl (((HB.out.cell (World.block_lt_of_cell? w _ hw181_0)).trans hw181_0)) (fun hHeld => ?_)
            generalize wr.drew = w9 at HB hx181_0 hHeld ⊢
            refine pure_ (i := 0) (N := some 12) (v := ?_) (a' := ?_) #[true, false, false, false, false, false, false] rfl rfl (by kernel_rfl) (fun _ _ _ h => h) (Or.inl ⟨by rfl, ?_⟩) ?_ ?_
            rotate_left
            · intro w'
              go_simp
              with_reducible rfl
            rotate_left
            · simp only [Act.put, List.setIfInBounds_toArray, List.set_cons_zero, List.set_cons_succ, i64_w, i32_w]
              rfl
            refine pure_ (i := 1) (N := some 13) (v := ?_) (a' := ?_) #[true, true, false, false, false, false, false] rfl rfl (by kernel_rfl) (fun _ _ _ h => h) (Or.inl ⟨by rfl, ?_⟩) ?_ ?_
            rotate_left
            · intro w'
              go_simp
              with_reducible rfl
            rotate_left
            · simp only [Act.put, List.setIfInBounds_toArray, List.set_cons_zero, List.set_cons_succ, i64_w, i32_w]
              rfl
            refine pure_ (i := 2) (N := some 14) (v := ?_) (a' := ?_) #[true, true, true, false, false, false, false] rfl rfl (by kernel_rfl) (fun _ _ _ h => h) (Or.inl ⟨by rfl, ?_⟩) ?_ ?_
            rotate_left
            · intro w'
              go_simp
              with_reducible rfl
            rotate_left
            · simp only [Act.put, List.setIfInBounds_toArray, List.set_cons_zero, List.set_cons_succ, i64_w, i32_w]
              rfl
            refine pure_ (i := 4) (N := some 16) (v := ?_) (a' := ?_) #[true, true, true, false, true, false, false] rfl rfl (by kernel_rfl) (fun _ _ _ h => h) (Or.inl ⟨by rfl, ?_⟩) ?_ ?_
            rotate_left
            · intro w'
              go_simp
              with_reducible rfl
            rotate_left
            · simp only [Act.put, List.setIfInBounds_toArray, List.set_cons_zero, List.set_cons_succ, i64_w, i32_w]
              rfl
            refine take_ (i := 3) (N := some 15) (v := ?_) (a' := ?_) #[true, true, true, true, true, false, false] rfl rfl (by kernel_rfl) (fun _ _ _ h => h) (Or.inl ⟨by rfl, ?_⟩) hHeld ?_ ?_
            rotate_left
            · intro w' s0
              go_simp
              with_reducible rfl
            rotate_left
            · simp only [Act.put, List.setIfInBounds_toArray, List.set_cons_zero, List.set_cons_succ, i64_w, i32_w]
              rfl
            refine one_ (i := 5) (N := some 17) #[true, true, true, true, true, true, false] rfl rfl (by kernel_rfl) (by decide) (fun K hK => ?_)
            refine goes_ Try.func86 (by kernel_rfl) rfl #[.int .i64 x1_1] (by rfl) rfl rfl (by (try simp only [List.map_toArray, List.map_cons, List.map_nil]); first | done | rfl | (simp only [List.length_drop, List.length_take]; rfl)) ?_
            with_reducible refine (laws_markText.calls k1 x1_1 t182 _ A5.out).mono ?_
            rintro e w10 ⟨rfl, hb⟩
            refine ⟨_, rfl, ?_⟩
            have n0_ := Aside0.mk (below_step (by repeat (first | (with_reducible first | exact HB.out | apply below_alloc | apply pw_below_drewN | apply below_drew1) | exact HB.out)) hb)
            clear HB
            have HB := n0_
            clear n0_
            (try clear hb)
            (try clear hb2)
            (try clear hk)
            (try clear hi)
            refine hK.out _ _ (((HB.out.cell (World.block_lt_of_cell? w _ hw181_0)).trans hw181_0)) (fun hHeld => ?_)
            clear hK K
            refine norm_ (a' := ?_) ?_ ?_
            rotate_left
            · show Act.put _ (some 17) _ = _
              simp only [Act.put, List.setIfInBounds_toArray, List.set_cons_zero, List.set_cons_succ, i64_w, i32_w]
              rfl
            refine pure_ (i := 6) (N := some 18) (v := ?_) (a' := ?_) #[true, true, true, true, true, true, true] rfl rfl (by kernel_rfl) (fun _ _ _ h => h) (Or.inl ⟨by rfl, ?_⟩) ?_ ?_
            rotate_left
            · intro w'
              go_simp
              with_reducible rfl
            rotate_left
            · simp only [Act.put, List.setIfInBounds_toArray, List.set_cons_zero, List.set_cons_succ, i64_w, i32_w]
              rfl
            refine done_ (by kernel_rfl) ?_
            try go_wp2
            go_ret
            exact ⟨by first | rfl | (simp [errW_none, errW_some] <;> rfl) | (simp [*, errW_none, errW_some] <;> rfl), by repeat (first | (with_reducible first | exact HB.out | apply below_alloc | apply pw_below_drewN | apply below_drew1) | exact HB.out)⟩
        · rw [if_neg c4] at H
          exact absurd H (by simp)
      · rw [if_neg c3] at H
        have c3b0 : decide (x5_1 < (l0.length : Int)) = false := decide_eq_false c3
        clear c3
        obtain rfl := Option.some.inj H
        go_wp2
        go_ret
        exact ⟨by first | rfl | (simp [errW_none, errW_some] <;> rfl) | (simp [*, errW_none, errW_some] <;> rfl), by repeat (first | (with_reducible first | exact HB.out | apply below_alloc | apply pw_below_drewN | apply below_drew1) | exact HB.out)⟩

/-! ### laws_heldVal: function 56 -/
def laws_heldVal.f (k : Nat) (a0_0 : Int) (a0_1 : Int) (a0_2 : ByteArray) (l0_3 : List ByteArray) (a1 : Int) : Option (Int) := (laws_heldStringS.f k l0_3 a1).bind fun t184 => (if t184 < 0 then (some (-1)) else (some t184))
theorem laws_heldVal.mono : ∀ a0 a1 a2 a3 a4 k, LeO (laws_heldVal.f k a0 a1 a2 a3 a4) (laws_heldVal.f (k + 1) a0 a1 a2 a3 a4) := by
  intro a0 a1 a2 a3 a4 k
  unfold laws_heldVal.f
  repeat' first
      | (with_reducible exact laws_heldStringS.mono _ _ _)
      | (with_reducible exact LeO.refl _)
      | (with_reducible exact LeO.none _)
      | (with_reducible refine LeO.ite ?_ ?_)
      | (with_reducible refine LeO.bind ?_ (fun _ => ?_))
      | exact laws_heldStringS.mono _ _ _
      | exact LeO.none _
      | refine LeO.ite ?_ ?_
      | refine LeO.bind ?_ (fun _ => ?_)
set_option maxHeartbeats 8000000 in
set_option maxRecDepth 100000 in
theorem laws_heldVal.calls (k : Nat) (a0_0 : Int) (a0_1 : Int) (a0_2 : ByteArray) (A0_3 : Option Addr) (c0_3 : Nat) (l0_3 : List ByteArray) (a1 : Int) (r : Int) (w : World) (hr0_3 : Kd.C Kd.string w A0_3 l0_3.length l0_3) (hc0_3 : l0_3.length ≤ c0_3) (h : laws_heldVal.f k a0_0 a0_1 a0_2 l0_3 a1 = some r) :
    Calls Try.prog 56 #[.agg #[.int .i64 a0_0, .int .i64 a0_1, .string a0_2, .slice A0_3 l0_3.length c0_3], .int .i64 a1] w fun e w' => e = .returned (.int .i64 r) ∧ Below w.heap.size w w' := by
  have hu75 := Try.underlying75
  have HR0_3 := Aside0.mk hr0_3
  have HC0_3 := Aside0.mk hc0_3
  clear hr0_3 hc0_3
  have HB := Aside0.mk (Below.refl w.heap.size w)
  have H : ((laws_heldStringS.f k l0_3 a1).bind fun t184 => (if t184 < 0 then (some (-1)) else (some t184))) = some r := h
  clear h
  replace H := Option.bind_eq_some_iff.mp H
  obtain ⟨t184, A30, H⟩ := H
  replace H : (if t184 < 0 then (some (-1)) else (some t184)) = some r := H
  have A3 := Aside0.mk A30
  clear A30
  by_cases c4 : t184 < 0
  · rw [if_pos c4] at H
    have c4b0 : decide (t184 < 0) = true := decide_eq_true c4
    clear c4
    obtain rfl := Option.some.inj H
    go_enter Try.func56, Try.ntmps56
    go_wp2_with (first | ((with_reducible refine gate_dst (N := 2) rfl ?_); refine box_event ?hg (N := 2) ?hd (cs := #[.int .i64 a0_0, .int .i64 a0_1, .string a0_2, .slice A0_3 l0_3.length c0_3]) (t := 75) ?hr ?_; (case hd => rfl); (case hg => rfl); (case hr => first | (go_simp; done) | (go_simp; rfl)); intro gb183 hg w5 hbox hb; have n0_ := Aside0.mk (below_step (by repeat (first | (with_reducible first | exact HB.out | apply below_alloc | apply pw_below_drewN | apply below_drew1) | exact HB.out)) hb); have n1_ := Aside0.mk (hbox); have n2_ := Aside0.mk ((by rw [hg]; exact (below_size (by repeat (first | (with_reducible first | exact HB.out | apply below_alloc | apply pw_below_drewN | apply below_drew1) | exact HB.out))) : w.heap.size ≤ gb183)); have n3_ := Aside0.mk ((by rw [hg]; exact (below_size (by repeat (first | (with_reducible first | exact HB.out | apply below_alloc | apply pw_below_drewN | apply below_drew1) | exact HB.out))) : w.heap.size ≤ gb183)); clear HB; have HB := n0_; have BK183 := n1_; have GW183 := n2_; have GE183 := n3_; clear n0_ n1_ n2_ n3_; clear hb hbox hg; have hcz6_0 : w5.cell? ⟨gb183, 0, none⟩ = some (.int .i64 a0_0) := (blk_cell BK183.out 0).trans rfl; have hcz6_1 : w5.cell? ⟨gb183, 1, none⟩ = some (.int .i64 a0_1) := (blk_cell BK183.out 1).trans rfl; have hcz6_2 : w5.cell? ⟨gb183, 2, none⟩ = some (.string a0_2) := (blk_cell BK183.out 2).trans rfl; have hcz6_3 : w5.cell? ⟨gb183, 3, none⟩ = some (.slice A0_3 l0_3.length c0_3) := (blk_cell BK183.out 3).trans rfl; have hfz6_0 := blk_frozen BK183.out 0; have hfz6_1 := blk_frozen BK183.out 1; have hfz6_2 := blk_frozen BK183.out 2; have hfz6_3 := blk_frozen BK183.out 3) | ((with_reducible refine gate_callee (f := 101) rfl ?_); refine goesL_ (some 8) rfl rfl Try.func101 (by kernel_rfl) rfl #[.slice A0_3 l0_3.length c0_3, .int .i64 a1] rfl (by (try simp only [List.map_toArray, List.map_cons, List.map_nil]); first | done | rfl | (simp only [List.length_drop, List.length_take]; rfl)) ?_; (with_reducible refine (laws_heldStringS.calls k _ _ l0_3 a1 t184 _ ?side1 ?side2 A3.out).mono ?_); (case side1 => repeat (first | exact (Kd.C_below HR0_3.out HB.out) | (with_reducible refine Kd.C_alloc ?_ _) | (with_reducible refine Kd.C_drewN ?_ _) | (with_reducible refine Kd.C_drew ?_))); (case side2 => exact HC0_3.out); rintro e w7 ⟨rfl, hb⟩; refine ⟨_, rfl, ?_⟩; have n0_ := Aside0.mk (blk_below (g := gb183) (o := .cells #[.int .i64 a0_0, .int .i64 a0_1, .string a0_2, .slice A0_3 l0_3.length c0_3] 75 (0, 0)) (by (with_reducible repeat (first | refine blk_drewN ?_ _ | refine blk_drew ?_ | refine blk_alloc ?_ _)); exact BK183.out) hb); have n1_ := Aside0.mk (below_step (by repeat (first | (with_reducible first | exact HB.out | apply below_alloc | apply pw_below_drewN | apply below_drew1 | refine below_set ?_ GE183.out) | exact HB.out)) hb); clear BK183; clear HB; have BK183 := n0_; have HB := n1_; clear n0_ n1_; (try clear hb); (try clear hb2); (try clear hk); (try clear hi)))
    go_ret
    exact ⟨by first | rfl | (simp [errW_none, errW_some] <;> rfl) | (simp [*, errW_none, errW_some] <;> rfl), by repeat (first | (with_reducible first | exact HB.out | apply below_alloc | apply pw_below_drewN | apply below_drew1 | refine below_set ?_ GE183.out) | exact HB.out)⟩
  · rw [if_neg c4] at H
    have c4b0 : decide (t184 < 0) = false := decide_eq_false c4
    clear c4
    obtain rfl := Option.some.inj H
    go_enter Try.func56, Try.ntmps56
    go_wp2_with (first | ((with_reducible refine gate_dst (N := 2) rfl ?_); refine box_event ?hg (N := 2) ?hd (cs := #[.int .i64 a0_0, .int .i64 a0_1, .string a0_2, .slice A0_3 l0_3.length c0_3]) (t := 75) ?hr ?_; (case hd => rfl); (case hg => rfl); (case hr => first | (go_simp; done) | (go_simp; rfl)); intro gb183 hg w8 hbox hb; have n0_ := Aside0.mk (below_step (by repeat (first | (with_reducible first | exact HB.out | apply below_alloc | apply pw_below_drewN | apply below_drew1) | exact HB.out)) hb); have n1_ := Aside0.mk (hbox); have n2_ := Aside0.mk ((by rw [hg]; exact (below_size (by repeat (first | (with_reducible first | exact HB.out | apply below_alloc | apply pw_below_drewN | apply below_drew1) | exact HB.out))) : w.heap.size ≤ gb183)); have n3_ := Aside0.mk ((by rw [hg]; exact (below_size (by repeat (first | (with_reducible first | exact HB.out | apply below_alloc | apply pw_below_drewN | apply below_drew1) | exact HB.out))) : w.heap.size ≤ gb183)); clear HB; have HB := n0_; have BK183 := n1_; have GW183 := n2_; have GE183 := n3_; clear n0_ n1_ n2_ n3_; clear hb hbox hg; have hcz9_0 : w8.cell? ⟨gb183, 0, none⟩ = some (.int .i64 a0_0) := (blk_cell BK183.out 0).trans rfl; have hcz9_1 : w8.cell? ⟨gb183, 1, none⟩ = some (.int .i64 a0_1) := (blk_cell BK183.out 1).trans rfl; have hcz9_2 : w8.cell? ⟨gb183, 2, none⟩ = some (.string a0_2) := (blk_cell BK183.out 2).trans rfl; have hcz9_3 : w8.cell? ⟨gb183, 3, none⟩ = some (.slice A0_3 l0_3.length c0_3) := (blk_cell BK183.out 3).trans rfl; have hfz9_0 := blk_frozen BK183.out 0; have hfz9_1 := blk_frozen BK183.out 1; have hfz9_2 := blk_frozen BK183.out 2; have hfz9_3 := blk_frozen BK183.out 3) | ((with_reducible refine gate_callee (f := 101) rfl ?_); refine goesL_ (some 8) rfl rfl Try.func101 (by kernel_rfl) rfl #[.slice A0_3 l0_3.length c0_3, .int .i64 a1] rfl (by (try simp only [List.map_toArray, List.map_cons, List.map_nil]); first | done | rfl | (simp only [List.length_drop, List.length_take]; rfl)) ?_; (with_reducible refine (laws_heldStringS.calls k _ _ l0_3 a1 t184 _ ?side1 ?side2 A3.out).mono ?_); (case side1 => repeat (first | exact (Kd.C_below HR0_3.out HB.out) | (with_reducible refine Kd.C_alloc ?_ _) | (with_reducible refine Kd.C_drewN ?_ _) | (with_reducible refine Kd.C_drew ?_))); (case side2 => exact HC0_3.out); rintro e w10 ⟨rfl, hb⟩; refine ⟨_, rfl, ?_⟩; have n0_ := Aside0.mk (blk_below (g := gb183) (o := .cells #[.int .i64 a0_0, .int .i64 a0_1, .string a0_2, .slice A0_3 l0_3.length c0_3] 75 (0, 0)) (by (with_reducible repeat (first | refine blk_drewN ?_ _ | refine blk_drew ?_ | refine blk_alloc ?_ _)); exact BK183.out) hb); have n1_ := Aside0.mk (below_step (by repeat (first | (with_reducible first | exact HB.out | apply below_alloc | apply pw_below_drewN | apply below_drew1 | refine below_set ?_ GE183.out) | exact HB.out)) hb); clear BK183; clear HB; have BK183 := n0_; have HB := n1_; clear n0_ n1_; (try clear hb); (try clear hb2); (try clear hk); (try clear hi)))
    go_ret
    exact ⟨by first | rfl | (simp [errW_none, errW_some] <;> rfl) | (simp [*, errW_none, errW_some] <;> rfl), by repeat (first | (with_reducible first | exact HB.out | apply below_alloc | apply pw_below_drewN | apply below_drew1 | refine below_set ?_ GE183.out) | exact HB.out)⟩

/-! ### laws_FnExactFind: function 11 (a text of its own) -/
/-- What stands beside the calls of the law: a value in a box, its row of texts among the blocks below N. -/
structure SA (w W : World) (b : Nat) (v1 v2 : Int) (v3 : ByteArray) (vv : Value) (v4 : List ByteArray) (N : Nat) : Prop where
  B : Below w.heap.size w W
  box : W.heap[b]? = some (.cells #[.int .i64 v1, .int .i64 v2, .string v3, vv] 75 (0, 0))
  R : Kd.R Kd.string 9 W w.heap.size (fun k => k < N) vv v4
  lo : b < N
  le : N ≤ W.heap.size
/-- .. and one whose blocks are from N on. -/
structure SG (w W : World) (b : Nat) (v1 v2 : Int) (v3 : ByteArray) (vv : Value) (v4 : List ByteArray) (N : Nat) : Prop where
  B : Below w.heap.size w W
  box : W.heap[b]? = some (.cells #[.int .i64 v1, .int .i64 v2, .string v3, vv] 75 (0, 0))
  R : Kd.R Kd.string 9 W w.heap.size (fun k => N ≤ k ∧ k ≠ b) vv v4
  lo : N ≤ b
section
variable {w W W1 : World} {b N : Nat} {v1 v2 : Int} {v3 : ByteArray} {vv : Value} {v4 : List ByteArray} {P : Nat → Prop}
theorem SA.below (s : SA w W b v1 v2 v3 vv v4 N) (hb : Below W.heap.size W W1) : SA w W1 b v1 v2 v3 vv v4 N := ⟨below_step s.B hb, blk_below s.box hb, Kd.R_below s.R hb, s.lo, Nat.le_trans s.le hb.size⟩
theorem SG.below (s : SG w W b v1 v2 v3 vv v4 N) (hb : Below W.heap.size W W1) : SG w W1 b v1 v2 v3 vv v4 N := ⟨below_step s.B hb, blk_below s.box hb, Kd.R_below s.R hb, s.lo⟩
theorem SA.kept (s : SA w W b v1 v2 v3 vv v4 N) (hB : Below w.heap.size w W1) (hK : Kept W W1 P) (hP : ∀ k, P k → N ≤ k) : SA w W1 b v1 v2 v3 vv v4 N :=
  ⟨hB, blk_kept s.box hK (fun h => by have := hP _ h; have := s.lo; omega), Kd.R_kept s.R hK (fun k hk h => by have := hP _ h; omega), s.lo, Nat.le_trans s.le hK.1⟩
theorem SG.kept (s : SG w W b v1 v2 v3 vv v4 N) (hB : Below w.heap.size w W1) (hK : Kept W W1 P) (hP : ∀ k, P k → k < N) : SG w W1 b v1 v2 v3 vv v4 N :=
  ⟨hB, blk_kept s.box hK (fun h => by have := hP _ h; have := s.lo; omega), Kd.R_kept s.R hK (fun k hk h => by have := hP _ h; omega), s.lo⟩
/-- The row itself was written. -/
theorem SG.wrote {v4' : List ByteArray} (s : SG w W b v1 v2 v3 vv v4 N) (hB : Below w.heap.size w W1) (hK : Kept W W1 (fun k => N ≤ k ∧ k ≠ b)) (hR : Kd.R Kd.string 9 W1 w.heap.size (fun k => (N ≤ k ∧ k ≠ b) ∨ W.heap.size ≤ k) vv v4') : SG w W1 b v1 v2 v3 vv v4' N :=
  ⟨hB, blk_kept s.box hK (fun h => h.2 rfl), Kd.R_mono (Kd.R_tight rfl hR) (fun k hk => s.R.1 k hk.symm), s.lo⟩
theorem SA.cells (s : SA w W b v1 v2 v3 vv v4 N) : W.cell? ⟨b, 0, none⟩ = some (.int .i64 v1) ∧ W.cell? ⟨b, 1, none⟩ = some (.int .i64 v2) ∧ W.cell? ⟨b, 2, none⟩ = some (.string v3) ∧ W.cell? ⟨b, 3, none⟩ = some vv := ⟨(blk_cell s.box 0).trans rfl, (blk_cell s.box 1).trans rfl, (blk_cell s.box 2).trans rfl, (blk_cell s.box 3).trans rfl⟩
theorem SG.cells (s : SG w W b v1 v2 v3 vv v4 N) : W.cell? ⟨b, 0, none⟩ = some (.int .i64 v1) ∧ W.cell? ⟨b, 1, none⟩ = some (.int .i64 v2) ∧ W.cell? ⟨b, 2, none⟩ = some (.string v3) ∧ W.cell? ⟨b, 3, none⟩ = some vv := ⟨(blk_cell s.box 0).trans rfl, (blk_cell s.box 1).trans rfl, (blk_cell s.box 2).trans rfl, (blk_cell s.box 3).trans rfl⟩
end
abbrev ValZ : Array Value := #[.int .i64 0, .int .i64 0, .string (⟨#[]⟩ : ByteArray), .slice none 0 0]
/-- Four cells stored into a fresh box. -/
theorem box_full {W : World} {b : Nat} {v1 v2 : Int} {v3 : ByteArray} {vv : Value} (h : W.heap[b]? = some (.cells ValZ 75 (0, 0))) :
    ((((W.setCell ⟨b, 0, none⟩ (.int .i64 v1)).setCell ⟨b, 1, none⟩ (.int .i64 v2)).setCell ⟨b, 2, none⟩ (.string v3)).setCell ⟨b, 3, none⟩ vv).heap[b]? = some (.cells #[.int .i64 v1, .int .i64 v2, .string v3, vv] 75 (0, 0)) := by
  refine blk_put (cs := #[.int .i64 v1, .int .i64 v2, .string v3, .slice none 0 0]) ?_ 3 _ rfl
  refine blk_put (cs := #[.int .i64 v1, .int .i64 v2, .string (⟨#[]⟩ : ByteArray), .slice none 0 0]) ?_ 2 _ rfl
  refine blk_put (cs := #[.int .i64 v1, .int .i64 0, .string (⟨#[]⟩ : ByteArray), .slice none 0 0]) ?_ 1 _ rfl
  exact blk_put (cs := ValZ) h 0 _ rfl
theorem box_below {w W : World} {b : Nat} {v1 v2 : Int} {v3 : ByteArray} {vv : Value} (h : Below w.heap.size w W) (hb : w.heap.size ≤ b) :
    Below w.heap.size w ((((W.setCell ⟨b, 0, none⟩ (.int .i64 v1)).setCell ⟨b, 1, none⟩ (.int .i64 v2)).setCell ⟨b, 2, none⟩ (.string v3)).setCell ⟨b, 3, none⟩ vv) :=
  below_set (below_set (below_set (below_set h hb) hb) hb) hb
theorem box_kept {W : World} {b : Nat} {v1 v2 : Int} {v3 : ByteArray} {vv : Value} :
    Kept W ((((W.setCell ⟨b, 0, none⟩ (.int .i64 v1)).setCell ⟨b, 1, none⟩ (.int .i64 v2)).setCell ⟨b, 2, none⟩ (.string v3)).setCell ⟨b, 3, none⟩ vv) (fun k => k = b) :=
  Kept.setCell (S := fun k => k = b) (p := ⟨b, 3, none⟩) (Kept.setCell (S := fun k => k = b) (p := ⟨b, 2, none⟩) (Kept.setCell (S := fun k => k = b) (p := ⟨b, 1, none⟩) (Kept.setCell (S := fun k => k = b) (p := ⟨b, 0, none⟩) (Kept.refl W _) (.inl rfl) _) (.inl rfl) _) (.inl rfl) _) (.inl rfl) _
/-- The law's call, told by what its callees come to: the ways on which it would answer false are not among them. -/
def laws_FnExactFind.Ok (k : Nat) (l0 : List S121) (a1 : ByteArray) : Prop :=
  (a1.size : Int) > 1048576 ∨ (¬ (a1.size : Int) > 1048576 ∧ ∃ s, laws_szEntryS.f k l0 1048576 = some s ∧ (s < 0 ∨ (¬ s < 0 ∧ ∃ t v1 v2 v3 v4 v5 m1 m2 q v4', laws_toEntryS.f k l0 = some t ∧ spec_Find.f k t a1 = some (v1, v2, v3, v4, v5) ∧ impl_Find.f t a1 = some (v1, v2, v3, v4, v5) ∧
    laws_eqVal.f k v1 v2 v3 v4 v1 v2 v3 v4 = some true ∧ laws_eqEntryS.f k t t = some true ∧ laws_markEntryS.f k t 1 = some (m1, m2) ∧ 0 ≤ m1 ∧ laws_markVal.f k v1 v2 v3 v4 1 = some (q, v4') ∧ laws_heldVal.f k v1 v2 v3 v4' 1 = some q ∧ 0 ≤ q)))
open Classical in
noncomputable def laws_FnExactFind.f (k : Nat) (l0 : List S121) (a1 : ByteArray) : Option Bool := if laws_FnExactFind.Ok k l0 a1 then some true else none
set_option maxHeartbeats 8000000 in
set_option maxRecDepth 100000 in
theorem laws_FnExactFind.calls (k : Nat) (A0 : Option Addr) (c0 : Nat) (l0 : List (S121)) (a1 : ByteArray) (r : Bool) (w : World) (hr0 : Kd.C k121 w A0 l0.length l0) (hc0 : l0.length ≤ c0) (h : laws_FnExactFind.f k l0 a1 = some r) :
    Calls Try.prog 11 #[.slice A0 l0.length c0, .string a1] w fun e w' => e = .returned (.bool r) ∧ Below w.heap.size w w' := by
  have huE := Try.underlying90
  have huV := Try.underlying75
  have hOk : r = true ∧ laws_FnExactFind.Ok k l0 a1 := by
    unfold laws_FnExactFind.f at h
    split at h
    · rename_i ho; exact ⟨(Option.some.inj h).symm, ho⟩
    · cases h
  clear h
  obtain ⟨rfl, hOk⟩ := hOk
  have HR := Aside0.mk hr0
  have HC := Aside0.mk hc0
  clear hr0 hc0
  rcases hOk with c1 | ⟨c1, s, hs, c2 | ⟨c2, t, v1, v2, v3, v4, v5, m1, m2, q, v4', ht, hw, hg, he, hE, hm, hm1, hv, hh, hq⟩⟩
  · have c1b : decide (1048576 < (a1.size : Int)) = true := decide_eq_true c1
    have c1c : decide (1048576 < a1.size) = true := decide_eq_true (by omega)
    clear c1
    go_enter Try.func11, Try.ntmps11
    go_wp2
    go_ret
    exact ⟨rfl, Below.refl _ _⟩
  · have c1b : decide (1048576 < (a1.size : Int)) = false := decide_eq_false c1
    have c1c : decide (1048576 < a1.size) = false := decide_eq_false (by omega)
    have c2b : decide (s < 0) = true := decide_eq_true c2
    have HS := Aside0.mk hs
    clear c1 c2 hs
    go_enter Try.func11, Try.ntmps11
    go_wp2_with (go_at_call 48; (with_reducible refine (laws_szEntryS.calls k A0 c0 l0 1048576 s _ HR.out HC.out HS.out).mono ?_); rintro e W1 ⟨rfl, hb1⟩)
    go_ret
    exact ⟨rfl, hb1⟩
  · have c1b : decide (1048576 < (a1.size : Int)) = false := decide_eq_false c1
    have c1c : decide (1048576 < a1.size) = false := decide_eq_false (by omega)
    have c2b : decide (s < 0) = false := decide_eq_false c2
    have c3b : decide (m1 < 0) = false := decide_eq_false (by omega)
    have c4b : decide (q < 0) = false := decide_eq_false (by omega)
    have c5b : (q != q) = false := by simp
    have c6b : (v5 != v5) = false := by simp
    have HS := Aside0.mk hs
    have HT := Aside0.mk ht
    have HW := Aside0.mk hw
    have HG := Aside0.mk hg
    have HE := Aside0.mk he
    have HEE := Aside0.mk hE
    have HM := Aside0.mk hm
    have HV := Aside0.mk hv
    have HH := Aside0.mk hh
    clear c1 c2 hs ht hw hg he hE hm hm1 hv hh hq
    go_enter Try.func11, Try.ntmps11
    go_wp2_with (first
      | (go_at_call 48; (with_reducible refine (laws_szEntryS.calls k A0 c0 l0 1048576 s _ HR.out HC.out HS.out).mono ?_); rintro e W1 ⟨rfl, hb1⟩; have F1 := Aside0.mk hb1; clear hb1 HS)
      | (go_at_call 50; (with_reducible refine (laws_toEntryS.calls k A0 c0 l0 t _ (Kd.C_below HR.out F1.out) HC.out HT.out).mono ?_); rintro e W2 ⟨x_, rfl, hS, hb⟩; obtain ⟨Ax, cx, rfl⟩ := Kd.S_slice hS; have FX := Aside0.mk (Kd.S_reads' hS).2; have F2 := Aside0.mk (below_step F1.out hb); clear hS hb F1)
      | (go_at_call 49; (with_reducible refine (spec_Find.calls k Ax cx t a1 v1 v2 v3 v4 v5 _ FX.out.2 FX.out.1 HW.out).mono ?_); rintro e W3 ⟨vw_, rfl, hR, hb⟩; obtain ⟨Aw, cw, rfl⟩ := Kd.R_slice hR; have FR := Aside0.mk (Kd.R_lower hR (below_size F2.out)); have F3 := Aside0.mk (below_step F2.out hb); clear hR hb F2 FX HW)
      | ((with_reducible refine gate_dst (N := 6) rfl ?_); refine box_event ?hg6 (N := 6) ?hd6 (cs := ValZ) (t := 75) ?hr6 ?_; (case hd6 => rfl); (case hg6 => rfl); (case hr6 => first | (go_simp; done) | (go_simp; rfl)); intro b6 hg6 W4 hbox hb; have hz0 := blk_cell hbox 0; have hz1 := blk_cell hbox 1; have hz2 := blk_cell hbox 2; have hz3 := blk_cell hbox 3; have hf0 := blk_frozen hbox 0; have hf1 := blk_frozen hbox 1; have hf2 := blk_frozen hbox 2; have hf3 := blk_frozen hbox 3; have F4 := Aside0.mk (And.intro hbox (And.intro (below_step F3.out hb) (And.intro (Kd.R_below FR.out hb) (And.intro (show w.heap.size ≤ b6 by rw [hg6]; exact below_size F3.out) (show b6 < W4.heap.size from blk_lt hbox))))); clear hbox hb hg6 F3 FR)
      | ((with_reducible refine gate_store (t := 75) (p := 6) rfl ?_); refine store_event (t := 75) (p := 6) (v := ?vo6) (w1 := ((((W4.setCell ⟨b6, 0, none⟩ (.int .i64 v1)).setCell ⟨b6, 1, none⟩ (.int .i64 v2)).setCell ⟨b6, 2, none⟩ (.string v3)).setCell ⟨b6, 3, none⟩ (.slice Aw v4.length cw))) ?hg ?ho ?hn ?hr ?_; (case ho => rfl); (case hg => rfl); (case hn => rfl); (case hr => first | (go_simp; done) | (go_simp; rfl)); intro W5 hw; have hA5 : SA w W5 b6 v1 v2 v3 (.slice Aw v4.length cw) v4 W5.heap.size := (by rw [hw]; exact ⟨box_below F4.out.2.1 F4.out.2.2.2.1, box_full F4.out.1, Kd.R_mono (Kd.R_bound (Kd.R_kept (Kd.R_types F4.out.2.2.1 F4.out.1 (by decide)) box_kept (fun k hk h => hk.2 h))) (fun k hk => hk.2.2.1), Nat.lt_of_lt_of_le F4.out.2.2.2.2 box_kept.1, Nat.le_refl _⟩); have A5 := Aside0.mk hA5; clear hA5 hw F4 hz0 hz1 hz2 hz3 hf0 hf1 hf2 hf3)
      | (go_at_call 50; (with_reducible refine (laws_toEntryS.calls k A0 c0 l0 t _ (Kd.C_below HR.out A5.out.B) HC.out HT.out).mono ?_); rintro e W6 ⟨x_, rfl, hS, hb⟩; obtain ⟨Ay, cy, rfl⟩ := Kd.S_slice hS; have X6 := Aside0.mk (show Kd.S k90 90 W6 w.heap.size (fun k => W5.heap.size ≤ k ∧ k < W6.heap.size) (.slice Ay t.length cy) t from Kd.S_lower (Kd.S_mono (Kd.S_bound hS) (fun k hk => ⟨hk.2.1, hk.2.2.1⟩)) (below_size A5.out.B)); have A6 := Aside0.mk (A5.out.below hb); have LE := Aside0.mk hb.size; have LB := Aside0.mk (show w.heap.size ≤ W5.heap.size from below_size A5.out.B); clear hS hb A5)
      | (go_at_call 51; (with_reducible refine (impl_Find.calls Ay cy t a1 v1 v2 v3 v4 v5 _ (Kd.S_reads' X6.out).2.2 (Kd.S_reads' X6.out).2.1 HG.out).mono ?_); rintro e W7 ⟨vg_, rfl, hR, hb⟩; obtain ⟨Ag, cg, rfl⟩ := Kd.R_slice hR; have X7 := Aside0.mk (Kd.S_below X6.out hb); have A7 := Aside0.mk (A6.out.below hb); have R7 := Aside0.mk (show Kd.R Kd.string 9 W7 w.heap.size (fun k => W6.heap.size ≤ k) (.slice Ag v4.length cg) v4 from Kd.R_lower (Kd.R_mono (Kd.R_bound hR) (fun k hk => hk.2.1)) (below_size A6.out.B)); have LE7 := Aside0.mk hb.size; clear hR hb X6 A6)
      | ((with_reducible refine gate_dst (N := 9) rfl ?_); refine box_event ?hg9 (N := 9) ?hd9 (cs := ValZ) (t := 75) ?hr9 ?_; (case hd9 => rfl); (case hg9 => rfl); (case hr9 => first | (go_simp; done) | (go_simp; rfl)); intro b9 hg9 W8 hbox hb; have hz0 := blk_cell hbox 0; have hz1 := blk_cell hbox 1; have hz2 := blk_cell hbox 2; have hz3 := blk_cell hbox 3; have hf0 := blk_frozen hbox 0; have hf1 := blk_frozen hbox 1; have hf2 := blk_frozen hbox 2; have hf3 := blk_frozen hbox 3; have X8 := Aside0.mk (Kd.S_below X7.out hb); have A8 := Aside0.mk (A7.out.below hb); have R8 := Aside0.mk (Kd.R_below R7.out hb); have K8 := Aside0.mk (And.intro hbox (show W6.heap.size ≤ b9 by rw [hg9]; exact LE7.out)); clear hbox hb hg9 X7 A7 R7 LE7)
      | ((with_reducible refine gate_store (t := 75) (p := 9) rfl ?_); refine store_event (t := 75) (p := 9) (v := ?vo9) (w1 := ((((W8.setCell ⟨b9, 0, none⟩ (.int .i64 v1)).setCell ⟨b9, 1, none⟩ (.int .i64 v2)).setCell ⟨b9, 2, none⟩ (.string v3)).setCell ⟨b9, 3, none⟩ (.slice Ag v4.length cg))) ?hg ?ho ?hn ?hr ?_; (case ho => rfl); (case hg => rfl); (case hn => rfl); (case hr => first | (go_simp; done) | (go_simp; rfl)); intro W9 hw; have hb9 : Below w.heap.size w W9 := (by rw [hw]; exact box_below A8.out.B (by have := K8.out.2; have := LB.out; have := LE.out; omega)); have hk9 : Kept W8 W9 (fun k => k = b9) := (by rw [hw]; exact box_kept); have G9 := Aside0.mk (show SG w W9 b9 v1 v2 v3 (.slice Ag v4.length cg) v4 W6.heap.size from ⟨hb9, (by rw [hw]; exact box_full K8.out.1), Kd.R_kept (Kd.R_types R8.out K8.out.1 (by decide)) hk9 (fun k hk h => hk.2 h), K8.out.2⟩); have A9 := Aside0.mk (A8.out.kept hb9 hk9 (fun k hk => by have := K8.out.2; have := LE.out; omega)); have X9 := Aside0.mk (Kd.S_kept X8.out hk9 (fun k hk h => by have := K8.out.2; omega)); obtain ⟨hp0, hp1, hp2, hp3⟩ := G9.out.cells; obtain ⟨hq0, hq1, hq2, hq3⟩ := A9.out.cells; clear hb9 hk9 hw A8 X8 R8 K8 hz0 hz1 hz2 hz3 hf0 hf1 hf2 hf3)
      | (go_at_call 52; (with_reducible refine (laws_eqVal.calls k v1 v2 v3 Ag cg v4 v1 v2 v3 Aw cw v4 true _ (Kd.R_reads' G9.out.R).2.2 (Kd.R_reads' G9.out.R).2.1 (Kd.R_reads' A9.out.R).2.2 (Kd.R_reads' A9.out.R).2.1 HE.out).mono ?_); rintro e W10 ⟨rfl, hb⟩; have G10 := Aside0.mk (G9.out.below hb); have A10 := Aside0.mk (A9.out.below hb); have X10 := Aside0.mk (Kd.S_below X9.out hb); clear hb G9 A9 X9 hp0 hp1 hp2 hp3 hq0 hq1 hq2 hq3)
      | (go_at_call 50; (with_reducible refine (laws_toEntryS.calls k A0 c0 l0 t _ (Kd.C_below HR.out A10.out.B) HC.out HT.out).mono ?_); rintro e W11 ⟨x_, rfl, hS, hb⟩; obtain ⟨Az, cz, rfl⟩ := Kd.S_slice hS; have FZ := Aside0.mk (Kd.S_reads' hS).2; have G11 := Aside0.mk (G10.out.below hb); have A11 := Aside0.mk (A10.out.below hb); have X11 := Aside0.mk (Kd.S_below X10.out hb); clear hS hb G10 A10 X10)
      | (go_at_call 53; (with_reducible refine (laws_eqEntryS.calls k Ay cy t Az cz t true _ (Kd.S_reads' X11.out).2.2 (Kd.S_reads' X11.out).2.1 FZ.out.2 FZ.out.1 HEE.out).mono ?_); rintro e W12 ⟨rfl, hb⟩; have G12 := Aside0.mk (G11.out.below hb); have A12 := Aside0.mk (A11.out.below hb); have X12 := Aside0.mk (Kd.S_below X11.out hb); clear hb G11 A11 X11 FZ)
      | (go_at_call 54; (with_reducible refine (laws_markEntryS.calls k (fun k => W5.heap.size ≤ k ∧ k < W6.heap.size) _ t 1 m1 m2 w _ A12.out.B X12.out HM.out).mono ?_); rintro e W13 ⟨rfl, -, hB, hK⟩; have G13 := Aside0.mk (G12.out.kept hB hK (fun k hk => hk.2)); have A13 := Aside0.mk (A12.out.kept hB hK (fun k hk => hk.1)); obtain ⟨hp0, hp1, hp2, hp3⟩ := G13.out.cells; obtain ⟨hq0, hq1, hq2, hq3⟩ := A13.out.cells; clear hB hK G12 A12 X12)
      | (go_at_call 52; (with_reducible refine (laws_eqVal.calls k v1 v2 v3 Ag cg v4 v1 v2 v3 Aw cw v4 true _ (Kd.R_reads' G13.out.R).2.2 (Kd.R_reads' G13.out.R).2.1 (Kd.R_reads' A13.out.R).2.2 (Kd.R_reads' A13.out.R).2.1 HE.out).mono ?_); rintro e W14 ⟨rfl, hb⟩; have G14 := Aside0.mk (G13.out.below hb); have A14 := Aside0.mk (A13.out.below hb); clear hb G13 A13 hp0 hp1 hp2 hp3 hq0 hq1 hq2 hq3; obtain ⟨hp0, hp1, hp2, hp3⟩ := G14.out.cells)
      | (go_at_call 55; (with_reducible refine (laws_markVal.calls k v1 v2 v3 (fun k => W6.heap.size ≤ k ∧ k ≠ b9) _ v4 1 q v4' w _ A14.out.B G14.out.R HV.out).mono ?_); rintro e W15 ⟨rfl, hR, hB, hK⟩; have G15 := Aside0.mk (G14.out.wrote hB hK hR); have A15 := Aside0.mk (A14.out.kept hB hK (fun k hk => Nat.le_trans LE.out hk.1)); clear hR hB hK G14 A14 hp0 hp1 hp2 hp3; obtain ⟨hp0, hp1, hp2, hp3⟩ := G15.out.cells)
      | (go_at_call 56; have e4 := (Kd.R_reads' G15.out.R).1; (rw [e4]; with_reducible refine (laws_heldVal.calls k v1 v2 v3 Ag cg v4' 1 q _ (Kd.R_reads' G15.out.R).2.2 (by rw [← e4]; exact (Kd.R_reads' G15.out.R).2.1) HH.out).mono ?_); rintro e W16 ⟨rfl, hb⟩; have G16 := Aside0.mk (G15.out.below hb); have A16 := Aside0.mk (A15.out.below hb); clear hb e4 G15 A15 hp0 hp1 hp2 hp3)
      | (go_at_call 50; (with_reducible refine (laws_toEntryS.calls k A0 c0 l0 t _ (Kd.C_below HR.out A16.out.B) HC.out HT.out).mono ?_); rintro e W17 ⟨x_, rfl, hS, hb⟩; obtain ⟨Au, cu, rfl⟩ := Kd.S_slice hS; have FU := Aside0.mk (Kd.S_reads' hS).2; have G17 := Aside0.mk (G16.out.below hb); have A17 := Aside0.mk (A16.out.below hb); clear hS hb G16 A16)
      | (go_at_call 51; (with_reducible refine (impl_Find.calls Au cu t a1 v1 v2 v3 v4 v5 _ FU.out.2 FU.out.1 HG.out).mono ?_); rintro e W18 ⟨vh_, rfl, hR, hb⟩; obtain ⟨Ah, ch, rfl⟩ := Kd.R_slice hR; have R18 := Aside0.mk (Kd.R_lower hR (below_size A17.out.B)); have G18 := Aside0.mk (G17.out.below hb); have A18 := Aside0.mk (A17.out.below hb); clear hR hb G17 A17 FU)
      | ((with_reducible refine gate_dst (N := 14) rfl ?_); refine box_event ?hg14 (N := 14) ?hd14 (cs := ValZ) (t := 75) ?hr14 ?_; (case hd14 => rfl); (case hg14 => rfl); (case hr14 => first | (go_simp; done) | (go_simp; rfl)); intro b14 hg14 W19 hbox hb; have hz0 := blk_cell hbox 0; have hz1 := blk_cell hbox 1; have hz2 := blk_cell hbox 2; have hz3 := blk_cell hbox 3; have hf0 := blk_frozen hbox 0; have hf1 := blk_frozen hbox 1; have hf2 := blk_frozen hbox 2; have hf3 := blk_frozen hbox 3; have R19 := Aside0.mk (Kd.R_below R18.out hb); have N19 := Aside0.mk (show b9 < b14 by rw [hg14]; exact blk_lt G18.out.box); have N20 := Aside0.mk (show b6 < b14 by rw [hg14]; exact blk_lt A18.out.box); have N21 := Aside0.mk (show w.heap.size ≤ b14 by rw [hg14]; exact below_size A18.out.B); have G19 := Aside0.mk (G18.out.below hb); have A19 := Aside0.mk (A18.out.below hb); have K19 := Aside0.mk hbox; clear hbox hb hg14 G18 A18 R18)
      | ((with_reducible refine gate_store (t := 75) (p := 14) rfl ?_); refine store_event (t := 75) (p := 14) (v := ?vo14) (w1 := ((((W19.setCell ⟨b14, 0, none⟩ (.int .i64 v1)).setCell ⟨b14, 1, none⟩ (.int .i64 v2)).setCell ⟨b14, 2, none⟩ (.string v3)).setCell ⟨b14, 3, none⟩ (.slice Ah v4.length ch))) ?hg ?ho ?hn ?hr ?_; (case ho => rfl); (case hg => rfl); (case hn => rfl); (case hr => first | (go_simp; done) | (go_simp; rfl)); intro W20 hw; have hb20 : Below w.heap.size w W20 := (by rw [hw]; exact box_below A19.out.B N21.out); have hk20 : Kept W19 W20 (fun k => k = b14) := (by rw [hw]; exact box_kept); have C20 := Aside0.mk (show W20.heap[b14]? = some (.cells #[.int .i64 v1, .int .i64 v2, .string v3, .slice Ah v4.length ch] 75 (0, 0)) by rw [hw]; exact box_full K19.out); have R20 := Aside0.mk (Kd.R_kept (Kd.R_types R19.out K19.out (by decide)) hk20 (fun k hk h => hk.2 h)); have G20 := Aside0.mk (show SG w W20 b9 v1 v2 v3 (.slice Ag v4.length cg) v4' W6.heap.size from ⟨hb20, blk_kept G19.out.box hk20 (by have := N19.out; omega), Kd.R_kept (Kd.R_types G19.out.R K19.out (by decide)) hk20 (fun k hk h => hk.2 h) |> fun z => Kd.R_mono z (fun k hk => hk.1), G19.out.lo⟩); have A20 := Aside0.mk (show SA w W20 b6 v1 v2 v3 (.slice Aw v4.length cw) v4 W5.heap.size from ⟨hb20, blk_kept A19.out.box hk20 (by have := N20.out; omega), Kd.R_kept (Kd.R_types A19.out.R K19.out (by decide)) hk20 (fun k hk h => hk.2 h) |> fun z => Kd.R_mono z (fun k hk => hk.1), A19.out.lo, Nat.le_trans A19.out.le hk20.1⟩); have hp0 := (blk_cell C20.out 0).trans rfl; have hp1 := (blk_cell C20.out 1).trans rfl; have hp2 := (blk_cell C20.out 2).trans rfl; have hp3 := (blk_cell C20.out 3).trans rfl; obtain ⟨hq0, hq1, hq2, hq3⟩ := A20.out.cells; clear hb20 hk20 hw A19 G19 R19 K19 N19 N20 N21 hz0 hz1 hz2 hz3 hf0 hf1 hf2 hf3)
      | (go_at_call 52; (with_reducible refine (laws_eqVal.calls k v1 v2 v3 Ah ch v4 v1 v2 v3 Aw cw v4 true _ (Kd.R_reads' R20.out).2.2 (Kd.R_reads' R20.out).2.1 (Kd.R_reads' A20.out.R).2.2 (Kd.R_reads' A20.out.R).2.1 HE.out).mono ?_); rintro e W21 ⟨rfl, hb⟩; have G21 := Aside0.mk (G20.out.below hb); clear hb G20 A20 R20 C20 hp0 hp1 hp2 hp3 hq0 hq1 hq2 hq3; obtain ⟨hp0, hp1, hp2, hp3⟩ := G21.out.cells)
      | (go_at_call 56; have e4 := (Kd.R_reads' G21.out.R).1; (rw [e4]; with_reducible refine (laws_heldVal.calls k v1 v2 v3 Ag cg v4' 1 q _ (Kd.R_reads' G21.out.R).2.2 (by rw [← e4]; exact (Kd.R_reads' G21.out.R).2.1) HH.out).mono ?_); rintro e W22 ⟨rfl, hb⟩; have F22 := Aside0.mk (below_step G21.out.B hb); clear hb e4 G21 hp0 hp1 hp2 hp3))
    go_ret
    exact ⟨rfl, F22.out⟩

end Go.Proofs.Ytgfacdhkamphiaa.PFnExactFind
