/- For every draw the drawn disk is right, what is kept of it is never lost, of the rest a beginning is left, and lost again it loses nothing more. -/
import Derived.Test.YtgfacdhkamphiaaOFnKeepsx8
import Derived.Test.YtgfacdhkamphiaaBase
import Derived.Test.YtgfacdhkamphiaaBase2
import Derived.Test.YtgfacdhkamphiaaBase3
namespace Go.Proofs.Ytgfacdhkamphiaa.Pure
open Go.RowKit Go.Proofs.Ytgfacdhkamphiaa.PFnKeeps Go.Proofs.YtgfacdhkamphiaaW.PrintWords Go.Proofs.YtgfacdhkamphiaaW.PrintLast Go.Proofs.Ytgfacdhkamphiaa.Base
set_option linter.unusedVariables false
set_option linter.unusedSimpArgs false

theorem impl_within_eq (a b c : Int) : impl_within.f a b c = some (decide (b ≤ a ∧ a ≤ c)) := by
  unfold impl_within.f
  by_cases h : b ≤ a <;> simp [h]

theorem rd_T45_drop {xs : List S45} {i : Nat} {a : S45} {t : List S45} (h : xs.drop i = a :: t) : rd_T45 xs (i : Int) = a ∧ i < xs.length ∧ xs.drop (i + 1) = t := rdOf_drop (d := z45) h

/-- A file of a right disk, behind the one ahead. -/
def fileOk (x : S45) : Bool := decide (1 ≤ (x.f0.size : Int) ∧ (x.f0.size : Int) ≤ 8) && decide ((x.f1.size : Int) ≤ 20000) && decide (0 ≤ x.f2 ∧ x.f2 ≤ (x.f1.size : Int))
def filesOk : Option S45 → List S45 → Bool
  | _, [] => true
  | none, x :: l => fileOk x && filesOk (some x) l
  | some y, x :: l => fileOk x && Op.bytesLess y.f0.toList x.f0.toList && filesOk (some x) l
def diskOk (l : List S45) : Bool := decide (l.length ≤ 30) && filesOk none l
def ahead (l : List S45) (i : Nat) : Option S45 := if 0 < i then l[i - 1]? else none
theorem ahead_succ {l : List S45} {i : Nat} {a : S45} {t : List S45} (h : l.drop i = a :: t) : ahead l (i + 1) = some a := by
  unfold ahead
  rw [if_pos (by omega), Nat.add_sub_cancel]
  have := congrArg (fun z => z[0]?) h
  simpa using this
theorem rd_ahead {l : List S45} {i : Nat} (h : 0 < i) (hi : i ≤ l.length) : ahead l i = some (rd_T45 l ((i : Int) - 1)) := by
  unfold ahead
  rw [if_pos h]
  obtain ⟨j, rfl⟩ : ∃ j, i = j + 1 := ⟨i - 1, by omega⟩
  rw [Nat.add_sub_cancel, show ((j + 1 : Nat) : Int) - 1 = (j : Int) from by omega]
  have e : rd_T45 l (j : Int) = l[j] := rdOf_get (d := z45) (by omega)
  rw [e, List.getElem?_eq_getElem (by omega)]

theorem impl_DiskOk_l0 (l : List S45) (hl : l.length ≤ 1048576) : ∀ (t : List S45) (i : Nat), l.drop i = t → i ≤ l.length → Ev (fun k => impl_DiskOk.l0 k l (l.length : Int) (i : Int) l) (decide (l.length ≤ 30) && filesOk (ahead l i) t) := by
  intro t
  induction t with
  | nil =>
    intro i ht hi
    have := drop_nil_len ht
    refine Ev.step (f := fun _ => some (decide ((l.length : Int) ≤ 30))) (fun k => by rw [impl_DiskOk.l0, if_neg (by omega)]) (Ev.ret ?_)
    have e : filesOk (ahead l i) [] = true := by cases ahead l i <;> rfl
    rw [e, Bool.and_true]
    exact decide_eq_decide.2 (by omega)
  | cons a t ih =>
    intro i ht hi
    obtain ⟨h1, h2, h3⟩ := rd_T45_drop ht
    have e := ih (i + 1) h3 (by omega)
    rw [ahead_succ ht, show ((i + 1 : Nat) : Int) = (i : Int) + 1 from by omega] at e
    refine Ev.succ ?_
    simp only [impl_DiskOk.l0, h1, w64 (n := (i : Int) + 1) (by omega) (by omega), w64 (n := (i : Int) - 1) (by omega) (by omega)]
    refine Ev.pos (by omega) (Ev.pos (by omega) (Ev.pos (by omega) (Ev.bind0 (impl_within_eq _ _ _) ?_)))
    have hno : fileOk a = false → Ev (fun _ => some false) (decide (l.length ≤ 30) && filesOk (ahead l i) (a :: t)) := fun h => Ev.ret (by cases ahead l i <;> simp [filesOk, h])
    by_cases c1 : 1 ≤ (a.f0.size : Int) ∧ (a.f0.size : Int) ≤ 8
    · refine Ev.pos (decide_eq_true c1) ?_
      by_cases c2 : (a.f1.size : Int) > 20000
      · exact Ev.pos c2 (hno (by simp only [fileOk]; rw [show decide ((a.f1.size : Int) ≤ 20000) = false from decide_eq_false (by omega)]; simp))
      · refine Ev.neg c2 (Ev.bind0 (impl_within_eq _ _ _) ?_)
        by_cases c3 : 0 ≤ a.f2 ∧ a.f2 ≤ (a.f1.size : Int)
        · refine Ev.pos (decide_eq_true c3) ?_
          have hok : fileOk a = true := by
            simp only [fileOk]
            rw [decide_eq_true c1, decide_eq_true c3, show decide ((a.f1.size : Int) ≤ 20000) = true from decide_eq_true (by omega)]
            rfl
          by_cases c4 : 0 < i
          · refine Ev.pos (by omega) (Ev.pos (by omega) (Ev.pos (by omega) ?_))
            rw [rd_ahead c4 hi]
            simp only [filesOk, hok, Bool.true_and]
            cases hb : Op.bytesLess (rd_T45 l ((i : Int) - 1)).f0.toList a.f0.toList with
            | true => exact Ev.pos (by trivial) (by simpa using e)
            | false => exact Ev.neg (by simp) (Ev.ret (by simp))
          · refine Ev.neg (by omega) ?_
            rw [show ahead l i = none from if_neg c4]
            simp only [filesOk, hok, Bool.true_and]
            exact e
        · exact Ev.neg (by simpa using c3) (hno (by simp only [fileOk]; rw [decide_eq_false c3]; simp))
    · exact Ev.neg (by simpa using c1) (hno (by simp only [fileOk]; rw [decide_eq_false c1]; simp))
theorem impl_DiskOk_ev (l : List S45) (hl : l.length ≤ 1048576) : Ev (fun k => impl_DiskOk.f k l) (diskOk l) := by
  unfold impl_DiskOk.f diskOk
  exact impl_DiskOk_l0 l hl l 0 rfl (Nat.zero_le _)

theorem files_all : ∀ (l : List S45) (o : Option S45), filesOk o l = true → ∀ x ∈ l, fileOk x = true := by
  intro l
  induction l with
  | nil => intro _ _ x hx; cases hx
  | cons a t ih =>
    intro o h x hx
    have h2 : fileOk a = true ∧ filesOk (some a) t = true := by
      cases o with
      | none => rw [filesOk, Bool.and_eq_true] at h; exact h
      | some y => rw [filesOk, Bool.and_eq_true, Bool.and_eq_true] at h; exact ⟨h.1.1, h.2⟩
    rcases List.mem_cons.1 hx with rfl | hx
    · exact h2.1
    · exact ih _ h2.2 x hx

theorem idx_range {α : Type} (p : α → Bool) : ∀ (l : List α) (i : Int), idxFrom p l i = -1 ∨ (i ≤ idxFrom p l i ∧ idxFrom p l i < i + (l.length : Int)) := by
  intro l
  induction l with
  | nil => intro i; exact .inl rfl
  | cons a t ih =>
    intro i
    rw [idxFrom, List.length_cons]
    by_cases h : p a = true
    · rw [if_pos h]; right; omega
    · rw [if_neg h]
      rcases ih (i + 1) with h1 | h1
      · exact .inl h1
      · right; omega
theorem idx_any {α : Type} (p : α → Bool) : ∀ (l : List α) (i : Int), 0 ≤ i → decide (0 ≤ idxFrom p l i) = l.any p := by
  intro l
  induction l with
  | nil => intro i _; rfl
  | cons a t ih =>
    intro i hi
    rw [idxFrom, List.any_cons]
    by_cases h : p a = true
    · rw [if_pos h, h, decide_eq_true hi]; rfl
    · rw [if_neg h, ih (i + 1) (by omega)]
      rw [show p a = false from by simpa using h]; rfl

def kept (x : S45) : Bool := decide (x.f2 = (x.f1.size : Int))
def allKept (l : List S45) : Bool := diskOk l && l.all kept
theorem impl_AllKept_ev (l : List S45) (hl : l.length ≤ 1048576) : Ev (fun k => impl_AllKept.f k l) (allKept l) := by
  unfold impl_AllKept.f allKept
  refine Ev.bind (impl_DiskOk_ev l hl) ?_
  cases h : diskOk l with
  | false => exact Ev.neg (by decide) (Ev.now _)
  | true =>
    refine Ev.pos rfl (Ev.ret ?_)
    rw [idx_any _ _ _ (by omega), Bool.true_and, List.not_any_eq_all_not]
    congr 1
    funext x
    rw [kept]
    simp

theorem rd_set {xs : List S45} {i : Nat} (h : i < xs.length) (v : S45) : rd_T45 (xs.set i v) (i : Int) = v := by
  unfold rd_T45
  rw [Int.toNat_natCast, List.getD_eq_getElem?_getD, List.getElem?_set_self h]
  rfl
def leftAt (left : List Int) (i : Nat) : Int := if (i : Int) < (left.length : Int) then rd left (i : Int) else 0
def loseOne (n : Int) (x : S45) : S45 := ⟨x.f0, x.f1.extract 0 (mx x.f2 (mn n (x.f1.size : Int))).toNat, mx x.f2 (mn n (x.f1.size : Int))⟩
def loseFrom (left : List Int) : Nat → List S45 → List S45
  | _, [] => []
  | i, x :: t => loseOne (leftAt left i) x :: loseFrom left (i + 1) t
theorem loseFrom_length (left : List Int) : ∀ (t : List S45) (i : Nat), (loseFrom left i t).length = t.length := by
  intro t
  induction t with
  | nil => intro i; rfl
  | cons a t ih => intro i; rw [loseFrom, List.length_cons, List.length_cons, ih]
def keptFits (x : S45) : Prop := 0 ≤ x.f2 ∧ x.f2 ≤ (x.f1.size : Int)
theorem mxmn {a n s : Int} (h : 0 ≤ a) (h' : a ≤ s) : 0 ≤ mx a (mn n s) ∧ mx a (mn n s) ≤ s ∧ mx a (mn n s) = if n > s then s else if n < a then a else n := by
  unfold mx mn
  by_cases c1 : s < n
  · rw [if_pos c1, if_pos (c := n > s) c1]
    by_cases c2 : a < s
    · rw [if_pos c2]; omega
    · rw [if_neg c2]; omega
  · rw [if_neg c1, if_neg (c := n > s) c1]
    by_cases c2 : a < n
    · rw [if_pos c2, if_neg (c := n < a) (by omega)]; omega
    · rw [if_neg c2]
      by_cases c3 : n < a
      · rw [if_pos c3]; omega
      · rw [if_neg c3]; omega
theorem disk_fits {l : List S45} (h : diskOk l = true) : l.length ≤ 30 ∧ ∀ x ∈ l, keptFits x := by
  unfold diskOk at h
  rw [Bool.and_eq_true, decide_eq_true_eq] at h
  refine ⟨h.1, fun x hx => ?_⟩
  have := files_all l none h.2 x hx
  unfold fileOk at this
  rw [Bool.and_eq_true, decide_eq_true_eq (p := 0 ≤ x.f2 ∧ x.f2 ≤ (x.f1.size : Int))] at this
  exact this.2
def loseDisk (l : List S45) (left : List Int) : List S45 × Bool := if diskOk l = true then (loseFrom left 0 l, true) else ([], false)
theorem impl_LoseDisk_l0 (left : List Int) (l : List S45) (hl : l.length ≤ 30) (hf : ∀ x ∈ l, keptFits x) : ∀ (t : List S45) (i : Nat) (xs : List S45), l.drop i = t → xs.drop i = t → i ≤ l.length → xs.length = l.length →
    Ev (fun k => impl_LoseDisk.l0 k left (l.length : Int) (i : Int) xs) (xs.take i ++ loseFrom left i t, true) := by
  intro t
  induction t with
  | nil =>
    intro i xs ht hx hi hz
    have := drop_nil_len ht
    refine Ev.step (f := fun _ => some (xs, true)) (fun k => by rw [impl_LoseDisk.l0, if_neg (by omega)]) (Ev.ret ?_)
    rw [loseFrom, List.append_nil, List.take_of_length_le (by omega)]
  | cons a t ih =>
    intro i xs ht hx hi hz
    obtain ⟨h1, h2, h3⟩ := rd_T45_drop hx
    obtain ⟨_, h4, h5⟩ := rd_T45_drop ht
    have ha := hf a (List.mem_of_mem_drop (by rw [ht]; exact List.mem_cons_self))
    have e := ih (i + 1) (xs.set i (loseOne (leftAt left i) a)) h5 (by rw [List.drop_set_of_lt (by omega)]; exact h3) (by omega) (by rw [List.length_set]; exact hz)
    rw [take_set_snoc _ _ _ h2, List.append_assoc, show ((i + 1 : Nat) : Int) = (i : Int) + 1 from by omega] at e
    rw [loseFrom]
    refine Ev.succ ?_
    simp only [impl_LoseDisk.l0, h1, w64 (n := (i : Int) + 1) (by omega) (by omega), Int.toNat_natCast]
    refine Ev.pos (by omega) (Ev.pos (by omega) (Ev.pos (by omega) ?_))
    by_cases c : (i : Int) < (left.length : Int)
    · obtain ⟨m0, m1, m2⟩ := mxmn (n := rd left (i : Int)) ha.1 ha.2
      rw [show leftAt left i = rd left (i : Int) from if_pos c] at e ⊢
      refine Ev.pos c (Ev.pos m0 (Ev.pos m1 (Ev.bind0 rfl ?_)))
      simp only [List.set_set, rd_set h2]
      exact e
    · obtain ⟨m0, m1, m2⟩ := mxmn (n := 0) ha.1 ha.2
      rw [show leftAt left i = 0 from if_neg c] at e ⊢
      refine Ev.neg c (Ev.pos m0 (Ev.pos m1 (Ev.bind0 rfl ?_)))
      simp only [List.set_set, rd_set h2]
      exact e
theorem impl_LoseDisk_ev (l : List S45) (left : List Int) (hl : l.length ≤ 1048576) : Ev (fun k => impl_LoseDisk.f k l left) (loseDisk l left) := by
  unfold impl_LoseDisk.f loseDisk
  refine Ev.bind (impl_DiskOk_ev l hl) ?_
  cases h : diskOk l with
  | false => exact Ev.neg (by decide) (Ev.tneg (by decide) (Ev.now _))
  | true =>
    obtain ⟨f1, f2⟩ := disk_fits h
    have hc : impl_copyDisk.f l = some l := by
      unfold impl_copyDisk.f
      rw [if_pos (by rw [List.length_nil]; omega), List.nil_append]
    exact Ev.pos rfl (Ev.tpos rfl (Ev.bind0 hc (impl_LoseDisk_l0 left l f1 f2 l 0 l rfl rfl (Nat.zero_le _) rfl)))
theorem loseDisk_length (l : List S45) (left : List Int) : (loseDisk l left).1.length ≤ l.length := by
  unfold loseDisk
  split
  · rw [loseFrom_length]; exact Nat.le_refl _
  · exact Nat.zero_le _

theorem laws_big_eq (l : List Int) : laws_big.f l = some (decide ((l.length : Int) > 1048576)) := rfl
theorem spec_l01New_l0 (l : List Int) (hl : l.length ≤ 1048576) : ∀ (d : Nat) (x i : Int), 0 ≤ i → (l.length : Int) - i ≤ d → ∃ h, Ev (fun k => spec_l01New.l0 k l x i) (l, 0, h) := by
  intro d
  induction d with
  | zero =>
    intro x i h0 hd
    exact ⟨x, Ev.step (f := fun _ => some (l, 0, x)) (fun k => by rw [spec_l01New.l0, if_neg (by omega)]) (Ev.now _)⟩
  | succ d ih =>
    intro x i h0 hd
    by_cases h1 : i < (l.length : Int)
    · by_cases h2 : i < 4000
      · obtain ⟨h, e⟩ := ih (Go.bits .and .i64 (wrap64 ((wrap64 ((wrap64 (x * 131)) + (wrap64 (rd l i)))) + 7)) 1073741823) (i + 1) (by omega) (by omega)
        refine ⟨h, Ev.step (fun k => ?_) e⟩
        rw [spec_l01New.l0, if_pos h1, if_pos h2, if_pos h0, w64 (n := i + 1) (by omega) (by omega)]
      · exact ⟨x, Ev.step (f := fun _ => some (l, 0, x)) (fun k => by rw [spec_l01New.l0, if_pos h1, if_neg h2]) (Ev.now _)⟩
    · exact ⟨x, Ev.step (f := fun _ => some (l, 0, x)) (fun k => by rw [spec_l01New.l0, if_neg h1]) (Ev.now _)⟩
theorem spec_l01New_ev (l : List Int) (hl : l.length ≤ 1048576) : ∃ h, Ev (fun k => spec_l01New.f k l) (l, 0, h) := by
  obtain ⟨h, e⟩ := spec_l01New_l0 l hl l.length (wrap64 (12701 + (l.length : Int))) 0 (by omega) (by omega)
  exact ⟨h, e⟩
/-- The cursor stands within the draw. -/
def cur (l : List Int) (i : Int) : Prop := 0 ≤ i ∧ i ≤ l.length ∧ l.length ≤ 1048576
theorem spec_l01Byte_some {l : List Int} {i : Int} (h : Int) (hc : cur l i) : ∃ b i' h', spec_l01Byte.f l i h = some (b, i', h') ∧ 0 ≤ b ∧ b ≤ 255 ∧ cur l i' := by
  obtain ⟨h0, h1, h2⟩ := hc
  unfold spec_l01Byte.f
  by_cases hlt : i < (l.length : Int)
  · rw [if_pos hlt, if_pos h0]
    exact ⟨_, _, _, rfl, (and255 _).1, (and255 _).2, by rw [w64 (by omega) (by omega)]; omega, by rw [w64 (by omega) (by omega)]; omega, h2⟩
  · rw [if_neg hlt]
    exact ⟨_, _, _, rfl, (and255 _).1, (and255 _).2, h0, h1, h2⟩
theorem spec_l01Below_some {l : List Int} {i : Int} (h n : Int) (hn : n ≤ 9223372036854775807) (hc : cur l i) : ∃ x i' h', spec_l01Below.f l i h n = some (x, i', h') ∧ cur l i' ∧ (n ≤ 0 → x = 0) ∧ (0 < n → 0 ≤ x ∧ x < n) := by
  unfold spec_l01Below.f
  by_cases h1 : n ≤ 0
  · rw [if_pos h1]
    exact ⟨_, _, _, rfl, hc, fun _ => rfl, fun _ => by omega⟩
  rw [if_neg h1]
  by_cases h2 : n ≤ 256
  · rw [if_pos h2]
    obtain ⟨b, i', h', e, b0, b1, c'⟩ := spec_l01Byte_some h hc
    rw [e, Option.bind_some, if_neg (by omega)]
    exact ⟨_, _, _, rfl, c', fun _ => by omega, fun _ => by rw [tmodp b0]; exact ⟨Int.emod_nonneg _ (by omega), Int.emod_lt_of_pos _ (by omega)⟩⟩
  · rw [if_neg h2]
    obtain ⟨b, i1, h1', e1, b0, b1, c1⟩ := spec_l01Byte_some h hc
    obtain ⟨b2, i2, h2', e2, b20, b21, c2⟩ := spec_l01Byte_some h1' c1
    obtain ⟨b3, i3, h3', e3, b30, b31, c3⟩ := spec_l01Byte_some h2' c2
    obtain ⟨b4, i4, h4', e4, b40, b41, c4⟩ := spec_l01Byte_some h3' c3
    rw [e1, Option.bind_some, e2, Option.bind_some, e3, Option.bind_some, e4, Option.bind_some, if_neg (by omega)]
    have hw : 0 ≤ wrap64 (wrap64 (wrap64 (wrap64 (b * 16777216) + wrap64 (b2 * 65536)) + wrap64 (b3 * 256)) + b4) := by unfold wrap64; omega
    exact ⟨_, _, _, rfl, c4, fun _ => by omega, fun _ => by rw [tmodp hw]; exact ⟨Int.emod_nonneg _ (by omega), Int.emod_lt_of_pos _ (by omega)⟩⟩

theorem spec_DrawPlaces_l0 (l : List Int) : ∀ (d : Nat) (j : Int) (acc : List Int) (i h : Int), cur l i → j + d = 12 → 0 ≤ j → (acc.length : Int) = j → (∀ x ∈ acc, 0 ≤ x ∧ x < 10000) →
    ∃ p, Ev (fun k => spec_DrawPlaces.l0 k acc j l i h) p ∧ p.length = 12 ∧ ∀ x ∈ p, 0 ≤ x ∧ x < 10000 := by
  intro d
  induction d with
  | zero =>
    intro j acc i h hc hj h0 ha hr
    exact ⟨acc, Ev.step (f := fun _ => some acc) (fun k => by rw [spec_DrawPlaces.l0, if_neg (by omega)]) (Ev.now _), by omega, hr⟩
  | succ d ih =>
    intro j acc i h hc hj h0 ha hr
    obtain ⟨x, i', h', e, c', _, hx⟩ := spec_l01Below_some h 10000 (by omega) hc
    obtain ⟨p, ep, h1, h2⟩ := ih (j + 1) (acc ++ [x]) i' h' c' (by omega) (by omega) (by rw [List.length_append, List.length_singleton]; omega) (by
      intro y hy
      rw [List.mem_append, List.mem_singleton] at hy
      rcases hy with hy | rfl
      · exact hr y hy
      · exact hx (by omega))
    refine ⟨p, Ev.step (fun k => ?_) ep, h1, h2⟩
    rw [spec_DrawPlaces.l0, if_pos (by omega), e, Option.bind_some, if_pos (by omega), w64 (by omega) (by omega)]
theorem spec_DrawPlaces_ev (l : List Int) (hl : l.length ≤ 1048576) : ∃ p, Ev (fun k => spec_DrawPlaces.f k l) p ∧ p.length = 12 ∧ ∀ x ∈ p, 0 ≤ x ∧ x < 10000 := by
  obtain ⟨h, e⟩ := spec_l01New_ev l hl
  obtain ⟨b, i', h', e2, _, _, c'⟩ := spec_l01Byte_some (l := l) (i := 0) h ⟨by omega, by omega, hl⟩
  obtain ⟨p, ep, h1, h2⟩ := spec_DrawPlaces_l0 l 12 0 [] i' h' c' (by omega) (by omega) (by simp) (by simp)
  refine ⟨p, ?_, h1, h2⟩
  unfold spec_DrawPlaces.f
  exact Ev.bind e (Ev.bind0 e2 ep)

theorem spec_l01Text_l0 (l : List Int) (n : Int) (hn : n ≤ 5000) : ∀ (d : Nat) (j : Int) (acc : List Int) (i h : Int), cur l i → n - j ≤ d → 0 ≤ j → (acc.length : Int) = j → (j ≤ n ∨ j = 0) →
    ∃ t i' h', Ev (fun k => spec_l01Text.l0 k n acc j l i h) (t, i', h') ∧ cur l i' ∧ (t.size : Int) = max 0 n := by
  intro d
  induction d with
  | zero =>
    intro j acc i h hc hj h0 ha hr
    exact ⟨_, i, h, Ev.step (f := fun _ => some (strOfNums acc, i, h)) (fun k => by rw [spec_l01Text.l0, if_neg (by omega)]) (Ev.now _), hc, by rw [strOfNums_size]; omega⟩
  | succ d ih =>
    intro j acc i h hc hj h0 ha hr
    by_cases hlt : j < n
    · obtain ⟨b, i', h', e, b0, b1, c'⟩ := spec_l01Byte_some h hc
      obtain ⟨t, i2, h2, ep, h3, h4⟩ := ih (j + 1) (acc ++ [b % 256]) i' h' c' (by omega) (by omega) (by rw [List.length_append, List.length_singleton]; omega) (by omega)
      refine ⟨t, i2, h2, Ev.step (fun k => ?_) ep, h3, h4⟩
      rw [spec_l01Text.l0, if_pos hlt, e, Option.bind_some, if_pos (by omega), w64 (by omega) (by omega)]
    · exact ⟨_, i, h, Ev.step (f := fun _ => some (strOfNums acc, i, h)) (fun k => by rw [spec_l01Text.l0, if_neg hlt]) (Ev.now _), hc, by rw [strOfNums_size]; omega⟩
theorem spec_l01Text_ev {l : List Int} {i : Int} (h n : Int) (hc : cur l i) : ∃ t i' h', Ev (fun k => spec_l01Text.f k l i h n) (t, i', h') ∧ cur l i' ∧ (t.size : Int) = max 0 (min n 5000) := by
  unfold spec_l01Text.f
  by_cases h1 : n > 5000
  · obtain ⟨t, i2, h2, ep, h3, h4⟩ := spec_l01Text_l0 l 5000 (by omega) 5000 0 [] i h hc (by omega) (by omega) (by simp) (by omega)
    exact ⟨t, i2, h2, Ev.pos h1 (Ev.step (fun k => by rw [spec_l01Text.j0]) ep), h3, by omega⟩
  · obtain ⟨t, i2, h2, ep, h3, h4⟩ := spec_l01Text_l0 l n (by omega) 5000 0 [] i h hc (by omega) (by omega) (by simp) (by omega)
    exact ⟨t, i2, h2, Ev.neg h1 (Ev.step (fun k => by rw [spec_l01Text.j0]) ep), h3, by omega⟩

def before (x y : S45) : Prop := Op.bytesLess x.f0.toList y.f0.toList = true
theorem less_trans : ∀ (x y z : List UInt8), Op.bytesLess x y = true → Op.bytesLess y z = true → Op.bytesLess x z = true
  | _, _, [], _, h => by simp [Op.bytesLess] at h
  | _, [], _ :: _, h, _ => by simp [Op.bytesLess] at h
  | [], _ :: _, _ :: _, _, _ => rfl
  | a :: x, b :: y, c :: z, h, k => by
    simp only [Op.bytesLess, Bool.or_eq_true, Bool.and_eq_true, decide_eq_true_eq, beq_iff_eq] at h k ⊢
    rcases h with h | ⟨h, h'⟩
    · rcases k with k | ⟨k, k'⟩
      · exact .inl (UInt8.lt_trans h k)
      · exact .inl (k ▸ h)
    · rcases k with k | ⟨k, k'⟩
      · exact .inl (h ▸ k)
      · exact .inr ⟨h.trans k, less_trans x y z h' k'⟩
theorem less_irrefl : ∀ (x : List UInt8), ¬ Op.bytesLess x x = true
  | [] => by simp [Op.bytesLess]
  | a :: x => by
    simp only [Op.bytesLess, Bool.or_eq_true, Bool.and_eq_true, decide_eq_true_eq, beq_iff_eq, not_or, not_and]
    exact ⟨UInt8.lt_irrefl a, fun _ => less_irrefl x⟩
theorem before_trans {x y z : S45} (h : before x y) (k : before y z) : before x z := less_trans _ _ _ h k
theorem pair_files : ∀ (l : List S45) (o : Option S45), (∀ x ∈ l, fileOk x = true) → l.Pairwise before → (∀ y, o = some y → ∀ x ∈ l, before y x) → filesOk o l = true := by
  intro l
  induction l with
  | nil => intro o _ _ _; cases o <;> rfl
  | cons a t ih =>
    intro o h1 h2 h3
    rw [List.pairwise_cons] at h2
    have e := ih (some a) (fun x hx => h1 x (List.mem_cons_of_mem _ hx)) h2.2 (fun y hy x hx => by injection hy with hy; subst hy; exact h2.1 x hx)
    have ha := h1 a List.mem_cons_self
    cases o with
    | none => rw [filesOk, ha, e]; rfl
    | some y =>
      have hb : Op.bytesLess y.f0.toList a.f0.toList = true := h3 y rfl a List.mem_cons_self
      rw [filesOk, ha, hb, e]; rfl
def putOf (l : List S45) (f : S45) : List S45 := l.filter (fun x => Op.bytesLess x.f0.toList f.f0.toList) ++ f :: l.filter (fun x => Op.bytesLess f.f0.toList x.f0.toList)
theorem putOf_pair {l : List S45} (f : S45) (h : l.Pairwise before) : (putOf l f).Pairwise before := by
  unfold putOf
  rw [List.pairwise_append, List.pairwise_cons]
  refine ⟨h.filter _, ⟨fun x hx => (List.mem_filter.1 hx).2, h.filter _⟩, fun x hx y hy => ?_⟩
  have hx2 : before x f := (List.mem_filter.1 hx).2
  rcases List.mem_cons.1 hy with rfl | hy
  · exact hx2
  · exact before_trans hx2 (show before f y from (List.mem_filter.1 hy).2)
theorem putOf_mem {l : List S45} {f x : S45} (h : x ∈ putOf l f) : x = f ∨ x ∈ l := by
  unfold putOf at h
  rcases List.mem_append.1 h with h | h
  · exact .inr (List.mem_filter.1 h).1
  · rcases List.mem_cons.1 h with h | h
    · exact .inl h
    · exact .inr (List.mem_filter.1 h).1
theorem filter_two {l : List S45} (f : S45) : (l.filter (fun x => Op.bytesLess x.f0.toList f.f0.toList)).length + (l.filter (fun x => Op.bytesLess f.f0.toList x.f0.toList)).length ≤ l.length := by
  induction l with
  | nil => simp
  | cons a t ih =>
    have hno : ¬ (Op.bytesLess a.f0.toList f.f0.toList = true ∧ Op.bytesLess f.f0.toList a.f0.toList = true) := fun h => by
      exact less_irrefl _ (less_trans _ _ _ h.1 h.2)
    rw [List.filter_cons, List.filter_cons, List.length_cons]
    by_cases c1 : Op.bytesLess a.f0.toList f.f0.toList = true
    · have c2 : ¬ Op.bytesLess f.f0.toList a.f0.toList = true := fun h => hno ⟨c1, h⟩
      rw [if_pos c1, if_neg c2, List.length_cons]; omega
    · rw [if_neg c1]
      by_cases c2 : Op.bytesLess f.f0.toList a.f0.toList = true
      · rw [if_pos c2, List.length_cons]; omega
      · rw [if_neg c2]; omega
theorem putOf_length (l : List S45) (f : S45) : (putOf l f).length ≤ l.length + 1 := by
  unfold putOf
  rw [List.length_append, List.length_cons]
  have := filter_two (l := l) f
  omega
theorem spec_l03Put_l1 (l : List S45) (hl : l.length ≤ 1048576) (f : S45) : ∀ (t : List S45) (i : Nat) (acc : List S45), l.drop i = t → i ≤ l.length → acc.length ≤ 1048577 + i →
    Ev (fun k => spec_l03Put.l1 k (i : Int) l f.f0 f.f1 f.f2 acc) (acc ++ t.filter (fun x => Op.bytesLess f.f0.toList x.f0.toList)) := by
  intro t
  induction t with
  | nil =>
    intro i acc ht hi hz
    have := drop_nil_len ht
    exact Ev.step (f := fun _ => some acc) (fun k => by rw [spec_l03Put.l1, if_neg (by omega)]) (Ev.ret (by simp))
  | cons a t ih =>
    intro i acc ht hi hz
    obtain ⟨h1, h2, h3⟩ := rd_T45_drop ht
    refine Ev.succ ?_
    simp only [spec_l03Put.l1, h1, w64 (n := (i : Int) + 1) (by omega) (by omega)]
    refine Ev.pos (by omega) (Ev.pos (by omega) ?_)
    rw [List.filter_cons]
    by_cases c : Op.bytesLess f.f0.toList a.f0.toList = true
    · have e := ih (i + 1) (acc ++ [a]) h3 (by omega) (by rw [List.length_append, List.length_singleton]; omega)
      rw [List.append_assoc, show ((i + 1 : Nat) : Int) = (i : Int) + 1 from by omega] at e
      rw [if_pos c]
      exact Ev.pos c (Ev.pos (by omega) e)
    · have e := ih (i + 1) acc h3 (by omega) (by omega)
      rw [show ((i + 1 : Nat) : Int) = (i : Int) + 1 from by omega] at e
      rw [if_neg c]
      exact Ev.neg c e
theorem spec_l03Put_l0 (l : List S45) (hl : l.length ≤ 1048576) (f : S45) : ∀ (t : List S45) (i : Nat) (acc : List S45), l.drop i = t → i ≤ l.length → acc.length ≤ i →
    Ev (fun k => spec_l03Put.l0 k (i : Int) l f.f0 f.f1 f.f2 acc) (acc ++ t.filter (fun x => Op.bytesLess x.f0.toList f.f0.toList) ++ f :: l.filter (fun x => Op.bytesLess f.f0.toList x.f0.toList)) := by
  intro t
  induction t with
  | nil =>
    intro i acc ht hi hz
    have := drop_nil_len ht
    refine Ev.succ ?_
    simp only [spec_l03Put.l0]
    have e := spec_l03Put_l1 l hl f l 0 (acc ++ [f]) rfl (Nat.zero_le _) (by rw [List.length_append, List.length_singleton]; omega)
    rw [List.append_assoc] at e
    refine Ev.neg (by omega) (Ev.pos (by omega) ?_)
    rw [List.filter_nil, List.append_nil]
    exact e
  | cons a t ih =>
    intro i acc ht hi hz
    obtain ⟨h1, h2, h3⟩ := rd_T45_drop ht
    refine Ev.succ ?_
    simp only [spec_l03Put.l0, h1, w64 (n := (i : Int) + 1) (by omega) (by omega)]
    refine Ev.pos (by omega) (Ev.pos (by omega) ?_)
    rw [List.filter_cons]
    by_cases c : Op.bytesLess a.f0.toList f.f0.toList = true
    · have e := ih (i + 1) (acc ++ [a]) h3 (by omega) (by rw [List.length_append, List.length_singleton]; omega)
      rw [List.append_assoc acc, show ((i + 1 : Nat) : Int) = (i : Int) + 1 from by omega] at e
      rw [if_pos c]
      exact Ev.pos c (Ev.pos (by omega) e)
    · have e := ih (i + 1) acc h3 (by omega) (by omega)
      rw [show ((i + 1 : Nat) : Int) = (i : Int) + 1 from by omega] at e
      rw [if_neg c]
      exact Ev.neg c e
theorem spec_l03Put_ev (l : List S45) (hl : l.length ≤ 1048576) (f : S45) : Ev (fun k => spec_l03Put.f k l f.f0 f.f1 f.f2) (putOf l f) := by
  unfold spec_l03Put.f
  exact spec_l03Put_l0 l hl f l 0 [] rfl (Nat.zero_le _) (Nat.le_refl _)

def names8 : List ByteArray := [(⟨#[97]⟩ : ByteArray), (⟨#[98]⟩ : ByteArray), (⟨#[99]⟩ : ByteArray), (⟨#[98, 48]⟩ : ByteArray), (⟨#[98, 49]⟩ : ByteArray), (⟨#[98, 50]⟩ : ByteArray), (⟨#[109, 43]⟩ : ByteArray), (⟨#[120]⟩ : ByteArray)]
theorem names8_at : ∀ i : Fin 8, 1 ≤ (rdOf ByteArray.empty names8 ((i.val : Nat) : Int)).size ∧ (rdOf ByteArray.empty names8 ((i.val : Nat) : Int)).size ≤ 2 := by decide
theorem spec_l03Named_some {l : List Int} {i : Int} (h : Int) (hc : cur l i) : ∃ s i' h', spec_l03Named.f l i h = some (s, i', h') ∧ cur l i' ∧ 1 ≤ s.size ∧ s.size ≤ 2 := by
  obtain ⟨x, i1, h1, e1, c1, _, hx⟩ := spec_l01Below_some h 8 (by omega) hc
  have hr := hx (by omega)
  have hn := names8_at ⟨x.toNat, by omega⟩
  rw [show ((x.toNat : Nat) : Int) = x from by omega] at hn
  refine ⟨rdOf ByteArray.empty names8 x, i1, h1, ?_, c1, hn.1, hn.2⟩
  unfold spec_l03Named.f spec_l01Pick.f
  show (((spec_l01Below.f l i h ((8 : Nat) : Int)).bind _).bind _) = _
  rw [show ((8 : Nat) : Int) = 8 from rfl, e1]
  simp only [Option.bind_some]
  rw [if_pos hr.1, if_pos (by show x < ((8 : Nat) : Int); omega)]
  rfl
theorem spec_DrawRightDisk_l0 (l : List Int) : ∀ (d : Nat) (j i h : Int) (xs : List S45), cur l i → 6 - j ≤ d → 0 ≤ j → j ≤ 6 → (xs.length : Int) ≤ j → (∀ x ∈ xs, fileOk x = true) → xs.Pairwise before →
    ∃ ys, Ev (fun k => spec_DrawRightDisk.l0 k j l i h xs) ys ∧ ys.length ≤ 6 ∧ (∀ x ∈ ys, fileOk x = true) ∧ ys.Pairwise before := by
  intro d
  induction d with
  | zero =>
    intro j i h xs hc hd hj hj6 hl h1 h2
    obtain ⟨x, i1, h3, e1, c1, _, hx⟩ := spec_l01Below_some h 6 (by omega) hc
    have hr := hx (by omega)
    refine ⟨xs, Ev.succ ?_, by omega, h1, h2⟩
    simp only [spec_DrawRightDisk.l0]
    exact Ev.bind0 e1 (Ev.neg (by omega) (Ev.now _))
  | succ d ih =>
    intro j i h xs hc hd hj hj6 hl h1 h2
    obtain ⟨x, i1, k1, e1, c1, _, hx⟩ := spec_l01Below_some h 6 (by omega) hc
    have hr := hx (by omega)
    by_cases hjx : j < x
    · obtain ⟨n, i2, k2, e2, c2, _, hn⟩ := spec_l01Below_some k1 30 (by omega) c1
      have hn := hn (by omega)
      obtain ⟨t, i3, k3, e3, c3, ht⟩ := spec_l01Text_ev k2 n c2
      obtain ⟨s, i4, k4, e4, c4, s0, s1⟩ := spec_l03Named_some k3 c3
      obtain ⟨q, i5, k5, e5, c5, _, hq⟩ := spec_l01Below_some k4 ((t.size : Int) + 1) (by omega) c4
      have hq := hq (by omega)
      have hok : fileOk ⟨s, t, q⟩ = true := by
        unfold fileOk
        rw [decide_eq_true (p := 1 ≤ (s.size : Int) ∧ (s.size : Int) ≤ 8) (by omega), decide_eq_true (p := (t.size : Int) ≤ 20000) (by omega), decide_eq_true (p := 0 ≤ q ∧ q ≤ (t.size : Int)) (by omega)]
        rfl
      have hp := putOf_length xs ⟨s, t, q⟩
      obtain ⟨ys, ey, y1, y2, y3⟩ := ih (j + 1) i5 k5 (putOf xs ⟨s, t, q⟩) c5 (by omega) (by omega) (by omega) (by omega) (fun x hx => by
        rcases putOf_mem hx with rfl | hx
        · exact hok
        · exact h1 x hx) (putOf_pair _ h2)
      refine ⟨ys, Ev.succ ?_, y1, y2, y3⟩
      simp only [spec_DrawRightDisk.l0, w64 (n := j + 1) (by omega) (by omega)]
      refine Ev.bind0 e1 (Ev.pos hjx (Ev.bind0 e2 (Ev.bind e3 (Ev.bind0 e4 ?_))))
      dsimp only
      rw [w64 (n := (t.size : Int) + 1) (by omega) (by omega)]
      exact Ev.bind0 e5 (Ev.bind (spec_l03Put_ev xs (by omega) ⟨s, t, q⟩) ey)
    · refine ⟨xs, Ev.succ ?_, by omega, h1, h2⟩
      simp only [spec_DrawRightDisk.l0]
      exact Ev.bind0 e1 (Ev.neg hjx (Ev.now _))
theorem spec_DrawRightDisk_ev (l : List Int) (hl : l.length ≤ 1048576) : ∃ ys, Ev (fun k => spec_DrawRightDisk.f k l) ys ∧ ys.length ≤ 6 ∧ (∀ x ∈ ys, fileOk x = true) ∧ ys.Pairwise before := by
  obtain ⟨h, e⟩ := spec_l01New_ev l hl
  obtain ⟨ys, ey, y⟩ := spec_DrawRightDisk_l0 l 6 0 0 h [] ⟨Int.le_refl _, by omega, hl⟩ (by omega) (by omega) (by omega) (by simp) (fun x hx => by cases hx) List.Pairwise.nil
  refine ⟨ys, ?_, y⟩
  unfold spec_DrawRightDisk.f
  exact Ev.bind e ey

theorem laws_lefts_l0 (p : List Int) (hp : p.length = 12) (hp2 : ∀ x ∈ p, 0 ≤ x ∧ x < 10000) : ∀ (d i : Nat) (acc : List Int), i + d = 6 → acc.length = i → ∃ ys, Ev (fun k => laws_lefts.l0 k p acc (i : Int)) ys ∧ ys.length = 6 := by
  intro d
  induction d with
  | zero =>
    intro i acc hi ha
    exact ⟨acc, Ev.step (f := fun _ => some acc) (fun k => by rw [laws_lefts.l0, if_neg (by omega)]) (Ev.now _), by omega⟩
  | succ d ih =>
    intro i acc hi ha
    obtain ⟨ys, e, hy⟩ := ih (i + 1) (acc ++ [Int.tmod (rd p (i : Int)) 400]) (by omega) (by rw [List.length_append, List.length_singleton]; omega)
    rw [show ((i + 1 : Nat) : Int) = (i : Int) + 1 from by omega] at e
    refine ⟨ys, Ev.succ ?_, hy⟩
    simp only [laws_lefts.l0, w64 (n := (i : Int) + 1) (by omega) (by omega)]
    exact Ev.pos (by omega) (Ev.pos (by omega) (Ev.pos (by omega) (Ev.pos (by omega) e)))
theorem lose_text {n : Int} {x : S45} (h : keptFits x) : ((loseOne n x).f1.size : Int) = (loseOne n x).f2 ∧ x.f2 ≤ (loseOne n x).f2 ∧ (loseOne n x).f2 ≤ (x.f1.size : Int) ∧ 0 ≤ (loseOne n x).f2 := by
  obtain ⟨m0, m1, m2⟩ := mxmn (n := n) h.1 h.2
  have m3 : x.f2 ≤ mx x.f2 (mn n (x.f1.size : Int)) := by
    have hk := h.2
    rw [m2]
    by_cases c1 : n > (x.f1.size : Int)
    · rw [if_pos c1]; exact hk
    · rw [if_neg c1]
      by_cases c2 : n < x.f2
      · rw [if_pos c2]; exact Int.le_refl _
      · rw [if_neg c2]; omega
  refine ⟨?_, m3, m1, m0⟩
  show ((x.f1.extract 0 (mx x.f2 (mn n (x.f1.size : Int))).toNat).size : Int) = mx x.f2 (mn n (x.f1.size : Int))
  rw [ext_size _ _ _ (by omega)]; omega
theorem lose_name (n : Int) (x : S45) : (loseOne n x).f0 = x.f0 := rfl
theorem loseFrom_mem (left : List Int) : ∀ (t : List S45) (i : Nat), (∀ x ∈ t, fileOk x = true) → ∀ y ∈ loseFrom left i t, fileOk y = true ∧ kept y = true := by
  intro t
  induction t with
  | nil => intro i _ y hy; cases hy
  | cons a t ih =>
    intro i h y hy
    rw [loseFrom] at hy
    rcases List.mem_cons.1 hy with rfl | hy
    · have ha := h a List.mem_cons_self
      unfold fileOk at ha
      rw [Bool.and_eq_true, Bool.and_eq_true, decide_eq_true_eq, decide_eq_true_eq, decide_eq_true_eq] at ha
      obtain ⟨⟨a1, a2⟩, a3⟩ := ha
      obtain ⟨t1, t2, t3, t4⟩ := lose_text (n := leftAt left i) (x := a) a3
      refine ⟨?_, ?_⟩
      · unfold fileOk
        rw [lose_name, decide_eq_true a1, decide_eq_true (p := ((loseOne (leftAt left i) a).f1.size : Int) ≤ 20000) (by omega), decide_eq_true (p := 0 ≤ (loseOne (leftAt left i) a).f2 ∧ (loseOne (leftAt left i) a).f2 ≤ ((loseOne (leftAt left i) a).f1.size : Int)) (by omega)]
        rfl
      · rw [kept, decide_eq_true t1.symm]
    · exact ih (i + 1) (fun x hx => h x (List.mem_cons_of_mem _ hx)) y hy
theorem loseFrom_before (left : List Int) : ∀ (t : List S45) (i : Nat) (a : S45), (∀ x ∈ t, before a x) → ∀ (b : S45), b.f0 = a.f0 → ∀ y ∈ loseFrom left i t, before b y := by
  intro t
  induction t with
  | nil => intro i a _ b _ y hy; cases hy
  | cons c t ih =>
    intro i a h b hb y hy
    rw [loseFrom] at hy
    rcases List.mem_cons.1 hy with rfl | hy
    · have := h c List.mem_cons_self
      unfold before at *
      rw [hb, lose_name]; exact this
    · exact ih (i + 1) a (fun x hx => h x (List.mem_cons_of_mem _ hx)) b hb y hy
theorem loseFrom_pair (left : List Int) : ∀ (t : List S45) (i : Nat), t.Pairwise before → (loseFrom left i t).Pairwise before := by
  intro t
  induction t with
  | nil => intro i _; exact List.Pairwise.nil
  | cons a t ih =>
    intro i h
    rw [List.pairwise_cons] at h
    rw [loseFrom, List.pairwise_cons]
    exact ⟨loseFrom_before left t (i + 1) a h.1 _ (lose_name _ _), ih (i + 1) h.2⟩
theorem lose_again (n : Int) (x : S45) (h : keptFits x) (hk : kept x = true) : loseOne n x = x := by
  obtain ⟨m0, m1, m2⟩ := mxmn (n := n) h.1 h.2
  have hk := of_decide_eq_true hk
  have e : mx x.f2 (mn n (x.f1.size : Int)) = (x.f1.size : Int) := by
    rw [m2]; split
    · rfl
    · split <;> omega
  have e2 : x.f1.extract 0 x.f1.size = x.f1 := ba_ext (by rw [ext_data, List.drop_zero, Nat.sub_zero, List.take_of_length_le (by rw [size_len]; exact Nat.le_refl _)])
  show (⟨x.f0, x.f1.extract 0 (mx x.f2 (mn n (x.f1.size : Int))).toNat, mx x.f2 (mn n (x.f1.size : Int))⟩ : S45) = x
  rw [e, Int.toNat_natCast, e2, ← hk]
theorem loseFrom_again (left : List Int) : ∀ (t : List S45) (i : Nat), (∀ x ∈ t, keptFits x ∧ kept x = true) → loseFrom left i t = t := by
  intro t
  induction t with
  | nil => intro i _; rfl
  | cons a t ih =>
    intro i h
    have ha := h a List.mem_cons_self
    rw [loseFrom, lose_again _ a ha.1 ha.2, ih (i + 1) (fun x hx => h x (List.mem_cons_of_mem _ hx))]
theorem laws_sameDisk_l0 (l : List S45) (hl : l.length ≤ 1048576) : ∀ (t : List S45) (i : Nat), l.drop i = t → i ≤ l.length → Ev (fun k => laws_sameDisk.l0 k (i : Int) l l) true := by
  intro t
  induction t with
  | nil =>
    intro i ht hi
    have := drop_nil_len ht
    exact Ev.step (f := fun _ => some true) (fun k => by rw [laws_sameDisk.l0, if_neg (by omega)]) (Ev.now _)
  | cons a t ih =>
    intro i ht hi
    obtain ⟨h1, h2, h3⟩ := rd_T45_drop ht
    have e := ih (i + 1) h3 (by omega)
    rw [show ((i + 1 : Nat) : Int) = (i : Int) + 1 from by omega] at e
    refine Ev.succ ?_
    simp only [laws_sameDisk.l0, w64 (n := (i : Int) + 1) (by omega) (by omega)]
    exact Ev.pos (by omega) (Ev.pos (by omega) (Ev.pos (by omega) (Ev.neg (by simp) e)))
theorem laws_sameDisk_ev (l : List S45) (hl : l.length ≤ 1048576) : Ev (fun k => laws_sameDisk.f k l l) true := by
  unfold laws_sameDisk.f
  exact Ev.pos rfl (laws_sameDisk_l0 l hl l 0 rfl (Nat.zero_le _))
theorem begins_cut (s : ByteArray) {m : Nat} (h : m ≤ s.size) : laws_begins.f (s.extract 0 m) s = some true := by
  have hz : (s.extract 0 m).size = m := by rw [ext_size _ _ _ h]; omega
  unfold laws_begins.f
  rw [if_pos (by omega), if_pos (by omega), Int.toNat_natCast, hz]
  simp
theorem cut_cut (s : ByteArray) {m n : Nat} (h : m ≤ n) : (s.extract 0 n).extract 0 m = s.extract 0 m := ba_ext (by
  rw [ext_data, ext_data, ext_data, List.drop_zero, List.drop_zero, Nat.sub_zero, Nat.sub_zero, List.take_take, Nat.min_eq_left h])
theorem laws_FnKeeps_l0 (left : List Int) (l : List S45) (hl : l.length ≤ 30) (hf : ∀ x ∈ l, keptFits x) : ∀ (t : List S45) (i : Nat), l.drop i = t → (loseFrom left 0 l).drop i = loseFrom left i t → i ≤ l.length →
    Ev (fun k => laws_FnKeeps.l0 k (i : Int) l (loseFrom left 0 l)) true := by
  intro t
  induction t with
  | nil =>
    intro i ht hx hi
    have := drop_nil_len ht
    exact Ev.step (f := fun _ => some true) (fun k => by rw [laws_FnKeeps.l0, if_neg (by omega)]) (Ev.now _)
  | cons a t ih =>
    intro i ht hx hi
    obtain ⟨h1, h2, h3⟩ := rd_T45_drop ht
    rw [loseFrom] at hx
    obtain ⟨g1, g2, g3⟩ := rd_T45_drop hx
    have ha := hf a (List.mem_of_mem_drop (by rw [ht]; exact List.mem_cons_self))
    obtain ⟨t1, t2, t3, t4⟩ := lose_text (n := leftAt left i) ha
    have e := ih (i + 1) h3 g3 (by omega)
    rw [show ((i + 1 : Nat) : Int) = (i : Int) + 1 from by omega] at e
    refine Ev.succ ?_
    simp only [laws_FnKeeps.l0, h1, g1, w64 (n := (i : Int) + 1) (by omega) (by omega)]
    have hy : (loseOne (leftAt left i) a).f1 = a.f1.extract 0 ((loseOne (leftAt left i) a).f2).toNat := rfl
    have b1 : laws_begins.f (loseOne (leftAt left i) a).f1 a.f1 = some true := by rw [hy]; exact begins_cut _ (by omega)
    have b2 : laws_begins.f (a.f1.extract 0 (a.f2).toNat) (loseOne (leftAt left i) a).f1 = some true := by
      have e3 : a.f1.extract 0 (a.f2).toNat = (loseOne (leftAt left i) a).f1.extract 0 (a.f2).toNat := by rw [hy, cut_cut _ (by omega)]
      rw [e3]; exact begins_cut _ (by omega)
    exact Ev.pos (by omega) (Ev.pos (by omega) (Ev.pos (by omega) (Ev.pos rfl (Ev.bind0 b1 (Ev.pos rfl (Ev.pos ha.1 (Ev.pos ha.2 (Ev.bind0 b2 (Ev.pos rfl e)))))))))
theorem FnKeeps : laws_FnKeeps.Pure := by
  intro l0 h0 h1 h2
  refine Ev.rounds (r := true) ?_
  unfold laws_FnKeeps.f
  refine Ev.bind0 (laws_big_eq l0) ?_
  by_cases hb : (l0.length : Int) > 1048576
  · exact Ev.pos (by simpa using hb) (Ev.now _)
  refine Ev.neg (by simpa using hb) ?_
  obtain ⟨l, el, l1, l2, l3⟩ := spec_DrawRightDisk_ev l0 (by omega)
  obtain ⟨p, ep, hp1, hp2⟩ := spec_DrawPlaces_ev l0 (by omega)
  obtain ⟨left, ef, hf⟩ := laws_lefts_l0 p hp1 hp2 6 0 [] rfl rfl
  have hd : diskOk l = true := by unfold diskOk; rw [decide_eq_true (by omega), pair_files l none l2 l3 (fun y hy => by cases hy)]; rfl
  obtain ⟨f1, f2⟩ := disk_fits hd
  have hm := loseFrom_mem left l 0 l2
  have hlen := loseFrom_length left l 0
  have hd2 : diskOk (loseFrom left 0 l) = true := by
    unfold diskOk
    rw [decide_eq_true (by omega), pair_files _ none (fun x hx => (hm x hx).1) (loseFrom_pair left l 0 l3) (fun y hy => by cases hy)]; rfl
  obtain ⟨g1, g2⟩ := disk_fits hd2
  have hagain : loseFrom [] 0 (loseFrom left 0 l) = loseFrom left 0 l := loseFrom_again [] _ 0 (fun x hx => ⟨g2 x hx, (hm x hx).2⟩)
  have e1 := impl_LoseDisk_ev l left (by omega)
  have e2 := impl_LoseDisk_ev (loseFrom left 0 l) [] (by omega)
  rw [loseDisk, if_pos hd] at e1
  rw [loseDisk, if_pos hd2, hagain] at e2
  have e3 := impl_AllKept_ev (loseFrom left 0 l) (by omega)
  have hk : allKept (loseFrom left 0 l) = true := by
    unfold allKept
    rw [hd2, Bool.true_and, List.all_eq_true]
    exact fun x hx => (hm x hx).2
  rw [hk] at e3
  have e4 := impl_DiskOk_ev l (by omega)
  rw [hd] at e4
  refine Ev.bind el (Ev.bind ep (Ev.bind ef (Ev.bind e1 (Ev.bind e2 (Ev.pos rfl (Ev.pos rfl (Ev.pos (by dsimp only; omega) (Ev.bind (laws_sameDisk_ev _ (by dsimp only; omega)) (Ev.pos rfl (Ev.bind e3 (Ev.pos rfl (Ev.bind e4 ?_))))))))))))
  refine Ev.succ ?_
  simp only [laws_FnKeeps.j0]
  exact Ev.neg (by decide) (laws_FnKeeps_l0 left l f1 f2 l 0 rfl rfl (Nat.zero_le _))

end Go.Proofs.Ytgfacdhkamphiaa.Pure
