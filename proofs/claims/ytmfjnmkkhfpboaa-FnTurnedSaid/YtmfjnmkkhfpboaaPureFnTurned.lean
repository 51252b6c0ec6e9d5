/- For every draw the drawn text is Unsealed as it was sealed, with one byte turned it is not, and its sum goes on. -/
import Derived.Test.YtmfjnmkkhfpboaaOFnTurnedx2
import Derived.Test.YtmfjnmkkhfpboaaBase
import Derived.Test.YtmfjnmkkhfpboaaBase2
import Derived.Test.YtmfjnmkkhfpboaaBase3
import Derived.Test.YtmfjnmkkhfpboaaBase4
namespace Go.Proofs.Ytmfjnmkkhfpboaa.Pure
open Go.RowKit Go.Proofs.Ytmfjnmkkhfpboaa.PFnTurned Go.Proofs.YtmfjnmkkhfpboaaW.PrintWords Go.Proofs.YtmfjnmkkhfpboaaW.PrintLast Go.Proofs.Ytmfjnmkkhfpboaa.Base
set_option linter.unusedVariables false
set_option linter.unusedSimpArgs false

theorem laws_big_eq (l : List Int) : laws_big.f l = some (decide ((l.length : Int) > 1048576)) := rfl
theorem spec_l01New_l0 (l : List Int) (hl : l.length ≤ 1048576) : ∀ (d : Nat) (x i : Int), 0 ≤ i → (l.length : Int) - i ≤ d → ∃ h, Ev (fun k => spec_l01New.l0 k l x i) (l, 0, h) := by
  intro d
  induction d with
  | zero =>
    intro x i h0 hd
    exact ⟨x, Ev.step (f := fun _ => some (l, 0, x)) (fun k => by rw [spec_l01New.l0, if_neg (by omega)]) (Ev.now _)⟩
  | succ d ih =>
    intro x i h0 hd
    by_cases h1 : i < (l.length : Int)
    · by_cases h2 : i < 4000
      · obtain ⟨h, e⟩ := ih (Go.bits .and .i64 (wrap64 ((wrap64 ((wrap64 (x * 131)) + (wrap64 (rd l i)))) + 7)) 1073741823) (i + 1) (by omega) (by omega)
        refine ⟨h, Ev.step (fun k => ?_) e⟩
        rw [spec_l01New.l0, if_pos h1, if_pos h2, if_pos h0, w64 (n := i + 1) (by omega) (by omega)]
      · exact ⟨x, Ev.step (f := fun _ => some (l, 0, x)) (fun k => by rw [spec_l01New.l0, if_pos h1, if_neg h2]) (Ev.now _)⟩
    · exact ⟨x, Ev.step (f := fun _ => some (l, 0, x)) (fun k => by rw [spec_l01New.l0, if_neg h1]) (Ev.now _)⟩
theorem spec_l01New_ev (l : List Int) (hl : l.length ≤ 1048576) : ∃ h, Ev (fun k => spec_l01New.f k l) (l, 0, h) := by
  obtain ⟨h, e⟩ := spec_l01New_l0 l hl l.length (wrap64 (12701 + (l.length : Int))) 0 (by omega) (by omega)
  exact ⟨h, e⟩
/-- The cursor stands within the draw. -/
def cur (l : List Int) (i : Int) : Prop := 0 ≤ i ∧ i ≤ l.length ∧ l.length ≤ 1048576
theorem spec_l01Byte_some {l : List Int} {i : Int} (h : Int) (hc : cur l i) : ∃ b i' h', spec_l01Byte.f l i h = some (b, i', h') ∧ 0 ≤ b ∧ b ≤ 255 ∧ cur l i' := by
  obtain ⟨h0, h1, h2⟩ := hc
  unfold spec_l01Byte.f
  by_cases hlt : i < (l.length : Int)
  · rw [if_pos hlt, if_pos h0]
    exact ⟨_, _, _, rfl, (and255 _).1, (and255 _).2, by rw [w64 (by omega) (by omega)]; omega, by rw [w64 (by omega) (by omega)]; omega, h2⟩
  · rw [if_neg hlt]
    exact ⟨_, _, _, rfl, (and255 _).1, (and255 _).2, h0, h1, h2⟩
theorem spec_l01Below_some {l : List Int} {i : Int} (h n : Int) (hn : n ≤ 9223372036854775807) (hc : cur l i) : ∃ x i' h', spec_l01Below.f l i h n = some (x, i', h') ∧ cur l i' ∧ (n ≤ 0 → x = 0) ∧ (0 < n → 0 ≤ x ∧ x < n) := by
  unfold spec_l01Below.f
  by_cases h1 : n ≤ 0
  · rw [if_pos h1]
    exact ⟨_, _, _, rfl, hc, fun _ => rfl, fun _ => by omega⟩
  rw [if_neg h1]
  by_cases h2 : n ≤ 256
  · rw [if_pos h2]
    obtain ⟨b, i', h', e, b0, b1, c'⟩ := spec_l01Byte_some h hc
    rw [e, Option.bind_some, if_neg (by omega)]
    exact ⟨_, _, _, rfl, c', fun _ => by omega, fun _ => by rw [tmodp b0]; exact ⟨Int.emod_nonneg _ (by omega), Int.emod_lt_of_pos _ (by omega)⟩⟩
  · rw [if_neg h2]
    obtain ⟨b, i1, h1', e1, b0, b1, c1⟩ := spec_l01Byte_some h hc
    obtain ⟨b2, i2, h2', e2, b20, b21, c2⟩ := spec_l01Byte_some h1' c1
    obtain ⟨b3, i3, h3', e3, b30, b31, c3⟩ := spec_l01Byte_some h2' c2
    obtain ⟨b4, i4, h4', e4, b40, b41, c4⟩ := spec_l01Byte_some h3' c3
    rw [e1, Option.bind_some, e2, Option.bind_some, e3, Option.bind_some, e4, Option.bind_some, if_neg (by omega)]
    have hw : 0 ≤ wrap64 (wrap64 (wrap64 (wrap64 (b * 16777216) + wrap64 (b2 * 65536)) + wrap64 (b3 * 256)) + b4) := by unfold wrap64; omega
    exact ⟨_, _, _, rfl, c4, fun _ => by omega, fun _ => by rw [tmodp hw]; exact ⟨Int.emod_nonneg _ (by omega), Int.emod_lt_of_pos _ (by omega)⟩⟩

theorem spec_DrawPlaces_l0 (l : List Int) : ∀ (d : Nat) (j : Int) (acc : List Int) (i h : Int), cur l i → j + d = 12 → 0 ≤ j → (acc.length : Int) = j → (∀ x ∈ acc, 0 ≤ x ∧ x < 10000) →
    ∃ p, Ev (fun k => spec_DrawPlaces.l0 k acc j l i h) p ∧ p.length = 12 ∧ ∀ x ∈ p, 0 ≤ x ∧ x < 10000 := by
  intro d
  induction d with
  | zero =>
    intro j acc i h hc hj h0 ha hr
    exact ⟨acc, Ev.step (f := fun _ => some acc) (fun k => by rw [spec_DrawPlaces.l0, if_neg (by omega)]) (Ev.now _), by omega, hr⟩
  | succ d ih =>
    intro j acc i h hc hj h0 ha hr
    obtain ⟨x, i', h', e, c', _, hx⟩ := spec_l01Below_some h 10000 (by omega) hc
    obtain ⟨p, ep, h1, h2⟩ := ih (j + 1) (acc ++ [x]) i' h' c' (by omega) (by omega) (by rw [List.length_append, List.length_singleton]; omega) (by
      intro y hy
      rw [List.mem_append, List.mem_singleton] at hy
      rcases hy with hy | rfl
      · exact hr y hy
      · exact hx (by omega))
    refine ⟨p, Ev.step (fun k => ?_) ep, h1, h2⟩
    rw [spec_DrawPlaces.l0, if_pos (by omega), e, Option.bind_some, if_pos (by omega), w64 (by omega) (by omega)]
theorem spec_DrawPlaces_ev (l : List Int) (hl : l.length ≤ 1048576) : ∃ p, Ev (fun k => spec_DrawPlaces.f k l) p ∧ p.length = 12 ∧ ∀ x ∈ p, 0 ≤ x ∧ x < 10000 := by
  obtain ⟨h, e⟩ := spec_l01New_ev l hl
  obtain ⟨b, i', h', e2, _, _, c'⟩ := spec_l01Byte_some (l := l) (i := 0) h ⟨by omega, by omega, hl⟩
  obtain ⟨p, ep, h1, h2⟩ := spec_DrawPlaces_l0 l 12 0 [] i' h' c' (by omega) (by omega) (by simp) (by simp)
  refine ⟨p, ?_, h1, h2⟩
  unfold spec_DrawPlaces.f
  exact Ev.bind e (Ev.bind0 e2 ep)

theorem spec_l01Text_l0 (l : List Int) (n : Int) (hn : n ≤ 5000) : ∀ (d : Nat) (j : Int) (acc : List Int) (i h : Int), cur l i → n - j ≤ d → 0 ≤ j → (acc.length : Int) = j → (j ≤ n ∨ j = 0) →
    ∃ t i' h', Ev (fun k => spec_l01Text.l0 k n acc j l i h) (t, i', h') ∧ cur l i' ∧ (t.size : Int) = max 0 n := by
  intro d
  induction d with
  | zero =>
    intro j acc i h hc hj h0 ha hr
    exact ⟨_, i, h, Ev.step (f := fun _ => some (strOfNums acc, i, h)) (fun k => by rw [spec_l01Text.l0, if_neg (by omega)]) (Ev.now _), hc, by rw [strOfNums_size]; omega⟩
  | succ d ih =>
    intro j acc i h hc hj h0 ha hr
    by_cases hlt : j < n
    · obtain ⟨b, i', h', e, b0, b1, c'⟩ := spec_l01Byte_some h hc
      obtain ⟨t, i2, h2, ep, h3, h4⟩ := ih (j + 1) (acc ++ [b % 256]) i' h' c' (by omega) (by omega) (by rw [List.length_append, List.length_singleton]; omega) (by omega)
      refine ⟨t, i2, h2, Ev.step (fun k => ?_) ep, h3, h4⟩
      rw [spec_l01Text.l0, if_pos hlt, e, Option.bind_some, if_pos (by omega), w64 (by omega) (by omega)]
    · exact ⟨_, i, h, Ev.step (f := fun _ => some (strOfNums acc, i, h)) (fun k => by rw [spec_l01Text.l0, if_neg hlt]) (Ev.now _), hc, by rw [strOfNums_size]; omega⟩
theorem spec_l01Text_ev {l : List Int} {i : Int} (h n : Int) (hc : cur l i) : ∃ t i' h', Ev (fun k => spec_l01Text.f k l i h n) (t, i', h') ∧ cur l i' ∧ (t.size : Int) = max 0 (min n 5000) := by
  unfold spec_l01Text.f
  by_cases h1 : n > 5000
  · obtain ⟨t, i2, h2, ep, h3, h4⟩ := spec_l01Text_l0 l 5000 (by omega) 5000 0 [] i h hc (by omega) (by omega) (by simp) (by omega)
    exact ⟨t, i2, h2, Ev.pos h1 (Ev.step (fun k => by rw [spec_l01Text.j0]) ep), h3, by omega⟩
  · obtain ⟨t, i2, h2, ep, h3, h4⟩ := spec_l01Text_l0 l n (by omega) 5000 0 [] i h hc (by omega) (by omega) (by simp) (by omega)
    exact ⟨t, i2, h2, Ev.neg h1 (Ev.step (fun k => by rw [spec_l01Text.j0]) ep), h3, by omega⟩

theorem impl_SumMore_l1 (s : ByteArray) (i : Int) (h0 : 0 ≤ i) (h1 : i < 140737488355328) (r : Int) : ∀ (d : Nat) (j x : Int), j + d = 8 → 0 ≤ j → Ev (fun k => impl_SumMore.l0 k (sumN d x) s (i + 1)) r → Ev (fun k => impl_SumMore.l1 k x s i j) r := by
  intro d
  induction d with
  | zero =>
    intro j x hj hj0 h
    refine Ev.step (f := fun k => impl_SumMore.l0 k x s (i + 1)) (fun k => ?_) h
    rw [impl_SumMore.l1, if_neg (by omega), w64 (by omega) (by omega)]
  | succ d ih =>
    intro j x hj hj0 h
    refine Ev.step (f := fun k => impl_SumMore.l1 k (sum1 x) s i (j + 1)) (fun k => ?_) (ih (j + 1) (sum1 x) (by omega) (by omega) h)
    rw [impl_SumMore.l1, if_pos (by omega), w64 (by omega) (by omega), sum1]
    split <;> rfl
theorem impl_SumMore_l0 (s : ByteArray) (hs : s.size ≤ 140737488351232) : ∀ (l : List UInt8) (i : Nat) (x : Int), s.data.toList.drop i = l → i ≤ s.size → Ev (fun k => impl_SumMore.l0 k x s i) (sumMore x l) := by
  intro l
  induction l with
  | nil =>
    intro i x hl hi
    have := drop_none hl
    rw [sumMore_nil]
    refine Ev.step (f := fun _ => some x) (fun k => ?_) (Ev.now _)
    rw [impl_SumMore.l0, if_neg (by omega)]
  | cons c l ih =>
    intro i x hl hi
    obtain ⟨hb, hlt, hd⟩ := bt_drop hl
    refine Ev.step (f := fun k => impl_SumMore.l1 k (Go.bits .xor .u32 x ((c.toNat : Int) % 4294967296)) s i 0) (fun k => ?_) ?_
    · rw [impl_SumMore.l0, if_pos (by omega), if_pos (by omega), hb]
    · rw [sumMore_cons, feed]
      exact impl_SumMore_l1 s i (by omega) (by omega) _ 8 0 _ (by omega) (by omega) (ih (i + 1) _ hd (by omega))
theorem impl_SumMore_ev (x : Int) (s : ByteArray) (hs : s.size ≤ 140737488351232) : Ev (fun k => impl_SumMore.f k x s) (sumMore x s.data.toList) :=
  impl_SumMore_l0 s hs s.data.toList 0 x rfl (Nat.zero_le _)

theorem impl_SumOf_ev (s : ByteArray) (hs : s.size ≤ 140737488351232) : Ev (fun k => impl_SumOf.f k s) (sumOf s) := by
  unfold impl_SumOf.f
  exact Ev.bind (impl_SumMore_ev _ s hs) (Ev.now _)

theorem impl_Sealed_ev (s : ByteArray) (hs : s.size ≤ 140737488351232) : Ev (fun k => impl_Sealed.f k s) (sealedOf s) := by
  unfold impl_Sealed.f sealedOf
  by_cases h : s.size > 20000
  · rw [if_pos h]
    exact Ev.pos (by omega) (Ev.now _)
  · rw [if_neg h]
    refine Ev.neg (by omega) (Ev.bind (impl_SumOf_ev s hs) (Ev.bind0 rfl ?_))
    exact Ev.pos (by rw [strOfNums_size, List.length_cons, List.length_cons, List.length_cons, List.length_singleton]; omega) (Ev.now _)

theorem impl_Unsealed_ev (s : ByteArray) (hs : s.size ≤ 140737488351232) : Ev (fun k => impl_Unsealed.f k s) (unsealedOf s) := by
  unfold impl_Unsealed.f unsealedOf
  simp only [w64 (n := (s.size : Int) - 4) (by omega) (by omega)]
  by_cases h : s.size < 4
  · rw [if_pos (.inl h)]
    exact Ev.pos (by omega) (Ev.now _)
  have e : ((s.size : Int) - 4).toNat = s.size - 4 := by omega
  rw [e]
  have hz : (s.extract 0 (s.size - 4)).size = s.size - 4 := by rw [ext_size _ _ _ (by omega)]; omega
  refine Ev.neg (by omega) (Ev.pos (by omega) (Ev.pos (by omega) (Ev.bind (impl_Sealed_ev _ (by omega)) ?_)))
  unfold sealedOf
  by_cases h' : 20004 < s.size
  · rw [if_pos (c := (s.extract 0 (s.size - 4)).size > 20000) (by omega)]
    exact Ev.tpos (.inr h') (Ev.neg (by simp [noText]) (Ev.now _))
  rw [if_neg (c := (s.extract 0 (s.size - 4)).size > 20000) (by omega)]
  refine Ev.tneg (by omega) (Ev.pos (by trivial) ?_)
  by_cases h3 : s.extract (s.size - 4) s.size = four (sumOf (s.extract 0 (s.size - 4)))
  · exact Ev.tpos h3 (Ev.pos (toList_iff.2 (by rw [← h3, cut_whole])) (Ev.now _))
  · refine Ev.tneg h3 (Ev.neg (fun he => h3 ?_) (Ev.now _))
    have he := toList_inj he
    apply ba_ext
    have h4 := congrArg (fun b : ByteArray => b.data.toList) ((cut_whole s (s.size - 4)).trans he.symm)
    simp only [app_data] at h4
    exact List.append_cancel_left h4

theorem spec_DrawSumOf_ev (l : List Int) (hl : l.length ≤ 1048576) : ∃ t, Ev (fun k => spec_DrawSumOf.f k l) t ∧ t.size ≤ 5000 := by
  obtain ⟨h, e⟩ := spec_l01New_ev l hl
  have hc : cur l 0 := ⟨Int.le_refl _, by omega, hl⟩
  obtain ⟨x, i1, h1, e1, c1, _, hx⟩ := spec_l01Below_some h 40 (by omega) hc
  obtain ⟨t, i2, h2, e2, c2, hz⟩ := spec_l01Text_ev h1 x c1
  have := hx (by omega)
  refine ⟨t, ?_, by omega⟩
  unfold spec_DrawSumOf.f
  exact Ev.bind e (Ev.bind0 e1 (Ev.bind e2 (Ev.now _)))
theorem turned_byte (a v : Int) (h0 : 0 ≤ a) (h1 : a < 256) (v0 : 1 ≤ v) (v1 : v < 256) : 0 ≤ Go.bits .xor .u8 a v ∧ Go.bits .xor .u8 a v < 256 ∧ Go.bits .xor .u8 a v ≠ a := by
  rw [u8_xor a v h0 h1 (by omega) v1]
  have hx : a.toNat ^^^ v.toNat < 256 := Nat.xor_lt_two_pow (n := 8) (by omega) (by omega)
  refine ⟨by omega, by omega, fun he => ?_⟩
  have h2 : a.toNat ^^^ v.toNat = a.toNat ^^^ 0 := by rw [Nat.xor_zero]; omega
  have := xor_can' h2
  omega
theorem turned_main (p : List Int) (hp : p.length = 12) (hp2 : ∀ x ∈ p, 0 ≤ x ∧ x < 10000) (s : ByteArray) (hs : s.size ≤ 5000) : Ev (fun k => laws_FnTurned.j0 k s p (s ++ four (sumOf s)) false) true := by
  have hz : (s ++ four (sumOf s)).size = s.size + 4 := by rw [app_size, four_size]
  have hr0 : rd p 0 = p[0]'(by omega) := rd_get (xs := p) (i := 0) (by omega)
  have hr1 : rd p 1 = p[1]'(by omega) := rd_get (xs := p) (i := 1) (by omega)
  have q0 := hp2 _ (List.getElem_mem (l := p) (n := 0) (by omega))
  have q1 := hp2 _ (List.getElem_mem (l := p) (n := 1) (by omega))
  rw [← hr0] at q0
  rw [← hr1] at q1
  have hbl : (bytesOf (s ++ four (sumOf s))).length = s.size + 4 := by rw [bytesOf_length, hz]
  refine Ev.succ ?_
  simp only [laws_FnTurned.j0]
  refine Ev.neg (by decide) (Ev.pos (by omega) (Ev.bind0 rfl (Ev.pos (by omega) (Ev.neg (by omega) ?_))))
  rw [hbl, tmodp q0.1, tmodp q1.1]
  have m0 : 0 ≤ rd p 0 % ((s.size + 4 : Nat) : Int) := Int.emod_nonneg _ (by omega)
  have m1 : rd p 0 % ((s.size + 4 : Nat) : Int) < ((s.size + 4 : Nat) : Int) := Int.emod_lt_of_pos _ (by omega)
  obtain ⟨i, hi⟩ : ∃ i : Nat, rd p 0 % ((s.size + 4 : Nat) : Int) = (i : Int) := ⟨(rd p 0 % ((s.size + 4 : Nat) : Int)).toNat, (Int.toNat_of_nonneg m0).symm⟩
  rw [hi] at m0 m1
  rw [hi, Int.toNat_natCast]
  have hlt : i < s.size + 4 := by omega
  have hv : 1 ≤ wrap64 (1 + rd p 1 % 255) % 256 ∧ wrap64 (1 + rd p 1 % 255) % 256 < 256 := by
    rw [w64 (n := 1 + rd p 1 % 255) (by omega) (by omega)]; omega
  generalize wrap64 (1 + rd p 1 % 255) % 256 = v at hv ⊢
  refine Ev.pos (by omega) (Ev.pos (by omega) (Ev.pos (by omega) ?_))
  have hi2 : i < (s ++ four (sumOf s)).data.toList.length := by rw [size_len, hz]; exact hlt
  have ha : rd (bytesOf (s ++ four (sumOf s))) (i : Int) = (((s ++ four (sumOf s)).data.toList[i]).toNat : Int) := by rw [rd_bytesOf, bt_list _ i (by omega)]
  have hab := ((s ++ four (sumOf s)).data.toList[i]).toNat_lt
  obtain ⟨t0, t1, t2⟩ := turned_byte (((s ++ four (sumOf s)).data.toList[i]).toNat : Int) v (by omega) (by omega) hv.1 hv.2
  rw [ha]
  generalize Go.bits .xor .u8 (((s ++ four (sumOf s)).data.toList[i]).toNat : Int) v = b at t0 t1 t2 ⊢
  have hd : (strOfNums ((bytesOf (s ++ four (sumOf s))).set i b)).data.toList = (s ++ four (sumOf s)).data.toList.set i (UInt8.ofNat b.toNat) := by
    rw [strOfNums_data, List.map_set]
    congr 1
    exact nums_bytes _
  have hu : unsealedOf (strOfNums ((bytesOf (s ++ four (sumOf s))).set i b)) = noText := by
    refine sealed_turned s _ i _ hd hlt (fun he => t2 ?_)
    rw [List.getElem?_eq_getElem hi2] at he
    injection he with he
    rw [he, UInt8.toNat_ofNat']
    omega
  refine Ev.bind (impl_Unsealed_ev _ (by rw [strOfNums_size, List.length_set, hbl]; omega)) ?_
  rw [hu]
  refine Ev.neg (by decide) (Ev.bind (impl_SumOf_ev s (by omega)) (Ev.bind (impl_SumMore_ev _ _ (by decide)) (Ev.pos (by omega) (Ev.bind (impl_SumOf_ev _ (by rw [app_size]; show s.size + 1 ≤ _; omega)) (Ev.ret ?_)))))
  rw [sumOf, sumOf, app_data, sumMore_append]
  simp
theorem FnTurned : laws_FnTurned.Pure := by
  intro l0 h0 h1 h2
  refine Ev.rounds (r := true) ?_
  unfold laws_FnTurned.f
  refine Ev.bind0 (laws_big_eq l0) ?_
  by_cases hb : (l0.length : Int) > 1048576
  · exact Ev.pos (by simpa using hb) (Ev.now _)
  refine Ev.neg (by simpa using hb) ?_
  obtain ⟨s, es, hs⟩ := spec_DrawSumOf_ev l0 (by omega)
  obtain ⟨p, ep, hp1, hp2⟩ := spec_DrawPlaces_ev l0 (by omega)
  have hz : (s ++ four (sumOf s)).size = s.size + 4 := by rw [app_size, four_size]
  refine Ev.bind es (Ev.bind ep (Ev.bind (impl_Sealed_ev s (by omega)) ?_))
  rw [sealedOf, if_neg (by omega)]
  refine Ev.bind (impl_Unsealed_ev _ (by dsimp only; omega)) ?_
  rw [unsealed_sealed s (by omega)]
  refine Ev.pos rfl (Ev.pos rfl (Ev.pos rfl ?_))
  have he : (((s ++ four (sumOf s)).size : Int) != wrap64 ((s.size : Int) + 4)) = false := by
    rw [w64 (n := (s.size : Int) + 4) (by omega) (by omega), hz]
    simp
  rw [he]
  exact turned_main p hp1 hp2 s hs

end Go.Proofs.Ytmfjnmkkhfpboaa.Pure
