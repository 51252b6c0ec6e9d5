/- Plain words, third part: records come back from their frames, and of frames that are cut just the whole ones do. Conditions: those of each lemma. -/
import Derived.Test.YtlekhcopddajbaaGreatDoorBase2
namespace Go.Proofs.YtlekhcopddajbaaGreatDoor.Base
open Go.RowKit Go.Proofs.YtlekhcopddajbaaGreatDoorW.PrintWords

theorem dig_pre (f : Nat) : ∀ (n : Nat) (c c' : List UInt8), (vl n).map (fun x => UInt8.ofNat x.toNat) = c ++ c' → c' ≠ [] → dig f c = none := by
  induction f with
  | zero => intro n c c' _ _; rfl
  | succ f ih =>
    intro n c c' h hc'
    cases c with
    | nil => rfl
    | cons x c =>
      by_cases hn : n > 127
      · rw [vl_big hn, List.map_cons, List.cons_append, List.cons.injEq] at h
        have e : x.toNat = n % 128 + 128 := by
          rw [← h.1, Int.toNat_natCast]
          show (n % 128 + 128) % 256 = _
          omega
        rw [dig_big (by omega), ih (n / 128) c c' h.2 hc']
        rfl
      · rw [vl_small hn, List.map_cons, List.map_nil, List.cons_append, List.cons.injEq] at h
        have := h.2.symm
        rw [List.append_eq_nil_iff] at this
        exact absurd this.2 hc'
/-- The bytes of a record's frame. -/
def frb (r : ByteArray) : List UInt8 := (strOfNums (vl r.size) ++ four (sumOf r) ++ r).data.toList
def recOk (r : ByteArray) : Prop := 1 ≤ r.size ∧ r.size ≤ 9000
theorem frame_yes {r : ByteArray} (h : recOk r) : frameOf r = (strOfNums (vl r.size) ++ four (sumOf r) ++ r, true) := if_pos h
theorem frb_eq (r : ByteArray) : frb r = (strOfNums (vl r.size)).data.toList ++ ((four (sumOf r)).data.toList ++ r.data.toList) := by
  rw [frb, app_data, app_data, List.append_assoc]
theorem frb_length (r : ByteArray) : (frb r).length = (vl r.size).length + 4 + r.size := by
  rw [frb_eq, List.length_append, List.length_append, size_len, size_len, size_len, strOfNums_size, four_size]; omega
/-- The middle of a text. -/
theorem ext_mid {s r : ByteArray} {a b c : List UInt8} (h : s.data.toList = a ++ (b ++ c)) (hr : r.data.toList = b) {i j : Nat} (hi : i = a.length) (hj : j = a.length + b.length) : s.extract i j = r := by
  subst hi hj
  apply ba_ext
  rw [ext_data, h, List.drop_left, hr, Nat.add_sub_cancel_left, List.take_left]
theorem unfr_step {s r : ByteArray} {a c : List UInt8} (hs : s.data.toList = a ++ (frb r ++ c)) (hr : recOk r) (f : Nat) (acc : List ByteArray) :
    unfr (f + 1) s acc ((a.length : Nat) : Int) = unfr f s (acc ++ [r]) ((a.length + (frb r).length : Nat) : Int) := by
  have hz : s.size = a.length + ((frb r).length + c.length) := by rw [← size_len, hs, List.length_append, List.length_append]
  have hlen := frb_length r
  have h1 : readVar s ((a.length : Nat) : Int) = (((r.size : Nat) : Int), ((a.length + (vl r.size).length : Nat) : Int), true) := by
    refine readVar_at (by have := hr.2; omega) (rest := ((four (sumOf r)).data.toList ++ r.data.toList) ++ c) ?_ rfl
    rw [hs, frb_eq]
    simp only [List.append_assoc]
  have e1 : s.extract (a.length + (vl r.size).length + 4) (a.length + (vl r.size).length + 4 + r.size) = r := by
    refine ext_mid (a := a ++ ((strOfNums (vl r.size)).data.toList ++ (four (sumOf r)).data.toList)) (b := r.data.toList) (c := c) ?_ rfl ?_ ?_
    · rw [hs, frb_eq]
      simp only [List.append_assoc]
    · rw [List.length_append, List.length_append, size_len, size_len, strOfNums_size, four_size]; omega
    · rw [List.length_append, List.length_append, size_len, size_len, size_len, strOfNums_size, four_size]; omega
  have e2 : s.extract a.length (a.length + (vl r.size).length + 4 + r.size) = strOfNums (vl r.size) ++ four (sumOf r) ++ r :=
    ext_mid (a := a) (b := frb r) (c := c) hs rfl rfl (by omega)
  rw [unfr, h1]
  have t1 : (((a.length + (vl r.size).length : Nat) : Int) + 4).toNat = a.length + (vl r.size).length + 4 := by omega
  have t2 : (((a.length + (vl r.size).length : Nat) : Int) + 4 + ((r.size : Nat) : Int)).toNat = a.length + (vl r.size).length + 4 + r.size := by omega
  dsimp only
  rw [t1, t2, Int.toNat_natCast, e1, e2, frame_yes hr, if_pos ⟨rfl, by omega, rfl⟩]
  congr 1
  omega
theorem unfr_stop {s r : ByteArray} {a c c' : List UInt8} (hs : s.data.toList = a ++ c) (hc : frb r = c ++ c') (hc' : c' ≠ []) (hr : recOk r) (f : Nat) (acc : List ByteArray) :
    unfr f s acc ((a.length : Nat) : Int) = (acc, ((a.length : Nat) : Int)) := by
  cases f with
  | zero => rfl
  | succ f =>
    have hz : s.size = a.length + c.length := by rw [← size_len, hs, List.length_append]
    have hlen := frb_length r
    have hl2 : (frb r).length = c.length + c'.length := by rw [hc, List.length_append]
    have hpos : 0 < c'.length := by
      cases c' with
      | nil => exact absurd rfl hc'
      | cons x l => rw [List.length_cons]; omega
    by_cases hlt : c.length < (vl r.size).length
    · have h1 : readVar s ((a.length : Nat) : Int) = (0, 0, false) := by
        unfold readVar
        rw [if_pos ⟨by omega, by omega⟩, Int.toNat_natCast, hs, List.drop_left]
        have hpre : (vl r.size).map (fun x => UInt8.ofNat x.toNat) = c ++ ((vl r.size).map (fun x => UInt8.ofNat x.toNat)).drop c.length := by
          have h2 := frb_eq r
          rw [hc, strOfNums_data] at h2
          have h3 := congrArg (List.take c.length) h2
          rw [List.take_left, List.take_append_of_le_length (by rw [List.length_map]; omega)] at h3
          conv => lhs; rw [← List.take_append_drop c.length ((vl r.size).map fun x => UInt8.ofNat x.toNat)]
          rw [← h3]
        rw [dig_pre 5 r.size c _ hpre (fun e => by rw [List.drop_eq_nil_iff, List.length_map] at e; omega)]
      rw [unfr, h1, if_neg (fun h => absurd h.1 (by decide))]
    · have h1 : readVar s ((a.length : Nat) : Int) = (((r.size : Nat) : Int), ((a.length + (vl r.size).length : Nat) : Int), true) := by
        refine readVar_at (by have := hr.2; omega) (rest := c.drop (vl r.size).length) ?_ rfl
        have h2 := frb_eq r
        rw [hc] at h2
        have h3 := congrArg (List.take (vl r.size).length) h2
        rw [List.take_append_of_le_length (by omega), List.take_append_of_le_length (by rw [size_len, strOfNums_size]; omega), List.take_of_length_le (l := (strOfNums (vl r.size)).data.toList) (by rw [size_len, strOfNums_size]; omega)] at h3
        rw [hs, ← h3, List.take_append_drop]
      rw [unfr, h1]
      dsimp only
      rw [if_neg (fun h => absurd h.2.1 (by omega))]
/-- Of frames, cut anywhere, just the whole ones are read. -/
theorem unfr_cut (s : ByteArray) : ∀ (rs : List ByteArray) (a : List UInt8) (k : Nat) (f : Nat) (acc : List ByteArray), (∀ r ∈ rs, recOk r) → k ≤ (rs.flatMap frb).length → s.data.toList = a ++ (rs.flatMap frb).take k → s.size - a.length < f →
    ∃ m, m ≤ rs.length ∧ unfr f s acc ((a.length : Nat) : Int) = (acc ++ rs.take m, ((a.length + ((rs.take m).flatMap frb).length : Nat) : Int)) ∧ ((rs.take m).flatMap frb).length ≤ k ∧ (m = rs.length ∨ k < ((rs.take (m + 1)).flatMap frb).length) := by
  intro rs
  induction rs with
  | nil =>
    intro a k f acc hok hk hs hf
    refine ⟨0, Nat.le_refl _, ?_, Nat.zero_le _, .inl rfl⟩
    have hz : s.size = a.length := by rw [← size_len, hs]; simp
    cases f with
    | zero => omega
    | succ f =>
      have h1 : readVar s ((a.length : Nat) : Int) = (0, 0, false) := by
        rcases readVar_cases s ((a.length : Nat) : Int) with hr | ⟨n, m, hr, hn, hm, hp, hz', hl, hx⟩
        · exact hr
        · omega
      rw [unfr, h1, if_neg (fun h => absurd h.1 (by decide))]
      simp
  | cons r rs ih =>
    intro a k f acc hok hk hs hf
    have hr : recOk r := hok r List.mem_cons_self
    by_cases hge : (frb r).length ≤ k
    · have hs2 : s.data.toList = a ++ (frb r ++ (rs.flatMap frb).take (k - (frb r).length)) := by
        rw [hs, List.flatMap_cons, List.take_append, List.take_of_length_le hge]
      have hz : a.length + (frb r).length ≤ s.size := by rw [← size_len, hs2, List.length_append, List.length_append]; omega
      have hlen := frb_length r
      cases f with
      | zero => omega
      | succ f =>
        rw [unfr_step hs2 hr]
        have hk' : k - (frb r).length ≤ (rs.flatMap frb).length := by rw [List.flatMap_cons, List.length_append] at hk; omega
        obtain ⟨m, h1, h2, h3, h4⟩ := ih (a ++ frb r) (k - (frb r).length) f (acc ++ [r]) (fun x hx => hok x (List.mem_cons_of_mem _ hx)) hk' (by rw [hs2, List.append_assoc]) (by rw [List.length_append]; omega)
        rw [List.length_append] at h2
        refine ⟨m + 1, by rw [List.length_cons]; omega, ?_, ?_, ?_⟩
        · rw [h2, List.take_succ_cons, List.flatMap_cons, List.length_append, List.append_assoc, List.singleton_append, Nat.add_assoc]
        · rw [List.take_succ_cons, List.flatMap_cons, List.length_append]; omega
        · rcases h4 with h4 | h4
          · left; rw [List.length_cons, h4]
          · right; rw [List.take_succ_cons, List.flatMap_cons, List.length_append]; omega
    · have hs2 : s.data.toList = a ++ (frb r).take k := by
        rw [hs, List.flatMap_cons, List.take_append_of_le_length (by omega)]
      refine ⟨0, Nat.zero_le _, ?_, Nat.zero_le _, .inr ?_⟩
      · rw [unfr_stop hs2 (List.take_append_drop k (frb r)).symm (fun e => by rw [List.drop_eq_nil_iff] at e; omega) hr]
        simp
      · rw [List.take_succ_cons, List.flatMap_cons, List.length_append]; omega
/-! what a draw gives -/
theorem and255 (a : Int) : 0 ≤ Go.bits .and .i64 a 255 ∧ Go.bits .and .i64 a 255 ≤ 255 := by
  unfold Go.bits
  simp only [BitVec.toNat_and]
  have h : (BitVec.ofInt IntKind.i64.bits a).toNat &&& (BitVec.ofInt IntKind.i64.bits 255).toNat ≤ 255 := Nat.and_le_right
  generalize (BitVec.ofInt IntKind.i64.bits a).toNat &&& (BitVec.ofInt IntKind.i64.bits 255).toNat = t at h
  rw [IntWalk.i64_left, w64 (by omega) (by omega)]
  omega
theorem rdOf_get {α : Type} {d : α} {xs : List α} {i : Nat} (h : i < xs.length) : rdOf d xs (i : Int) = xs[i] := by
  unfold rdOf
  rw [Int.toNat_natCast, List.getD_eq_getElem?_getD, List.getElem?_eq_getElem h]
  rfl
theorem rd_get {xs : List Int} {i : Nat} (h : i < xs.length) : rd xs (i : Int) = xs[i] := by
  unfold rd
  rw [Int.toNat_natCast, List.getD_eq_getElem?_getD, List.getElem?_eq_getElem h]
  rfl
end Go.Proofs.YtlekhcopddajbaaGreatDoor.Base
