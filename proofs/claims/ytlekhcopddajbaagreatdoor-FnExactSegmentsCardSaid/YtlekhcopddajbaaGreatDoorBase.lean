/- Plain words that the pure statements of this seat share: "from some number of rounds on", bytes of strings, base-128 numbers. Conditions: those of each lemma. -/
import Derived.Test.YtlekhcopddajbaaGreatDoorFew
import Derived.Lib.Strings
import Derived.IntWalk
namespace Go.Proofs.YtlekhcopddajbaaGreatDoor.Base
open Go.RowKit Go.Proofs.YtlekhcopddajbaaGreatDoorW.PrintWords

theorem Ev.pos {α : Type} {c : Prop} [Decidable c] {f g : Nat → Option α} {r : α} (h : c) (k : Ev f r) : Ev (fun n => if c then f n else g n) r :=
  Ev.congr (fun _ => if_pos h) k
theorem Ev.neg {α : Type} {c : Prop} [Decidable c] {f g : Nat → Option α} {r : α} (h : ¬ c) (k : Ev g r) : Ev (fun n => if c then f n else g n) r :=
  Ev.congr (fun _ => if_neg h) k
theorem Ev.bind0 {α β : Type} {a : Option α} {x : α} {f : Nat → α → Option β} {r : β} (h : a = some x) (k : Ev (fun n => f n x) r) : Ev (fun n => a.bind (f n)) r := by
  subst h; exact k
theorem Ev.ret {α : Type} {r s : α} (h : r = s) : Ev (fun _ => some r) s := h ▸ Ev.now r
theorem Ev.eq {α : Type} {g : Nat → Option α} {r s : α} (h : Ev g r) (k : Ev g s) : r = s := by
  obtain ⟨K, h⟩ := h
  obtain ⟨K', k⟩ := k
  have := (h (max K K') (by omega)).symm.trans (k (max K K') (by omega))
  injection this
theorem Ev.tpos {α : Type} {c : Prop} [Decidable c] {g : Nat → Option α} {a b : α} (h : c) (k : Ev g a) : Ev g (if c then a else b) := by rw [if_pos h]; exact k
theorem Ev.tneg {α : Type} {c : Prop} [Decidable c] {g : Nat → Option α} {a b : α} (h : ¬ c) (k : Ev g b) : Ev g (if c then a else b) := by rw [if_neg h]; exact k
/-- A loop's round: the body at k + 1. -/
theorem Ev.succ {α : Type} {g : Nat → Option α} {r : α} (k : Ev (fun n => g (n + 1)) r) : Ev g r := Ev.step (fun _ => rfl) k

theorem tdivp {a : Int} (h : 0 ≤ a) (b : Int) : Int.tdiv a b = a / b := Int.tdiv_eq_ediv_of_nonneg h
theorem tmodp {a : Int} (h : 0 ≤ a) (b : Int) : Int.tmod a b = a % b := Int.tmod_eq_emod_of_nonneg h
theorem w64 {n : Int} (h : -9223372036854775808 ≤ n) (h' : n ≤ 9223372036854775807) : wrap64 n = n := by unfold wrap64; omega

theorem toList_inj {s t : ByteArray} (h : s.toList = t.toList) : s = t := by
  rw [Lib.toList_data, Lib.toList_data] at h
  rw [← Lib.mk_data s, ← Lib.mk_data t, h]
theorem toList_iff {s t : ByteArray} : s.toList = t.toList ↔ s = t := ⟨toList_inj, fun h => h ▸ rfl⟩

theorem size_len (s : ByteArray) : s.data.toList.length = s.size := by rw [Array.length_toList]; rfl
/-- A byte of the list. -/
theorem bt_list (s : ByteArray) (i : Nat) (h : i < s.size) : bt s i = ((s.data.toList[i]'(by rw [size_len]; exact h)).toNat : Int) := by
  unfold bt
  rw [dif_pos (by simpa using h)]
  rfl
theorem bt_get {s : ByteArray} {i : Nat} {c : UInt8} (h : s.data.toList[i]? = some c) : bt s i = (c.toNat : Int) := by
  obtain ⟨hi, rfl⟩ := List.getElem?_eq_some_iff.1 h
  exact bt_list s i (by rw [← size_len]; exact hi)
theorem ext_data (s : ByteArray) (a b : Nat) : (s.extract a b).data.toList = (s.data.toList.drop a).take (b - a) := Lib.extract_data s a b
theorem ext_size (s : ByteArray) (a b : Nat) (h : b ≤ s.size) : (s.extract a b).size = b - a := by
  rw [← size_len, ext_data, List.length_take, List.length_drop, size_len]; omega
theorem app_data (s t : ByteArray) : (s ++ t).data.toList = s.data.toList ++ t.data.toList := by simp [ByteArray.data_append]
theorem app_size (s t : ByteArray) : (s ++ t).size = s.size + t.size := by rw [← size_len, app_data, List.length_append, size_len, size_len]
theorem ba_ext {s t : ByteArray} (h : s.data.toList = t.data.toList) : s = t := by rw [← Lib.mk_data s, ← Lib.mk_data t, h]

/-! numbers of base 128 -/
def vl (n : Nat) : List Int := if n > 127 then ((n % 128 + 128 : Nat) : Int) :: vl (n / 128) else [(n : Int)]
termination_by n
decreasing_by omega
theorem vl_big {n : Nat} (h : n > 127) : vl n = ((n % 128 + 128 : Nat) : Int) :: vl (n / 128) := by rw [vl, if_pos h]
theorem vl_small {n : Nat} (h : ¬ n > 127) : vl n = [(n : Int)] := by rw [vl, if_neg h]
theorem vl_pos (n : Nat) : 1 ≤ (vl n).length := by
  by_cases h : n > 127
  · rw [vl_big h]; simp
  · rw [vl_small h]; simp
theorem vl_len (f : Nat) : ∀ n, n < 128 ^ f → 1 ≤ f → (vl n).length ≤ f := by
  induction f with
  | zero => intro n _ h; omega
  | succ f ih =>
    intro n hn _
    by_cases h : n > 127
    · rw [vl_big h, List.length_cons]
      have h1 : n / 128 < 128 ^ f := by rw [Nat.pow_succ] at hn; omega
      by_cases hf : f = 0
      · subst hf; simp at hn; omega
      · have := ih _ h1 (by omega); omega
    · rw [vl_small h]; simp
theorem quo128 {n : Nat} (h : n < 9223372036854775807) : wrap64 (Int.tdiv (n : Int) 128) = ((n / 128 : Nat) : Int) := by
  rw [tdivp (by omega)]; unfold wrap64; omega
theorem rem128 (n : Nat) : (wrap64 (Int.tmod (n : Int) 128 + 128)) % 256 = ((n % 128 + 128 : Nat) : Int) := by
  rw [tmodp (by omega)]; unfold wrap64; omega
def varText (a : Int) : ByteArray × Bool := if 0 ≤ a ∧ a ≤ 1000000000 then (strOfNums (vl a.toNat), true) else ((⟨#[]⟩ : ByteArray), false)
theorem varText_yes {a : Int} (h : 0 ≤ a) (h' : a ≤ 1000000000) : varText a = (strOfNums (vl a.toNat), true) := if_pos ⟨h, h'⟩
theorem varText_no {a : Int} (h : ¬ (0 ≤ a ∧ a ≤ 1000000000)) : varText a = ((⟨#[]⟩ : ByteArray), false) := if_neg h

/-- The number at the head of a text: its value, and how many bytes it takes (at most f). -/
def dig : Nat → List UInt8 → Option (Nat × Nat)
  | 0, _ => none
  | _ + 1, [] => none
  | f + 1, c :: l => if c.toNat < 128 then some (c.toNat, 1) else (dig f l).map fun p => (c.toNat % 128 + 128 * p.1, p.2 + 1)
theorem dig_small {f : Nat} {c : UInt8} {l : List UInt8} (h : c.toNat < 128) : dig (f + 1) (c :: l) = some (c.toNat, 1) := by rw [dig, if_pos h]
theorem dig_big {f : Nat} {c : UInt8} {l : List UInt8} (h : ¬ c.toNat < 128) : dig (f + 1) (c :: l) = (dig f l).map fun p => (c.toNat % 128 + 128 * p.1, p.2 + 1) := by rw [dig, if_neg h]
theorem dig_facts (f : Nat) : ∀ l v m, dig f l = some (v, m) → v < 128 ^ f ∧ 1 ≤ m ∧ m ≤ l.length ∧ m ≤ f := by
  induction f with
  | zero => intro l v m h; simp [dig] at h
  | succ f ih =>
    intro l v m h
    cases l with
    | nil => simp [dig] at h
    | cons c l =>
      by_cases hc : c.toNat < 128
      · rw [dig_small hc] at h
        simp only [Option.some.injEq, Prod.mk.injEq] at h
        obtain ⟨rfl, rfl⟩ := h
        have : 1 ≤ 128 ^ f := Nat.one_le_pow f 128 (by decide)
        rw [Nat.pow_succ]
        simp; omega
      · rw [dig_big hc] at h
        cases hd : dig f l with
        | none => rw [hd] at h; simp at h
        | some p =>
          obtain ⟨v', m'⟩ := p
          rw [hd] at h
          simp only [Option.map_some, Option.some.injEq, Prod.mk.injEq] at h
          obtain ⟨rfl, rfl⟩ := h
          have := ih l v' m' hd
          rw [Nat.pow_succ, List.length_cons]
          omega
/-- A text whose number has as many figures as it took is that number's own text. -/
theorem dig_canon (f : Nat) : ∀ l v m, dig f l = some (v, m) → ((vl v).length = m ↔ vl v = (l.take m).map fun c => (c.toNat : Int)) := by
  induction f with
  | zero => intro l v m h; simp [dig] at h
  | succ f ih =>
    intro l v m h
    have hfac := dig_facts (f + 1) l v m h
    refine ⟨fun hl => ?_, fun e => by rw [e, List.length_map, List.length_take]; omega⟩
    cases l with
    | nil => simp [dig] at h
    | cons c l =>
      by_cases hc : c.toNat < 128
      · rw [dig_small hc] at h
        simp only [Option.some.injEq, Prod.mk.injEq] at h
        obtain ⟨rfl, rfl⟩ := h
        rw [vl_small (by omega)]; simp
      · rw [dig_big hc] at h
        cases hd : dig f l with
        | none => rw [hd] at h; simp at h
        | some p =>
          obtain ⟨v', m'⟩ := p
          rw [hd] at h
          simp only [Option.map_some, Option.some.injEq, Prod.mk.injEq] at h
          obtain ⟨rfl, rfl⟩ := h
          have hf := dig_facts f l v' m' hd
          have hlt : c.toNat < 256 := c.toNat_lt
          have hb : c.toNat % 128 + 128 * v' > 127 := by
            apply Classical.byContradiction
            intro hn
            rw [vl_small hn] at hl
            simp at hl
            omega
          rw [vl_big hb] at hl ⊢
          rw [show (c.toNat % 128 + 128 * v') / 128 = v' from by omega] at hl ⊢
          rw [(ih l v' m' hd).1 (by simpa using hl), List.take_succ_cons, List.map_cons]
          congr 2
          omega
theorem dig_vl (f : Nat) : ∀ n rest, n < 128 ^ f → dig f ((vl n).map (fun x => UInt8.ofNat x.toNat) ++ rest) = if f = 0 then none else some (n, (vl n).length) := by
  induction f with
  | zero => intro n rest h; simp [dig]
  | succ f ih =>
    intro n rest h
    rw [if_neg (by omega)]
    by_cases hn : n > 127
    · rw [vl_big hn, List.map_cons, List.cons_append]
      have e : (UInt8.ofNat (((n % 128 + 128 : Nat) : Int)).toNat).toNat = n % 128 + 128 := by
        rw [Int.toNat_natCast]
        show (n % 128 + 128) % 256 = _
        omega
      rw [dig_big (by rw [e]; omega), e, ih (n / 128) rest (by rw [Nat.pow_succ] at h; omega)]
      by_cases hf : f = 0
      · subst hf; simp at h; omega
      · rw [if_neg hf]
        simp only [Option.map_some, Option.some.injEq, Prod.mk.injEq, List.length_cons, and_true]
        omega
    · rw [vl_small hn, List.map_cons, List.cons_append]
      have e : (UInt8.ofNat ((n : Int)).toNat).toNat = n := by
        rw [Int.toNat_natCast]
        show n % 256 = _
        omega
      rw [dig_small (by rw [e]; omega), e]
      simp
theorem nums_bytes (l : List UInt8) : (l.map fun c => (c.toNat : Int)).map (fun n => UInt8.ofNat n.toNat) = l := by
  rw [List.map_map]
  conv => rhs; rw [← List.map_id l]
  apply List.map_congr_left
  intro c _
  simp
theorem strOfNums_eq {xs : List Int} {s : ByteArray} (h : xs = s.data.toList.map fun c => (c.toNat : Int)) : strOfNums xs = s := by
  apply ba_ext
  rw [strOfNums_data, h, nums_bytes]
/-- What reading a number tells. -/
def readVar (s : ByteArray) (p : Int) : Int × Int × Bool :=
  if 0 ≤ p ∧ p ≤ s.size then
    match dig 5 (s.data.toList.drop p.toNat) with
    | none => (0, 0, false)
    | some q => if q.1 ≤ 1000000000 ∧ (vl q.1).length = q.2 then (q.1, p + q.2, true) else (0, 0, false)
  else (0, 0, false)
theorem readVar_cases (s : ByteArray) (p : Int) : readVar s p = (0, 0, false) ∨
    ∃ n m : Nat, readVar s p = ((n : Int), p + (m : Int), true) ∧ n ≤ 1000000000 ∧ 1 ≤ m ∧ 0 ≤ p ∧ p + m ≤ s.size ∧ (vl n).length = m ∧ strOfNums (vl n) = s.extract p.toNat (p.toNat + m) := by
  unfold readVar
  split
  · rename_i hp
    cases hd : dig 5 (s.data.toList.drop p.toNat) with
    | none => exact .inl rfl
    | some q =>
      obtain ⟨n, m⟩ := q
      simp only
      split
      · rename_i hq
        right
        have hf := dig_facts 5 _ n m hd
        rw [List.length_drop, size_len] at hf
        refine ⟨n, m, rfl, hq.1, hf.2.1, hp.1, by omega, hq.2, strOfNums_eq ?_⟩
        rw [(dig_canon 5 _ n m hd).1 hq.2, ext_data, Nat.add_sub_cancel_left]
      · exact .inl rfl
  · exact .inl rfl
/-- A number's text is read. -/
theorem readVar_at {s : ByteArray} {p n : Nat} (hn : n ≤ 1000000000) {a rest : List UInt8} (hs : s.data.toList = a ++ ((strOfNums (vl n)).data.toList ++ rest)) (ha : a.length = p) : readVar s p = ((n : Int), ((p + (vl n).length : Nat) : Int), true) := by
  have hz : p ≤ s.size := by rw [← size_len, hs, List.length_append]; omega
  unfold readVar
  rw [if_pos ⟨by omega, by omega⟩, Int.toNat_natCast, hs, List.drop_left' ha, strOfNums_data, dig_vl 5 n rest (by omega), if_neg (by decide)]
  show (if n ≤ 1000000000 ∧ (vl n).length = (vl n).length then _ else _) = _
  rw [if_pos ⟨hn, rfl⟩, Int.natCast_add]

def noVar : Int × Int × Bool := (0, 0, false)
def rvS (s : ByteArray) (p n sc e : Nat) : Option (Nat × Nat) → Int × Int × Bool
  | none => noVar
  | some q => if n + sc * q.1 ≤ 1000000000 ∧ strOfNums (vl (n + sc * q.1)) = s.extract p (e + q.2) then (((n + sc * q.1 : Nat) : Int), ((e + q.2 : Nat) : Int), true) else noVar
def rvI (p n sc j : Nat) : Option (Nat × Nat) → Int × Int × Bool
  | none => noVar
  | some q => if n + sc * q.1 ≤ 1000000000 ∧ (vl (n + sc * q.1)).length = j + q.2 then (((n + sc * q.1 : Nat) : Int), ((p + j + q.2 : Nat) : Int), true) else noVar
theorem rv_mul (n sc c v : Nat) : n + sc * (c + 128 * v) = n + c * sc + sc * 128 * v := by
  rw [Nat.mul_add, Nat.mul_comm sc c, Nat.mul_assoc]; omega
theorem rvS_next (s : ByteArray) (p n sc e c : Nat) (o : Option (Nat × Nat)) : rvS s p n sc e (o.map fun q => (c % 128 + 128 * q.1, q.2 + 1)) = rvS s p (n + c % 128 * sc) (sc * 128) (e + 1) o := by
  cases o with
  | none => rfl
  | some q => simp only [Option.map_some, rvS]; rw [rv_mul, show e + (q.2 + 1) = e + 1 + q.2 from by omega]
theorem rvI_next (p n sc j c : Nat) (o : Option (Nat × Nat)) : rvI p n sc j (o.map fun q => (c % 128 + 128 * q.1, q.2 + 1)) = rvI p (n + c % 128 * sc) (sc * 128) (j + 1) o := by
  cases o with
  | none => rfl
  | some q => simp only [Option.map_some, rvI]; rw [rv_mul, show p + j + (q.2 + 1) = p + (j + 1) + q.2 from by omega, show j + (q.2 + 1) = j + 1 + q.2 from by omega]
theorem rvS_top (s : ByteArray) (p : Nat) (hp : p ≤ s.size) : rvS s p 0 1 p (dig 5 (s.data.toList.drop p)) = readVar s p := by
  unfold readVar
  rw [if_pos ⟨by omega, by omega⟩, Int.toNat_natCast]
  cases hd : dig 5 (s.data.toList.drop p) with
  | none => rfl
  | some q =>
    obtain ⟨v, m⟩ := q
    simp only [rvS, Nat.zero_add, Nat.one_mul]
    have hf := dig_facts 5 _ v m hd
    rw [List.length_drop, size_len] at hf
    have e : strOfNums (vl v) = s.extract p (p + m) ↔ (vl v).length = m := by
      constructor
      · intro h
        have := congrArg ByteArray.size h
        rw [strOfNums_size, ext_size _ _ _ (by omega)] at this
        omega
      · intro h
        refine strOfNums_eq ?_
        rw [(dig_canon 5 _ v m hd).1 h, ext_data, Nat.add_sub_cancel_left]
    simp only [e, Int.natCast_add]
    rfl
theorem rvI_top (s : ByteArray) (p : Nat) (hp : p ≤ s.size) : rvI p 0 1 0 (dig 5 (s.data.toList.drop p)) = readVar s p := by
  unfold readVar
  rw [if_pos ⟨by omega, by omega⟩, Int.toNat_natCast]
  cases hd : dig 5 (s.data.toList.drop p) with
  | none => rfl
  | some q =>
    simp only [rvI, Nat.zero_add, Nat.one_mul, Nat.add_zero, Int.natCast_add]
    rfl
theorem rv_term {n sc c : Nat} (hc : c < 256) (hsc : sc * 128 ≤ 34359738368) (hn : n < sc) : wrap64 ((n : Int) + wrap64 (Int.tmod (wrap64 (c : Int)) 128 * (sc : Int))) = ((n + c % 128 * sc : Nat) : Int) := by
  rw [w64 (n := (c : Int)) (by omega) (by omega), tmodp (by omega)]
  have e : ((c : Int) % 128) * (sc : Int) = ((c % 128 * sc : Nat) : Int) := by rw [Int.natCast_mul, Int.natCast_emod]; rfl
  have hle : c % 128 * sc ≤ 127 * sc := Nat.mul_le_mul_right _ (by omega)
  rw [e]
  generalize c % 128 * sc = t at *
  rw [w64 (n := (t : Int)) (by omega) (by omega), w64 (by omega) (by omega), Int.natCast_add]
theorem rv_lt {n sc c : Nat} (hn : n < sc) : n + c % 128 * sc < sc * 128 := by
  have hle : c % 128 * sc ≤ 127 * sc := Nat.mul_le_mul_right _ (by omega)
  generalize c % 128 * sc = t at *
  omega
theorem rv_sc {sc f : Nat} (h : sc * 128 ^ (f + 1) = 34359738368) : sc * 128 ≤ 34359738368 ∧ sc * 128 * 128 ^ f = 34359738368 := by
  have e : sc * 128 * 128 ^ f = 34359738368 := by rw [Nat.mul_assoc, Nat.mul_comm 128, ← Nat.pow_succ]; exact h
  exact ⟨Nat.le_of_dvd (by decide) ⟨128 ^ f, e.symm⟩, e⟩
theorem shl7 {c j : Nat} (hc : c < 256) (hj : j < 5) : Go.Proofs.YtlekhcopddajbaaGreatDoorW.PrintWords.shl .i64 (Int.tmod (c : Int) 128) (7 * (j : Int)) = ((c % 128 * 128 ^ j : Nat) : Int) := by
  rw [tmodp (by omega)]
  unfold Go.Proofs.YtlekhcopddajbaaGreatDoorW.PrintWords.shl
  rw [IntWalk.i64_left, show (7 * (j : Int)).toNat = 7 * j from by omega, show min (7 * j) IntKind.i64.bits = 7 * j from Nat.min_eq_left (by show 7 * j ≤ 64; omega), Int.pow_mul]
  have e : ((c : Int) % 128) * (2 ^ 7) ^ j = ((c % 128 * 128 ^ j : Nat) : Int) := by
    rw [Int.natCast_mul, Int.natCast_emod, Int.natCast_pow]; rfl
  rw [e]
  have hle : c % 128 * 128 ^ j ≤ 127 * 128 ^ 4 := Nat.mul_le_mul (by omega) (Nat.pow_le_pow_right (by decide) (by omega))
  generalize c % 128 * 128 ^ j = t at *
  exact w64 (by omega) (by omega)

def noShort : ByteArray × Int × Bool := ((⟨#[]⟩ : ByteArray), 0, false)
def readShort (s : ByteArray) (p : Int) : ByteArray × Int × Bool :=
  if (readVar s p).2.2 = true then
    if (readVar s p).1 > 20000 ∨ (readVar s p).1 > (s.size : Int) - (readVar s p).2.1 then noShort
    else (s.extract (readVar s p).2.1.toNat ((readVar s p).2.1 + (readVar s p).1).toNat, (readVar s p).2.1 + (readVar s p).1, true)
  else noShort

/-! figures -/
def fig (x : Nat) : Int := if x < 10 then 48 + (x : Int) else 87 + (x : Int)
def hexl : List UInt8 → List Int
  | [] => []
  | c :: l => fig (c.toNat / 16) :: fig (c.toNat % 16) :: hexl l
def hexTab : ByteArray := ⟨#[48, 49, 50, 51, 52, 53, 54, 55, 56, 57, 97, 98, 99, 100, 101, 102]⟩
theorem hexTab_at : ∀ x : Fin 16, bt hexTab ((x.val : Nat) : Int) = fig x.val := by decide
theorem hexTab_bt {x : Nat} (h : x < 16) : bt hexTab (x : Int) = fig x := hexTab_at ⟨x, h⟩
def hexOf (s : ByteArray) : ByteArray × Bool := if s.size > 20000 then ((⟨#[]⟩ : ByteArray), false) else (strOfNums (hexl s.data.toList), true)

def shortText (s : ByteArray) : ByteArray × Bool := if s.size > 20000 then ((⟨#[]⟩ : ByteArray), false) else (strOfNums (vl s.size) ++ s, true)

/-! the sum of a text -/
def sum1 (x : Int) : Int := if Int.tmod x 2 = 1 then Go.bits .xor .u32 ((Int.tdiv x 2) % 4294967296) 3558460437 else (Int.tdiv x 2) % 4294967296
def sumN : Nat → Int → Int
  | 0, x => x
  | n + 1, x => sumN n (sum1 x)
def feed (x c : Int) : Int := sumN 8 (Go.bits .xor .u32 x (c % 4294967296))
def sumMore (x : Int) (l : List UInt8) : Int := l.foldl (fun x c => feed x (c.toNat : Int)) x
theorem sumMore_nil (x : Int) : sumMore x [] = x := by rw [sumMore, List.foldl_nil]
theorem sumMore_cons (x : Int) (c : UInt8) (l : List UInt8) : sumMore x (c :: l) = sumMore (feed x (c.toNat : Int)) l := by rw [sumMore, List.foldl_cons, ← sumMore]
theorem sumMore_append (l l' : List UInt8) (x : Int) : sumMore x (l ++ l') = sumMore (sumMore x l) l' := by rw [sumMore, List.foldl_append, ← sumMore, ← sumMore]
def sumOf (s : ByteArray) : Int := sumMore 4294967295 s.data.toList
def four (x : Int) : ByteArray := strOfNums (([(x / 16777216) % 256, (x / 65536) % 256, (x / 256) % 256, (x) % 256] : List Int))
theorem four_size (x : Int) : (four x).size = 4 := by rw [four, strOfNums_size]; rfl
theorem bt_drop {s : ByteArray} {i : Nat} {c : UInt8} {l : List UInt8} (h : s.data.toList.drop i = c :: l) : bt s i = (c.toNat : Int) ∧ i < s.size ∧ s.data.toList.drop (i + 1) = l := by
  have hi : i < s.data.toList.length := by
    apply Classical.byContradiction
    intro hn
    rw [List.drop_eq_nil_of_le (by omega)] at h
    cases h
  have e := List.drop_eq_getElem_cons hi
  rw [h] at e
  injection e with e1 e2
  exact ⟨by rw [e1]; exact bt_list s i (by rw [← size_len]; exact hi), by rw [← size_len]; exact hi, e2.symm⟩
theorem drop_none {s : ByteArray} {i : Nat} (h : s.data.toList.drop i = []) : s.size ≤ i := by
  rw [← size_len]; exact List.drop_eq_nil_iff.1 h
def noText : ByteArray × Bool := ((⟨#[]⟩ : ByteArray), false)
def sealedOf (s : ByteArray) : ByteArray × Bool := if s.size > 20000 then noText else (s ++ four (sumOf s), true)
def unsealedOf (s : ByteArray) : ByteArray × Bool :=
  if s.size < 4 ∨ 20004 < s.size then noText
  else if s.extract (s.size - 4) s.size = four (sumOf (s.extract 0 (s.size - 4))) then (s.extract 0 (s.size - 4), true) else noText
def frameOf (s : ByteArray) : ByteArray × Bool := if 1 ≤ s.size ∧ s.size ≤ 9000 then (strOfNums (vl s.size) ++ four (sumOf s) ++ s, true) else noText
theorem cut_whole (s : ByteArray) (n : Nat) : s.extract 0 n ++ s.extract n s.size = s := by
  apply ba_ext
  rw [app_data, ext_data, ext_data, List.drop_zero, Nat.sub_zero]
  rw [← size_len, List.take_of_length_le (l := List.drop n _) (by rw [List.length_drop]; omega), List.take_append_drop]

end Go.Proofs.YtlekhcopddajbaaGreatDoor.Base
