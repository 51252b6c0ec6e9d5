/- Plain words, second part: several numbers behind one another, frames one behind the other, and what a draw gives. Conditions: those of each lemma. -/
import Derived.Test.YtlekhcopddajbaaGreatDoorBase
namespace Go.Proofs.YtlekhcopddajbaaGreatDoor.Base
open Go.RowKit Go.Proofs.YtlekhcopddajbaaGreatDoorW.PrintWords

theorem vl_range (f : Nat) : ∀ n, n < 128 ^ f → 1 ≤ f → ∀ x ∈ vl n, 0 ≤ x ∧ x ≤ 255 := by
  induction f with
  | zero => intro n _ h; omega
  | succ f ih =>
    intro n hn _ x hx
    by_cases h : n > 127
    · rw [vl_big h, List.mem_cons] at hx
      rcases hx with rfl | hx
      · omega
      · by_cases hf : f = 0
        · subst hf; simp at hn; omega
        · exact ih (n / 128) (by rw [Nat.pow_succ] at hn; omega) (by omega) x hx
    · rw [vl_small h, List.mem_singleton] at hx
      omega
theorem bytesOf_nums : ∀ (xs : List Int), (∀ x ∈ xs, 0 ≤ x ∧ x ≤ 255) → bytesOf (strOfNums xs) = xs := by
  intro xs h
  unfold bytesOf
  rw [strOfNums_data, List.map_map]
  conv => rhs; rw [← List.map_id xs]
  apply List.map_congr_left
  intro x hx
  have := h x hx
  show (((UInt8.ofNat x.toNat).toNat : Nat) : Int) = x
  rw [UInt8.toNat_ofNat']
  omega
theorem strOfNums_append (a b : List Int) : strOfNums (a ++ b) = strOfNums a ++ strOfNums b := by
  apply ba_ext
  rw [app_data, strOfNums_data, strOfNums_data, strOfNums_data, List.map_append]
def vlAll (l : List Int) : List Int := l.flatMap fun a => vl a.toNat
theorem vlAll_cons (a : Int) (l : List Int) : vlAll (a :: l) = vl a.toNat ++ vlAll l := by simp [vlAll]
theorem vlAll_nil : vlAll [] = [] := rfl
theorem app_assoc (a b c : ByteArray) : a ++ b ++ c = a ++ (b ++ c) := by
  apply ba_ext
  simp only [app_data, List.append_assoc]
def headText (n f : Int) : ByteArray × Bool :=
  if 0 ≤ n ∧ n ≤ 99 ∧ 0 ≤ f ∧ f ≤ n then frameOf ((⟨#[72]⟩ : ByteArray) ++ (strOfNums (vl n.toNat) ++ strOfNums (vl f.toNat))) else noText
theorem rd_drop {xs : List Int} {i : Nat} {a : Int} {t : List Int} (h : xs.drop i = a :: t) : rd xs (i : Int) = a ∧ i < xs.length ∧ xs.drop (i + 1) = t := by
  have hi : i < xs.length := by
    apply Classical.byContradiction
    intro hn
    rw [List.drop_eq_nil_of_le (by omega)] at h
    cases h
  have e := List.drop_eq_getElem_cons hi
  rw [h] at e
  injection e with e1 e2
  refine ⟨?_, hi, e2.symm⟩
  unfold rd
  rw [Int.toNat_natCast, List.getD_eq_getElem?_getD, List.getElem?_eq_getElem hi, e1]
  rfl
/-! frames one behind the other -/
def unfr : Nat → ByteArray → List ByteArray → Int → List ByteArray × Int
  | 0, _, acc, p => (acc, p)
  | f + 1, s, acc, p =>
    if (readVar s p).2.2 = true ∧ (readVar s p).1 ≤ (s.size : Int) - (readVar s p).2.1 - 4 ∧
        frameOf (s.extract ((readVar s p).2.1 + 4).toNat ((readVar s p).2.1 + 4 + (readVar s p).1).toNat) = (s.extract p.toNat ((readVar s p).2.1 + 4 + (readVar s p).1).toNat, true) then
      unfr f s (acc ++ [s.extract ((readVar s p).2.1 + 4).toNat ((readVar s p).2.1 + 4 + (readVar s p).1).toNat]) ((readVar s p).2.1 + 4 + (readVar s p).1)
    else (acc, p)
def unframe (s : ByteArray) : List ByteArray × Int := if s.size > 20000 then ([], 0) else unfr (s.size + 1) s [] 0
/-- More rounds tell the same. -/
theorem unfr_more (s : ByteArray) : ∀ (f g : Nat) (acc : List ByteArray) (p : Int), 0 ≤ p → p ≤ s.size → (s.size : Int) - p < f → (s.size : Int) - p < g → unfr f s acc p = unfr g s acc p := by
  intro f
  induction f with
  | zero => intro g acc p h0 h1 h2 h3; omega
  | succ f ih =>
    intro g acc p h0 h1 h2 h3
    cases g with
    | zero => omega
    | succ g =>
      unfold unfr
      split
      · rename_i h
        rcases readVar_cases s p with hr | ⟨n, m, hr, hn, hm, hp, hz, hl, hx⟩
        · rw [hr] at h; exact absurd h.1 (by decide)
        · rw [hr] at h ⊢
          have h2 := h.2.1
          dsimp only at h2 ⊢
          exact ih g _ _ (by omega) (by omega) (by omega) (by omega)
      · rfl
theorem Ev.to {α : Type} {g : Nat → Option α} {r s : α} (h : Ev g r) (e : r = s) : Ev g s := e ▸ h
theorem Ev.ifb {c : Prop} [Decidable c] {f : Nat → Option Bool} {r : Bool} (e : Ev f r) : Ev (fun k => if c then f k else some false) (decide c && r) := by
  by_cases h : c
  · exact Ev.to (Ev.pos h e) (by rw [decide_eq_true h, Bool.true_and])
  · exact Ev.to (Ev.neg h (Ev.now _)) (by rw [decide_eq_false h, Bool.false_and])
theorem Ev.ifn {c : Prop} [Decidable c] {f : Nat → Option Bool} {r : Bool} (e : Ev f r) : Ev (fun k => if c then some false else f k) (!decide c && r) := by
  by_cases h : c
  · exact Ev.to (Ev.pos h (Ev.now _)) (by rw [decide_eq_true h]; rfl)
  · exact Ev.to (Ev.neg h e) (by rw [decide_eq_false h]; rfl)
theorem Ev.ifbb {b : Bool} {f : Nat → Option Bool} {r : Bool} (e : Ev f r) : Ev (fun k => if b = true then f k else some false) (b && r) := Ev.to (Ev.ifb e) (by cases b <;> rfl)
theorem Ev.bool {a : Option Bool} {b : Bool} {f : Nat → Option Bool} {r : Bool} (h : a = some b) (e : Ev f r) : Ev (fun k => a.bind fun t => if t = true then f k else some false) (b && r) := Ev.bind0 h (Ev.ifbb e)
theorem Ev.boolk {a : Nat → Option Bool} {b : Bool} {f : Nat → Option Bool} {r : Bool} (h : Ev a b) (e : Ev f r) : Ev (fun k => (a k).bind fun t => if t = true then f k else some false) (b && r) := Ev.bind h (Ev.ifbb e)
theorem int_beq (a b : Int) : (a == b) = decide (a = b) := by by_cases h : a = b <;> simp [h]
/-! marks -/
def mtl (n : Nat) (acc : ByteArray) : ByteArray := if 0 < n then mtl (n / 10) (strOfNums [((48 + n % 10 : Nat) : Int)] ++ acc) else (⟨#[109]⟩ : ByteArray) ++ acc
termination_by n
decreasing_by omega
theorem mtl_pos {n : Nat} (h : 0 < n) (acc : ByteArray) : mtl n acc = mtl (n / 10) (strOfNums [((48 + n % 10 : Nat) : Int)] ++ acc) := by rw [mtl, if_pos h]
theorem mtl_zero (acc : ByteArray) : mtl 0 acc = (⟨#[109]⟩ : ByteArray) ++ acc := by rw [mtl, if_neg (by omega)]
def mt (n : Nat) : ByteArray := mtl n (⟨#[]⟩ : ByteArray)
def marksFrom : Nat → Nat → List ByteArray
  | _, 0 => []
  | a, m + 1 => mt a :: marksFrom (a + 1) m
theorem marksFrom_length : ∀ (m a : Nat), (marksFrom a m).length = m := by
  intro m
  induction m with
  | zero => intro a; rfl
  | succ m ih => intro a; rw [marksFrom, List.length_cons, ih]
theorem rdOf_drop {α : Type} {d : α} {xs : List α} {i : Nat} {a : α} {t : List α} (h : xs.drop i = a :: t) : rdOf d xs (i : Int) = a ∧ i < xs.length ∧ xs.drop (i + 1) = t := by
  have hi : i < xs.length := by
    apply Classical.byContradiction
    intro hn
    rw [List.drop_eq_nil_of_le (by omega)] at h
    cases h
  have e := List.drop_eq_getElem_cons hi
  rw [h] at e
  injection e with e1 e2
  refine ⟨?_, hi, e2.symm⟩
  unfold rdOf
  rw [Int.toNat_natCast, List.getD_eq_getElem?_getD, List.getElem?_eq_getElem hi, e1]
  rfl
theorem drop_nil_len {α : Type} {xs : List α} {i : Nat} (h : xs.drop i = []) : xs.length ≤ i := List.drop_eq_nil_iff.1 h
theorem take_set_snoc {α : Type} (xs : List α) (i : Nat) (a : α) (h : i < xs.length) : (xs.set i a).take (i + 1) = xs.take i ++ [a] := by
  rw [List.take_succ_eq_append_getElem (by rw [List.length_set]; exact h), List.getElem_set_self, List.take_set_of_le (Nat.le_refl _)]
end Go.Proofs.YtlekhcopddajbaaGreatDoor.Base
