/- For every text both programs' Hex come to the same text and the same answer. -/
import Derived.Test.YtppnojomcanpoaaOFnExactHexx1
import Derived.Test.YtppnojomcanpoaaBase
namespace Go.Proofs.Ytppnojomcanpoaa.Pure
open Go.RowKit Go.Proofs.Ytppnojomcanpoaa.PFnExactHex Go.Proofs.YtppnojomcanpoaaW.PrintWords Go.Proofs.YtppnojomcanpoaaW.PrintLast Go.Proofs.Ytppnojomcanpoaa.Base
set_option linter.unusedVariables false
set_option linter.unusedSimpArgs false

theorem spec_l01Figure_eq {x : Nat} (h : x < 16) : spec_l01Figure.f (x : Int) = some (fig x) := by
  unfold spec_l01Figure.f fig
  by_cases h1 : x < 10
  · rw [if_pos (by omega), if_pos h1, w64 (by omega) (by omega)]
    congr 1; omega
  · rw [if_neg (by omega), if_neg h1, w64 (n := 97 + (x : Int)) (by omega) (by omega), w64 (by omega) (by omega)]
    congr 1; omega

theorem spec_Hex_l0 (s : ByteArray) (hs : s.size ≤ 20000) : ∀ (l : List UInt8) (i : Nat) (acc : List Int), s.data.toList.drop i = l → acc.length = 2 * i → Ev (fun k => spec_Hex.l0 k s acc (i : Int)) (strOfNums (acc ++ hexl l), true) := by
  intro l
  induction l with
  | nil =>
    intro i acc hl ha
    have := drop_none hl
    refine Ev.step (f := fun _ => some (strOfNums (acc ++ hexl []), true)) (fun k => ?_) (Ev.now _)
    rw [spec_Hex.l0, if_neg (by omega), hexl, List.append_nil]
  | cons c l ih =>
    intro i acc hl ha
    obtain ⟨hb, hlt, hd⟩ := bt_drop hl
    have hc : c.toNat < 256 := c.toNat_lt
    refine Ev.succ ?_
    simp only [spec_Hex.l0, hb]
    rw [w64 (n := (c.toNat : Int)) (by omega) (by omega), tdivp (by omega), tmodp (by omega), show (c.toNat : Int) / 16 = ((c.toNat / 16 : Nat) : Int) from by omega, show (c.toNat : Int) % 16 = ((c.toNat % 16 : Nat) : Int) from by omega, w64 (n := ((c.toNat / 16 : Nat) : Int)) (by omega) (by omega), w64 (n := (i : Int) + 1) (by omega) (by omega)]
    refine Ev.pos (by omega) (Ev.pos (by omega) (Ev.bind0 (spec_l01Figure_eq (by omega)) (Ev.bind0 (spec_l01Figure_eq (by omega)) (Ev.bind0 rfl (Ev.pos (by simp; omega) ?_)))))
    have e := ih (i + 1) (acc ++ [fig (c.toNat / 16), fig (c.toNat % 16)]) hd (by simp; omega)
    rw [List.append_assoc] at e
    exact e
theorem spec_Hex_ev (s : ByteArray) : Ev (fun k => spec_Hex.f k s) (hexOf s) := by
  unfold spec_Hex.f hexOf
  by_cases h : s.size > 20000
  · rw [if_pos h]
    exact Ev.pos (by omega) (Ev.now _)
  · rw [if_neg h]
    exact Ev.neg (by omega) (spec_Hex_l0 s (by omega) _ 0 [] rfl rfl)

theorem impl_Hex_l0 (s : ByteArray) (hs : s.size ≤ 20000) : ∀ (l : List UInt8) (i : Nat) (acc : List Int), s.data.toList.drop i = l → acc.length = 2 * i → Ev (fun k => impl_Hex.l0 k s acc (i : Int)) (strOfNums (acc ++ hexl l), true) := by
  intro l
  induction l with
  | nil =>
    intro i acc hl ha
    have := drop_none hl
    refine Ev.step (f := fun _ => some (strOfNums (acc ++ hexl []), true)) (fun k => ?_) (Ev.now _)
    rw [impl_Hex.l0, if_neg (by omega), hexl, List.append_nil]
  | cons c l ih =>
    intro i acc hl ha
    obtain ⟨hb, hlt, hd⟩ := bt_drop hl
    have hc : c.toNat < 256 := c.toNat_lt
    refine Ev.succ ?_
    simp only [impl_Hex.l0, hb]
    rw [tdivp (by omega), tmodp (by omega), show (c.toNat : Int) / 16 % 256 = ((c.toNat / 16 : Nat) : Int) from by omega, show (c.toNat : Int) % 16 = ((c.toNat % 16 : Nat) : Int) from by omega, w64 (n := (i : Int) + 1) (by omega) (by omega)]
    refine Ev.pos (by omega) (Ev.pos (by omega) (Ev.pos (by omega) (Ev.pos (by omega) (Ev.pos (by omega) (Ev.pos (by omega) (Ev.bind0 rfl (Ev.pos (by simp; omega) ?_)))))))
    have e := ih (i + 1) (acc ++ [fig (c.toNat / 16), fig (c.toNat % 16)]) hd (by simp; omega)
    rw [List.append_assoc] at e
    rw [← hexTab_bt (x := c.toNat / 16) (by omega), ← hexTab_bt (x := c.toNat % 16) (by omega)] at e
    rw [hexl, ← hexTab_bt (x := c.toNat / 16) (by omega), ← hexTab_bt (x := c.toNat % 16) (by omega)]
    exact e
theorem impl_Hex_ev (s : ByteArray) : Ev (fun k => impl_Hex.f k s) (hexOf s) := by
  unfold impl_Hex.f hexOf
  by_cases h : s.size > 20000
  · rw [if_pos h]
    exact Ev.pos (by omega) (Ev.now _)
  · rw [if_neg h]
    exact Ev.neg (by omega) (impl_Hex_l0 s (by omega) _ 0 [] rfl rfl)

theorem FnExactHex : laws_FnExactHex.Pure := by
  intro a0 h0
  refine Ev.rounds (r := true) ?_
  unfold laws_FnExactHex.f
  by_cases hb : (a0.size : Int) > 1048576
  · exact Ev.pos hb (Ev.now _)
  refine Ev.neg hb (Ev.bind (spec_Hex_ev a0) (Ev.bind (impl_Hex_ev a0) ?_))
  simpa using Ev.now true

end Go.Proofs.Ytppnojomcanpoaa.Pure
