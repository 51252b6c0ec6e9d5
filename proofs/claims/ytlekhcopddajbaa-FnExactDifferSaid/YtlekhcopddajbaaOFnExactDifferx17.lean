/- Walks of functions that the law FnExactDiffer reaches, turned by this session from a print of which a part did not build; what was changed is listed in wip/patches of the proofs' repo. -/
import Derived.Test.YtlekhcopddajbaaOFnExactDifferx0
import Derived.Test.YtlekhcopddajbaaOFnExactDifferx1
import Derived.Test.YtlekhcopddajbaaOFnExactDifferx7
import Derived.Test.YtlekhcopddajbaaOFnExactDifferx8
import Derived.Test.YtlekhcopddajbaaOFnExactDifferx13
import Derived.Test.YtlekhcopddajbaaOFnExactDifferx14
import Derived.Test.YtlekhcopddajbaaOFnExactDifferx15
import Derived.Test.YtlekhcopddajbaaOFnExactDifferx16
namespace Go.Proofs.Ytlekhcopddajbaa.PFnExactDiffer
open Go.RowKit Go.Proofs.YtlekhcopddajbaaW.PrintWords Go.Proofs.YtlekhcopddajbaaW.PrintLast Go.Proofs.YtlekhcopddajbaaW.PrintMore
attribute [local go_sem] max2_int min2_int max_two min_two max_three min_three max_four min_four   -- for this text's walks alone
set_option linter.unusedVariables false
set_option linter.unusedSimpArgs false

/-! ### laws_FnExactDiffer: function 3 (a text of its own) -/
def laws_FnExactDiffer.Ok (k : Nat) (l0 l1 : List S38) : Prop :=
  ∃ s, laws_szEntryS.f k l0 1048576 = some s ∧ (s < 0 ∨ (¬ s < 0 ∧ ∃ s2, laws_szEntryS.f k l1 s = some s2 ∧ (s2 < 0 ∨ (¬ s2 < 0 ∧ ∃ ta tb v m1 x1 m2 x2 q g2,
    laws_toEntryS.f k l0 = some ta ∧ laws_toEntryS.f k l1 = some tb ∧ spec_Differ.f k ta tb = some v ∧ impl_Differ.f k ta tb = some v ∧
    laws_eqChangeS.f k v v = some true ∧ laws_eqEntryS.f k ta ta = some true ∧ laws_eqEntryS.f k tb tb = some true ∧ laws_markEntryS.f k ta 1 = some (m1, x1) ∧ laws_markEntryS.f k tb m1 = some (m2, x2) ∧ 0 ≤ m2 ∧ laws_markChangeS.f k v 1 = some (q, g2) ∧ laws_heldChangeS.f k g2 1 = some q ∧ 0 ≤ q))))
open Classical in
noncomputable def laws_FnExactDiffer.f (k : Nat) (l0 l1 : List S38) : Option Bool := if laws_FnExactDiffer.Ok k l0 l1 then some true else none
set_option maxHeartbeats 16000000 in
set_option maxRecDepth 100000 in
theorem laws_FnExactDiffer.calls (k : Nat) (A0 : Option Addr) (c0 : Nat) (l0 : List (S38)) (A1 : Option Addr) (c1 : Nat) (l1 : List (S38)) (r : Bool) (w : World) (hr0 : Kd.C k38 w A0 l0.length l0) (hc0 : l0.length ≤ c0) (hr1 : Kd.C k38 w A1 l1.length l1) (hc1 : l1.length ≤ c1) (h : laws_FnExactDiffer.f k l0 l1 = some r) :
    Calls Try.prog 3 #[.slice A0 l0.length c0, .slice A1 l1.length c1] w fun e w' => e = .returned (.bool r) ∧ Below w.heap.size w w' := by
  have hOk : r = true ∧ laws_FnExactDiffer.Ok k l0 l1 := by
    unfold laws_FnExactDiffer.f at h
    split at h
    · rename_i ho; exact ⟨(Option.some.inj h).symm, ho⟩
    · cases h
  clear h
  obtain ⟨rfl, hOk⟩ := hOk
  have HR0 := Aside0.mk hr0
  have HC0 := Aside0.mk hc0
  have HR1 := Aside0.mk hr1
  have HC1 := Aside0.mk hc1
  clear hr0 hc0 hr1 hc1
  rcases hOk with ⟨s, hs, d2 | ⟨d2, s2, hs2, d3 | ⟨d3, ta, tb, v, m1, x1, m2, x2, q, g2, ht, hu, hw, hg, he, hea, heb, hm, hm2, hm0, hv, hh, hq⟩⟩⟩
  · have d2b : decide (s < 0) = true := decide_eq_true d2
    have HS := Aside0.mk hs
    clear d2 hs
    go_enter Try.func3, Try.ntmps3
    go_wp2_with (go_at_call 4; (with_reducible refine (laws_szEntryS.calls k A0 c0 l0 1048576 s _ HR0.out HC0.out HS.out).mono ?_); rintro e W1 ⟨rfl, hb1⟩; have F1 := Aside0.mk hb1; clear hb1 HS)
    go_ret
    exact ⟨rfl, F1.out⟩
  · have d2b : decide (s < 0) = false := decide_eq_false d2
    have d3b : decide (s2 < 0) = true := decide_eq_true d3
    have HS := Aside0.mk hs
    have HS2 := Aside0.mk hs2
    clear d2 d3 hs hs2
    go_enter Try.func3, Try.ntmps3
    go_wp2_with (first
      | (go_at_call 4; (with_reducible refine (laws_szEntryS.calls k A0 c0 l0 1048576 s _ HR0.out HC0.out HS.out).mono ?_); rintro e W1 ⟨rfl, hb1⟩; have F1 := Aside0.mk hb1; clear hb1 HS)
      | (go_at_call 4; (with_reducible refine (laws_szEntryS.calls k A1 c1 l1 s s2 _ (Kd.C_below HR1.out F1.out) HC1.out HS2.out).mono ?_); rintro e W2 ⟨rfl, hb⟩; have F2 := Aside0.mk (below_step F1.out hb); clear hb F1 HS2))
    go_ret
    exact ⟨rfl, F2.out⟩
  · have d2b : decide (s < 0) = false := decide_eq_false d2
    have d3b : decide (s2 < 0) = false := decide_eq_false d3
    have d4b : decide (m2 < 0) = false := decide_eq_false (by omega)
    have d5b : decide (q < 0) = false := decide_eq_false (by omega)
    have d6b : (q != q) = false := by simp
    have HS := Aside0.mk hs
    have HS2 := Aside0.mk hs2
    have HT := Aside0.mk ht
    have HU := Aside0.mk hu
    have HW := Aside0.mk hw
    have HG := Aside0.mk hg
    have HE := Aside0.mk he
    have HEA := Aside0.mk hea
    have HEB := Aside0.mk heb
    have HM := Aside0.mk hm
    have HM2 := Aside0.mk hm2
    have HV := Aside0.mk hv
    have HH := Aside0.mk hh
    clear d2 d3 hs hs2 ht hu hw hg he hea heb hm hm2 hm0 hv hh hq
    go_enter Try.func3, Try.ntmps3
    go_wp2_with (first
      | (go_at_call 4; (with_reducible refine (laws_szEntryS.calls k A0 c0 l0 1048576 s _ HR0.out HC0.out HS.out).mono ?_); rintro e W1 ⟨rfl, hb1⟩; have F1 := Aside0.mk hb1; clear hb1 HS)
      | (go_at_call 4; (with_reducible refine (laws_szEntryS.calls k A1 c1 l1 s s2 _ (Kd.C_below HR1.out F1.out) HC1.out HS2.out).mono ?_); rintro e W2 ⟨rfl, hb⟩; have F2 := Aside0.mk (below_step F1.out hb); clear hb F1 HS2)
      | (go_at_call 6; (with_reducible refine (laws_toEntryS.calls k A0 c0 l0 ta _ (Kd.C_below HR0.out F2.out) HC0.out HT.out).mono ?_); rintro e W3 ⟨x_, rfl, hS, hb⟩; obtain ⟨Ax, cx, rfl⟩ := Kd.S_slice hS; have FX := Aside0.mk (Kd.S_reads' hS).2; have F3 := Aside0.mk (below_step F2.out hb); clear hS hb F2)
      | (go_at_call 6; (with_reducible refine (laws_toEntryS.calls k A1 c1 l1 tb _ (Kd.C_below HR1.out F3.out) HC1.out HU.out).mono ?_); rintro e W4 ⟨x_, rfl, hS, hb⟩; obtain ⟨Ay, cy, rfl⟩ := Kd.S_slice hS; have FY := Aside0.mk (Kd.S_reads' hS).2; have FX4 := Aside0.mk (And.intro FX.out.1 (Kd.C_below FX.out.2 hb)); have F4 := Aside0.mk (below_step F3.out hb); clear hS hb F3 FX)
      | (go_at_call 5; (with_reducible refine (spec_Differ.calls k Ax cx ta Ay cy tb v _ FX4.out.2 FX4.out.1 FY.out.2 FY.out.1 HW.out).mono ?_); rintro e W5 ⟨vw_, rfl, hR, hb⟩; obtain ⟨Aw, cw, rfl⟩ := Kd.R_slice hR; have A5 := Aside0.mk (show Below w.heap.size w W5 ∧ Kd.R k44 44 W5 w.heap.size (fun k => k < W5.heap.size) (.slice Aw v.length cw) v from ⟨below_step F4.out hb, Kd.R_lower (Kd.R_mono (Kd.R_bound hR) (fun k hk => hk.2.2.1)) (below_size F4.out)⟩); clear hR hb F4 FX4 FY HW)
      | (go_at_call 6; (with_reducible refine (laws_toEntryS.calls k A0 c0 l0 ta _ (Kd.C_below HR0.out A5.out.1) HC0.out HT.out).mono ?_); rintro e W6 ⟨x_, rfl, hS, hb⟩; obtain ⟨Ap, cp, rfl⟩ := Kd.S_slice hS; have X6 := Aside0.mk (show Kd.S k42 42 W6 w.heap.size (fun k => W5.heap.size ≤ k ∧ k < W6.heap.size) (.slice Ap ta.length cp) ta from Kd.S_lower (Kd.S_mono (Kd.S_bound hS) (fun k hk => ⟨hk.2.1, hk.2.2.1⟩)) (below_size A5.out.1)); have A6 := Aside0.mk (And.intro (below_step A5.out.1 hb) (Kd.R_below A5.out.2 hb)); have L6 := Aside0.mk hb.size; clear hS hb A5)
      | (go_at_call 6; (with_reducible refine (laws_toEntryS.calls k A1 c1 l1 tb _ (Kd.C_below HR1.out A6.out.1) HC1.out HU.out).mono ?_); rintro e W7 ⟨x_, rfl, hS, hb⟩; obtain ⟨Aq, cq, rfl⟩ := Kd.S_slice hS; have Y7 := Aside0.mk (show Kd.S k42 42 W7 w.heap.size (fun k => W6.heap.size ≤ k ∧ k < W7.heap.size) (.slice Aq tb.length cq) tb from Kd.S_lower (Kd.S_mono (Kd.S_bound hS) (fun k hk => ⟨hk.2.1, hk.2.2.1⟩)) (below_size A6.out.1)); have X7 := Aside0.mk (Kd.S_below X6.out hb); have A7 := Aside0.mk (And.intro (below_step A6.out.1 hb) (Kd.R_below A6.out.2 hb)); have L7 := Aside0.mk hb.size; clear hS hb A6 X6)
      | (go_at_call 7; (with_reducible refine (impl_Differ.calls k Ap cp ta Aq cq tb v _ (Kd.S_reads' X7.out).2.2 (Kd.S_reads' X7.out).2.1 (Kd.S_reads' Y7.out).2.2 (Kd.S_reads' Y7.out).2.1 HG.out).mono ?_); rintro e W8 ⟨vg_, rfl, hR, hb⟩; obtain ⟨Ag, cg, rfl⟩ := Kd.R_slice hR; have G8 := Aside0.mk (show Kd.R k44 44 W8 w.heap.size (fun k => W7.heap.size ≤ k) (.slice Ag v.length cg) v from Kd.R_lower (Kd.R_mono (Kd.R_bound hR) (fun k hk => hk.2.1)) (below_size A7.out.1)); have X8 := Aside0.mk (Kd.S_below X7.out hb); have Y8 := Aside0.mk (Kd.S_below Y7.out hb); have A8 := Aside0.mk (And.intro (below_step A7.out.1 hb) (Kd.R_below A7.out.2 hb)); clear hR hb A7 X7 Y7)
      | (go_at_call 8; (with_reducible refine (laws_eqChangeS.calls k Ag cg v Aw cw v true _ (Kd.R_reads' G8.out).2.2 (Kd.R_reads' G8.out).2.1 (Kd.R_reads' A8.out.2).2.2 (Kd.R_reads' A8.out.2).2.1 HE.out).mono ?_); rintro e W9 ⟨rfl, hb⟩; have X9 := Aside0.mk (Kd.S_below X8.out hb); have Y9 := Aside0.mk (Kd.S_below Y8.out hb); have G9 := Aside0.mk (Kd.R_below G8.out hb); have A9 := Aside0.mk (And.intro (below_step A8.out.1 hb) (Kd.R_below A8.out.2 hb)); clear hb A8 X8 Y8 G8)
      | (go_at_call 6; (with_reducible refine (laws_toEntryS.calls k A0 c0 l0 ta _ (Kd.C_below HR0.out A9.out.1) HC0.out HT.out).mono ?_); rintro e W10 ⟨x_, rfl, hS, hb⟩; obtain ⟨Az, cz, rfl⟩ := Kd.S_slice hS; have Z10 := Aside0.mk (Kd.S_reads' hS).2; clear hS; have X10 := Aside0.mk (Kd.S_below X9.out hb); have Y10 := Aside0.mk (Kd.S_below Y9.out hb); have G10 := Aside0.mk (Kd.R_below G9.out hb); have A10 := Aside0.mk (And.intro (below_step A9.out.1 hb) (Kd.R_below A9.out.2 hb)); clear hb A9 X9 Y9 G9)
      | (go_at_call 9; (with_reducible refine (laws_eqEntryS.calls k Ap cp ta Az cz ta true _ (Kd.S_reads' X10.out).2.2 (Kd.S_reads' X10.out).2.1 Z10.out.2 Z10.out.1 HEA.out).mono ?_); rintro e W11 ⟨rfl, hb⟩; have X11 := Aside0.mk (Kd.S_below X10.out hb); have Y11 := Aside0.mk (Kd.S_below Y10.out hb); have G11 := Aside0.mk (Kd.R_below G10.out hb); have A11 := Aside0.mk (And.intro (below_step A10.out.1 hb) (Kd.R_below A10.out.2 hb)); clear hb A10 X10 Y10 G10 Z10)
      | (go_at_call 6; (with_reducible refine (laws_toEntryS.calls k A1 c1 l1 tb _ (Kd.C_below HR1.out A11.out.1) HC1.out HU.out).mono ?_); rintro e W12 ⟨x_, rfl, hS, hb⟩; obtain ⟨At, ct, rfl⟩ := Kd.S_slice hS; have Z12 := Aside0.mk (Kd.S_reads' hS).2; clear hS; have X12 := Aside0.mk (Kd.S_below X11.out hb); have Y12 := Aside0.mk (Kd.S_below Y11.out hb); have G12 := Aside0.mk (Kd.R_below G11.out hb); have A12 := Aside0.mk (And.intro (below_step A11.out.1 hb) (Kd.R_below A11.out.2 hb)); clear hb A11 X11 Y11 G11)
      | (go_at_call 9; (with_reducible refine (laws_eqEntryS.calls k Aq cq tb At ct tb true _ (Kd.S_reads' Y12.out).2.2 (Kd.S_reads' Y12.out).2.1 Z12.out.2 Z12.out.1 HEB.out).mono ?_); rintro e W13 ⟨rfl, hb⟩; have X13 := Aside0.mk (Kd.S_below X12.out hb); have Y13 := Aside0.mk (Kd.S_below Y12.out hb); have G13 := Aside0.mk (Kd.R_below G12.out hb); have A13 := Aside0.mk (And.intro (below_step A12.out.1 hb) (Kd.R_below A12.out.2 hb)); clear hb A12 X12 Y12 G12 Z12)
      | (go_at_call 10; (with_reducible refine (laws_markEntryS.calls k (fun k => W5.heap.size ≤ k ∧ k < W6.heap.size) _ ta 1 m1 x1 w _ A13.out.1 X13.out HM.out).mono ?_); rintro e W14 ⟨rfl, -, hB, hK⟩; have Y14 := Aside0.mk (Kd.S_kept Y13.out hK (fun k hk h => by omega)); have G14 := Aside0.mk (Kd.R_kept G13.out hK (fun k hk h => by have := L7.out; omega)); have A14 := Aside0.mk (And.intro hB (Kd.R_kept A13.out.2 hK (fun k hk h => by omega))); clear hB hK A13 X13 Y13 G13)
      | (go_at_call 10; (with_reducible refine (laws_markEntryS.calls k (fun k => W6.heap.size ≤ k ∧ k < W7.heap.size) _ tb m1 m2 x2 w _ A14.out.1 Y14.out HM2.out).mono ?_); rintro e W15 ⟨rfl, -, hB, hK⟩; have G15 := Aside0.mk (Kd.R_kept G14.out hK (fun k hk h => by omega)); have A15 := Aside0.mk (And.intro hB (Kd.R_kept A14.out.2 hK (fun k hk h => by have := L6.out; omega))); clear hB hK A14 Y14 G14)
      | (go_at_call 8; (with_reducible refine (laws_eqChangeS.calls k Ag cg v Aw cw v true _ (Kd.R_reads' G15.out).2.2 (Kd.R_reads' G15.out).2.1 (Kd.R_reads' A15.out.2).2.2 (Kd.R_reads' A15.out.2).2.1 HE.out).mono ?_); rintro e W16 ⟨rfl, hb⟩; have G16 := Aside0.mk (Kd.R_below G15.out hb); have A16 := Aside0.mk (And.intro (below_step A15.out.1 hb) (Kd.R_below A15.out.2 hb)); clear hb A15 G15)
      | (go_at_call 11; (with_reducible refine (laws_markChangeS.calls k (fun k => W7.heap.size ≤ k) _ v 1 q g2 w _ A16.out.1 G16.out HV.out).mono ?_); rintro e W17 ⟨rfl, hS, hB, hK⟩; have G17 := Aside0.mk hS; have A17 := Aside0.mk (And.intro hB (Kd.R_kept A16.out.2 hK (fun k hk h => by have := L6.out; have := L7.out; omega))); clear hS hB hK A16 G16)
      | (go_at_call 12; have e4 := (Kd.R_reads' G17.out).1; (refine calls_of_args (args' := #[.slice Ag g2.length cg, .int .i64 1]) (by rw [e4]) ?_; with_reducible refine (laws_heldChangeS.calls k Ag cg g2 1 q _ (Kd.R_reads' G17.out).2.2 (by rw [← e4]; exact (Kd.R_reads' G17.out).2.1) HH.out).mono ?_); rintro e W18 ⟨rfl, hb⟩; have G18 := Aside0.mk (Kd.R_below G17.out hb); have A18 := Aside0.mk (And.intro (below_step A17.out.1 hb) (Kd.R_below A17.out.2 hb)); clear hb A17 G17 e4)
      | (go_at_call 6; (with_reducible refine (laws_toEntryS.calls k A0 c0 l0 ta _ (Kd.C_below HR0.out A18.out.1) HC0.out HT.out).mono ?_); rintro e W19 ⟨x_, rfl, hS, hb⟩; obtain ⟨Au, cu, rfl⟩ := Kd.S_slice hS; have Z19 := Aside0.mk (Kd.S_reads' hS).2; clear hS; have G19 := Aside0.mk (Kd.R_below G18.out hb); have A19 := Aside0.mk (And.intro (below_step A18.out.1 hb) (Kd.R_below A18.out.2 hb)); clear hb A18 G18)
      | (go_at_call 6; (with_reducible refine (laws_toEntryS.calls k A1 c1 l1 tb _ (Kd.C_below HR1.out A19.out.1) HC1.out HU.out).mono ?_); rintro e W20 ⟨x_, rfl, hS, hb⟩; obtain ⟨Av, cv, rfl⟩ := Kd.S_slice hS; have Y20 := Aside0.mk (Kd.S_reads' hS).2; have Z20 := Aside0.mk (And.intro Z19.out.1 (Kd.C_below Z19.out.2 hb)); clear hS Z19; have G20 := Aside0.mk (Kd.R_below G19.out hb); have A20 := Aside0.mk (And.intro (below_step A19.out.1 hb) (Kd.R_below A19.out.2 hb)); clear hb A19 G19)
      | (go_at_call 7; (with_reducible refine (impl_Differ.calls k Au cu ta Av cv tb v _ Z20.out.2 Z20.out.1 Y20.out.2 Y20.out.1 HG.out).mono ?_); rintro e W21 ⟨vh_, rfl, hR, hb⟩; obtain ⟨Ah, ch, rfl⟩ := Kd.R_slice hR; have H21 := Aside0.mk (Kd.R_reads' hR).2; clear hR Z20 Y20; have G21 := Aside0.mk (Kd.R_below G20.out hb); have A21 := Aside0.mk (And.intro (below_step A20.out.1 hb) (Kd.R_below A20.out.2 hb)); clear hb A20 G20)
      | (go_at_call 8; (with_reducible refine (laws_eqChangeS.calls k Ah ch v Aw cw v true _ H21.out.2 H21.out.1 (Kd.R_reads' A21.out.2).2.2 (Kd.R_reads' A21.out.2).2.1 HE.out).mono ?_); rintro e W22 ⟨rfl, hb⟩; have G22 := Aside0.mk (Kd.R_below G21.out hb); have F22 := Aside0.mk (below_step A21.out.1 hb); clear hb G21 A21 H21)
      | (go_at_call 12; have e4 := (Kd.R_reads' G22.out).1; (refine calls_of_args (args' := #[.slice Ag g2.length cg, .int .i64 1]) (by rw [e4]) ?_; with_reducible refine (laws_heldChangeS.calls k Ag cg g2 1 q _ (Kd.R_reads' G22.out).2.2 (by rw [← e4]; exact (Kd.R_reads' G22.out).2.1) HH.out).mono ?_); rintro e W23 ⟨rfl, hb⟩; have F23 := Aside0.mk (below_step F22.out hb); clear hb e4 G22 F22))
    go_ret
    exact ⟨rfl, F23.out⟩

end Go.Proofs.Ytlekhcopddajbaa.PFnExactDiffer
