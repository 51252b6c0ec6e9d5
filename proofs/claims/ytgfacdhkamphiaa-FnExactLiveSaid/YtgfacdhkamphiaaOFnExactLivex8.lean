/- Walks of functions that the law FnExactLive reaches, turned by this session from a print of which a part did not build; what was changed is listed in wip/patches of the proofs' repo. -/
import Derived.Test.YtgfacdhkamphiaaOFnExactLivex0
import Derived.Test.YtgfacdhkamphiaaOFnExactLivex1
import Derived.Test.YtgfacdhkamphiaaOFnExactLivex2
import Derived.Test.YtgfacdhkamphiaaOFnExactLivex3
import Derived.Test.YtgfacdhkamphiaaOFnExactLivex4
import Derived.Test.YtgfacdhkamphiaaOFnExactLivex5
import Derived.Test.YtgfacdhkamphiaaOFnExactLivex7
namespace Go.Proofs.Ytgfacdhkamphiaa.PFnExactLive
open Go.RowKit Go.Proofs.YtgfacdhkamphiaaW.PrintWords Go.Proofs.YtgfacdhkamphiaaW.PrintLast Go.Proofs.YtgfacdhkamphiaaW.PrintMore
attribute [local go_sem] max2_int min2_int max_two min_two max_three min_three max_four min_four   -- for this text's walks alone
set_option linter.unusedVariables false
set_option linter.unusedSimpArgs false

/-! ### laws_FnExactLive: function 12 (a text of its own) -/
def laws_FnExactLive.Ok (k : Nat) (l0 : List S121) (a1 : Int) : Prop :=
  ∃ s, laws_szEntryS.f k l0 1048576 = some s ∧ (s < 0 ∨ (¬ s < 0 ∧ ∃ t v m1 m2 q g2, laws_toEntryS.f k l0 = some t ∧ spec_Live.f k t a1 = some v ∧ impl_Live.f k t a1 = some v ∧
    laws_eqEntryS.f k v v = some true ∧ laws_eqEntryS.f k t t = some true ∧ laws_markEntryS.f k t 1 = some (m1, m2) ∧ 0 ≤ m1 ∧ laws_markEntryS.f k v 1 = some (q, g2) ∧ laws_heldEntryS.f k g2 1 = some q ∧ 0 ≤ q))
open Classical in
noncomputable def laws_FnExactLive.f (k : Nat) (l0 : List S121) (a1 : Int) : Option Bool := if laws_FnExactLive.Ok k l0 a1 then some true else none
set_option maxHeartbeats 8000000 in
set_option maxRecDepth 100000 in
theorem laws_FnExactLive.calls (k : Nat) (A0 : Option Addr) (c0 : Nat) (l0 : List (S121)) (a1 : Int) (r : Bool) (w : World) (hr0 : Kd.C k121 w A0 l0.length l0) (hc0 : l0.length ≤ c0) (h : laws_FnExactLive.f k l0 a1 = some r) :
    Calls Try.prog 12 #[.slice A0 l0.length c0, .int .i64 a1] w fun e w' => e = .returned (.bool r) ∧ Below w.heap.size w w' := by
  have huE := Try.underlying90
  have huV := Try.underlying75
  have hOk : r = true ∧ laws_FnExactLive.Ok k l0 a1 := by
    unfold laws_FnExactLive.f at h
    split at h
    · rename_i ho; exact ⟨(Option.some.inj h).symm, ho⟩
    · cases h
  clear h
  obtain ⟨rfl, hOk⟩ := hOk
  have HR := Aside0.mk hr0
  have HC := Aside0.mk hc0
  clear hr0 hc0
  rcases hOk with ⟨s, hs, c2 | ⟨c2, t, v, m1, m2, q, g2, ht, hw, hg, he, hE, hm, hm1, hv, hh, hq⟩⟩
  · have c2b : decide (s < 0) = true := decide_eq_true c2
    have HS := Aside0.mk hs
    clear c2 hs
    go_enter Try.func12, Try.ntmps12
    go_wp2_with (go_at_call 48; (with_reducible refine (laws_szEntryS.calls k A0 c0 l0 1048576 s _ HR.out HC.out HS.out).mono ?_); rintro e W1 ⟨rfl, hb1⟩)
    go_ret
    exact ⟨rfl, hb1⟩
  · have c2b : decide (s < 0) = false := decide_eq_false c2
    have c3b : decide (m1 < 0) = false := decide_eq_false (by omega)
    have c4b : decide (q < 0) = false := decide_eq_false (by omega)
    have c5b : (q != q) = false := by simp
    have HS := Aside0.mk hs
    have HT := Aside0.mk ht
    have HW := Aside0.mk hw
    have HG := Aside0.mk hg
    have HE := Aside0.mk he
    have HEE := Aside0.mk hE
    have HM := Aside0.mk hm
    have HV := Aside0.mk hv
    have HH := Aside0.mk hh
    clear c2 hs ht hw hg he hE hm hm1 hv hh hq
    go_enter Try.func12, Try.ntmps12
    go_wp2_with (first
      | (go_at_call 48; (with_reducible refine (laws_szEntryS.calls k A0 c0 l0 1048576 s _ HR.out HC.out HS.out).mono ?_); rintro e W1 ⟨rfl, hb1⟩; have F1 := Aside0.mk hb1; clear hb1 HS)
      | (go_at_call 50; (with_reducible refine (laws_toEntryS.calls k A0 c0 l0 t _ (Kd.C_below HR.out F1.out) HC.out HT.out).mono ?_); rintro e W2 ⟨x_, rfl, hS, hb⟩; obtain ⟨Ax, cx, rfl⟩ := Kd.S_slice hS; have FX := Aside0.mk (Kd.S_reads' hS).2; have F2 := Aside0.mk (below_step F1.out hb); clear hS hb F1)
      | (go_at_call 57; (with_reducible refine (spec_Live.calls k Ax cx t a1 v _ FX.out.2 FX.out.1 HW.out).mono ?_); rintro e W3 ⟨vw_, rfl, hS, hb⟩; obtain ⟨Aw, cw, rfl⟩ := Kd.S_slice hS; have A3 := Aside0.mk (show Below w.heap.size w W3 ∧ Kd.S k90 90 W3 w.heap.size (fun k => k < W3.heap.size) (.slice Aw v.length cw) v from ⟨below_step F2.out hb, Kd.S_lower (Kd.S_mono (Kd.S_bound hS) (fun k hk => hk.2.2.1)) (below_size F2.out)⟩); clear hS hb F2 FX HW)
      | (go_at_call 50; (with_reducible refine (laws_toEntryS.calls k A0 c0 l0 t _ (Kd.C_below HR.out A3.out.1) HC.out HT.out).mono ?_); rintro e W6 ⟨x_, rfl, hS, hb⟩; obtain ⟨Ay, cy, rfl⟩ := Kd.S_slice hS; have X6 := Aside0.mk (show Kd.S k90 90 W6 w.heap.size (fun k => W3.heap.size ≤ k ∧ k < W6.heap.size) (.slice Ay t.length cy) t from Kd.S_lower (Kd.S_mono (Kd.S_bound hS) (fun k hk => ⟨hk.2.1, hk.2.2.1⟩)) (below_size A3.out.1)); have A6 := Aside0.mk (And.intro (below_step A3.out.1 hb) (Kd.S_below A3.out.2 hb)); have LE := Aside0.mk hb.size; clear hS hb A3)
      | (go_at_call 58; (with_reducible refine (impl_Live.calls k Ay cy t a1 v _ (Kd.S_reads' X6.out).2.2 (Kd.S_reads' X6.out).2.1 HG.out).mono ?_); rintro e W7 ⟨vg_, rfl, hS, hb⟩; obtain ⟨Ag, cg, rfl⟩ := Kd.S_slice hS; have X7 := Aside0.mk (Kd.S_below X6.out hb); have G7 := Aside0.mk (show Kd.S k90 90 W7 w.heap.size (fun k => W6.heap.size ≤ k) (.slice Ag v.length cg) v from Kd.S_lower (Kd.S_mono (Kd.S_bound hS) (fun k hk => hk.2.1)) (below_size A6.out.1)); have A7 := Aside0.mk (And.intro (below_step A6.out.1 hb) (Kd.S_below A6.out.2 hb)); clear hS hb X6 A6)
      | (go_at_call 53; (with_reducible refine (laws_eqEntryS.calls k Ag cg v Aw cw v true _ (Kd.S_reads' G7.out).2.2 (Kd.S_reads' G7.out).2.1 (Kd.S_reads' A7.out.2).2.2 (Kd.S_reads' A7.out.2).2.1 HE.out).mono ?_); rintro e W10 ⟨rfl, hb⟩; have G10 := Aside0.mk (Kd.S_below G7.out hb); have X10 := Aside0.mk (Kd.S_below X7.out hb); have A10 := Aside0.mk (And.intro (below_step A7.out.1 hb) (Kd.S_below A7.out.2 hb)); clear hb G7 A7 X7)
      | (go_at_call 50; (with_reducible refine (laws_toEntryS.calls k A0 c0 l0 t _ (Kd.C_below HR.out A10.out.1) HC.out HT.out).mono ?_); rintro e W11 ⟨x_, rfl, hS, hb⟩; obtain ⟨Az, cz, rfl⟩ := Kd.S_slice hS; have FZ := Aside0.mk (Kd.S_reads' hS).2; have G11 := Aside0.mk (Kd.S_below G10.out hb); have X11 := Aside0.mk (Kd.S_below X10.out hb); have A11 := Aside0.mk (And.intro (below_step A10.out.1 hb) (Kd.S_below A10.out.2 hb)); clear hS hb G10 A10 X10)
      | (go_at_call 53; (with_reducible refine (laws_eqEntryS.calls k Ay cy t Az cz t true _ (Kd.S_reads' X11.out).2.2 (Kd.S_reads' X11.out).2.1 FZ.out.2 FZ.out.1 HEE.out).mono ?_); rintro e W12 ⟨rfl, hb⟩; have G12 := Aside0.mk (Kd.S_below G11.out hb); have X12 := Aside0.mk (Kd.S_below X11.out hb); have A12 := Aside0.mk (And.intro (below_step A11.out.1 hb) (Kd.S_below A11.out.2 hb)); clear hb G11 A11 X11 FZ)
      | (go_at_call 54; (with_reducible refine (laws_markEntryS.calls k (fun k => W3.heap.size ≤ k ∧ k < W6.heap.size) _ t 1 m1 m2 w _ A12.out.1 X12.out HM.out).mono ?_); rintro e W13 ⟨rfl, -, hB, hK⟩; have G13 := Aside0.mk (Kd.S_kept G12.out hK (fun k hk h => by omega)); have A13 := Aside0.mk (And.intro hB (Kd.S_kept A12.out.2 hK (fun k hk h => by omega))); clear hB hK G12 A12 X12)
      | (go_at_call 53; (with_reducible refine (laws_eqEntryS.calls k Ag cg v Aw cw v true _ (Kd.S_reads' G13.out).2.2 (Kd.S_reads' G13.out).2.1 (Kd.S_reads' A13.out.2).2.2 (Kd.S_reads' A13.out.2).2.1 HE.out).mono ?_); rintro e W14 ⟨rfl, hb⟩; have G14 := Aside0.mk (Kd.S_below G13.out hb); have A14 := Aside0.mk (And.intro (below_step A13.out.1 hb) (Kd.S_below A13.out.2 hb)); clear hb G13 A13)
      | (go_at_call 54; (with_reducible refine (laws_markEntryS.calls k (fun k => W6.heap.size ≤ k) _ v 1 q g2 w _ A14.out.1 G14.out HV.out).mono ?_); rintro e W15 ⟨rfl, hS, hB, hK⟩; have G15 := Aside0.mk hS; have A15 := Aside0.mk (And.intro hB (Kd.S_kept A14.out.2 hK (fun k hk h => by have := LE.out; omega))); clear hS hB hK G14 A14)
      | (go_at_call 59; have e4 := (Kd.S_reads' G15.out).1; (refine calls_of_args (args' := #[.slice Ag g2.length cg, .int .i64 1]) (by rw [e4]) ?_; with_reducible refine (laws_heldEntryS.calls k Ag cg g2 1 q _ (Kd.S_reads' G15.out).2.2 (by rw [← e4]; exact (Kd.S_reads' G15.out).2.1) HH.out).mono ?_); rintro e W16 ⟨rfl, hb⟩; have G16 := Aside0.mk (Kd.S_below G15.out hb); have A16 := Aside0.mk (And.intro (below_step A15.out.1 hb) (Kd.S_below A15.out.2 hb)); clear hb e4 G15 A15)
      | (go_at_call 50; (with_reducible refine (laws_toEntryS.calls k A0 c0 l0 t _ (Kd.C_below HR.out A16.out.1) HC.out HT.out).mono ?_); rintro e W17 ⟨x_, rfl, hS, hb⟩; obtain ⟨Au, cu, rfl⟩ := Kd.S_slice hS; have FU := Aside0.mk (Kd.S_reads' hS).2; have G17 := Aside0.mk (Kd.S_below G16.out hb); have A17 := Aside0.mk (And.intro (below_step A16.out.1 hb) (Kd.S_below A16.out.2 hb)); clear hS hb G16 A16)
      | (go_at_call 58; (with_reducible refine (impl_Live.calls k Au cu t a1 v _ FU.out.2 FU.out.1 HG.out).mono ?_); rintro e W18 ⟨vh_, rfl, hS, hb⟩; obtain ⟨Ah, ch, rfl⟩ := Kd.S_slice hS; have R18 := Aside0.mk (Kd.S_reads' hS).2; have G18 := Aside0.mk (Kd.S_below G17.out hb); have A18 := Aside0.mk (And.intro (below_step A17.out.1 hb) (Kd.S_below A17.out.2 hb)); clear hS hb G17 A17 FU)
      | (go_at_call 53; (with_reducible refine (laws_eqEntryS.calls k Ah ch v Aw cw v true _ R18.out.2 R18.out.1 (Kd.S_reads' A18.out.2).2.2 (Kd.S_reads' A18.out.2).2.1 HE.out).mono ?_); rintro e W21 ⟨rfl, hb⟩; have G21 := Aside0.mk (Kd.S_below G18.out hb); have F21 := Aside0.mk (below_step A18.out.1 hb); clear hb G18 A18 R18)
      | (go_at_call 59; have e4 := (Kd.S_reads' G21.out).1; (refine calls_of_args (args' := #[.slice Ag g2.length cg, .int .i64 1]) (by rw [e4]) ?_; with_reducible refine (laws_heldEntryS.calls k Ag cg g2 1 q _ (Kd.S_reads' G21.out).2.2 (by rw [← e4]; exact (Kd.S_reads' G21.out).2.1) HH.out).mono ?_); rintro e W22 ⟨rfl, hb⟩; have F22 := Aside0.mk (below_step F21.out hb); clear hb e4 G21 F21))
    go_ret
    exact ⟨rfl, F22.out⟩

end Go.Proofs.Ytgfacdhkamphiaa.PFnExactLive
