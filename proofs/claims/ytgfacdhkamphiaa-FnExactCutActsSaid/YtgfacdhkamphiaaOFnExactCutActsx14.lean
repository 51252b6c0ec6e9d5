/- Walks of functions that the law FnExactCutActs reaches, turned by this session from a print of which a part did not build; what was changed is listed in wip/patches of the proofs' repo. -/
import Derived.Test.YtgfacdhkamphiaaOFnExactCutActsx0
namespace Go.Proofs.Ytgfacdhkamphiaa.PFnExactCutActs
open Go.RowKit Go.Proofs.YtgfacdhkamphiaaW.PrintWords Go.Proofs.YtgfacdhkamphiaaW.PrintLast Go.Proofs.YtgfacdhkamphiaaW.PrintMore
attribute [local go_sem] max2_int min2_int max_two min_two max_three min_three max_four min_four   -- for this text's walks alone
set_option linter.unusedVariables false
set_option linter.unusedSimpArgs false

/-! ### spec_l03Put: function 74 -/
mutual
def spec_l03Put.l0 : Nat → Int → List (S45) → ByteArray → ByteArray → Int → List (S45) → Option ((List (S45)))
 | 0,_,_,_,_,_,_ => none
 | k + 1,x6,x267000,x268000,x268001,x268002,x270000 => if x6 < (x267000.length : Int) then (if 0 ≤ x6 then (if (Op.bytesLess (((rd_T45 x267000 x6).f0).toList) x268000.toList) = true then (if x270000.length < 3518437208883 then (spec_l03Put.l0 k (wrap64 (x6 + 1)) x267000 x268000 x268001 x268002 (x270000 ++ [(⟨(rd_T45 x267000 x6).f0,(rd_T45 x267000 x6).f1,(rd_T45 x267000 x6).f2⟩ : S45)])) else (none)) else (spec_l03Put.l0 k (wrap64 (x6 + 1)) x267000 x268000 x268001 x268002 x270000)) else (none)) else (if x270000.length < 3518437208883 then (spec_l03Put.l1 k 0 x267000 x268000 x268001 x268002 (x270000 ++ [(⟨x268000,x268001,x268002⟩ : S45)])) else (none))
def spec_l03Put.l1 : Nat → Int → List (S45) → ByteArray → ByteArray → Int → List (S45) → Option ((List (S45)))
 | 0,_,_,_,_,_,_ => none
 | k + 1,x7,x267000,x268000,x268001,x268002,x270000 => if x7 < (x267000.length : Int) then (if 0 ≤ x7 then (if (Op.bytesLess x268000.toList (((rd_T45 x267000 x7).f0).toList)) = true then (if x270000.length < 3518437208883 then (spec_l03Put.l1 k (wrap64 (x7 + 1)) x267000 x268000 x268001 x268002 (x270000 ++ [(⟨(rd_T45 x267000 x7).f0,(rd_T45 x267000 x7).f1,(rd_T45 x267000 x7).f2⟩ : S45)])) else (none)) else (spec_l03Put.l1 k (wrap64 (x7 + 1)) x267000 x268000 x268001 x268002 x270000)) else (none)) else (some x270000)
end
def spec_l03Put.f (k : Nat) (l0_0 : List (S45)) (a1_0 : ByteArray) (a1_1 : ByteArray) (a1_2 : Int) : Option ((List (S45))):=spec_l03Put.l0 k 0 l0_0 a1_0 a1_1 a1_2 ([] : List (S45))
theorem spec_l03Put.mono_l : ∀ k,(∀ y0 y1 y2 y3 y4 y5,LeO (spec_l03Put.l0 k y0 y1 y2 y3 y4 y5) (spec_l03Put.l0 (k + 1) y0 y1 y2 y3 y4 y5)) ∧ (∀ y0 y1 y2 y3 y4 y5,LeO (spec_l03Put.l1 k y0 y1 y2 y3 y4 y5) (spec_l03Put.l1 (k + 1) y0 y1 y2 y3 y4 y5))
 | 0 => ⟨fun _ _ _ _ _ _ r h => by simp [spec_l03Put.l0] at h,fun _ _ _ _ _ _ r h => by simp [spec_l03Put.l1] at h⟩
 | k + 1 => by
  obtain ⟨ih0,ih1⟩:=spec_l03Put.mono_l k
  refine ⟨?_,?_⟩
  ·intro y0 y1 y2 y3 y4 y5
   unfold spec_l03Put.l0
   repeat' first
   | (with_reducible exact ih0 _ _ _ _ _ _)
   | (with_reducible exact ih1 _ _ _ _ _ _)
   | (with_reducible exact LeO.refl _)
   | (with_reducible exact LeO.none _)
   | (with_reducible refine LeO.ite ?_ ?_)
   | (with_reducible refine LeO.bind ?_ (fun _ => ?_))
   | exact ih0 _ _ _ _ _ _
   | exact ih1 _ _ _ _ _ _
   | exact LeO.none _
   | refine LeO.ite ?_ ?_
   | refine LeO.bind ?_ (fun _ => ?_)
  ·intro y0 y1 y2 y3 y4 y5
   unfold spec_l03Put.l1
   repeat' first
   | (with_reducible exact ih0 _ _ _ _ _ _)
   | (with_reducible exact ih1 _ _ _ _ _ _)
   | (with_reducible exact LeO.refl _)
   | (with_reducible exact LeO.none _)
   | (with_reducible refine LeO.ite ?_ ?_)
   | (with_reducible refine LeO.bind ?_ (fun _ => ?_))
   | exact ih0 _ _ _ _ _ _
   | exact ih1 _ _ _ _ _ _
   | exact LeO.none _
   | refine LeO.ite ?_ ?_
   | refine LeO.bind ?_ (fun _ => ?_)
theorem spec_l03Put.mono : ∀ a0 a1 a2 a3 k,LeO (spec_l03Put.f k a0 a1 a2 a3) (spec_l03Put.f (k + 1) a0 a1 a2 a3):=by
 intro a0 a1 a2 a3 k
 obtain ⟨ih0,ih1⟩:=spec_l03Put.mono_l k
 unfold spec_l03Put.f
 repeat' first
   | (with_reducible exact ih0 _ _ _ _ _ _)
   | (with_reducible exact ih1 _ _ _ _ _ _)
   | (with_reducible exact LeO.refl _)
   | (with_reducible exact LeO.none _)
   | (with_reducible refine LeO.ite ?_ ?_)
   | (with_reducible refine LeO.bind ?_ (fun _ => ?_))
   | exact ih0 _ _ _ _ _ _
   | exact ih1 _ _ _ _ _ _
   | exact LeO.none _
   | refine LeO.ite ?_ ?_
   | refine LeO.bind ?_ (fun _ => ?_)
def spec_l03Put.T5 : Bool × List (List Nat × List Nat):=(true,[([],[]),([0],[0]),([],[]),([1,2],[1,2]),([3],[3]),([4],[4]),([],[]),([6],[6]),([5,7],[5,7])])
def spec_l03Put.B5 : List Nat:=[0,1,0,7,15,31,0,64,255]
theorem spec_l03Put.tab5 : rtab .any (opsOf Try.f74 5) = spec_l03Put.T5:=by kernel_rfl
theorem spec_l03Put.bits5 : waitsOk spec_l03Put.T5.2 spec_l03Put.B5 = true:=by kernel_rfl
def spec_l03Put.T6 : Bool × List (List Nat × List Nat):=(true,[([],[]),([0],[0]),([],[]),([2],[2]),([],[]),([3,4],[3,4]),([5],[5]),([6],[6]),([1,7],[1,7]),([0,1,2,3,4,5,6,7,8],[]),([9,8,8,0,1,2,3,4,5,6,7,8],[8,9])])
def spec_l03Put.B6 : List Nat:=[0,1,0,4,0,28,60,124,255,511,1023]
theorem spec_l03Put.tab6 : rtab .any (opsOf Try.f74 6) = spec_l03Put.T6:=by kernel_rfl
theorem spec_l03Put.bits6 : waitsOk spec_l03Put.T6.2 spec_l03Put.B6 = true:=by kernel_rfl
def spec_l03Put.T11 : Bool × List (List Nat × List Nat):=(true,[([],[]),([0],[0]),([],[]),([1,2],[1,2]),([3],[3]),([4],[4]),([],[]),([6],[6]),([5,7],[5,7])])
def spec_l03Put.B11 : List Nat:=[0,1,0,7,15,31,0,64,255]
theorem spec_l03Put.tab11 : rtab .any (opsOf Try.f74 11) = spec_l03Put.T11:=by kernel_rfl
theorem spec_l03Put.bits11 : waitsOk spec_l03Put.T11.2 spec_l03Put.B11 = true:=by kernel_rfl
def spec_l03Put.T12 : Bool × List (List Nat × List Nat):=(true,[([],[]),([0],[0]),([],[]),([2],[2]),([],[]),([3,4],[3,4]),([5],[5]),([6],[6]),([1,7],[1,7]),([0,1,2,3,4,5,6,7,8],[]),([9,8,8,0,1,2,3,4,5,6,7,8],[8,9])])
def spec_l03Put.B12 : List Nat:=[0,1,0,4,0,28,60,124,255,511,1023]
theorem spec_l03Put.tab12 : rtab .any (opsOf Try.f74 12) = spec_l03Put.T12:=by kernel_rfl
theorem spec_l03Put.bits12 : waitsOk spec_l03Put.T12.2 spec_l03Put.B12 = true:=by kernel_rfl
set_option maxHeartbeats 8000000 in
set_option maxRecDepth 100000 in
theorem spec_l03Put.calls (k : Nat) (A0_0 : Option Addr) (c0_0 : Nat) (l0_0 : List (S45)) (a1_0 : ByteArray) (a1_1 : ByteArray) (a1_2 : Int) (r : List (S45)) (w : World) (hr0_0 : Kd.C k45 w A0_0 l0_0.length l0_0) (hc0_0 : l0_0.length ≤ c0_0) (h : spec_l03Put.f k l0_0 a1_0 a1_1 a1_2 = some r) :
  Calls Try.prog 74 #[.agg #[.slice A0_0 l0_0.length c0_0],.agg #[.string a1_0,.string a1_1,.int .i64 a1_2]] w fun e w' => ∃ v0_ : Value,e = .returned (.agg #[v0_]) ∧ Kd.R k45 45 w' w.heap.size (fun _ => True) v0_ r ∧ Below w.heap.size w w':=by
 have hu30:=Try.underlying30
 have hu45:=Try.underlying45
 have HR0_0:=Aside0.mk hr0_0
 have HC0_0:=Aside0.mk hc0_0
 clear hr0_0 hc0_0
 have HB:=Aside0.mk (Below.refl w.heap.size w)
 have H : (spec_l03Put.l0 k 0 l0_0 a1_0 a1_1 a1_2 ([] : List (S45))) = some r:=h
 clear h
 have H':=Aside0.mk H
 clear H
 go_enter Try.func74,Try.ntmps74
 go_wp2_with (first | ((with_reducible refine gate_dst (N:=2) rfl ?_);refine box_event ?hg (N:=2) ?hd (cs:=#[.slice A0_0 l0_0.length c0_0]) (t:=30) ?hr ?_;(case hd => rfl);(case hg => rfl);(case hr => first | (go_simp;done) | (go_simp;rfl));intro gb266 hg w3 hbox hb;have BK266:=Aside0.mk hbox;have GW266:=zz0 hg HB;have GE266:=zz0 hg HB;replace HB:=zs0 HB hb;clear hb hbox hg) | ((with_reducible refine gate_dst (N:=3) rfl ?_);refine box_event ?hg (N:=3) ?hd (cs:=#[.string a1_0,.string a1_1,.int .i64 a1_2]) (t:=45) ?hr ?_;(case hd => rfl);(case hg => rfl);(case hr => first | (go_simp;done) | (go_simp;rfl));intro gb267 hg w4 hbox hb;have BK267:=Aside0.mk hbox;have GW267:=zz0 hg HB;have GE267:=zz0 hg HB;replace HB:=zs0 HB hb;have NB266_267:=zl0 hg BK266;have NB267_266:=zg0 hg BK266;replace BK266:=zb0 BK266 hb;clear hb hbox hg) | ((with_reducible refine gate_dst (N:=4) rfl ?_);refine box_event ?hg (N:=4) ?hd (cs:=#[.slice none 0 0]) (t:=30) ?hr ?_;(case hd => rfl);(case hg => rfl);(case hr => first | (go_simp;done) | (go_simp;rfl));intro gb268 hg w5 hbox hb;have BK268:=Aside0.mk hbox;have GW268:=zz0 hg HB;have GE268:=zz0 hg HB;replace HB:=zs0 HB hb;have NB266_268:=zl0 hg BK266;have NB268_266:=zg0 hg BK266;replace BK266:=zb0 BK266 hb;have NB267_268:=zl0 hg BK267;have NB268_267:=zg0 hg BK267;replace BK267:=zb0 BK267 hb;clear hb hbox hg) | ((with_reducible refine gate_dst (N:=5) rfl ?_);refine box_event ?hg (N:=5) ?hd (cs:=#[.slice none 0 0]) (t:=30) ?hr ?_;(case hd => rfl);(case hg => rfl);(case hr => first | (go_simp;done) | (go_simp;rfl));intro gb269 hg w6 hbox hb;have BK269:=Aside0.mk hbox;have GW269:=zz0 hg HB;have GE269:=zz0 hg HB;replace HB:=zs0 HB hb;have NB266_269:=zl0 hg BK266;have NB269_266:=zg0 hg BK266;replace BK266:=zb0 BK266 hb;have NB267_269:=zl0 hg BK267;have NB269_267:=zg0 hg BK267;replace BK267:=zb0 BK267 hb;have NB268_269:=zl0 hg BK268;have NB269_268:=zg0 hg BK268;replace BK268:=zb0 BK268 hb;clear hb hbox hg;obtain ⟨_,_⟩:=zn0 NB269_266;obtain ⟨_,_⟩:=zn0 NB269_267;obtain ⟨_,_⟩:=zn0 NB269_268;have hcz10_0:=zc00 BK269;have hfz10_0:=blk_frozen BK269.out 0))
 go_loopg [6] k (fun kq v6 w' => ∃ (x6_1 : Int) (x270000_1 : List (S45)) (u270000 : Value),v6 = .int .i64 x6_1 ∧ Aside0 (spec_l03Put.l0 kq x6_1 l0_0 a1_0 a1_1 a1_2 x270000_1 = some r) ∧ Aside0 (kq ≤ k) ∧ Aside0 (Kd.R k45 45 w' w.heap.size (fun k_ => k_ ≠ gb267) u270000 x270000_1) ∧ Aside0 (w'.heap[gb266]? = some (.cells #[(.slice A0_0 l0_0.length c0_0)] 30 (0,0))) ∧ Aside0 (w'.heap[gb267]? = some (.cells #[.string a1_0,.string a1_1,.int .i64 a1_2] 45 (0,0))) ∧ Aside0 (w'.heap[gb268]? = some (.cells #[(.slice none 0 0)] 30 (0,0))) ∧ Aside0 (w'.heap[gb269]? = some (.cells #[u270000] 30 (0,0))) ∧ Aside0 (Below w.heap.size w w'))
 case atStart => exact ⟨(0),(([] : List (S45))),(.slice none 0 0),zE0,H',⟨Nat.le_refl _⟩,⟨by first | exact Kd.R_nil _ _ _ _ _ | exact Kd.N_nil _ _ _ _ _ | exact Kd.V_nil _ _ _ _ _ | exact Kd.Q_nil _ _ _ _ _ | exact Kd.S_nil _ _ _ _ _⟩,⟨zK0 BK266.out⟩,⟨zK0 BK267.out⟩,⟨zK0 BK268.out⟩,⟨by refine zT0 ?_;refine blk_put (cs:=#[.slice none 0 0]) ?_ 0 _ rfl;exact zK0 BK269.out⟩,⟨zY0 HB.out⟩⟩
 case round =>
  clear H'
  try clear hcz10_0
  try clear hfz10_0
  obtain ⟨x6_1,x270000_1,u270000,rfl,HA,HK1,HO_270000,BK266,BK267,BK268,BK269,HB⟩:=hrel
  cases gk with
  | zero => exact absurd HA.out (by simp [spec_l03Put.l0])
  | succ k1 =>
   have H:=HA.out
   clear HA
   simp only [spec_l03Put.l0] at H
   by_cases c11 : x6_1 < (l0_0.length : Int)
   ·rw [if_pos c11] at H
    have c11b0 : decide (x6_1 < (l0_0.length : Int)) = true:=decide_eq_true c11
    clear c11
    by_cases c12 : 0 ≤ x6_1
    ·rw [if_pos c12] at H
     have c12b0 : decide (0 ≤ x6_1) = true:=decide_eq_true c12
     clear c12
     by_cases c13 : (Op.bytesLess (((rd_T45 l0_0 x6_1).f0).toList) a1_0.toList) = true
     ·rw [if_pos c13] at H
      have c13b0 : (Op.bytesLess (((rd_T45 l0_0 x6_1).f0).toList) a1_0.toList) = true:=c13
      clear c13
      by_cases c14 : x270000_1.length < 3518437208883
      ·rw [if_pos c14] at H
       have LMc14:=Aside0.mk c14
       clear c14
       obtain ⟨y272,hy272⟩ : ∃ y_ : List (S45),y_ = (x270000_1 ++ [(⟨(rd_T45 l0_0 x6_1).f0,(rd_T45 l0_0 x6_1).f1,(rd_T45 l0_0 x6_1).f2⟩ : S45)]):=⟨_,rfl⟩
       replace H : (spec_l03Put.l0 k1 (wrap64 (x6_1 + 1)) l0_0 a1_0 a1_1 a1_2 y272) = some r:=by first | (rw [hy272];with_reducible exact H) | (have H2_:=(Option.bind_some _ _).symm.trans H;rw [hy272];with_reducible exact H2_) | (have H2_:=(Option.bind_some _ _).symm.trans H;with_reducible exact H2_) | with_reducible exact H | (rw [hy272];exact H) | exact H
       have Ny272:=Aside0.mk hy272
       clear hy272
       have H':=Aside0.mk H
       clear H
       obtain ⟨_,_⟩:=zn0 NB266_267
       obtain ⟨_,_⟩:=zn0 NB266_268
       obtain ⟨_,_⟩:=zn0 NB266_269
       have hcz18_0 : wr.cell? ⟨gb266,0,none⟩ = some (.slice A0_0 l0_0.length c0_0):=(blk_cell BK266.out 0).trans rfl
       have hfz18_0:=blk_frozen BK266.out 0
       try go_wp2
       replace HO_270000:=Aside0.mk (Kd.R_drew HO_270000.out)
       replace BK266:=Aside0.mk (blk_drew BK266.out)
       replace BK267:=Aside0.mk (blk_drew BK267.out)
       replace BK268:=Aside0.mk (blk_drew BK268.out)
       replace BK269:=Aside0.mk (blk_drew BK269.out)
       replace HB:=Aside0.mk (below_drew1 HB.out)
       have p270 : 0 ≤ (x6_1 : Int):=zD0
       have q270 : x6_1 < (l0_0.length : Int):=zD0
       obtain ⟨ad270,e270,hx270_0,hx270_1,hx270_2⟩:=at_T45 HR0_0.out x6_1 p270 q270
       have hw270_2:=hx270_2
       have hw270_1:=hx270_1
       have hw270_0:=hx270_0
       cases e270
       replace hx270_0:=zx0 HB hx270_0
       replace hx270_1:=zx0 HB hx270_1
       replace hx270_2:=zx0 HB hx270_2
       replace p270:=eq_true p270
       replace q270:=eq_true q270
       refine start_ (n:=9) (S:=fun w' => w'.cell? ⟨gb266,0,none⟩ = some (.slice (some ad270) l0_0.length c0_0) ∧ w'.cell? ⟨gb267,0,none⟩ = some (.string a1_0) ∧ w'.cell? ⟨gb267,1,none⟩ = some (.string a1_1) ∧ w'.cell? ⟨gb267,2,none⟩ = some (.int .i64 a1_2) ∧ w'.cell? (ad270.add ((x6_1).toNat * 3)) = some (.string ((rd_T45 l0_0 x6_1).f0)) ∧ w'.cell? ⟨(ad270.add ((x6_1).toNat * 3)).block,(ad270.add ((x6_1).toNat * 3)).off + 1,none⟩ = some (.string ((rd_T45 l0_0 x6_1).f1)) ∧ w'.cell? ⟨(ad270.add ((x6_1).toNat * 3)).block,(ad270.add ((x6_1).toNat * 3)).off + 2,none⟩ = some (.int .i64 ((rd_T45 l0_0 x6_1).f2))) (ds:=[]) (zF0 9 0) (by kernel_rfl) rfl rfl ⟨(blk_cell BK266.out 0).trans rfl,(blk_cell BK267.out 0).trans rfl,(blk_cell BK267.out 1).trans rfl,(blk_cell BK267.out 2).trans rfl,(zx0 HB hw270_0 :),(zx0 HB hw270_1 :),(zx0 HB hw270_2 :)⟩ (fun hHeld => ?_);refine with_tabW spec_l03Put.tab5 spec_l03Put.bits5 (fun HT_ HW_ => ?_)
       generalize wr.drew = w19 at HO_270000 BK266 BK267 BK268 BK269 HB hx270_0 hx270_1 hx270_2 hHeld ⊢
       refine zp0 0 16 9 1 HT_ ?_
       refine zp0 2 18 9 5 HT_ ?_
       refine zp0 6 22 9 69 HT_ ?_
       refine take_ (i:=1) (N:=some 17) (v:=?_) (a':=?_) (zF0 9 71) rfl rfl (take_ofW HT_.out HW_.out (by kernel_rfl)) (fun _ _ _ h => h) (Or.inl ⟨by rfl,?_⟩) hHeld ?_ ?_;rotate_left
       ·rintro w' ⟨s0,s1,s2,s3,s4,s5,s6⟩
        go_simp
        with_reducible rfl
       rotate_left
       ·simp only [Act.put,qA0,qB0,qC0,i64_w,i32_w];rfl
       refine zp0 3 19 9 79 HT_ ?_
       refine zp0 4 20 9 95 HT_ ?_
       refine take_ (i:=5) (N:=some 21) (v:=?_) (a':=?_) (zF0 9 127) rfl rfl (take_ofW HT_.out HW_.out (by kernel_rfl)) (fun _ _ _ h => h) (Or.inl ⟨by rfl,?_⟩) hHeld ?_ ?_;rotate_left
       ·rintro w' ⟨s0,s1,s2,s3,s4,s5,s6⟩
        go_simp
        with_reducible rfl
       rotate_left
       ·simp only [Act.put,qA0,qB0,qC0,i64_w,i32_w];rfl
       refine take_ (i:=7) (N:=some 23) (v:=?_) (a':=?_) (zF0 9 255) rfl rfl (take_ofW HT_.out HW_.out (by kernel_rfl)) (fun _ _ _ h => h) (Or.inl ⟨by rfl,?_⟩) hHeld ?_ ?_;rotate_left
       ·rintro w' ⟨s0,s1,s2,s3,s4,s5,s6⟩
        go_simp
        with_reducible rfl
       rotate_left
       ·simp only [Act.put,qA0,qB0,qC0,i64_w,i32_w];rfl
       refine zp0 8 24 9 511 HT_ ?_
       refine done_ (done_of HT_.out (by kernel_rfl)) ?_
       try go_wp2
       replace HO_270000:=Aside0.mk (Kd.R_drew HO_270000.out)
       replace BK266:=Aside0.mk (blk_drew BK266.out)
       replace BK267:=Aside0.mk (blk_drew BK267.out)
       replace BK268:=Aside0.mk (blk_drew BK268.out)
       replace BK269:=Aside0.mk (blk_drew BK269.out)
       replace HB:=Aside0.mk (below_drew1 HB.out)
       have p271 : 0 ≤ (x6_1 : Int):=zD0
       have q271 : x6_1 < (l0_0.length : Int):=zD0
       obtain ⟨ad271,e271,hx271_0,hx271_1,hx271_2⟩:=at_T45 HR0_0.out x6_1 p271 q271
       have hw271_2:=hx271_2
       have hw271_1:=hx271_1
       have hw271_0:=hx271_0
       obtain rfl : ad270 = ad271:=(by injection e271)
       replace hx271_0:=zx0 HB hx271_0
       replace hx271_1:=zx0 HB hx271_1
       replace hx271_2:=zx0 HB hx271_2
       replace p271:=eq_true p271
       replace q271:=eq_true q271
       refine start_ (n:=11) (S:=fun w' => w'.cell? ⟨gb269,0,none⟩ = some (u270000) ∧ w'.cell? ⟨gb266,0,none⟩ = some (.slice (some ad270) l0_0.length c0_0) ∧ w'.cell? (ad270.add ((x6_1).toNat * 3)) = some (.string ((rd_T45 l0_0 x6_1).f0)) ∧ w'.cell? ⟨(ad270.add ((x6_1).toNat * 3)).block,(ad270.add ((x6_1).toNat * 3)).off + 1,none⟩ = some (.string ((rd_T45 l0_0 x6_1).f1)) ∧ w'.cell? ⟨(ad270.add ((x6_1).toNat * 3)).block,(ad270.add ((x6_1).toNat * 3)).off + 2,none⟩ = some (.int .i64 ((rd_T45 l0_0 x6_1).f2))) (ds:=[10]) (zF0 11 0) (by kernel_rfl) rfl rfl ⟨(blk_cell BK269.out 0).trans rfl,(blk_cell BK266.out 0).trans rfl,(zx0 HB hw271_0 :),(zx0 HB hw271_1 :),(zx0 HB hw271_2 :)⟩ (fun hHeld => ?_);refine with_tabW spec_l03Put.tab6 spec_l03Put.bits6 (fun HT_ HW_ => ?_)
       generalize w19.drew = w20 at HO_270000 BK266 BK267 BK268 BK269 HB hx271_0 hx271_1 hx271_2 hHeld ⊢
       refine zp0 0 25 11 1 HT_ ?_
       refine zp0 2 27 11 5 HT_ ?_
       refine zp0 4 29 11 21 HT_ ?_
       refine take_ (i:=1) (N:=some 26) (v:=?_) (a':=?_) (zF0 11 23) rfl rfl (take_ofW HT_.out HW_.out (by kernel_rfl)) (fun _ _ _ h => h) (Or.inl ⟨by rfl,?_⟩) hHeld ?_ ?_;rotate_left
       ·rintro w' ⟨s0,s1,s2,s3,s4⟩
        go_simp
        with_reducible rfl
       rotate_left
       ·simp only [Act.put,qA0,qB0,qC0,i64_w,i32_w];rfl
       refine take_ (i:=3) (N:=some 28) (v:=?_) (a':=?_) (zF0 11 31) rfl rfl (take_ofW HT_.out HW_.out (by kernel_rfl)) (fun _ _ _ h => h) (Or.inl ⟨by rfl,?_⟩) hHeld ?_ ?_;rotate_left
       ·rintro w' ⟨s0,s1,s2,s3,s4⟩
        go_simp
        with_reducible rfl
       rotate_left
       ·simp only [Act.put,qA0,qB0,qC0,i64_w,i32_w];rfl
       refine zp0 5 30 11 63 HT_ ?_
       refine take_ (i:=6) (N:=some 31) (v:=?_) (a':=?_) (zF0 11 127) rfl rfl (take_ofW HT_.out HW_.out (by kernel_rfl)) (fun _ _ _ h => h) (Or.inl ⟨by rfl,?_⟩) hHeld ?_ ?_;rotate_left
       ·rintro w' ⟨s0,s1,s2,s3,s4⟩
        go_simp
        with_reducible rfl
       rotate_left
       ·simp only [Act.put,qA0,qB0,qC0,i64_w,i32_w];rfl
       refine one_ (i:=7) (N:=some 32) (zF0 11 255) rfl rfl (one_of HT_.out (by kernel_rfl)) (by decide) (fun K hK => ?_)
       refine value_ (w1:=?_) (v:=?_) (by rfl) rfl ?_ ?_
       rotate_left 2
       ·go_simp
        constructor
        ·rfl
        ·rfl
       refine hK.out _ _ ⟨(blk_cell (blk_alloc BK269.out _) 0).trans rfl,(blk_cell (blk_alloc BK266.out _) 0).trans rfl,(World.cell?_alloc_lt _ _ _ (World.block_lt_of_cell? _ _ ((zx0 HB hw271_0 :)))).trans ((zx0 HB hw271_0 :)),(World.cell?_alloc_lt _ _ _ (World.block_lt_of_cell? _ _ ((zx0 HB hw271_1 :)))).trans ((zx0 HB hw271_1 :)),(World.cell?_alloc_lt _ _ _ (World.block_lt_of_cell? _ _ ((zx0 HB hw271_2 :)))).trans ((zx0 HB hw271_2 :))⟩ (fun hHeld => ?_)
       clear hK K
       refine norm_ (a':=?_) ?_ ?_;rotate_left
       ·show Act.put _ (some 32) _ = _;simp only [Act.put,qA0,qB0,qC0,i64_w,i32_w];rfl
       refine one_ (i:=8) (N:=some 33) (zF0 11 511) rfl rfl (one_of HT_.out (by kernel_rfl)) (by decide) (fun K hK => ?_)
       refine Kd.R_append_step k45 (w0:=w) w.heap.size (by rfl) (.tmp 26) (.tmp 32) 28 45 (.agg #[(.string ⟨#[]⟩),(.string ⟨#[]⟩),(.int .i64 0)]) 40 rfl Try.underlying28 info45 rfl (by decide) (by omega) u270000 x270000_1 (⟨(rd_T45 l0_0 x6_1).f0,(rd_T45 l0_0 x6_1).f1,(rd_T45 l0_0 x6_1).f2⟩ : S45) [.string ((rd_T45 l0_0 x6_1).f0),.string ((rd_T45 l0_0 x6_1).f1),.int .i64 ((rd_T45 l0_0 x6_1).f2)] (fun k_ => k_ ≠ gb267) (fun _ => False) rfl rfl ?aP (fun _ hk => hk.elim) ?aF ?aO ?aB ?aS ?aL ?_
       (case aP => exact k45_mkM _ _ _ (⟨(rd_T45 l0_0 x6_1).f0,(rd_T45 l0_0 x6_1).f1,(rd_T45 l0_0 x6_1).f2⟩ : S45))
       (case aB => exact (zY0 HB.out))
       (case aF => exact (fun k_ hk => Kd.freshB (g:=gb267) (o:=.cells #[.string a1_0,.string a1_1,.int .i64 a1_2] 45 (0,0)) (zK0 BK267.out) k_ hk))
       (case aO => exact (zR0 HO_270000.out))
       (case aS => exact (zZ0 HB.out))
       (case aL => have:=LMc14.out;omega)
       intro v273 w21 ho hb hg hat
       rw [← Ny272.out] at ho
       replace BK266:=Aside0.mk (blk_grown (g:=gb266) (o:=.cells #[.slice (some ad270) l0_0.length c0_0] 30 (0,0)) (zK0 BK266.out) hg (Kd.R_ne HO_270000.out BK266.out (by decide)))
       replace BK267:=Aside0.mk (blk_grown (g:=gb267) (o:=.cells #[.string a1_0,.string a1_1,.int .i64 a1_2] 45 (0,0)) (zK0 BK267.out) hg (Kd.R_away HO_270000.out (fun _ hk => hk)))
       replace BK268:=Aside0.mk (blk_grown (g:=gb268) (o:=.cells #[.slice none 0 0] 30 (0,0)) (zK0 BK268.out) hg (Kd.R_ne HO_270000.out BK268.out (by decide)))
       replace BK269:=Aside0.mk (blk_grown (g:=gb269) (o:=.cells #[u270000] 30 (0,0)) (zK0 BK269.out) hg (Kd.R_ne HO_270000.out BK269.out (by decide)))
       replace HB:=Aside0.mk hb
       have HO274:=Aside0.mk ho
       clear HO_270000
       clear ho hb hg hat
       obtain ⟨Ao22,co22,eo22⟩:=Kd.R_slice HO274.out
       (first | subst eo22 | (injection eo22 with f1_ f2_ f3_;have f4_:=f1_.symm;have f5_:=f3_.symm;clear f1_ f2_ f3_;subst f4_;subst f5_))
       refine hK.out _ _ ⟨(blk_cell BK269.out 0).trans rfl,(blk_cell BK266.out 0).trans rfl,(zx0 HB hw271_0 :),(zx0 HB hw271_1 :),(zx0 HB hw271_2 :)⟩ (fun hHeld => ?_)
       clear hK K
       refine norm_ (a':=?_) ?_ ?_;rotate_left
       ·show Act.put _ (some 33) _ = _;simp only [Act.put,qA0,qB0,qC0,i64_w,i32_w];rfl
       refine zp0 9 34 11 1023 HT_ ?_
       refine last_ (i:=10) (N:=none) (zF0 11 2047) rfl rfl (one_of HT_.out (by kernel_rfl)) (by decide) (fun K hK => ?_)
       have hs23 : w21.cell? ⟨gb269,0,none⟩ = some (u270000):=(blk_cell BK269.out 0).trans rfl
       have hfs23:=blk_frozen BK269.out 0
       have hns23_0:=NB266_269.out
       have hns23_1:=NB267_269.out
       have hns23_2:=NB268_269.out
       have hms23_0:=NB269_266.out
       have hms23_1:=NB269_267.out
       have hms23_2:=NB269_268.out
       refine skip_ (w1:=?_) (by rfl) rfl ?_ ?_;rotate_left
       ·go_simp
        rfl
       refine hK.out _ _ ?_
       clear hK K
       refine done_ (done_of HT_.out (by kernel_rfl)) ?_
       try go_wp2
       go_roundg k1
       case measure => have:=HK1.out;omega
       case rel => exact ⟨(wrap64 (x6_1 + 1)),(y272),(.slice Ao22 y272.length co22),zE0,H',⟨by have:=HK1.out;omega⟩,⟨by refine zV0 ?_;exact Kd.R_mono (Kd.R_far (p:=⟨gb269,0,none⟩) (Kd.R_types HO274.out BK269.out (by decide)) (fun _ hk => hk.2) (.slice Ao22 y272.length co22)) (fun _ hk => hk.1)⟩,⟨zK0 BK266.out⟩,⟨zK0 BK267.out⟩,⟨zK0 BK268.out⟩,⟨by refine zT0 ?_;refine blk_put (cs:=#[u270000]) ?_ 0 _ rfl;exact zK0 BK269.out⟩,⟨zY0 HB.out⟩⟩
      ·rw [if_neg c14] at H
       exact absurd H (by simp)
     ·rw [if_neg c13] at H
      have c13b0 : (Op.bytesLess (((rd_T45 l0_0 x6_1).f0).toList) a1_0.toList) = false:=by simpa using c13
      clear c13
      have H':=Aside0.mk H
      clear H
      obtain ⟨_,_⟩:=zn0 NB266_267
      obtain ⟨_,_⟩:=zn0 NB266_268
      obtain ⟨_,_⟩:=zn0 NB266_269
      have hcz27_0 : wr.cell? ⟨gb266,0,none⟩ = some (.slice A0_0 l0_0.length c0_0):=(blk_cell BK266.out 0).trans rfl
      have hfz27_0:=blk_frozen BK266.out 0
      try go_wp2
      replace HO_270000:=Aside0.mk (Kd.R_drew HO_270000.out)
      replace BK266:=Aside0.mk (blk_drew BK266.out)
      replace BK267:=Aside0.mk (blk_drew BK267.out)
      replace BK268:=Aside0.mk (blk_drew BK268.out)
      replace BK269:=Aside0.mk (blk_drew BK269.out)
      replace HB:=Aside0.mk (below_drew1 HB.out)
      have p270 : 0 ≤ (x6_1 : Int):=zD0
      have q270 : x6_1 < (l0_0.length : Int):=zD0
      obtain ⟨ad270,e270,hx270_0,hx270_1,hx270_2⟩:=at_T45 HR0_0.out x6_1 p270 q270
      have hw270_2:=hx270_2
      have hw270_1:=hx270_1
      have hw270_0:=hx270_0
      cases e270
      replace hx270_0:=zx0 HB hx270_0
      replace hx270_1:=zx0 HB hx270_1
      replace hx270_2:=zx0 HB hx270_2
      replace p270:=eq_true p270
      replace q270:=eq_true q270
      refine start_ (n:=9) (S:=fun w' => w'.cell? ⟨gb266,0,none⟩ = some (.slice (some ad270) l0_0.length c0_0) ∧ w'.cell? ⟨gb267,0,none⟩ = some (.string a1_0) ∧ w'.cell? ⟨gb267,1,none⟩ = some (.string a1_1) ∧ w'.cell? ⟨gb267,2,none⟩ = some (.int .i64 a1_2) ∧ w'.cell? (ad270.add ((x6_1).toNat * 3)) = some (.string ((rd_T45 l0_0 x6_1).f0)) ∧ w'.cell? ⟨(ad270.add ((x6_1).toNat * 3)).block,(ad270.add ((x6_1).toNat * 3)).off + 1,none⟩ = some (.string ((rd_T45 l0_0 x6_1).f1)) ∧ w'.cell? ⟨(ad270.add ((x6_1).toNat * 3)).block,(ad270.add ((x6_1).toNat * 3)).off + 2,none⟩ = some (.int .i64 ((rd_T45 l0_0 x6_1).f2))) (ds:=[]) (zF0 9 0) (by kernel_rfl) rfl rfl ⟨(blk_cell BK266.out 0).trans rfl,(blk_cell BK267.out 0).trans rfl,(blk_cell BK267.out 1).trans rfl,(blk_cell BK267.out 2).trans rfl,(zx0 HB hw270_0 :),(zx0 HB hw270_1 :),(zx0 HB hw270_2 :)⟩ (fun hHeld => ?_);refine with_tabW spec_l03Put.tab5 spec_l03Put.bits5 (fun HT_ HW_ => ?_)
      generalize wr.drew = w28 at HO_270000 BK266 BK267 BK268 BK269 HB hx270_0 hx270_1 hx270_2 hHeld ⊢
      refine zp0 0 16 9 1 HT_ ?_
      refine zp0 2 18 9 5 HT_ ?_
      refine zp0 6 22 9 69 HT_ ?_
      refine take_ (i:=1) (N:=some 17) (v:=?_) (a':=?_) (zF0 9 71) rfl rfl (take_ofW HT_.out HW_.out (by kernel_rfl)) (fun _ _ _ h => h) (Or.inl ⟨by rfl,?_⟩) hHeld ?_ ?_;rotate_left
      ·rintro w' ⟨s0,s1,s2,s3,s4,s5,s6⟩
       go_simp
       with_reducible rfl
      rotate_left
      ·simp only [Act.put,qA0,qB0,qC0,i64_w,i32_w];rfl
      refine zp0 3 19 9 79 HT_ ?_
      refine zp0 4 20 9 95 HT_ ?_
      refine take_ (i:=5) (N:=some 21) (v:=?_) (a':=?_) (zF0 9 127) rfl rfl (take_ofW HT_.out HW_.out (by kernel_rfl)) (fun _ _ _ h => h) (Or.inl ⟨by rfl,?_⟩) hHeld ?_ ?_;rotate_left
      ·rintro w' ⟨s0,s1,s2,s3,s4,s5,s6⟩
       go_simp
       with_reducible rfl
      rotate_left
      ·simp only [Act.put,qA0,qB0,qC0,i64_w,i32_w];rfl
      refine take_ (i:=7) (N:=some 23) (v:=?_) (a':=?_) (zF0 9 255) rfl rfl (take_ofW HT_.out HW_.out (by kernel_rfl)) (fun _ _ _ h => h) (Or.inl ⟨by rfl,?_⟩) hHeld ?_ ?_;rotate_left
      ·rintro w' ⟨s0,s1,s2,s3,s4,s5,s6⟩
       go_simp
       with_reducible rfl
      rotate_left
      ·simp only [Act.put,qA0,qB0,qC0,i64_w,i32_w];rfl
      refine zp0 8 24 9 511 HT_ ?_
      refine done_ (done_of HT_.out (by kernel_rfl)) ?_
      try go_wp2
      go_roundg k1
      case measure => have:=HK1.out;omega
      case rel => exact ⟨(wrap64 (x6_1 + 1)),(x270000_1),(u270000),zE0,H',⟨by have:=HK1.out;omega⟩,⟨zR0 HO_270000.out⟩,⟨zK0 BK266.out⟩,⟨zK0 BK267.out⟩,⟨zK0 BK268.out⟩,⟨zK0 BK269.out⟩,⟨zY0 HB.out⟩⟩
    ·rw [if_neg c12] at H
     exact absurd H (by simp)
   ·rw [if_neg c11] at H
    have c11b0 : decide (x6_1 < (l0_0.length : Int)) = false:=decide_eq_false c11
    clear c11
    by_cases c29 : x270000_1.length < 3518437208883
    ·rw [if_pos c29] at H
     have LMc29:=Aside0.mk c29
     clear c29
     obtain ⟨y275,hy275⟩ : ∃ y_ : List (S45),y_ = (x270000_1 ++ [(⟨a1_0,a1_1,a1_2⟩ : S45)]):=⟨_,rfl⟩
     replace H : (spec_l03Put.l1 k1 0 l0_0 a1_0 a1_1 a1_2 y275) = some r:=by first | (rw [hy275];with_reducible exact H) | (have H2_:=(Option.bind_some _ _).symm.trans H;rw [hy275];with_reducible exact H2_) | (have H2_:=(Option.bind_some _ _).symm.trans H;with_reducible exact H2_) | with_reducible exact H | (rw [hy275];exact H) | exact H
     have Ny275:=Aside0.mk hy275
     clear hy275
     have H':=Aside0.mk H
     clear H
     obtain ⟨_,_⟩:=zn0 NB266_267
     obtain ⟨_,_⟩:=zn0 NB266_268
     obtain ⟨_,_⟩:=zn0 NB266_269
     have hcz33_0 : wr.cell? ⟨gb266,0,none⟩ = some (.slice A0_0 l0_0.length c0_0):=(blk_cell BK266.out 0).trans rfl
     have hfz33_0:=blk_frozen BK266.out 0
     obtain ⟨_,_⟩:=zn0 NB269_267
     obtain ⟨_,_⟩:=zn0 NB269_268
     have hcz36_0 : wr.cell? ⟨gb269,0,none⟩ = some (u270000):=(blk_cell BK269.out 0).trans rfl
     have hfz36_0:=blk_frozen BK269.out 0
     obtain ⟨_,_⟩:=zn0 NB267_268
     have hcz38_0 : wr.cell? ⟨gb267,0,none⟩ = some (.string a1_0):=(blk_cell BK267.out 0).trans rfl
     have hcz38_1 : wr.cell? ⟨gb267,1,none⟩ = some (.string a1_1):=(blk_cell BK267.out 1).trans rfl
     have hcz38_2 : wr.cell? ⟨gb267,2,none⟩ = some (.int .i64 a1_2):=(blk_cell BK267.out 2).trans rfl
     have hfz38_0:=blk_frozen BK267.out 0
     have hfz38_1:=blk_frozen BK267.out 1
     have hfz38_2:=blk_frozen BK267.out 2
     go_wp2_with (first | ((with_reducible refine gate_builtin (b:=.append) (xs:=#[.tmp 36,.tmp 38]) rfl ?_);at_builtin;refine Kd.R_append k45 (w0:=w) w.heap.size rfl (.tmp 36) (.tmp 38) 28 45 (.agg #[(.string ⟨#[]⟩),(.string ⟨#[]⟩),(.int .i64 0)]) 40 rfl Try.underlying28 info45 rfl (by decide) (by omega) u270000 x270000_1 (⟨a1_0,a1_1,a1_2⟩ : S45) [.string a1_0,.string a1_1,.int .i64 a1_2] (fun k_ => k_ ≠ gb267) (fun _ => False) rfl rfl ?aP (fun _ hk => hk.elim) ?aF ?aO ?aB ?aS ?aL ?_;(case aP => exact k45_mkM _ _ _ (⟨a1_0,a1_1,a1_2⟩ : S45));(case aB => exact (zY0 HB.out));(case aF => exact (fun k_ hk => Kd.freshB (g:=gb267) (o:=.cells #[.string a1_0,.string a1_1,.int .i64 a1_2] 45 (0,0)) (zK0 BK267.out) k_ hk));(case aO => exact (zR0 HO_270000.out));(case aS => exact (zZ0 HB.out));(case aL => have:=LMc29.out;omega);intro v276 w39 ho hb hg hat;rw [← Ny275.out] at ho;replace BK266:=Aside0.mk (blk_grown (g:=gb266) (o:=.cells #[.slice A0_0 l0_0.length c0_0] 30 (0,0)) (zK0 BK266.out) hg (Kd.R_ne HO_270000.out BK266.out (by decide)));replace BK267:=Aside0.mk (blk_grown (g:=gb267) (o:=.cells #[.string a1_0,.string a1_1,.int .i64 a1_2] 45 (0,0)) (zK0 BK267.out) hg (Kd.R_away HO_270000.out (fun _ hk => hk)));replace BK268:=Aside0.mk (blk_grown (g:=gb268) (o:=.cells #[.slice none 0 0] 30 (0,0)) (zK0 BK268.out) hg (Kd.R_ne HO_270000.out BK268.out (by decide)));replace BK269:=Aside0.mk (blk_grown (g:=gb269) (o:=.cells #[u270000] 30 (0,0)) (zK0 BK269.out) hg (Kd.R_ne HO_270000.out BK269.out (by decide)));replace HB:=Aside0.mk hb;have HO277:=Aside0.mk ho;clear HO_270000;clear ho hb hg hat;obtain ⟨Ao40,co40,eo40⟩:=Kd.R_slice HO277.out;subst eo40;have hcz41_0:=zc00 BK269;have hfz41_0:=blk_frozen BK269.out 0))
     go_loopg [7] k1 (fun kq v7 w' => ∃ (x7_2 : Int) (x270000_2 : List (S45)) (u270000 : Value),v7 = .int .i64 x7_2 ∧ Aside0 (spec_l03Put.l1 kq x7_2 l0_0 a1_0 a1_1 a1_2 x270000_2 = some r) ∧ Aside0 (kq ≤ k1) ∧ Aside0 (Kd.R k45 45 w' w.heap.size (fun k_ => k_ ≠ gb267) u270000 x270000_2) ∧ Aside0 (w'.heap[gb266]? = some (.cells #[(.slice A0_0 l0_0.length c0_0)] 30 (0,0))) ∧ Aside0 (w'.heap[gb267]? = some (.cells #[.string a1_0,.string a1_1,.int .i64 a1_2] 45 (0,0))) ∧ Aside0 (w'.heap[gb268]? = some (.cells #[(.slice none 0 0)] 30 (0,0))) ∧ Aside0 (w'.heap[gb269]? = some (.cells #[u270000] 30 (0,0))) ∧ Aside0 (Below w.heap.size w w'))
     case atStart => exact ⟨(0),(y275),(.slice Ao40 y275.length co40),zE0,H',⟨Nat.le_refl _⟩,⟨by refine zV0 ?_;exact Kd.R_mono (Kd.R_far (p:=⟨gb269,0,none⟩) (Kd.R_types HO277.out BK269.out (by decide)) (fun _ hk => hk.2) (.slice Ao40 y275.length co40)) (fun _ hk => hk.1)⟩,⟨zK0 BK266.out⟩,⟨zK0 BK267.out⟩,⟨zK0 BK268.out⟩,⟨by refine zT0 ?_;refine blk_put (cs:=#[u270000]) ?_ 0 _ rfl;exact zK0 BK269.out⟩,⟨zY0 HB.out⟩⟩
     case round =>
      clear H'
      try clear c11
      try clear c11b0
      try clear c29
      try clear hcz10_0
      try clear hcz33_0
      try clear hcz36_0
      try clear hcz38_0
      try clear hcz38_1
      try clear hcz38_2
      try clear hcz41_0
      try clear hfz10_0
      try clear hfz33_0
      try clear hfz36_0
      try clear hfz38_0
      try clear hfz38_1
      try clear hfz38_2
      try clear hfz41_0
      obtain ⟨x7_2,x270000_2,u270000,rfl,HA,HK2,HO_270000,BK266,BK267,BK268,BK269,HB⟩:=hrel
      cases gk with
      | zero => exact absurd HA.out (by simp [spec_l03Put.l1])
      | succ k2 =>
       have H:=HA.out
       clear HA
       simp only [spec_l03Put.l1] at H
       by_cases c42 : x7_2 < (l0_0.length : Int)
       ·rw [if_pos c42] at H
        have c42b0 : decide (x7_2 < (l0_0.length : Int)) = true:=decide_eq_true c42
        clear c42
        by_cases c43 : 0 ≤ x7_2
        ·rw [if_pos c43] at H
         have c43b0 : decide (0 ≤ x7_2) = true:=decide_eq_true c43
         clear c43
         by_cases c44 : (Op.bytesLess a1_0.toList (((rd_T45 l0_0 x7_2).f0).toList)) = true
         ·rw [if_pos c44] at H
          have c44b0 : (Op.bytesLess a1_0.toList (((rd_T45 l0_0 x7_2).f0).toList)) = true:=c44
          have c44g:=(less_gt (((rd_T45 l0_0 x7_2).f0).toList) a1_0.toList).symm.trans c44b0
          have c44p:=((Bool.and_eq_true _ _).mp c44g).1
          have c44q:=((Bool.and_eq_true _ _).mp c44g).2
          clear c44
          by_cases c45 : x270000_2.length < 3518437208883
          ·rw [if_pos c45] at H
           have LMc45:=Aside0.mk c45
           clear c45
           obtain ⟨y280,hy280⟩ : ∃ y_ : List (S45),y_ = (x270000_2 ++ [(⟨(rd_T45 l0_0 x7_2).f0,(rd_T45 l0_0 x7_2).f1,(rd_T45 l0_0 x7_2).f2⟩ : S45)]):=⟨_,rfl⟩
           replace H : (spec_l03Put.l1 k2 (wrap64 (x7_2 + 1)) l0_0 a1_0 a1_1 a1_2 y280) = some r:=by first | (rw [hy280];with_reducible exact H) | (have H2_:=(Option.bind_some _ _).symm.trans H;rw [hy280];with_reducible exact H2_) | (have H2_:=(Option.bind_some _ _).symm.trans H;with_reducible exact H2_) | with_reducible exact H | (rw [hy280];exact H) | exact H
           have Ny280:=Aside0.mk hy280
           clear hy280
           have H':=Aside0.mk H
           clear H
           obtain ⟨_,_⟩:=zn0 NB266_267
           obtain ⟨_,_⟩:=zn0 NB266_268
           obtain ⟨_,_⟩:=zn0 NB266_269
           have hcz49_0 : wr.cell? ⟨gb266,0,none⟩ = some (.slice A0_0 l0_0.length c0_0):=(blk_cell BK266.out 0).trans rfl
           have hfz49_0:=blk_frozen BK266.out 0
           try go_wp2
           replace HO_270000:=Aside0.mk (Kd.R_drew HO_270000.out)
           replace BK266:=Aside0.mk (blk_drew BK266.out)
           replace BK267:=Aside0.mk (blk_drew BK267.out)
           replace BK268:=Aside0.mk (blk_drew BK268.out)
           replace BK269:=Aside0.mk (blk_drew BK269.out)
           replace HB:=Aside0.mk (below_drew1 HB.out)
           have p278 : 0 ≤ (x7_2 : Int):=zD0
           have q278 : x7_2 < (l0_0.length : Int):=zD0
           obtain ⟨ad278,e278,hx278_0,hx278_1,hx278_2⟩:=at_T45 HR0_0.out x7_2 p278 q278
           have hw278_2:=hx278_2
           have hw278_1:=hx278_1
           have hw278_0:=hx278_0
           cases e278
           replace hx278_0:=zx0 HB hx278_0
           replace hx278_1:=zx0 HB hx278_1
           replace hx278_2:=zx0 HB hx278_2
           replace p278:=eq_true p278
           replace q278:=eq_true q278
           refine start_ (n:=9) (S:=fun w' => w'.cell? ⟨gb266,0,none⟩ = some (.slice (some ad278) l0_0.length c0_0) ∧ w'.cell? ⟨gb267,0,none⟩ = some (.string a1_0) ∧ w'.cell? ⟨gb267,1,none⟩ = some (.string a1_1) ∧ w'.cell? ⟨gb267,2,none⟩ = some (.int .i64 a1_2) ∧ w'.cell? (ad278.add ((x7_2).toNat * 3)) = some (.string ((rd_T45 l0_0 x7_2).f0)) ∧ w'.cell? ⟨(ad278.add ((x7_2).toNat * 3)).block,(ad278.add ((x7_2).toNat * 3)).off + 1,none⟩ = some (.string ((rd_T45 l0_0 x7_2).f1)) ∧ w'.cell? ⟨(ad278.add ((x7_2).toNat * 3)).block,(ad278.add ((x7_2).toNat * 3)).off + 2,none⟩ = some (.int .i64 ((rd_T45 l0_0 x7_2).f2))) (ds:=[]) (zF0 9 0) (by kernel_rfl) rfl rfl ⟨(blk_cell BK266.out 0).trans rfl,(blk_cell BK267.out 0).trans rfl,(blk_cell BK267.out 1).trans rfl,(blk_cell BK267.out 2).trans rfl,(zx0 HB hw278_0 :),(zx0 HB hw278_1 :),(zx0 HB hw278_2 :)⟩ (fun hHeld => ?_);refine with_tabW spec_l03Put.tab11 spec_l03Put.bits11 (fun HT_ HW_ => ?_)
           generalize wr.drew = w50 at HO_270000 BK266 BK267 BK268 BK269 HB hx278_0 hx278_1 hx278_2 hHeld ⊢
           refine zp0 0 48 9 1 HT_ ?_
           refine zp0 2 50 9 5 HT_ ?_
           refine zp0 6 54 9 69 HT_ ?_
           refine take_ (i:=1) (N:=some 49) (v:=?_) (a':=?_) (zF0 9 71) rfl rfl (take_ofW HT_.out HW_.out (by kernel_rfl)) (fun _ _ _ h => h) (Or.inl ⟨by rfl,?_⟩) hHeld ?_ ?_;rotate_left
           ·rintro w' ⟨s0,s1,s2,s3,s4,s5,s6⟩
            go_simp
            with_reducible rfl
           rotate_left
           ·simp only [Act.put,qA0,qB0,qC0,i64_w,i32_w];rfl
           refine zp0 3 51 9 79 HT_ ?_
           refine zp0 4 52 9 95 HT_ ?_
           refine take_ (i:=5) (N:=some 53) (v:=?_) (a':=?_) (zF0 9 127) rfl rfl (take_ofW HT_.out HW_.out (by kernel_rfl)) (fun _ _ _ h => h) (Or.inl ⟨by rfl,?_⟩) hHeld ?_ ?_;rotate_left
           ·rintro w' ⟨s0,s1,s2,s3,s4,s5,s6⟩
            go_simp
            with_reducible rfl
           rotate_left
           ·simp only [Act.put,qA0,qB0,qC0,i64_w,i32_w];rfl
           refine take_ (i:=7) (N:=some 55) (v:=?_) (a':=?_) (zF0 9 255) rfl rfl (take_ofW HT_.out HW_.out (by kernel_rfl)) (fun _ _ _ h => h) (Or.inl ⟨by rfl,?_⟩) hHeld ?_ ?_;rotate_left
           ·rintro w' ⟨s0,s1,s2,s3,s4,s5,s6⟩
            go_simp
            with_reducible rfl
           rotate_left
           ·simp only [Act.put,qA0,qB0,qC0,i64_w,i32_w];rfl
           refine zp0 8 56 9 511 HT_ ?_
           refine done_ (done_of HT_.out (by kernel_rfl)) ?_
           try go_wp2
           replace HO_270000:=Aside0.mk (Kd.R_drew HO_270000.out)
           replace BK266:=Aside0.mk (blk_drew BK266.out)
           replace BK267:=Aside0.mk (blk_drew BK267.out)
           replace BK268:=Aside0.mk (blk_drew BK268.out)
           replace BK269:=Aside0.mk (blk_drew BK269.out)
           replace HB:=Aside0.mk (below_drew1 HB.out)
           have p279 : 0 ≤ (x7_2 : Int):=zD0
           have q279 : x7_2 < (l0_0.length : Int):=zD0
           obtain ⟨ad279,e279,hx279_0,hx279_1,hx279_2⟩:=at_T45 HR0_0.out x7_2 p279 q279
           have hw279_2:=hx279_2
           have hw279_1:=hx279_1
           have hw279_0:=hx279_0
           obtain rfl : ad278 = ad279:=(by injection e279)
           replace hx279_0:=zx0 HB hx279_0
           replace hx279_1:=zx0 HB hx279_1
           replace hx279_2:=zx0 HB hx279_2
           replace p279:=eq_true p279
           replace q279:=eq_true q279
           refine start_ (n:=11) (S:=fun w' => w'.cell? ⟨gb269,0,none⟩ = some (u270000) ∧ w'.cell? ⟨gb266,0,none⟩ = some (.slice (some ad278) l0_0.length c0_0) ∧ w'.cell? (ad278.add ((x7_2).toNat * 3)) = some (.string ((rd_T45 l0_0 x7_2).f0)) ∧ w'.cell? ⟨(ad278.add ((x7_2).toNat * 3)).block,(ad278.add ((x7_2).toNat * 3)).off + 1,none⟩ = some (.string ((rd_T45 l0_0 x7_2).f1)) ∧ w'.cell? ⟨(ad278.add ((x7_2).toNat * 3)).block,(ad278.add ((x7_2).toNat * 3)).off + 2,none⟩ = some (.int .i64 ((rd_T45 l0_0 x7_2).f2))) (ds:=[10]) (zF0 11 0) (by kernel_rfl) rfl rfl ⟨(blk_cell BK269.out 0).trans rfl,(blk_cell BK266.out 0).trans rfl,(zx0 HB hw279_0 :),(zx0 HB hw279_1 :),(zx0 HB hw279_2 :)⟩ (fun hHeld => ?_);refine with_tabW spec_l03Put.tab12 spec_l03Put.bits12 (fun HT_ HW_ => ?_)
           generalize w50.drew = w51 at HO_270000 BK266 BK267 BK268 BK269 HB hx279_0 hx279_1 hx279_2 hHeld ⊢
           refine zp0 0 57 11 1 HT_ ?_
           refine zp0 2 59 11 5 HT_ ?_
           refine zp0 4 61 11 21 HT_ ?_
           refine take_ (i:=1) (N:=some 58) (v:=?_) (a':=?_) (zF0 11 23) rfl rfl (take_ofW HT_.out HW_.out (by kernel_rfl)) (fun _ _ _ h => h) (Or.inl ⟨by rfl,?_⟩) hHeld ?_ ?_;rotate_left
           ·rintro w' ⟨s0,s1,s2,s3,s4⟩
            go_simp
            with_reducible rfl
           rotate_left
           ·simp only [Act.put,qA0,qB0,qC0,i64_w,i32_w];rfl
           refine take_ (i:=3) (N:=some 60) (v:=?_) (a':=?_) (zF0 11 31) rfl rfl (take_ofW HT_.out HW_.out (by kernel_rfl)) (fun _ _ _ h => h) (Or.inl ⟨by rfl,?_⟩) hHeld ?_ ?_;rotate_left
           ·rintro w' ⟨s0,s1,s2,s3,s4⟩
            go_simp
            with_reducible rfl
           rotate_left
           ·simp only [Act.put,qA0,qB0,qC0,i64_w,i32_w];rfl
           refine zp0 5 62 11 63 HT_ ?_
           refine take_ (i:=6) (N:=some 63) (v:=?_) (a':=?_) (zF0 11 127) rfl rfl (take_ofW HT_.out HW_.out (by kernel_rfl)) (fun _ _ _ h => h) (Or.inl ⟨by rfl,?_⟩) hHeld ?_ ?_;rotate_left
           ·rintro w' ⟨s0,s1,s2,s3,s4⟩
            go_simp
            with_reducible rfl
           rotate_left
           ·simp only [Act.put,qA0,qB0,qC0,i64_w,i32_w];rfl
           refine one_ (i:=7) (N:=some 64) (zF0 11 255) rfl rfl (one_of HT_.out (by kernel_rfl)) (by decide) (fun K hK => ?_)
           refine value_ (w1:=?_) (v:=?_) (by rfl) rfl ?_ ?_
           rotate_left 2
           ·go_simp
            constructor
            ·rfl
            ·rfl
           refine hK.out _ _ ⟨(blk_cell (blk_alloc BK269.out _) 0).trans rfl,(blk_cell (blk_alloc BK266.out _) 0).trans rfl,(World.cell?_alloc_lt _ _ _ (World.block_lt_of_cell? _ _ ((zx0 HB hw279_0 :)))).trans ((zx0 HB hw279_0 :)),(World.cell?_alloc_lt _ _ _ (World.block_lt_of_cell? _ _ ((zx0 HB hw279_1 :)))).trans ((zx0 HB hw279_1 :)),(World.cell?_alloc_lt _ _ _ (World.block_lt_of_cell? _ _ ((zx0 HB hw279_2 :)))).trans ((zx0 HB hw279_2 :))⟩ (fun hHeld => ?_)
           clear hK K
           refine norm_ (a':=?_) ?_ ?_;rotate_left
           ·show Act.put _ (some 64) _ = _;simp only [Act.put,qA0,qB0,qC0,i64_w,i32_w];rfl
           refine one_ (i:=8) (N:=some 65) (zF0 11 511) rfl rfl (one_of HT_.out (by kernel_rfl)) (by decide) (fun K hK => ?_)
           refine Kd.R_append_step k45 (w0:=w) w.heap.size (by rfl) (.tmp 58) (.tmp 64) 28 45 (.agg #[(.string ⟨#[]⟩),(.string ⟨#[]⟩),(.int .i64 0)]) 40 rfl Try.underlying28 info45 rfl (by decide) (by omega) u270000 x270000_2 (⟨(rd_T45 l0_0 x7_2).f0,(rd_T45 l0_0 x7_2).f1,(rd_T45 l0_0 x7_2).f2⟩ : S45) [.string ((rd_T45 l0_0 x7_2).f0),.string ((rd_T45 l0_0 x7_2).f1),.int .i64 ((rd_T45 l0_0 x7_2).f2)] (fun k_ => k_ ≠ gb267) (fun _ => False) rfl rfl ?aP (fun _ hk => hk.elim) ?aF ?aO ?aB ?aS ?aL ?_
           (case aP => exact k45_mkM _ _ _ (⟨(rd_T45 l0_0 x7_2).f0,(rd_T45 l0_0 x7_2).f1,(rd_T45 l0_0 x7_2).f2⟩ : S45))
           (case aB => exact (zY0 HB.out))
           (case aF => exact (fun k_ hk => Kd.freshB (g:=gb267) (o:=.cells #[.string a1_0,.string a1_1,.int .i64 a1_2] 45 (0,0)) (zK0 BK267.out) k_ hk))
           (case aO => exact (zR0 HO_270000.out))
           (case aS => exact (zZ0 HB.out))
           (case aL => have:=LMc45.out;omega)
           intro v281 w52 ho hb hg hat
           rw [← Ny280.out] at ho
           replace BK266:=Aside0.mk (blk_grown (g:=gb266) (o:=.cells #[.slice (some ad278) l0_0.length c0_0] 30 (0,0)) (zK0 BK266.out) hg (Kd.R_ne HO_270000.out BK266.out (by decide)))
           replace BK267:=Aside0.mk (blk_grown (g:=gb267) (o:=.cells #[.string a1_0,.string a1_1,.int .i64 a1_2] 45 (0,0)) (zK0 BK267.out) hg (Kd.R_away HO_270000.out (fun _ hk => hk)))
           replace BK268:=Aside0.mk (blk_grown (g:=gb268) (o:=.cells #[.slice none 0 0] 30 (0,0)) (zK0 BK268.out) hg (Kd.R_ne HO_270000.out BK268.out (by decide)))
           replace BK269:=Aside0.mk (blk_grown (g:=gb269) (o:=.cells #[u270000] 30 (0,0)) (zK0 BK269.out) hg (Kd.R_ne HO_270000.out BK269.out (by decide)))
           replace HB:=Aside0.mk hb
           have HO282:=Aside0.mk ho
           clear HO_270000
           clear ho hb hg hat
           obtain ⟨Ao53,co53,eo53⟩:=Kd.R_slice HO282.out
           (first | subst eo53 | (injection eo53 with f1_ f2_ f3_;have f4_:=f1_.symm;have f5_:=f3_.symm;clear f1_ f2_ f3_;subst f4_;subst f5_))
           refine hK.out _ _ ⟨(blk_cell BK269.out 0).trans rfl,(blk_cell BK266.out 0).trans rfl,(zx0 HB hw279_0 :),(zx0 HB hw279_1 :),(zx0 HB hw279_2 :)⟩ (fun hHeld => ?_)
           clear hK K
           refine norm_ (a':=?_) ?_ ?_;rotate_left
           ·show Act.put _ (some 65) _ = _;simp only [Act.put,qA0,qB0,qC0,i64_w,i32_w];rfl
           refine zp0 9 66 11 1023 HT_ ?_
           refine last_ (i:=10) (N:=none) (zF0 11 2047) rfl rfl (one_of HT_.out (by kernel_rfl)) (by decide) (fun K hK => ?_)
           have hs54 : w52.cell? ⟨gb269,0,none⟩ = some (u270000):=(blk_cell BK269.out 0).trans rfl
           have hfs54:=blk_frozen BK269.out 0
           have hns54_0:=NB266_269.out
           have hns54_1:=NB267_269.out
           have hns54_2:=NB268_269.out
           have hms54_0:=NB269_266.out
           have hms54_1:=NB269_267.out
           have hms54_2:=NB269_268.out
           refine skip_ (w1:=?_) (by rfl) rfl ?_ ?_;rotate_left
           ·go_simp
            rfl
           refine hK.out _ _ ?_
           clear hK K
           refine done_ (done_of HT_.out (by kernel_rfl)) ?_
           try go_wp2
           go_roundg k2
           case measure => have:=HK1.out;have:=HK2.out;omega
           case rel => exact ⟨(wrap64 (x7_2 + 1)),(y280),(.slice Ao53 y280.length co53),zE0,H',⟨by have:=HK1.out;have:=HK2.out;omega⟩,⟨by refine zV0 ?_;exact Kd.R_mono (Kd.R_far (p:=⟨gb269,0,none⟩) (Kd.R_types HO282.out BK269.out (by decide)) (fun _ hk => hk.2) (.slice Ao53 y280.length co53)) (fun _ hk => hk.1)⟩,⟨zK0 BK266.out⟩,⟨zK0 BK267.out⟩,⟨zK0 BK268.out⟩,⟨by refine zT0 ?_;refine blk_put (cs:=#[u270000]) ?_ 0 _ rfl;exact zK0 BK269.out⟩,⟨zY0 HB.out⟩⟩
          ·rw [if_neg c45] at H
           exact absurd H (by simp)
         ·rw [if_neg c44] at H
          have c44b0 : (Op.bytesLess a1_0.toList (((rd_T45 l0_0 x7_2).f0).toList)) = false:=by simpa using c44
          have c44g:=(less_gt (((rd_T45 l0_0 x7_2).f0).toList) a1_0.toList).symm.trans c44b0
          clear c44
          have H':=Aside0.mk H
          clear H
          obtain ⟨_,_⟩:=zn0 NB266_267
          obtain ⟨_,_⟩:=zn0 NB266_268
          obtain ⟨_,_⟩:=zn0 NB266_269
          have hcz58_0 : wr.cell? ⟨gb266,0,none⟩ = some (.slice A0_0 l0_0.length c0_0):=(blk_cell BK266.out 0).trans rfl
          have hfz58_0:=blk_frozen BK266.out 0
          try go_wp2
          replace HO_270000:=Aside0.mk (Kd.R_drew HO_270000.out)
          replace BK266:=Aside0.mk (blk_drew BK266.out)
          replace BK267:=Aside0.mk (blk_drew BK267.out)
          replace BK268:=Aside0.mk (blk_drew BK268.out)
          replace BK269:=Aside0.mk (blk_drew BK269.out)
          replace HB:=Aside0.mk (below_drew1 HB.out)
          have p278 : 0 ≤ (x7_2 : Int):=zD0
          have q278 : x7_2 < (l0_0.length : Int):=zD0
          obtain ⟨ad278,e278,hx278_0,hx278_1,hx278_2⟩:=at_T45 HR0_0.out x7_2 p278 q278
          have hw278_2:=hx278_2
          have hw278_1:=hx278_1
          have hw278_0:=hx278_0
          cases e278
          replace hx278_0:=zx0 HB hx278_0
          replace hx278_1:=zx0 HB hx278_1
          replace hx278_2:=zx0 HB hx278_2
          replace p278:=eq_true p278
          replace q278:=eq_true q278
          refine start_ (n:=9) (S:=fun w' => w'.cell? ⟨gb266,0,none⟩ = some (.slice (some ad278) l0_0.length c0_0) ∧ w'.cell? ⟨gb267,0,none⟩ = some (.string a1_0) ∧ w'.cell? ⟨gb267,1,none⟩ = some (.string a1_1) ∧ w'.cell? ⟨gb267,2,none⟩ = some (.int .i64 a1_2) ∧ w'.cell? (ad278.add ((x7_2).toNat * 3)) = some (.string ((rd_T45 l0_0 x7_2).f0)) ∧ w'.cell? ⟨(ad278.add ((x7_2).toNat * 3)).block,(ad278.add ((x7_2).toNat * 3)).off + 1,none⟩ = some (.string ((rd_T45 l0_0 x7_2).f1)) ∧ w'.cell? ⟨(ad278.add ((x7_2).toNat * 3)).block,(ad278.add ((x7_2).toNat * 3)).off + 2,none⟩ = some (.int .i64 ((rd_T45 l0_0 x7_2).f2))) (ds:=[]) (zF0 9 0) (by kernel_rfl) rfl rfl ⟨(blk_cell BK266.out 0).trans rfl,(blk_cell BK267.out 0).trans rfl,(blk_cell BK267.out 1).trans rfl,(blk_cell BK267.out 2).trans rfl,(zx0 HB hw278_0 :),(zx0 HB hw278_1 :),(zx0 HB hw278_2 :)⟩ (fun hHeld => ?_);refine with_tabW spec_l03Put.tab11 spec_l03Put.bits11 (fun HT_ HW_ => ?_)
          generalize wr.drew = w59 at HO_270000 BK266 BK267 BK268 BK269 HB hx278_0 hx278_1 hx278_2 hHeld ⊢
          refine zp0 0 48 9 1 HT_ ?_
          refine zp0 2 50 9 5 HT_ ?_
          refine zp0 6 54 9 69 HT_ ?_
          refine take_ (i:=1) (N:=some 49) (v:=?_) (a':=?_) (zF0 9 71) rfl rfl (take_ofW HT_.out HW_.out (by kernel_rfl)) (fun _ _ _ h => h) (Or.inl ⟨by rfl,?_⟩) hHeld ?_ ?_;rotate_left
          ·rintro w' ⟨s0,s1,s2,s3,s4,s5,s6⟩
           go_simp
           with_reducible rfl
          rotate_left
          ·simp only [Act.put,qA0,qB0,qC0,i64_w,i32_w];rfl
          refine zp0 3 51 9 79 HT_ ?_
          refine zp0 4 52 9 95 HT_ ?_
          refine take_ (i:=5) (N:=some 53) (v:=?_) (a':=?_) (zF0 9 127) rfl rfl (take_ofW HT_.out HW_.out (by kernel_rfl)) (fun _ _ _ h => h) (Or.inl ⟨by rfl,?_⟩) hHeld ?_ ?_;rotate_left
          ·rintro w' ⟨s0,s1,s2,s3,s4,s5,s6⟩
           go_simp
           with_reducible rfl
          rotate_left
          ·simp only [Act.put,qA0,qB0,qC0,i64_w,i32_w];rfl
          refine take_ (i:=7) (N:=some 55) (v:=?_) (a':=?_) (zF0 9 255) rfl rfl (take_ofW HT_.out HW_.out (by kernel_rfl)) (fun _ _ _ h => h) (Or.inl ⟨by rfl,?_⟩) hHeld ?_ ?_;rotate_left
          ·rintro w' ⟨s0,s1,s2,s3,s4,s5,s6⟩
           go_simp
           with_reducible rfl
          rotate_left
          ·simp only [Act.put,qA0,qB0,qC0,i64_w,i32_w];rfl
          refine zp0 8 56 9 511 HT_ ?_
          refine done_ (done_of HT_.out (by kernel_rfl)) ?_
          try go_wp2
          go_roundg k2
          case measure => have:=HK1.out;have:=HK2.out;omega
          case rel => exact ⟨(wrap64 (x7_2 + 1)),(x270000_2),(u270000),zE0,H',⟨by have:=HK1.out;have:=HK2.out;omega⟩,⟨zR0 HO_270000.out⟩,⟨zK0 BK266.out⟩,⟨zK0 BK267.out⟩,⟨zK0 BK268.out⟩,⟨zK0 BK269.out⟩,⟨zY0 HB.out⟩⟩
        ·rw [if_neg c43] at H
         exact absurd H (by simp)
       ·rw [if_neg c42] at H
        have c42b0 : decide (x7_2 < (l0_0.length : Int)) = false:=decide_eq_false c42
        clear c42
        obtain rfl:=Option.some.inj H
        obtain ⟨_,_⟩:=zn0 NB266_267
        obtain ⟨_,_⟩:=zn0 NB266_268
        obtain ⟨_,_⟩:=zn0 NB266_269
        have hcz63_0 : wr.cell? ⟨gb266,0,none⟩ = some (.slice A0_0 l0_0.length c0_0):=(blk_cell BK266.out 0).trans rfl
        have hfz63_0:=blk_frozen BK266.out 0
        obtain ⟨_,_⟩:=zn0 NB269_267
        obtain ⟨_,_⟩:=zn0 NB269_268
        have hcz66_0 : wr.cell? ⟨gb269,0,none⟩ = some (u270000):=(blk_cell BK269.out 0).trans rfl
        have hfz66_0:=blk_frozen BK269.out 0
        obtain ⟨Ao67,co67,eo67⟩:=Kd.R_slice HO_270000.out
        subst eo67
        obtain ⟨_,_⟩:=zn0 NB268_267
        have hcz69_0 : wr.cell? ⟨gb268,0,none⟩ = some (.slice none 0 0):=(blk_cell BK268.out 0).trans rfl
        have hfz69_0:=blk_frozen BK268.out 0
        go_wp2
        refine bodyPost_ret (results_cell_row rfl _ _ gb268 30 #[.slice Ao67 x270000_2.length co67] (0,0) _ rfl (by refine zT0 ?_;refine blk_put (cs:=#[.slice none 0 0]) ?_ 0 _ rfl;exact zK0 BK268.out) Try.underlying30 rfl (by kernel_rfl)) rfl ?_
        exact ⟨_,zW0,by refine zV0 ?_;exact Kd.R_mono (Kd.R_far (p:=⟨gb268,0,none⟩) (Kd.R_types HO_270000.out BK268.out (by decide)) (fun _ hk => hk.2) (.slice Ao67 x270000_2.length co67)) (fun _ hk => trivial),(zY0 HB.out)⟩
    ·rw [if_neg c29] at H
     exact absurd H (by simp)

end Go.Proofs.Ytgfacdhkamphiaa.PFnExactCutActs
