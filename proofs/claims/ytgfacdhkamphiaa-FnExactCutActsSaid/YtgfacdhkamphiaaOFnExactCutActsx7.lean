/- Walks of functions that the law FnExactCutActs reaches, turned by this session from a print of which a part did not build; what was changed is listed in wip/patches of the proofs' repo. -/
import Derived.Test.YtgfacdhkamphiaaOFnExactCutActsx0
import Derived.Test.YtgfacdhkamphiaaOFnExactCutActsx6
namespace Go.Proofs.Ytgfacdhkamphiaa.PFnExactCutActs
open Go.RowKit Go.Proofs.YtgfacdhkamphiaaW.PrintWords Go.Proofs.YtgfacdhkamphiaaW.PrintLast Go.Proofs.YtgfacdhkamphiaaW.PrintMore
attribute [local go_sem] max2_int min2_int max_two min_two max_three min_three max_four min_four   -- for this text's walks alone
set_option linter.unusedVariables false
set_option linter.unusedSimpArgs false

/-! ### impl_copyDisk: function 77 -/
def impl_copyDisk.f (l0_0 : List (S45)) : Option ((List (S45))):=if ([] : List (S45)).length + l0_0.length < 3518437208883 then (some (([] : List (S45)) ++ l0_0)) else (none)
set_option maxHeartbeats 8000000 in
set_option maxRecDepth 100000 in
theorem impl_copyDisk.calls (A0_0 : Option Addr) (c0_0 : Nat) (l0_0 : List (S45)) (r : List (S45)) (w : World) (hr0_0 : Kd.C k45 w A0_0 l0_0.length l0_0) (hc0_0 : l0_0.length ≤ c0_0) (h : impl_copyDisk.f l0_0 = some r) :
  Calls Try.prog 77 #[.agg #[.slice A0_0 l0_0.length c0_0]] w fun e w' => ∃ v0_ : Value,e = .returned (.agg #[v0_]) ∧ Kd.R k45 45 w' w.heap.size (fun _ => True) v0_ r ∧ Below w.heap.size w w':=by
 have hu30:=Try.underlying30
 have HR0_0:=Aside0.mk hr0_0
 have HC0_0:=Aside0.mk hc0_0
 clear hr0_0 hc0_0
 have HB:=Aside0.mk (Below.refl w.heap.size w)
 have H : (if ([] : List (S45)).length + l0_0.length < 3518437208883 then (some (([] : List (S45)) ++ l0_0)) else (none)) = some r:=h
 clear h
 by_cases c2 : ([] : List (S45)).length + l0_0.length < 3518437208883
 ·rw [if_pos c2] at H
  have LMc2:=Aside0.mk c2
  clear c2
  obtain ⟨y192,hy192⟩ : ∃ y_ : List (S45),y_ = (([] : List (S45)) ++ l0_0):=⟨_,rfl⟩
  replace H : (some y192) = some r:=by first | (rw [hy192];with_reducible exact H) | (have H2_:=(Option.bind_some _ _).symm.trans H;rw [hy192];with_reducible exact H2_) | (have H2_:=(Option.bind_some _ _).symm.trans H;with_reducible exact H2_) | with_reducible exact H | (rw [hy192];exact H) | exact H
  have Ny192:=Aside0.mk hy192
  clear hy192
  obtain rfl:=Option.some.inj H
  go_enter Try.func77,Try.ntmps77
  go_wp2_with (first | ((with_reducible refine gate_dst (N:=1) rfl ?_);refine box_event ?hg (N:=1) ?hd (cs:=#[.slice A0_0 l0_0.length c0_0]) (t:=30) ?hr ?_;(case hd => rfl);(case hg => rfl);(case hr => first | (go_simp;done) | (go_simp;rfl));intro gb190 hg w3 hbox hb;have BK190:=Aside0.mk hbox;have GW190:=zz0 hg HB;have GE190:=zz0 hg HB;replace HB:=zs0 HB hb;clear hb hbox hg) | ((with_reducible refine gate_dst (N:=2) rfl ?_);refine box_event ?hg (N:=2) ?hd (cs:=#[.slice none 0 0]) (t:=30) ?hr ?_;(case hd => rfl);(case hg => rfl);(case hr => first | (go_simp;done) | (go_simp;rfl));intro gb191 hg w4 hbox hb;have BK191:=Aside0.mk hbox;have GW191:=zz0 hg HB;have GE191:=zz0 hg HB;replace HB:=zs0 HB hb;have NB190_191:=zl0 hg BK190;have NB191_190:=zg0 hg BK190;replace BK190:=zb0 BK190 hb;clear hb hbox hg;obtain ⟨_,_⟩:=zn0 NB190_191;have hcz6_0:=zc00 BK190;have hfz6_0:=blk_frozen BK190.out 0) | ((with_reducible refine gate_builtin (b:=.append) (xs:=#[(.const (.slice none 0 0)),.tmp 4]) rfl ?_);at_builtin;refine Kd.R_append_rows k45 (w0:=w) w.heap.size rfl (.const (.slice none 0 0)) (.tmp 4) 28 45 (.agg #[(.string ⟨#[]⟩),(.string ⟨#[]⟩),(.int .i64 0)]) 40 rfl Try.underlying28 info45 rfl (by decide) (by omega) (.slice none 0 0) ([] : List (S45)) l0_0 _ _ _ (fun _ => True) (fun _ => False) rfl rfl ?aO ?aR (fun _ _ h => h) (fun _ h => h.elim) ?aF ?aB ?aS ?aL ?_;(case aR => exact zA0 (Kd.C_below HR0_0.out HB.out));(case aB => exact (zY0 HB.out));(case aF => exact (fun _ _ => trivial));(case aO => exact ((Kd.R_nil _ _ _ _ (fun _ => True))));(case aS => exact (zZ0 HB.out));(case aL => have:=LMc2.out;omega);intro v193 w7 ho hb hg hat;rw [← Ny192.out] at ho;replace BK190:=Aside0.mk (blk_grown (g:=gb190) (o:=.cells #[.slice A0_0 l0_0.length c0_0] 30 (0,0)) (zK0 BK190.out) hg (by simp [Value.ownBlock]));replace BK191:=Aside0.mk (blk_grown (g:=gb191) (o:=.cells #[.slice none 0 0] 30 (0,0)) (zK0 BK191.out) hg (by simp [Value.ownBlock]));replace HB:=Aside0.mk hb;have HO194:=Aside0.mk ho;clear ho hb hg hat;obtain ⟨Ao8,co8,eo8⟩:=Kd.R_slice HO194.out;subst eo8;have hcz9_0:=zc00 BK191;have hfz9_0:=blk_frozen BK191.out 0))
  refine bodyPost_ret (results_cell_row rfl _ _ gb191 30 #[.slice Ao8 y192.length co8] (0,0) _ rfl (by refine zT0 ?_;refine blk_put (cs:=#[.slice none 0 0]) ?_ 0 _ rfl;exact zK0 BK191.out) Try.underlying30 rfl (by kernel_rfl)) rfl ?_
  exact ⟨_,zW0,by refine zV0 ?_;exact Kd.R_mono (Kd.R_far (p:=⟨gb191,0,none⟩) (Kd.R_types HO194.out BK191.out (by decide)) (fun _ hk => hk.2) (.slice Ao8 y192.length co8)) (fun _ hk => trivial),(zY0 HB.out)⟩
 ·rw [if_neg c2] at H
  exact absurd H (by simp)

/-! ### impl_LoseDisk: function 25 -/
def impl_LoseDisk.l0 : Nat → List Int → Int → Int → List (S45) → Option ((List (S45)) × Bool)
 | 0,_,_,_,_ => none
 | k + 1,x1,x18,x19,x202000 => if x19 < x18 then (if 0 ≤ x19 then (if x19 < (x202000.length : Int) then (if x19 < (x1.length : Int) then (if 0 ≤ (mx ((rd_T45 x202000 x19).f2) (mn (rd x1 x19) (((rd_T45 x202000 x19).f1).size : Int))) then (if (mx ((rd_T45 x202000 x19).f2) (mn (rd x1 x19) (((rd_T45 x202000 x19).f1).size : Int))) ≤ (((rd_T45 x202000 x19).f1).size : Int) then ((some (x202000.set (x19 : Int).toNat (⟨(rd_T45 x202000 x19).f0,((rd_T45 x202000 x19).f1).extract 0 ((mx ((rd_T45 x202000 x19).f2) (mn (rd x1 x19) (((rd_T45 x202000 x19).f1).size : Int))) : Int).toNat,(rd_T45 x202000 x19).f2⟩ : S45) : List (S45))).bind fun y205 => (impl_LoseDisk.l0 k x1 x18 (wrap64 (x19 + 1)) (y205.set (x19 : Int).toNat (⟨(rd_T45 y205 x19).f0,(rd_T45 y205 x19).f1,mx ((rd_T45 x202000 x19).f2) (mn (rd x1 x19) (((rd_T45 x202000 x19).f1).size : Int))⟩ : S45)))) else (none)) else (none)) else (if 0 ≤ (mx ((rd_T45 x202000 x19).f2) (mn 0 (((rd_T45 x202000 x19).f1).size : Int))) then (if (mx ((rd_T45 x202000 x19).f2) (mn 0 (((rd_T45 x202000 x19).f1).size : Int))) ≤ (((rd_T45 x202000 x19).f1).size : Int) then ((some (x202000.set (x19 : Int).toNat (⟨(rd_T45 x202000 x19).f0,((rd_T45 x202000 x19).f1).extract 0 ((mx ((rd_T45 x202000 x19).f2) (mn 0 (((rd_T45 x202000 x19).f1).size : Int))) : Int).toNat,(rd_T45 x202000 x19).f2⟩ : S45) : List (S45))).bind fun y207 => (impl_LoseDisk.l0 k x1 x18 (wrap64 (x19 + 1)) (y207.set (x19 : Int).toNat (⟨(rd_T45 y207 x19).f0,(rd_T45 y207 x19).f1,mx ((rd_T45 x202000 x19).f2) (mn 0 (((rd_T45 x202000 x19).f1).size : Int))⟩ : S45)))) else (none)) else (none))) else (none)) else (none)) else (some (x202000,true))
def impl_LoseDisk.f (k : Nat) (l0_0 : List (S45)) (l1 : List Int) : Option ((List (S45)) × Bool):=(impl_DiskOk.f k l0_0).bind fun t197 => (if t197 = true then ((impl_copyDisk.f l0_0).bind fun t198 => (impl_LoseDisk.l0 k l1 (t198.length : Int) 0 t198)) else (some (([] : List (S45)),false)))
theorem impl_LoseDisk.mono_l : ∀ k,(∀ y0 y1 y2 y3,LeO (impl_LoseDisk.l0 k y0 y1 y2 y3) (impl_LoseDisk.l0 (k + 1) y0 y1 y2 y3))
 | 0 => fun _ _ _ _ r h => by simp [impl_LoseDisk.l0] at h
 | k + 1 => by
  have ih0:=impl_LoseDisk.mono_l k
  ·intro y0 y1 y2 y3
   unfold impl_LoseDisk.l0
   repeat' first
   | (with_reducible exact ih0 _ _ _ _)
   | (with_reducible exact impl_DiskOk.mono _ _)
   | (with_reducible exact LeO.refl _)
   | (with_reducible exact LeO.none _)
   | (with_reducible refine LeO.ite ?_ ?_)
   | (with_reducible refine LeO.bind ?_ (fun _ => ?_))
   | exact ih0 _ _ _ _
   | exact impl_DiskOk.mono _ _
   | exact LeO.none _
   | refine LeO.ite ?_ ?_
   | refine LeO.bind ?_ (fun _ => ?_)
theorem impl_LoseDisk.mono : ∀ a0 a1 k,LeO (impl_LoseDisk.f k a0 a1) (impl_LoseDisk.f (k + 1) a0 a1):=by
 intro a0 a1 k
 have ih0:=impl_LoseDisk.mono_l k
 unfold impl_LoseDisk.f
 repeat' first
   | (with_reducible exact ih0 _ _ _ _)
   | (with_reducible exact impl_DiskOk.mono _ _)
   | (with_reducible exact LeO.refl _)
   | (with_reducible exact LeO.none _)
   | (with_reducible refine LeO.ite ?_ ?_)
   | (with_reducible refine LeO.bind ?_ (fun _ => ?_))
   | exact ih0 _ _ _ _
   | exact impl_DiskOk.mono _ _
   | exact LeO.none _
   | refine LeO.ite ?_ ?_
   | refine LeO.bind ?_ (fun _ => ?_)
def impl_LoseDisk.T11 : Bool × List (List Nat × List Nat):=(true,[([],[]),([0],[0]),([],[]),([],[]),([3],[3]),([],[]),([],[]),([6],[6]),([],[]),([7,8],[7,8]),([],[]),([1,2,0,1,2,6,7,8,9],[1,2]),([11,0,1,2,6,7,8,9],[11]),([12,9,0,1,2,6,7,8,9],[9,12]),([4,5,0,1,2,3,4,5,6,7,8,9,10,11,12,13],[4,5]),([14,0,1,2,3,4,5,6,7,8,9,10,11,12,13],[14]),([15,10,13,0,1,2,3,4,5,6,7,8,9,10,11,12,13],[10,15])])
def impl_LoseDisk.B11 : List Nat:=[0,1,0,0,8,0,0,64,0,448,0,967,3015,7111,16383,32767,65535]
theorem impl_LoseDisk.tab11 : rtab .any (opsOf Try.f25 11) = impl_LoseDisk.T11:=by kernel_rfl
theorem impl_LoseDisk.bits11 : waitsOk impl_LoseDisk.T11.2 impl_LoseDisk.B11 = true:=by kernel_rfl
set_option maxHeartbeats 8000000 in
set_option maxRecDepth 100000 in
theorem impl_LoseDisk.calls (k : Nat) (A0_0 : Option Addr) (c0_0 : Nat) (l0_0 : List (S45)) (A1 : Option Addr) (c1 : Nat) (l1 : List Int) (r1 : List (S45)) (r2 : Bool) (w : World) (hr0_0 : Kd.C k45 w A0_0 l0_0.length l0_0) (hc0_0 : l0_0.length ≤ c0_0) (hr1 : Kd.C (Kd.int .i64) w A1 l1.length l1) (hc1 : l1.length ≤ c1) (h : impl_LoseDisk.f k l0_0 l1 = some (r1,r2)) :
  Calls Try.prog 25 #[.agg #[.slice A0_0 l0_0.length c0_0],.slice A1 l1.length c1] w fun e w' => ∃ v0_ : Value,e = .returned (.tuple #[.agg #[v0_],.bool r2]) ∧ Kd.R k45 45 w' w.heap.size (fun _ => True) v0_ r1 ∧ Below w.heap.size w w':=by
 have hu30:=Try.underlying30
 have hu45:=Try.underlying45
 have HR0_0:=Aside0.mk hr0_0
 have HC0_0:=Aside0.mk hc0_0
 clear hr0_0 hc0_0
 have HR1:=Aside0.mk hr1
 have HC1:=Aside0.mk hc1
 clear hr1 hc1
 have HB:=Aside0.mk (Below.refl w.heap.size w)
 have H : ((impl_DiskOk.f k l0_0).bind fun t197 => (if t197 = true then ((impl_copyDisk.f l0_0).bind fun t198 => (impl_LoseDisk.l0 k l1 (t198.length : Int) 0 t198)) else (some (([] : List (S45)),false)))) = some (r1,r2):=h
 clear h
 replace H:=Option.bind_eq_some_iff.mp H
 obtain ⟨t197,A30,H⟩:=H
 replace H : (if t197 = true then ((impl_copyDisk.f l0_0).bind fun t198 => (impl_LoseDisk.l0 k l1 (t198.length : Int) 0 t198)) else (some (([] : List (S45)),false))) = some (r1,r2):=H
 have A3:=Aside0.mk A30
 clear A30
 by_cases c4 : t197 = true
 ·subst c4
  have H1 : ((impl_copyDisk.f l0_0).bind fun t198 => (impl_LoseDisk.l0 k l1 (t198.length : Int) 0 t198)) = some (r1,r2):=by rw [if_pos rfl] at H;exact H
  clear H
  have H:=H1
  clear H1
  replace H:=Option.bind_eq_some_iff.mp H
  obtain ⟨t198,A50,H⟩:=H
  replace H : (impl_LoseDisk.l0 k l1 (t198.length : Int) 0 t198) = some (r1,r2):=H
  have A5:=Aside0.mk A50
  clear A50
  have H':=Aside0.mk H
  clear H
  go_enter Try.func25,Try.ntmps25
  go_wp2_with (first | ((with_reducible refine gate_dst (N:=2) rfl ?_);refine box_event ?hg (N:=2) ?hd (cs:=#[.slice A0_0 l0_0.length c0_0]) (t:=30) ?hr ?_;(case hd => rfl);(case hg => rfl);(case hr => first | (go_simp;done) | (go_simp;rfl));intro gb195 hg w6 hbox hb;have BK195:=Aside0.mk hbox;have GW195:=zz0 hg HB;have GE195:=zz0 hg HB;replace HB:=zs0 HB hb;clear hb hbox hg) | ((with_reducible refine gate_dst (N:=4) rfl ?_);refine box_event ?hg (N:=4) ?hd (cs:=#[.slice none 0 0]) (t:=30) ?hr ?_;(case hd => rfl);(case hg => rfl);(case hr => first | (go_simp;done) | (go_simp;rfl));intro gb196 hg w7 hbox hb;have BK196:=Aside0.mk hbox;have GW196:=zz0 hg HB;have GE196:=zz0 hg HB;replace HB:=zs0 HB hb;have NB195_196:=zl0 hg BK195;have NB196_195:=zg0 hg BK195;replace BK195:=zb0 BK195 hb;clear hb hbox hg;obtain ⟨_,_⟩:=zn0 NB195_196;have hcz9_0:=zc00 BK195;have hfz9_0:=blk_frozen BK195.out 0) | ((with_reducible refine gate_callee (f:=27) rfl ?_);refine goesL_ (some 11) rfl rfl Try.func27 (by kernel_rfl) rfl #[.agg #[.slice A0_0 l0_0.length c0_0]] rfl zM0 ?_;(with_reducible refine (impl_DiskOk.calls k _ _ l0_0 true _ ?side1 ?side2 A3.out).mono ?_);(case side1 => exact zA0 (Kd.C_below HR0_0.out HB.out));(case side2 => exact HC0_0.out);rintro e w10 ⟨rfl,hb⟩;refine ⟨_,rfl,?_⟩;replace BK195:=zb0 BK195 hb;replace BK196:=zb0 BK196 hb;replace HB:=zs0 HB hb;(try clear hb);have hcz11_0:=zc00 BK195;have hfz11_0:=blk_frozen BK195.out 0) | ((with_reducible refine gate_callee (f:=77) rfl ?_);refine goesL_ (some 15) rfl rfl Try.func77 (by kernel_rfl) rfl #[.agg #[.slice A0_0 l0_0.length c0_0]] rfl zM0 ?_;(with_reducible refine (impl_copyDisk.calls _ _ l0_0 t198 _ ?side1 ?side2 A5.out).mono ?_);(case side1 => exact zA0 (Kd.C_below HR0_0.out HB.out));(case side2 => exact HC0_0.out);rintro e w12 ⟨v199,rfl,ho0,hb⟩;refine ⟨_,rfl,?_⟩;have HO200:=Aside0.mk (Kd.R_lower ho0 (zZ0 HB.out));replace BK195:=zb0 BK195 hb;replace BK196:=zb0 BK196 hb;replace HB:=zs0 HB hb;(try clear hb);(try clear ho0)) | ((with_reducible refine gate_dst (N:=6) rfl ?_);refine box_event ?hg (N:=6) ?hd (cs:=#[.slice none 0 0]) (t:=30) ?hr ?_;(case hd => rfl);(case hg => rfl);(case hr => first | (go_simp;done) | (go_simp;rfl));intro gb201 hg w13 hbox hb;replace HO200:=Aside0.mk (Kd.R_below (zR0 HO200.out) hb);have BK201:=Aside0.mk hbox;have GW201:=zz0 hg HB;have GE201:=zz0 hg HB;replace HB:=zs0 HB hb;have NB195_201:=zl0 hg BK195;have NB201_195:=zg0 hg BK195;replace BK195:=zb0 BK195 hb;have NB196_201:=zl0 hg BK196;have NB201_196:=zg0 hg BK196;replace BK196:=zb0 BK196 hb;clear hb hbox hg;obtain ⟨Ao14,co14,eo14⟩:=Kd.R_slice HO200.out;subst eo14;obtain ⟨_,_⟩:=zn0 NB201_195;obtain ⟨_,_⟩:=zn0 NB201_196;have hcz17_0:=zc00 BK201;have hfz17_0:=blk_frozen BK201.out 0))
  go_loopg [19] k (fun kq v19 w' => ∃ (x19_1 : Int) (x202000_1 : List (S45)),v19 = .int .i64 x19_1 ∧ Aside0 (impl_LoseDisk.l0 kq l1 (t198.length : Int) x19_1 x202000_1 = some (r1,r2)) ∧ Aside0 (kq ≤ k) ∧ Aside0 (Kd.R k45 45 w' w.heap.size (fun _ => True) (.slice Ao14 t198.length co14) x202000_1) ∧ Aside0 (w'.heap[gb195]? = some (.cells #[(.slice A0_0 l0_0.length c0_0)] 30 (0,0))) ∧ Aside0 (w'.heap[gb196]? = some (.cells #[(.slice none 0 0)] 30 (0,0))) ∧ Aside0 (w'.heap[gb201]? = some (.cells #[(.slice Ao14 t198.length co14)] 30 (0,0))) ∧ Aside0 (Below w.heap.size w w'))
  case atStart => exact ⟨(0),(t198),zE0,H',⟨Nat.le_refl _⟩,⟨by refine zV0 ?_;exact Kd.R_mono (Kd.R_far (p:=⟨gb201,0,none⟩) (Kd.R_types HO200.out BK201.out (by decide)) (fun _ hk => hk.2) (.slice Ao14 t198.length co14)) (fun _ hk => trivial)⟩,⟨zK0 BK195.out⟩,⟨zK0 BK196.out⟩,⟨by refine zT0 ?_;refine blk_put (cs:=#[.slice none 0 0]) ?_ 0 _ rfl;exact zK0 BK201.out⟩,⟨zY0 HB.out⟩⟩
  case round =>
   clear H'
   try clear c4
   try clear hcz11_0
   try clear hcz17_0
   try clear hcz9_0
   try clear hfz11_0
   try clear hfz17_0
   try clear hfz9_0
   obtain ⟨x19_1,x202000_1,rfl,HA,HK1,HO_202000,BK195,BK196,BK201,HB⟩:=hrel
   have hl202000_1:=(Kd.R_reads' HO_202000.out).1
   rw [hl202000_1] at HO_202000
   (try simp only [hl202000_1])
   (try simp only [hl202000_1] at BK195)
   (try simp only [hl202000_1] at BK196)
   (try simp only [hl202000_1] at BK201)
   cases gk with
   | zero => exact absurd HA.out (by simp [impl_LoseDisk.l0])
   | succ k1 =>
    have H:=HA.out
    clear HA
    simp only [impl_LoseDisk.l0] at H
    by_cases c18 : x19_1 < (t198.length : Int)
    ·rw [if_pos c18] at H
     have c18b0 : decide (x19_1 < (t198.length : Int)) = true:=decide_eq_true c18
     clear c18
     by_cases c19 : 0 ≤ x19_1
     ·rw [if_pos c19] at H
      have c19b0 : decide (0 ≤ x19_1) = true:=decide_eq_true c19
      clear c19
      by_cases c20 : x19_1 < (x202000_1.length : Int)
      ·rw [if_pos c20] at H
       have c20b0 : decide (x19_1 < (x202000_1.length : Int)) = true:=decide_eq_true c20
       clear c20
       by_cases c21 : x19_1 < (l1.length : Int)
       ·rw [if_pos c21] at H
        have c21b0 : decide (x19_1 < (l1.length : Int)) = true:=decide_eq_true c21
        clear c21
        obtain ⟨ji22,hji22⟩ : ∃ j_ : Int,(mn (rd l1 x19_1) (((rd_T45 x202000_1 x19_1).f1).size : Int)) = j_:=⟨_,rfl⟩
        replace H : (if 0 ≤ (mx ((rd_T45 x202000_1 x19_1).f2) (ji22)) then (if (mx ((rd_T45 x202000_1 x19_1).f2) (ji22)) ≤ (((rd_T45 x202000_1 x19_1).f1).size : Int) then ((some (x202000_1.set (x19_1 : Int).toNat (⟨(rd_T45 x202000_1 x19_1).f0,((rd_T45 x202000_1 x19_1).f1).extract 0 ((mx ((rd_T45 x202000_1 x19_1).f2) (ji22)) : Int).toNat,(rd_T45 x202000_1 x19_1).f2⟩ : S45) : List (S45))).bind fun y205 => (impl_LoseDisk.l0 k1 l1 (t198.length : Int) (wrap64 (x19_1 + 1)) (y205.set (x19_1 : Int).toNat (⟨(rd_T45 y205 x19_1).f0,(rd_T45 y205 x19_1).f1,mx ((rd_T45 x202000_1 x19_1).f2) (ji22)⟩ : S45)))) else (none)) else (none)) = some (r1,r2):=by first | (rw [hji22] at H;exact H) | (simp only [hji22] at H ⊢;exact H)
        have hji22_ : (if (((rd_T45 x202000_1 x19_1).f1).size : Int) < (rd l1 x19_1) then (((rd_T45 x202000_1 x19_1).f1).size : Int) else (rd l1 x19_1)) = ji22:=hji22
        obtain ⟨ji23,hji23⟩ : ∃ j_ : Int,(mx ((rd_T45 x202000_1 x19_1).f2) (ji22)) = j_:=⟨_,rfl⟩
        replace H : (if 0 ≤ (ji23) then (if (ji23) ≤ (((rd_T45 x202000_1 x19_1).f1).size : Int) then ((some (x202000_1.set (x19_1 : Int).toNat (⟨(rd_T45 x202000_1 x19_1).f0,((rd_T45 x202000_1 x19_1).f1).extract 0 ((ji23) : Int).toNat,(rd_T45 x202000_1 x19_1).f2⟩ : S45) : List (S45))).bind fun y205 => (impl_LoseDisk.l0 k1 l1 (t198.length : Int) (wrap64 (x19_1 + 1)) (y205.set (x19_1 : Int).toNat (⟨(rd_T45 y205 x19_1).f0,(rd_T45 y205 x19_1).f1,ji23⟩ : S45)))) else (none)) else (none)) = some (r1,r2):=by first | (rw [hji23] at H;exact H) | (simp only [hji23] at H ⊢;exact H)
        have hji23_ : (if ((rd_T45 x202000_1 x19_1).f2) < (ji22) then (ji22) else ((rd_T45 x202000_1 x19_1).f2)) = ji23:=hji23
        try have hji23z_ : (if ((rd_T45 x202000_1 x19_1).f2) < 0 then 0 else ((rd_T45 x202000_1 x19_1).f2)) = ji23:=by rw [← hji23_,hjz_]
        by_cases c24 : 0 ≤ (ji23)
        ·rw [if_pos c24] at H
         have c24b0:=eq_true c24
         have c24b1 : decide (0 ≤ (ji23)) = true:=decide_eq_true c24
         clear c24
         by_cases c25 : (ji23) ≤ (((rd_T45 x202000_1 x19_1).f1).size : Int)
         ·rw [if_pos c25] at H
          have c25b0:=eq_true c25
          have c25b1 : decide ((ji23) ≤ (((rd_T45 x202000_1 x19_1).f1).size : Int)) = true:=decide_eq_true c25
          clear c25
          obtain ⟨y205,hy205⟩ : ∃ y_ : List (S45),y_ = (x202000_1.set (x19_1 : Int).toNat (⟨(rd_T45 x202000_1 x19_1).f0,((rd_T45 x202000_1 x19_1).f1).extract 0 ((ji23) : Int).toNat,(rd_T45 x202000_1 x19_1).f2⟩ : S45)):=⟨_,rfl⟩
          replace H : (impl_LoseDisk.l0 k1 l1 (t198.length : Int) (wrap64 (x19_1 + 1)) (y205.set (x19_1 : Int).toNat (⟨(rd_T45 y205 x19_1).f0,(rd_T45 y205 x19_1).f1,ji23⟩ : S45))) = some (r1,r2):=by first | (rw [hy205];with_reducible exact H) | (have H2_:=(Option.bind_some _ _).symm.trans H;rw [hy205];with_reducible exact H2_) | (have H2_:=(Option.bind_some _ _).symm.trans H;with_reducible exact H2_) | with_reducible exact H | (rw [hy205];exact H) | exact H
          have Ny205:=Aside0.mk hy205
          clear hy205
          obtain ⟨y206,hy206⟩ : ∃ y_ : List (S45),y_ = (y205.set (x19_1 : Int).toNat (⟨(rd_T45 y205 x19_1).f0,(rd_T45 y205 x19_1).f1,ji23⟩ : S45)):=⟨_,rfl⟩
          replace H : (impl_LoseDisk.l0 k1 l1 (t198.length : Int) (wrap64 (x19_1 + 1)) y206) = some (r1,r2):=by first | (rw [hy206];with_reducible exact H) | (have H2_:=(Option.bind_some _ _).symm.trans H;rw [hy206];with_reducible exact H2_) | (have H2_:=(Option.bind_some _ _).symm.trans H;with_reducible exact H2_) | with_reducible exact H | (rw [hy206];exact H) | exact H
          have Ny206:=Aside0.mk hy206
          clear hy206
          have H':=Aside0.mk H
          clear H
          have p202 : 0 ≤ (x19_1 : Int):=zD0
          have q202 : x19_1 < (x202000_1.length : Int):=zD0
          obtain ⟨ad202,e202,hx202_0,hx202_1,hx202_2⟩:=at_T45 (Kd.R_reads' HO_202000.out).2.2 x19_1 p202 q202
          cases e202
          replace p202:=eq_true p202
          replace q202:=eq_true q202
          try go_wp2_with (first | ((with_reducible refine gate_dst (N:=8) rfl ?_);refine box_event ?hg (N:=8) ?hd (cs:=#[.string (⟨#[]⟩ : ByteArray),.string (⟨#[]⟩ : ByteArray),.int .i64 0]) (t:=45) ?hr ?_;(case hd => rfl);(case hg => rfl);(case hr => first | (go_simp;done) | (go_simp;rfl));intro gb203 hg w28 hbox hb;replace HO_202000:=Aside0.mk (Kd.R_below (Kd.R_elderB (zR0 HO_202000.out) gb203 (Nat.le_of_eq hg.symm)) hb);have BK203:=Aside0.mk hbox;have GW203:=zz0 hg HB;have GE203:=zz0 hg HB;replace HB:=zs0 HB hb;have NB195_203:=zl0 hg BK195;have NB203_195:=zg0 hg BK195;replace BK195:=zb0 BK195 hb;have NB196_203:=zl0 hg BK196;have NB203_196:=zg0 hg BK196;replace BK196:=zb0 BK196 hb;have NB201_203:=zl0 hg BK201;have NB203_201:=zg0 hg BK201;replace BK201:=zb0 BK201 hb;clear hb hbox hg;obtain ⟨_,_⟩:=zn0 NB203_195;obtain ⟨_,_⟩:=zn0 NB203_196;obtain ⟨_,_⟩:=zn0 NB203_201;have hcz32_0:=zc00 BK203;have hcz32_1:=zc01 BK203;have hcz32_2:=zc02 BK203;have hfz32_0:=blk_frozen BK203.out 0;have hfz32_1:=blk_frozen BK203.out 1;have hfz32_2:=blk_frozen BK203.out 2;have p204 : 0 ≤ (x19_1 : Int):=zD0;have q204 : x19_1 < (l1.length : Int):=zD0;obtain ⟨ad204,e204,hx204_0⟩:=Kd.at_int HR1.out x19_1 p204 q204;cases e204;have hn204_0 : ad204.block ≠ gb203:=Nat.ne_of_lt (Nat.lt_of_lt_of_le (by have:=World.block_lt_of_cell? _ _ hx204_0;first | rwa [add_block] at this | exact this) GW203.out);have hn204_1 : ad204.block ≠ gb203:=Nat.ne_of_lt (Nat.lt_of_lt_of_le (by have:=World.block_lt_of_cell? _ _ hx204_0;first | rwa [add_block] at this | exact this) GW203.out);have hn204_2 : ad204.block ≠ gb203:=Nat.ne_of_lt (Nat.lt_of_lt_of_le (by have:=World.block_lt_of_cell? _ _ hx204_0;first | rwa [add_block] at this | exact this) GW203.out);replace hx204_0:=zx0 HB hx204_0;replace hx204_0:=(cell_far (p:=⟨gb203,0,none⟩) (by first | (rw [add_block];exact hn204_0) | (show (Addr.add _ _).block ≠ _;rw [add_block];exact hn204_0) | exact hn204_0) (.string ((rd_T45 x202000_1 x19_1).f0))).trans hx204_0;replace hx204_0:=(cell_far (p:=⟨gb203,1,none⟩) (by first | (rw [add_block];exact hn204_1) | (show (Addr.add _ _).block ≠ _;rw [add_block];exact hn204_1) | exact hn204_1) (.string ((rd_T45 x202000_1 x19_1).f1))).trans hx204_0;replace hx204_0:=(cell_far (p:=⟨gb203,2,none⟩) (by first | (rw [add_block];exact hn204_2) | (show (Addr.add _ _).block ≠ _;rw [add_block];exact hn204_2) | exact hn204_2) (.int .i64 ((rd_T45 x202000_1 x19_1).f2))).trans hx204_0;clear hn204_0;clear hn204_1;clear hn204_2;replace p204:=eq_true p204;replace q204:=eq_true q204))
          have n0_ : Aside0 (Kd.R k45 45 (((w28.setCell ⟨gb203,0,none⟩ (.string ((rd_T45 x202000_1 x19_1).f0))).setCell ⟨gb203,1,none⟩ (.string ((rd_T45 x202000_1 x19_1).f1))).setCell ⟨gb203,2,none⟩ (.int .i64 ((rd_T45 x202000_1 x19_1).f2))) w.heap.size (fun k_ => k_ ≠ gb203) (.slice (some ad202) x202000_1.length co14) x202000_1):=⟨by refine zV0 ?_;exact Kd.R_mono (Kd.R_far (p:=⟨gb203,2,none⟩) (Kd.R_far (p:=⟨gb203,1,none⟩) (Kd.R_far (p:=⟨gb203,0,none⟩) (Kd.R_mono HO_202000.out (fun k_ hk => (⟨hk,hk.2⟩ : _ ∧ k_ ≠ gb203))) (fun _ hk => hk.2) (.string ((rd_T45 x202000_1 x19_1).f0))) (fun _ hk => hk.2) (.string ((rd_T45 x202000_1 x19_1).f1))) (fun _ hk => hk.2) (.int .i64 ((rd_T45 x202000_1 x19_1).f2))) (fun _ hk => hk.1.2)⟩
          have n1_ : Aside0 ((((w28.setCell ⟨gb203,0,none⟩ (.string ((rd_T45 x202000_1 x19_1).f0))).setCell ⟨gb203,1,none⟩ (.string ((rd_T45 x202000_1 x19_1).f1))).setCell ⟨gb203,2,none⟩ (.int .i64 ((rd_T45 x202000_1 x19_1).f2))).heap[gb195]? = some (.cells #[.slice A0_0 l0_0.length c0_0] 30 (0,0))):=⟨zK0 BK195.out⟩
          have n2_ : Aside0 ((((w28.setCell ⟨gb203,0,none⟩ (.string ((rd_T45 x202000_1 x19_1).f0))).setCell ⟨gb203,1,none⟩ (.string ((rd_T45 x202000_1 x19_1).f1))).setCell ⟨gb203,2,none⟩ (.int .i64 ((rd_T45 x202000_1 x19_1).f2))).heap[gb196]? = some (.cells #[.slice none 0 0] 30 (0,0))):=⟨zK0 BK196.out⟩
          have n3_ : Aside0 ((((w28.setCell ⟨gb203,0,none⟩ (.string ((rd_T45 x202000_1 x19_1).f0))).setCell ⟨gb203,1,none⟩ (.string ((rd_T45 x202000_1 x19_1).f1))).setCell ⟨gb203,2,none⟩ (.int .i64 ((rd_T45 x202000_1 x19_1).f2))).heap[gb201]? = some (.cells #[.slice (some ad202) x202000_1.length co14] 30 (0,0))):=⟨zK0 BK201.out⟩
          have n4_ : Aside0 ((((w28.setCell ⟨gb203,0,none⟩ (.string ((rd_T45 x202000_1 x19_1).f0))).setCell ⟨gb203,1,none⟩ (.string ((rd_T45 x202000_1 x19_1).f1))).setCell ⟨gb203,2,none⟩ (.int .i64 ((rd_T45 x202000_1 x19_1).f2))).heap[gb203]? = some (.cells #[.string ((rd_T45 x202000_1 x19_1).f0),.string ((rd_T45 x202000_1 x19_1).f1),.int .i64 ((rd_T45 x202000_1 x19_1).f2)] 45 (0,0))):=⟨by refine zT0 ?_;refine blk_put (cs:=#[.string ((rd_T45 x202000_1 x19_1).f0),.string ((rd_T45 x202000_1 x19_1).f1),.int .i64 0]) ?_ 2 _ rfl;refine zT0 ?_;refine blk_put (cs:=#[.string ((rd_T45 x202000_1 x19_1).f0),.string (⟨#[]⟩ : ByteArray),.int .i64 0]) ?_ 1 _ rfl;refine zT0 ?_;refine blk_put (cs:=#[.string (⟨#[]⟩ : ByteArray),.string (⟨#[]⟩ : ByteArray),.int .i64 0]) ?_ 0 _ rfl;exact zK0 BK203.out⟩
          have n5_ : Aside0 (Below w.heap.size w (((w28.setCell ⟨gb203,0,none⟩ (.string ((rd_T45 x202000_1 x19_1).f0))).setCell ⟨gb203,1,none⟩ (.string ((rd_T45 x202000_1 x19_1).f1))).setCell ⟨gb203,2,none⟩ (.int .i64 ((rd_T45 x202000_1 x19_1).f2)))):=⟨zY0 HB.out⟩
          (try clear HO_202000)
          (try clear BK195)
          (try clear BK196)
          (try clear BK201)
          (try clear BK203)
          (try clear HB)
          generalize (((w28.setCell ⟨gb203,0,none⟩ (.string ((rd_T45 x202000_1 x19_1).f0))).setCell ⟨gb203,1,none⟩ (.string ((rd_T45 x202000_1 x19_1).f1))).setCell ⟨gb203,2,none⟩ (.int .i64 ((rd_T45 x202000_1 x19_1).f2))) = w33 at n0_ n1_ n2_ n3_ n4_ n5_ ⊢
          have HO_202000:=n0_
          have BK195:=n1_
          have BK196:=n2_
          have BK201:=n3_
          have BK203:=n4_
          have HB:=n5_
          clear n0_ n1_ n2_ n3_ n4_ n5_
          replace HO_202000:=Aside0.mk (Kd.R_drew HO_202000.out)
          replace BK195:=Aside0.mk (blk_drew BK195.out)
          replace BK196:=Aside0.mk (blk_drew BK196.out)
          replace BK201:=Aside0.mk (blk_drew BK201.out)
          replace BK203:=Aside0.mk (blk_drew BK203.out)
          replace HB:=Aside0.mk (below_drew1 HB.out)
          have p26 : 0 ≤ (x19_1 : Int):=zD0
          have q26 : (x19_1 : Int) < ((x202000_1.length : Int) : Int):=zD0
          obtain ⟨go26,co26,eo26,gb26,gl26,cl26,HG26⟩:=Kd.R_form HO_202000.out (by omega)
          (first | cases eo26 | (injection eo26 with ea_ en_ ec_;(first | subst ea_ | (injection ea_ with ea_;subst ea_));subst ec_;clear en_))
          have GB26:=Aside0.mk gb26
          have GG26:=Aside0.mk HG26
          clear gb26 gl26 HG26
          (first | simp only [add_plain] at hx202_0 | skip)
          (first | simp only [add_plain] at hx202_1 | skip)
          (first | simp only [add_plain] at hx202_2 | skip)
          obtain ⟨ce26,hcl26,hM26,hcc26,hfr26⟩:=Kd.R_elem HO_202000.out z45 (x19_1 : Int) p26 q26
          obtain rfl:=k45_openM hM26
          have hx26_0 : World.cell? _ ⟨go26,(x19_1 : Int).toNat * 3,none⟩ = some (.string ((rd_T45 x202000_1 x19_1).f0)):=hcc26 0 _ rfl
          have hx26_1 : World.cell? _ ⟨go26,(x19_1 : Int).toNat * 3 + 1,none⟩ = some (.string ((rd_T45 x202000_1 x19_1).f1)):=hcc26 1 _ rfl
          have hx26_2 : World.cell? _ ⟨go26,(x19_1 : Int).toNat * 3 + 2,none⟩ = some (.int .i64 ((rd_T45 x202000_1 x19_1).f2)):=hcc26 2 _ rfl
          have hf26_0 : World.frozen? _ ⟨go26,(x19_1 : Int).toNat * 3,none⟩ = false:=hfr26 0
          have hf26_1 : World.frozen? _ ⟨go26,(x19_1 : Int).toNat * 3 + 1,none⟩ = false:=hfr26 1
          have hf26_2 : World.frozen? _ ⟨go26,(x19_1 : Int).toNat * 3 + 2,none⟩ = false:=hfr26 2
          clear hcl26 hcc26 hfr26 hM26
          replace p26:=eq_true p26
          replace q26:=eq_true q26
          obtain ⟨ce35,hcl35,hM35,hcc35,hfr35⟩:=Kd.R_elem HO_202000.out z45 (x19_1 : Int) (zD0) (by have h_ : (x19_1 : Int) < ((x202000_1.length : Int) : Int):=zD0;first | exact h_ | (have e_:=(Kd.R_reads' HO_202000.out).1;omega) | simpa using h_)
          obtain rfl:=k45_openM hM35
          have HP35:=(Kd.R_seg HO_202000.out (x19_1 : Int) (zD0) (by have h_ : (x19_1 : Int) < ((x202000_1.length : Int) : Int):=zD0;first | exact h_ | (have e_:=(Kd.R_reads' HO_202000.out).1;omega) | simpa using h_) (seg:=[.string (((rd_T45 x202000_1 x19_1).f1).extract 0 ((ji23) : Int).toNat)]) (j:=1) hcl35 hcc35 (show 2 ≤ 3 from by decide) (x':=(⟨(rd_T45 x202000_1 x19_1).f0,((rd_T45 x202000_1 x19_1).f1).extract 0 ((ji23) : Int).toNat,(rd_T45 x202000_1 x19_1).f2⟩ : S45)) (k45_mkM _ _ _ (⟨(rd_T45 x202000_1 x19_1).f0,((rd_T45 x202000_1 x19_1).f1).extract 0 ((ji23) : Int).toNat,(rd_T45 x202000_1 x19_1).f2⟩ : S45) ) (fun _ hk => hk)).1
          rw [← Ny205.out] at HP35
          have HQ35:=Aside0.mk HP35
          clear hcl35 hcc35 hfr35 hM35 HP35
          have p27 : 0 ≤ (x19_1 : Int):=zD0
          have q27 : (x19_1 : Int) < ((x202000_1.length : Int) : Int):=zD0
          replace p27:=eq_true p27
          replace q27:=eq_true q27
          obtain ⟨ce36,hcl36,hM36,hcc36,hfr36⟩:=Kd.R_elem HQ35.out z45 (x19_1 : Int) (zD0) (by have h_ : (x19_1 : Int) < ((x202000_1.length : Int) : Int):=zD0;first | exact h_ | (have e_:=(Kd.R_reads' HO_202000.out).1;omega) | simpa using h_)
          obtain rfl:=k45_openM hM36
          have HP36:=(Kd.R_seg HQ35.out (x19_1 : Int) (zD0) (by have h_ : (x19_1 : Int) < ((x202000_1.length : Int) : Int):=zD0;first | exact h_ | (have e_:=(Kd.R_reads' HO_202000.out).1;omega) | simpa using h_) (seg:=[.int .i64 ji23]) (j:=2) hcl36 hcc36 (show 3 ≤ 3 from by decide) (x':=(⟨(rd_T45 y205 x19_1).f0,(rd_T45 y205 x19_1).f1,ji23⟩ : S45)) (k45_mkM _ _ _ (⟨(rd_T45 y205 x19_1).f0,(rd_T45 y205 x19_1).f1,ji23⟩ : S45) ) (fun _ hk => hk)).1
          rw [← Ny206.out] at HP36
          have HQ36:=Aside0.mk HP36
          clear hcl36 hcc36 hfr36 hM36 HP36
          refine start_ (n:=17) (S:=fun w' => w'.cell? ⟨gb201,0,none⟩ = some (.slice (some ⟨go26,0,none⟩) x202000_1.length co14) ∧ w'.cell? ⟨gb203,0,none⟩ = some (.string ((rd_T45 x202000_1 x19_1).f0)) ∧ w'.cell? ⟨gb203,1,none⟩ = some (.string ((rd_T45 x202000_1 x19_1).f1)) ∧ w'.cell? ⟨gb203,2,none⟩ = some (.int .i64 ((rd_T45 x202000_1 x19_1).f2))) (ds:=[16]) (zF0 17 0) (by kernel_rfl) rfl rfl ⟨(blk_cell BK201.out 0).trans rfl,(blk_cell BK203.out 0).trans rfl,(blk_cell BK203.out 1).trans rfl,(blk_cell BK203.out 2).trans rfl⟩ (fun hHeld => ?_);refine with_tabW impl_LoseDisk.tab11 impl_LoseDisk.bits11 (fun HT_ HW_ => ?_)
          generalize w33.drew = w34 at HO_202000 BK195 BK196 BK201 BK203 HB GG26 HQ35 HQ36 hf26_0 hf26_1 hf26_2 hx202_0 hx202_1 hx202_2 hx26_0 hx26_1 hx26_2 hHeld ⊢
          refine zp0 0 40 17 1 HT_ ?_
          refine zp0 2 42 17 5 HT_ ?_
          refine zp0 3 43 17 13 HT_ ?_
          refine zp0 5 45 17 45 HT_ ?_
          refine zp0 6 46 17 109 HT_ ?_
          refine zp0 8 48 17 365 HT_ ?_
          refine zp0 10 50 17 1389 HT_ ?_
          refine take_ (i:=1) (N:=some 41) (v:=?_) (a':=?_) (zF0 17 1391) rfl rfl (take_ofW HT_.out HW_.out (by kernel_rfl)) (fun _ _ _ h => h) (Or.inl ⟨by rfl,?_⟩) hHeld ?_ ?_;rotate_left
          ·rintro w' ⟨s0,s1,s2,s3⟩
           go_simp
           with_reducible rfl
          rotate_left
          ·simp only [Act.put,qA0,qB0,qC0,i64_w,i32_w];rfl
          refine take_ (i:=4) (N:=some 44) (v:=?_) (a':=?_) (zF0 17 1407) rfl rfl (take_ofW HT_.out HW_.out (by kernel_rfl)) (fun _ _ _ h => h) (Or.inl ⟨by rfl,?_⟩) hHeld ?_ ?_;rotate_left
          ·rintro w' ⟨s0,s1,s2,s3⟩
           go_simp
           with_reducible rfl
          rotate_left
          ·simp only [Act.put,qA0,qB0,qC0,i64_w,i32_w];rfl
          refine take_ (i:=7) (N:=some 47) (v:=?_) (a':=?_) (zF0 17 1535) rfl rfl (take_ofW HT_.out HW_.out (by kernel_rfl)) (fun _ _ _ h => h) (Or.inl ⟨by rfl,?_⟩) hHeld ?_ ?_;rotate_left
          ·rintro w' ⟨s0,s1,s2,s3⟩
           go_simp
           with_reducible rfl
          rotate_left
          ·simp only [Act.put,qA0,qB0,qC0,i64_w,i32_w];rfl
          refine zp0 9 49 17 2047 HT_ ?_
          refine zp0 11 51 17 4095 HT_ ?_
          refine zp0 12 52 17 8191 HT_ ?_
          refine one_ (i:=13) (N:=none) (zF0 17 16383) rfl rfl (one_of HT_.out (by kernel_rfl)) (by decide) (fun K hK => ?_)
          refine skip_ (w1:=?_) (by rfl) rfl ?_ ?_;rotate_left
          ·go_simp
           rfl
          refine hK.out _ _ ⟨((cell_far (p:=⟨go26,_,none⟩) (fun e_ => (by first | exact Kd.R_away HO_202000.out (fun _ hk => hk) (congrArg some e_) | exact Kd.R_away HO_202000.out (fun _ hk => hk.1) (congrArg some e_) | exact Kd.R_away HO_202000.out (fun _ hk => hk.2) (congrArg some e_) | exact Kd.R_ne HO_202000.out BK201.out (by decide) (congrArg some e_))) _).trans (hHeld.1)),((cell_far (p:=⟨go26,_,none⟩) (fun e_ => (by first | exact Kd.R_away HO_202000.out (fun _ hk => hk) (congrArg some e_) | exact Kd.R_away HO_202000.out (fun _ hk => hk.1) (congrArg some e_) | exact Kd.R_away HO_202000.out (fun _ hk => hk.2) (congrArg some e_) | exact Kd.R_ne HO_202000.out BK203.out (by decide) (congrArg some e_))) _).trans (hHeld.2.1)),((cell_far (p:=⟨go26,_,none⟩) (fun e_ => (by first | exact Kd.R_away HO_202000.out (fun _ hk => hk) (congrArg some e_) | exact Kd.R_away HO_202000.out (fun _ hk => hk.1) (congrArg some e_) | exact Kd.R_away HO_202000.out (fun _ hk => hk.2) (congrArg some e_) | exact Kd.R_ne HO_202000.out BK203.out (by decide) (congrArg some e_))) _).trans (hHeld.2.2.1)),((cell_far (p:=⟨go26,_,none⟩) (fun e_ => (by first | exact Kd.R_away HO_202000.out (fun _ hk => hk) (congrArg some e_) | exact Kd.R_away HO_202000.out (fun _ hk => hk.1) (congrArg some e_) | exact Kd.R_away HO_202000.out (fun _ hk => hk.2) (congrArg some e_) | exact Kd.R_ne HO_202000.out BK203.out (by decide) (congrArg some e_))) _).trans (hHeld.2.2.2))⟩ (fun hHeld => ?_)
          clear hK K
          refine zp0 14 53 17 32767 HT_ ?_
          refine zp0 15 54 17 65535 HT_ ?_
          refine last_ (i:=16) (N:=none) (zF0 17 131071) rfl rfl (one_of HT_.out (by kernel_rfl)) (by decide) (fun K hK => ?_)
          refine skip_ (w1:=?_) (by rfl) rfl ?_ ?_;rotate_left
          ·go_simp
           rfl
          refine hK.out _ _ ?_
          clear hK K
          refine done_ (done_of HT_.out (by kernel_rfl)) ?_
          try go_wp2
          (try simp only [← hl202000_1])
          go_roundg k1
          case measure => have:=HK1.out;omega
          case rel => exact ⟨(wrap64 (x19_1 + 1)),(y206),zE0,H',⟨by have:=HK1.out;omega⟩,⟨by (try simp only [hl202000_1]);refine zV0 ?_;exact Kd.R_mono HQ36.out (fun _ hk => trivial)⟩,⟨by (try simp only [hl202000_1]);refine zT0 ?_;refine blk_far ?_ (by have h_:=Kd.R_ne HO_202000.out BK195.out (by decide);intro e_;exact h_ (by rw [e_];rfl)) _;refine zT0 ?_;refine blk_far ?_ (by have h_:=Kd.R_ne HO_202000.out BK195.out (by decide);intro e_;exact h_ (by rw [e_];rfl)) _;exact zK0 BK195.out⟩,⟨by (try simp only [hl202000_1]);refine zT0 ?_;refine blk_far ?_ (by have h_:=Kd.R_ne HO_202000.out BK196.out (by decide);intro e_;exact h_ (by rw [e_];rfl)) _;refine zT0 ?_;refine blk_far ?_ (by have h_:=Kd.R_ne HO_202000.out BK196.out (by decide);intro e_;exact h_ (by rw [e_];rfl)) _;exact zK0 BK196.out⟩,⟨by (try simp only [hl202000_1]);refine zT0 ?_;refine blk_far ?_ (by have h_:=Kd.R_ne HO_202000.out BK201.out (by decide);intro e_;exact h_ (by rw [e_];rfl)) _;refine zT0 ?_;refine blk_far ?_ (by have h_:=Kd.R_ne HO_202000.out BK201.out (by decide);intro e_;exact h_ (by rw [e_];rfl)) _;exact zK0 BK201.out⟩,⟨by repeat (first | (with_reducible first | exact HB.out | apply below_alloc | apply pw_below_drewN | apply below_drew1 | refine below_set ?_ GB26.out | refine below_set ?_ GB26.out | refine below_set ?_ GE195.out | refine below_set ?_ GE196.out | refine below_set ?_ GE201.out | refine below_set ?_ GE203.out) | exact HB.out)⟩⟩
         ·rw [if_neg c25] at H
          exact absurd H (by simp)
        ·rw [if_neg c24] at H
         exact absurd H (by simp)
       ·rw [if_neg c21] at H
        have c21b0 : decide (x19_1 < (l1.length : Int)) = false:=decide_eq_false c21
        clear c21
        obtain ⟨ji37,hji37⟩ : ∃ j_ : Int,(mn 0 (((rd_T45 x202000_1 x19_1).f1).size : Int)) = j_:=⟨_,rfl⟩
        replace H : (if 0 ≤ (mx ((rd_T45 x202000_1 x19_1).f2) (ji37)) then (if (mx ((rd_T45 x202000_1 x19_1).f2) (ji37)) ≤ (((rd_T45 x202000_1 x19_1).f1).size : Int) then ((some (x202000_1.set (x19_1 : Int).toNat (⟨(rd_T45 x202000_1 x19_1).f0,((rd_T45 x202000_1 x19_1).f1).extract 0 ((mx ((rd_T45 x202000_1 x19_1).f2) (ji37)) : Int).toNat,(rd_T45 x202000_1 x19_1).f2⟩ : S45) : List (S45))).bind fun y207 => (impl_LoseDisk.l0 k1 l1 (t198.length : Int) (wrap64 (x19_1 + 1)) (y207.set (x19_1 : Int).toNat (⟨(rd_T45 y207 x19_1).f0,(rd_T45 y207 x19_1).f1,mx ((rd_T45 x202000_1 x19_1).f2) (ji37)⟩ : S45)))) else (none)) else (none)) = some (r1,r2):=by first | (rw [hji37] at H;exact H) | (simp only [hji37] at H ⊢;exact H)
        have hji37_ : (if (((rd_T45 x202000_1 x19_1).f1).size : Int) < 0 then (((rd_T45 x202000_1 x19_1).f1).size : Int) else 0) = ji37:=hji37
        have hjz_ : ji37 = 0:=by rw [← hji37_];exact if_neg (by omega)
        obtain ⟨ji38,hji38⟩ : ∃ j_ : Int,(mx ((rd_T45 x202000_1 x19_1).f2) (ji37)) = j_:=⟨_,rfl⟩
        replace H : (if 0 ≤ (ji38) then (if (ji38) ≤ (((rd_T45 x202000_1 x19_1).f1).size : Int) then ((some (x202000_1.set (x19_1 : Int).toNat (⟨(rd_T45 x202000_1 x19_1).f0,((rd_T45 x202000_1 x19_1).f1).extract 0 ((ji38) : Int).toNat,(rd_T45 x202000_1 x19_1).f2⟩ : S45) : List (S45))).bind fun y207 => (impl_LoseDisk.l0 k1 l1 (t198.length : Int) (wrap64 (x19_1 + 1)) (y207.set (x19_1 : Int).toNat (⟨(rd_T45 y207 x19_1).f0,(rd_T45 y207 x19_1).f1,ji38⟩ : S45)))) else (none)) else (none)) = some (r1,r2):=by first | (rw [hji38] at H;exact H) | (simp only [hji38] at H ⊢;exact H)
        have hji38_ : (if ((rd_T45 x202000_1 x19_1).f2) < (ji37) then (ji37) else ((rd_T45 x202000_1 x19_1).f2)) = ji38:=hji38
        try have hji38z_ : (if ((rd_T45 x202000_1 x19_1).f2) < 0 then 0 else ((rd_T45 x202000_1 x19_1).f2)) = ji38:=by rw [← hji38_,hjz_]
        by_cases c39 : 0 ≤ (ji38)
        ·rw [if_pos c39] at H
         have c39b0:=eq_true c39
         have c39b1 : decide (0 ≤ (ji38)) = true:=decide_eq_true c39
         clear c39
         by_cases c40 : (ji38) ≤ (((rd_T45 x202000_1 x19_1).f1).size : Int)
         ·rw [if_pos c40] at H
          have c40b0:=eq_true c40
          have c40b1 : decide ((ji38) ≤ (((rd_T45 x202000_1 x19_1).f1).size : Int)) = true:=decide_eq_true c40
          clear c40
          obtain ⟨y207,hy207⟩ : ∃ y_ : List (S45),y_ = (x202000_1.set (x19_1 : Int).toNat (⟨(rd_T45 x202000_1 x19_1).f0,((rd_T45 x202000_1 x19_1).f1).extract 0 ((ji38) : Int).toNat,(rd_T45 x202000_1 x19_1).f2⟩ : S45)):=⟨_,rfl⟩
          replace H : (impl_LoseDisk.l0 k1 l1 (t198.length : Int) (wrap64 (x19_1 + 1)) (y207.set (x19_1 : Int).toNat (⟨(rd_T45 y207 x19_1).f0,(rd_T45 y207 x19_1).f1,ji38⟩ : S45))) = some (r1,r2):=by first | (rw [hy207];with_reducible exact H) | (have H2_:=(Option.bind_some _ _).symm.trans H;rw [hy207];with_reducible exact H2_) | (have H2_:=(Option.bind_some _ _).symm.trans H;with_reducible exact H2_) | with_reducible exact H | (rw [hy207];exact H) | exact H
          have Ny207:=Aside0.mk hy207
          clear hy207
          obtain ⟨y208,hy208⟩ : ∃ y_ : List (S45),y_ = (y207.set (x19_1 : Int).toNat (⟨(rd_T45 y207 x19_1).f0,(rd_T45 y207 x19_1).f1,ji38⟩ : S45)):=⟨_,rfl⟩
          replace H : (impl_LoseDisk.l0 k1 l1 (t198.length : Int) (wrap64 (x19_1 + 1)) y208) = some (r1,r2):=by first | (rw [hy208];with_reducible exact H) | (have H2_:=(Option.bind_some _ _).symm.trans H;rw [hy208];with_reducible exact H2_) | (have H2_:=(Option.bind_some _ _).symm.trans H;with_reducible exact H2_) | with_reducible exact H | (rw [hy208];exact H) | exact H
          have Ny208:=Aside0.mk hy208
          clear hy208
          have H':=Aside0.mk H
          clear H
          have p202 : 0 ≤ (x19_1 : Int):=zD0
          have q202 : x19_1 < (x202000_1.length : Int):=zD0
          obtain ⟨ad202,e202,hx202_0,hx202_1,hx202_2⟩:=at_T45 (Kd.R_reads' HO_202000.out).2.2 x19_1 p202 q202
          cases e202
          replace p202:=eq_true p202
          replace q202:=eq_true q202
          try go_wp2_with (first | ((with_reducible refine gate_dst (N:=8) rfl ?_);refine box_event ?hg (N:=8) ?hd (cs:=#[.string (⟨#[]⟩ : ByteArray),.string (⟨#[]⟩ : ByteArray),.int .i64 0]) (t:=45) ?hr ?_;(case hd => rfl);(case hg => rfl);(case hr => first | (go_simp;done) | (go_simp;rfl));intro gb203 hg w43 hbox hb;replace HO_202000:=Aside0.mk (Kd.R_below (Kd.R_elderB (zR0 HO_202000.out) gb203 (Nat.le_of_eq hg.symm)) hb);have BK203:=Aside0.mk hbox;have GW203:=zz0 hg HB;have GE203:=zz0 hg HB;replace HB:=zs0 HB hb;have NB195_203:=zl0 hg BK195;have NB203_195:=zg0 hg BK195;replace BK195:=zb0 BK195 hb;have NB196_203:=zl0 hg BK196;have NB203_196:=zg0 hg BK196;replace BK196:=zb0 BK196 hb;have NB201_203:=zl0 hg BK201;have NB203_201:=zg0 hg BK201;replace BK201:=zb0 BK201 hb;clear hb hbox hg;obtain ⟨_,_⟩:=zn0 NB203_195;obtain ⟨_,_⟩:=zn0 NB203_196;obtain ⟨_,_⟩:=zn0 NB203_201;have hcz47_0:=zc00 BK203;have hcz47_1:=zc01 BK203;have hcz47_2:=zc02 BK203;have hfz47_0:=blk_frozen BK203.out 0;have hfz47_1:=blk_frozen BK203.out 1;have hfz47_2:=blk_frozen BK203.out 2))
          have n0_ : Aside0 (Kd.R k45 45 (((w43.setCell ⟨gb203,0,none⟩ (.string ((rd_T45 x202000_1 x19_1).f0))).setCell ⟨gb203,1,none⟩ (.string ((rd_T45 x202000_1 x19_1).f1))).setCell ⟨gb203,2,none⟩ (.int .i64 ((rd_T45 x202000_1 x19_1).f2))) w.heap.size (fun k_ => k_ ≠ gb203) (.slice (some ad202) x202000_1.length co14) x202000_1):=⟨by refine zV0 ?_;exact Kd.R_mono (Kd.R_far (p:=⟨gb203,2,none⟩) (Kd.R_far (p:=⟨gb203,1,none⟩) (Kd.R_far (p:=⟨gb203,0,none⟩) (Kd.R_mono HO_202000.out (fun k_ hk => (⟨hk,hk.2⟩ : _ ∧ k_ ≠ gb203))) (fun _ hk => hk.2) (.string ((rd_T45 x202000_1 x19_1).f0))) (fun _ hk => hk.2) (.string ((rd_T45 x202000_1 x19_1).f1))) (fun _ hk => hk.2) (.int .i64 ((rd_T45 x202000_1 x19_1).f2))) (fun _ hk => hk.1.2)⟩
          have n1_ : Aside0 ((((w43.setCell ⟨gb203,0,none⟩ (.string ((rd_T45 x202000_1 x19_1).f0))).setCell ⟨gb203,1,none⟩ (.string ((rd_T45 x202000_1 x19_1).f1))).setCell ⟨gb203,2,none⟩ (.int .i64 ((rd_T45 x202000_1 x19_1).f2))).heap[gb195]? = some (.cells #[.slice A0_0 l0_0.length c0_0] 30 (0,0))):=⟨zK0 BK195.out⟩
          have n2_ : Aside0 ((((w43.setCell ⟨gb203,0,none⟩ (.string ((rd_T45 x202000_1 x19_1).f0))).setCell ⟨gb203,1,none⟩ (.string ((rd_T45 x202000_1 x19_1).f1))).setCell ⟨gb203,2,none⟩ (.int .i64 ((rd_T45 x202000_1 x19_1).f2))).heap[gb196]? = some (.cells #[.slice none 0 0] 30 (0,0))):=⟨zK0 BK196.out⟩
          have n3_ : Aside0 ((((w43.setCell ⟨gb203,0,none⟩ (.string ((rd_T45 x202000_1 x19_1).f0))).setCell ⟨gb203,1,none⟩ (.string ((rd_T45 x202000_1 x19_1).f1))).setCell ⟨gb203,2,none⟩ (.int .i64 ((rd_T45 x202000_1 x19_1).f2))).heap[gb201]? = some (.cells #[.slice (some ad202) x202000_1.length co14] 30 (0,0))):=⟨zK0 BK201.out⟩
          have n4_ : Aside0 ((((w43.setCell ⟨gb203,0,none⟩ (.string ((rd_T45 x202000_1 x19_1).f0))).setCell ⟨gb203,1,none⟩ (.string ((rd_T45 x202000_1 x19_1).f1))).setCell ⟨gb203,2,none⟩ (.int .i64 ((rd_T45 x202000_1 x19_1).f2))).heap[gb203]? = some (.cells #[.string ((rd_T45 x202000_1 x19_1).f0),.string ((rd_T45 x202000_1 x19_1).f1),.int .i64 ((rd_T45 x202000_1 x19_1).f2)] 45 (0,0))):=⟨by refine zT0 ?_;refine blk_put (cs:=#[.string ((rd_T45 x202000_1 x19_1).f0),.string ((rd_T45 x202000_1 x19_1).f1),.int .i64 0]) ?_ 2 _ rfl;refine zT0 ?_;refine blk_put (cs:=#[.string ((rd_T45 x202000_1 x19_1).f0),.string (⟨#[]⟩ : ByteArray),.int .i64 0]) ?_ 1 _ rfl;refine zT0 ?_;refine blk_put (cs:=#[.string (⟨#[]⟩ : ByteArray),.string (⟨#[]⟩ : ByteArray),.int .i64 0]) ?_ 0 _ rfl;exact zK0 BK203.out⟩
          have n5_ : Aside0 (Below w.heap.size w (((w43.setCell ⟨gb203,0,none⟩ (.string ((rd_T45 x202000_1 x19_1).f0))).setCell ⟨gb203,1,none⟩ (.string ((rd_T45 x202000_1 x19_1).f1))).setCell ⟨gb203,2,none⟩ (.int .i64 ((rd_T45 x202000_1 x19_1).f2)))):=⟨zY0 HB.out⟩
          (try clear HO_202000)
          (try clear BK195)
          (try clear BK196)
          (try clear BK201)
          (try clear BK203)
          (try clear HB)
          generalize (((w43.setCell ⟨gb203,0,none⟩ (.string ((rd_T45 x202000_1 x19_1).f0))).setCell ⟨gb203,1,none⟩ (.string ((rd_T45 x202000_1 x19_1).f1))).setCell ⟨gb203,2,none⟩ (.int .i64 ((rd_T45 x202000_1 x19_1).f2))) = w48 at n0_ n1_ n2_ n3_ n4_ n5_ ⊢
          have HO_202000:=n0_
          have BK195:=n1_
          have BK196:=n2_
          have BK201:=n3_
          have BK203:=n4_
          have HB:=n5_
          clear n0_ n1_ n2_ n3_ n4_ n5_
          replace HO_202000:=Aside0.mk (Kd.R_drew HO_202000.out)
          replace BK195:=Aside0.mk (blk_drew BK195.out)
          replace BK196:=Aside0.mk (blk_drew BK196.out)
          replace BK201:=Aside0.mk (blk_drew BK201.out)
          replace BK203:=Aside0.mk (blk_drew BK203.out)
          replace HB:=Aside0.mk (below_drew1 HB.out)
          have p41 : 0 ≤ (x19_1 : Int):=zD0
          have q41 : (x19_1 : Int) < ((x202000_1.length : Int) : Int):=zD0
          obtain ⟨go41,co41,eo41,gb41,gl41,cl41,HG41⟩:=Kd.R_form HO_202000.out (by omega)
          (first | cases eo41 | (injection eo41 with ea_ en_ ec_;(first | subst ea_ | (injection ea_ with ea_;subst ea_));subst ec_;clear en_))
          have GB41:=Aside0.mk gb41
          have GG41:=Aside0.mk HG41
          clear gb41 gl41 HG41
          (first | simp only [add_plain] at hx202_0 | skip)
          (first | simp only [add_plain] at hx202_1 | skip)
          (first | simp only [add_plain] at hx202_2 | skip)
          obtain ⟨ce41,hcl41,hM41,hcc41,hfr41⟩:=Kd.R_elem HO_202000.out z45 (x19_1 : Int) p41 q41
          obtain rfl:=k45_openM hM41
          have hx41_0 : World.cell? _ ⟨go41,(x19_1 : Int).toNat * 3,none⟩ = some (.string ((rd_T45 x202000_1 x19_1).f0)):=hcc41 0 _ rfl
          have hx41_1 : World.cell? _ ⟨go41,(x19_1 : Int).toNat * 3 + 1,none⟩ = some (.string ((rd_T45 x202000_1 x19_1).f1)):=hcc41 1 _ rfl
          have hx41_2 : World.cell? _ ⟨go41,(x19_1 : Int).toNat * 3 + 2,none⟩ = some (.int .i64 ((rd_T45 x202000_1 x19_1).f2)):=hcc41 2 _ rfl
          have hf41_0 : World.frozen? _ ⟨go41,(x19_1 : Int).toNat * 3,none⟩ = false:=hfr41 0
          have hf41_1 : World.frozen? _ ⟨go41,(x19_1 : Int).toNat * 3 + 1,none⟩ = false:=hfr41 1
          have hf41_2 : World.frozen? _ ⟨go41,(x19_1 : Int).toNat * 3 + 2,none⟩ = false:=hfr41 2
          clear hcl41 hcc41 hfr41 hM41
          replace p41:=eq_true p41
          replace q41:=eq_true q41
          obtain ⟨ce50,hcl50,hM50,hcc50,hfr50⟩:=Kd.R_elem HO_202000.out z45 (x19_1 : Int) (zD0) (by have h_ : (x19_1 : Int) < ((x202000_1.length : Int) : Int):=zD0;first | exact h_ | (have e_:=(Kd.R_reads' HO_202000.out).1;omega) | simpa using h_)
          obtain rfl:=k45_openM hM50
          have HP50:=(Kd.R_seg HO_202000.out (x19_1 : Int) (zD0) (by have h_ : (x19_1 : Int) < ((x202000_1.length : Int) : Int):=zD0;first | exact h_ | (have e_:=(Kd.R_reads' HO_202000.out).1;omega) | simpa using h_) (seg:=[.string (((rd_T45 x202000_1 x19_1).f1).extract 0 ((ji38) : Int).toNat)]) (j:=1) hcl50 hcc50 (show 2 ≤ 3 from by decide) (x':=(⟨(rd_T45 x202000_1 x19_1).f0,((rd_T45 x202000_1 x19_1).f1).extract 0 ((ji38) : Int).toNat,(rd_T45 x202000_1 x19_1).f2⟩ : S45)) (k45_mkM _ _ _ (⟨(rd_T45 x202000_1 x19_1).f0,((rd_T45 x202000_1 x19_1).f1).extract 0 ((ji38) : Int).toNat,(rd_T45 x202000_1 x19_1).f2⟩ : S45) ) (fun _ hk => hk)).1
          rw [← Ny207.out] at HP50
          have HQ50:=Aside0.mk HP50
          clear hcl50 hcc50 hfr50 hM50 HP50
          have p42 : 0 ≤ (x19_1 : Int):=zD0
          have q42 : (x19_1 : Int) < ((x202000_1.length : Int) : Int):=zD0
          replace p42:=eq_true p42
          replace q42:=eq_true q42
          obtain ⟨ce51,hcl51,hM51,hcc51,hfr51⟩:=Kd.R_elem HQ50.out z45 (x19_1 : Int) (zD0) (by have h_ : (x19_1 : Int) < ((x202000_1.length : Int) : Int):=zD0;first | exact h_ | (have e_:=(Kd.R_reads' HO_202000.out).1;omega) | simpa using h_)
          obtain rfl:=k45_openM hM51
          have HP51:=(Kd.R_seg HQ50.out (x19_1 : Int) (zD0) (by have h_ : (x19_1 : Int) < ((x202000_1.length : Int) : Int):=zD0;first | exact h_ | (have e_:=(Kd.R_reads' HO_202000.out).1;omega) | simpa using h_) (seg:=[.int .i64 ji38]) (j:=2) hcl51 hcc51 (show 3 ≤ 3 from by decide) (x':=(⟨(rd_T45 y207 x19_1).f0,(rd_T45 y207 x19_1).f1,ji38⟩ : S45)) (k45_mkM _ _ _ (⟨(rd_T45 y207 x19_1).f0,(rd_T45 y207 x19_1).f1,ji38⟩ : S45) ) (fun _ hk => hk)).1
          rw [← Ny208.out] at HP51
          have HQ51:=Aside0.mk HP51
          clear hcl51 hcc51 hfr51 hM51 HP51
          refine start_ (n:=17) (S:=fun w' => w'.cell? ⟨gb201,0,none⟩ = some (.slice (some ⟨go41,0,none⟩) x202000_1.length co14) ∧ w'.cell? ⟨gb203,0,none⟩ = some (.string ((rd_T45 x202000_1 x19_1).f0)) ∧ w'.cell? ⟨gb203,1,none⟩ = some (.string ((rd_T45 x202000_1 x19_1).f1)) ∧ w'.cell? ⟨gb203,2,none⟩ = some (.int .i64 ((rd_T45 x202000_1 x19_1).f2))) (ds:=[16]) (zF0 17 0) (by kernel_rfl) rfl rfl ⟨(blk_cell BK201.out 0).trans rfl,(blk_cell BK203.out 0).trans rfl,(blk_cell BK203.out 1).trans rfl,(blk_cell BK203.out 2).trans rfl⟩ (fun hHeld => ?_);refine with_tabW impl_LoseDisk.tab11 impl_LoseDisk.bits11 (fun HT_ HW_ => ?_)
          generalize w48.drew = w49 at HO_202000 BK195 BK196 BK201 BK203 HB GG41 HQ50 HQ51 hf41_0 hf41_1 hf41_2 hx202_0 hx202_1 hx202_2 hx41_0 hx41_1 hx41_2 hHeld ⊢
          refine zp0 0 40 17 1 HT_ ?_
          refine zp0 2 42 17 5 HT_ ?_
          refine zp0 3 43 17 13 HT_ ?_
          refine zp0 5 45 17 45 HT_ ?_
          refine zp0 6 46 17 109 HT_ ?_
          refine zp0 8 48 17 365 HT_ ?_
          refine zp0 10 50 17 1389 HT_ ?_
          refine take_ (i:=1) (N:=some 41) (v:=?_) (a':=?_) (zF0 17 1391) rfl rfl (take_ofW HT_.out HW_.out (by kernel_rfl)) (fun _ _ _ h => h) (Or.inl ⟨by rfl,?_⟩) hHeld ?_ ?_;rotate_left
          ·rintro w' ⟨s0,s1,s2,s3⟩
           go_simp
           with_reducible rfl
          rotate_left
          ·simp only [Act.put,qA0,qB0,qC0,i64_w,i32_w];rfl
          refine take_ (i:=4) (N:=some 44) (v:=?_) (a':=?_) (zF0 17 1407) rfl rfl (take_ofW HT_.out HW_.out (by kernel_rfl)) (fun _ _ _ h => h) (Or.inl ⟨by rfl,?_⟩) hHeld ?_ ?_;rotate_left
          ·rintro w' ⟨s0,s1,s2,s3⟩
           go_simp
           with_reducible rfl
          rotate_left
          ·simp only [Act.put,qA0,qB0,qC0,i64_w,i32_w];rfl
          refine take_ (i:=7) (N:=some 47) (v:=?_) (a':=?_) (zF0 17 1535) rfl rfl (take_ofW HT_.out HW_.out (by kernel_rfl)) (fun _ _ _ h => h) (Or.inl ⟨by rfl,?_⟩) hHeld ?_ ?_;rotate_left
          ·rintro w' ⟨s0,s1,s2,s3⟩
           go_simp
           with_reducible rfl
          rotate_left
          ·simp only [Act.put,qA0,qB0,qC0,i64_w,i32_w];rfl
          refine zp0 9 49 17 2047 HT_ ?_
          refine zp0 11 51 17 4095 HT_ ?_
          refine zp0 12 52 17 8191 HT_ ?_
          refine one_ (i:=13) (N:=none) (zF0 17 16383) rfl rfl (one_of HT_.out (by kernel_rfl)) (by decide) (fun K hK => ?_)
          refine skip_ (w1:=?_) (by rfl) rfl ?_ ?_;rotate_left
          ·go_simp
           rfl
          refine hK.out _ _ ⟨((cell_far (p:=⟨go41,_,none⟩) (fun e_ => (by first | exact Kd.R_away HO_202000.out (fun _ hk => hk) (congrArg some e_) | exact Kd.R_away HO_202000.out (fun _ hk => hk.1) (congrArg some e_) | exact Kd.R_away HO_202000.out (fun _ hk => hk.2) (congrArg some e_) | exact Kd.R_ne HO_202000.out BK201.out (by decide) (congrArg some e_))) _).trans (hHeld.1)),((cell_far (p:=⟨go41,_,none⟩) (fun e_ => (by first | exact Kd.R_away HO_202000.out (fun _ hk => hk) (congrArg some e_) | exact Kd.R_away HO_202000.out (fun _ hk => hk.1) (congrArg some e_) | exact Kd.R_away HO_202000.out (fun _ hk => hk.2) (congrArg some e_) | exact Kd.R_ne HO_202000.out BK203.out (by decide) (congrArg some e_))) _).trans (hHeld.2.1)),((cell_far (p:=⟨go41,_,none⟩) (fun e_ => (by first | exact Kd.R_away HO_202000.out (fun _ hk => hk) (congrArg some e_) | exact Kd.R_away HO_202000.out (fun _ hk => hk.1) (congrArg some e_) | exact Kd.R_away HO_202000.out (fun _ hk => hk.2) (congrArg some e_) | exact Kd.R_ne HO_202000.out BK203.out (by decide) (congrArg some e_))) _).trans (hHeld.2.2.1)),((cell_far (p:=⟨go41,_,none⟩) (fun e_ => (by first | exact Kd.R_away HO_202000.out (fun _ hk => hk) (congrArg some e_) | exact Kd.R_away HO_202000.out (fun _ hk => hk.1) (congrArg some e_) | exact Kd.R_away HO_202000.out (fun _ hk => hk.2) (congrArg some e_) | exact Kd.R_ne HO_202000.out BK203.out (by decide) (congrArg some e_))) _).trans (hHeld.2.2.2))⟩ (fun hHeld => ?_)
          clear hK K
          refine zp0 14 53 17 32767 HT_ ?_
          refine zp0 15 54 17 65535 HT_ ?_
          refine last_ (i:=16) (N:=none) (zF0 17 131071) rfl rfl (one_of HT_.out (by kernel_rfl)) (by decide) (fun K hK => ?_)
          refine skip_ (w1:=?_) (by rfl) rfl ?_ ?_;rotate_left
          ·go_simp
           rfl
          refine hK.out _ _ ?_
          clear hK K
          refine done_ (done_of HT_.out (by kernel_rfl)) ?_
          try go_wp2
          (try simp only [← hl202000_1])
          go_roundg k1
          case measure => have:=HK1.out;omega
          case rel => exact ⟨(wrap64 (x19_1 + 1)),(y208),zE0,H',⟨by have:=HK1.out;omega⟩,⟨by (try simp only [hl202000_1]);refine zV0 ?_;exact Kd.R_mono HQ51.out (fun _ hk => trivial)⟩,⟨by (try simp only [hl202000_1]);refine zT0 ?_;refine blk_far ?_ (by have h_:=Kd.R_ne HO_202000.out BK195.out (by decide);intro e_;exact h_ (by rw [e_];rfl)) _;refine zT0 ?_;refine blk_far ?_ (by have h_:=Kd.R_ne HO_202000.out BK195.out (by decide);intro e_;exact h_ (by rw [e_];rfl)) _;exact zK0 BK195.out⟩,⟨by (try simp only [hl202000_1]);refine zT0 ?_;refine blk_far ?_ (by have h_:=Kd.R_ne HO_202000.out BK196.out (by decide);intro e_;exact h_ (by rw [e_];rfl)) _;refine zT0 ?_;refine blk_far ?_ (by have h_:=Kd.R_ne HO_202000.out BK196.out (by decide);intro e_;exact h_ (by rw [e_];rfl)) _;exact zK0 BK196.out⟩,⟨by (try simp only [hl202000_1]);refine zT0 ?_;refine blk_far ?_ (by have h_:=Kd.R_ne HO_202000.out BK201.out (by decide);intro e_;exact h_ (by rw [e_];rfl)) _;refine zT0 ?_;refine blk_far ?_ (by have h_:=Kd.R_ne HO_202000.out BK201.out (by decide);intro e_;exact h_ (by rw [e_];rfl)) _;exact zK0 BK201.out⟩,⟨by repeat (first | (with_reducible first | exact HB.out | apply below_alloc | apply pw_below_drewN | apply below_drew1 | refine below_set ?_ GB41.out | refine below_set ?_ GB41.out | refine below_set ?_ GE195.out | refine below_set ?_ GE196.out | refine below_set ?_ GE201.out | refine below_set ?_ GE203.out) | exact HB.out)⟩⟩
         ·rw [if_neg c40] at H
          exact absurd H (by simp)
        ·rw [if_neg c39] at H
         exact absurd H (by simp)
      ·rw [if_neg c20] at H
       exact absurd H (by simp)
     ·rw [if_neg c19] at H
      exact absurd H (by simp)
    ·rw [if_neg c18] at H
     have c18b0 : decide (x19_1 < (t198.length : Int)) = false:=decide_eq_false c18
     try have c18b9 : decide (x19_1 < (x202000_1.length : Int)) = false:=by rw [← hl202000_1];exact c18b0
     clear c18
     simp only [Option.some.injEq,Prod.mk.injEq] at H
     obtain ⟨rfl,rfl⟩:=H
     obtain ⟨_,_⟩:=zn0 NB201_195
     obtain ⟨_,_⟩:=zn0 NB201_196
     have hcz54_0 : wr.cell? ⟨gb201,0,none⟩ = some (.slice Ao14 x202000_1.length co14):=(blk_cell BK201.out 0).trans rfl
     have hfz54_0:=blk_frozen BK201.out 0
     obtain ⟨_,_⟩:=zn0 NB196_195
     have hcz56_0 : wr.cell? ⟨gb196,0,none⟩ = some (.slice none 0 0):=(blk_cell BK196.out 0).trans rfl
     have hfz56_0:=blk_frozen BK196.out 0
     go_wp2
     refine bodyPost_ret (results_ct rfl _ _ gb196 30 #[.slice Ao14 x202000_1.length co14] (0,0) _ rfl (by refine zT0 ?_;refine blk_put (cs:=#[.slice none 0 0]) ?_ 0 _ rfl;exact zK0 BK196.out) Try.underlying30 rfl (by kernel_rfl)) rfl ?_
     exact ⟨_,zW0,by refine zV0 ?_;exact Kd.R_mono (Kd.R_far (p:=⟨gb196,0,none⟩) (Kd.R_types HO_202000.out BK196.out (by decide)) (fun _ hk => hk.2) (.slice Ao14 x202000_1.length co14)) (fun _ hk => trivial),(zY0 HB.out)⟩
 ·replace c4:=Bool.eq_false_iff.mpr c4
  subst c4
  have H1 : (some (([] : List (S45)),false)) = some (r1,r2):=by rw [if_neg (show ¬ (false = true) by decide)] at H;exact H
  clear H
  have H:=H1
  clear H1
  simp only [Option.some.injEq,Prod.mk.injEq] at H
  obtain ⟨rfl,rfl⟩:=H
  go_enter Try.func25,Try.ntmps25
  go_wp2_with (first | ((with_reducible refine gate_dst (N:=2) rfl ?_);refine box_event ?hg (N:=2) ?hd (cs:=#[.slice A0_0 l0_0.length c0_0]) (t:=30) ?hr ?_;(case hd => rfl);(case hg => rfl);(case hr => first | (go_simp;done) | (go_simp;rfl));intro gb195 hg w57 hbox hb;have BK195:=Aside0.mk hbox;have GW195:=zz0 hg HB;have GE195:=zz0 hg HB;replace HB:=zs0 HB hb;clear hb hbox hg) | ((with_reducible refine gate_dst (N:=4) rfl ?_);refine box_event ?hg (N:=4) ?hd (cs:=#[.slice none 0 0]) (t:=30) ?hr ?_;(case hd => rfl);(case hg => rfl);(case hr => first | (go_simp;done) | (go_simp;rfl));intro gb196 hg w58 hbox hb;have BK196:=Aside0.mk hbox;have GW196:=zz0 hg HB;have GE196:=zz0 hg HB;replace HB:=zs0 HB hb;have NB195_196:=zl0 hg BK195;have NB196_195:=zg0 hg BK195;replace BK195:=zb0 BK195 hb;clear hb hbox hg;obtain ⟨_,_⟩:=zn0 NB195_196;have hcz60_0:=zc00 BK195;have hfz60_0:=blk_frozen BK195.out 0) | ((with_reducible refine gate_callee (f:=27) rfl ?_);refine goesL_ (some 11) rfl rfl Try.func27 (by kernel_rfl) rfl #[.agg #[.slice A0_0 l0_0.length c0_0]] rfl zM0 ?_;(with_reducible refine (impl_DiskOk.calls k _ _ l0_0 false _ ?side1 ?side2 A3.out).mono ?_);(case side1 => exact zA0 (Kd.C_below HR0_0.out HB.out));(case side2 => exact HC0_0.out);rintro e w61 ⟨rfl,hb⟩;refine ⟨_,rfl,?_⟩;replace BK195:=zb0 BK195 hb;replace BK196:=zb0 BK196 hb;replace HB:=zs0 HB hb;(try clear hb);have hcz62_0:=zc00 BK196;have hfz62_0:=blk_frozen BK196.out 0))
  refine bodyPost_ret (results_ct rfl _ _ gb196 30 #[.slice none 0 0] (0,0) _ rfl (by refine zT0 ?_;refine blk_put (cs:=#[.slice none 0 0]) ?_ 0 _ rfl;exact zK0 BK196.out) Try.underlying30 rfl (by kernel_rfl)) rfl ?_
  exact ⟨_,zW0,by first | exact Kd.R_nil _ _ _ _ _ | exact Kd.N_nil _ _ _ _ _ | exact Kd.V_nil _ _ _ _ _ | exact Kd.Q_nil _ _ _ _ _ | exact Kd.S_nil _ _ _ _ _,(zY0 HB.out)⟩

/-! ### impl_File_110: function 110 (a text of its own) -/
def idxFrom {α : Type} (p : α → Bool) : List α → Int → Int
 | [],_ => -1
 | x :: t,i => if p x = true then i else idxFrom p t (i + 1)
theorem idx_step {p : S45 → Bool} {l : List S45} {k : Nat} (h : k < l.length) : idxFrom p (l.drop k) k = if p (rd_T45 l k) = true then (k : Int) else idxFrom p (l.drop (k + 1)) ((k : Int) + 1):=by
 rw [List.drop_eq_getElem_cons h,idxFrom]
 have e : rd_T45 l k = l[k]:=by
  unfold rd_T45
  rw [Int.toNat_natCast,List.getD_eq_getElem?_getD,List.getElem?_eq_getElem h]
  rfl
 rw [e]
set_option maxHeartbeats 8000000 in
set_option maxRecDepth 100000 in
theorem slices_IndexFunc110 (p : S45 → Bool) (g : Nat) (lb : Array Value) (eg : ∀ args w,(callFunc g args).run Try.prog w = .ok (.enter g args) w) (A : Option Addr) (c : Nat) (l0 : List S45) (w : World)
  (hr0 : Kd.C k45 w A l0.length l0)
  (hp : ∀ (W : World) (x : S45),Below w.heap.size w W → Calls Try.prog g (#[.agg #[.string x.f0,.string x.f1,.int .i64 x.f2]] ++ lb) W fun e w' => e = .returned (.bool (p x)) ∧ Below w.heap.size w w') :
  Calls Try.prog 110 #[.slice A l0.length c,.func (.func g) #[] lb] w fun e w' => e = .returned (.int .i64 (idxFrom p l0 0)) ∧ Below w.heap.size w w':=by
 have hu45:=Try.underlying45
 have HR:=Aside0.mk hr0
 have HM:=hr0.2.1
 clear hr0
 go_enter Try.func110,Try.ntmps110
 go_wp2
 go_loopg [5,8] l0.length (fun gg _ s8 wr => ∃ kk : Nat,kk ≤ l0.length ∧ l0.length - kk ≤ gg ∧ s8 = .int .i64 kk ∧ Aside0 (Below w.heap.size w wr) ∧ Aside0 (idxFrom p l0 0 = idxFrom p (l0.drop kk) kk))
 case atStart => exact ⟨0,Nat.zero_le _,by omega,rfl,⟨Below.refl _ w⟩,⟨rfl⟩⟩
 case round =>
  obtain ⟨kk,hkk,hg,rfl,BW,HI⟩:=hrel
  by_cases hlt : kk < l0.length
  ·have hltz : (kk : Int) < (l0.length : Int):=by omega
   have hI:=HI.out
   rw [idx_step hlt] at hI
   clear HI
   obtain ⟨ad,e1,hx0,hx1,hx2⟩:=at_T45 HR.out (kk : Int) (by omega) hltz
   cases e1
   replace hx0:=(BW.out.cell (World.block_lt_of_cell? w _ hx0)).trans hx0
   replace hx1:=(BW.out.cell (World.block_lt_of_cell? w _ hx1)).trans hx1
   replace hx2:=(BW.out.cell (World.block_lt_of_cell? w _ hx2)).trans hx2
   rw [Int.toNat_natCast] at hx0 hx1 hx2
   have hcall:=hp wr (rd_T45 l0 kk) BW.out
   clear hp
   generalize rd_T45 l0 kk = y at hI hx0 hx1 hx2 hcall
   cases hq : p y with
   | true =>
    rw [hq] at hcall hI
    rw [if_pos rfl] at hI
    go_wp2_with (go_at_fn g;refine hcall.mono ?_;rintro e w' ⟨rfl,hb'⟩)
    go_ret
    exact ⟨by first | rfl | (rw [hI];rfl),hb'⟩
   | false =>
    rw [hq] at hcall hI
    rw [if_neg (by decide)] at hI
    have H2:=Aside0.mk hI
    clear hI
    go_wp2_with (go_at_fn g;refine hcall.mono ?_;rintro e w' ⟨rfl,hb'⟩)
    go_roundg (l0.length - (kk + 1))
    case measure => omega
    case rel => exact ⟨kk + 1,by omega,by omega,by go_num,⟨hb'⟩,⟨H2.out⟩⟩
  ·have hltz : ¬ (kk : Int) < (l0.length : Int):=by omega
   have hI:=HI.out
   rw [List.drop_eq_nil_of_le (by omega),idxFrom] at hI
   clear HI
   go_wp2
   go_ret
   exact ⟨by first | rfl | (rw [hI];rfl),BW.out⟩

theorem beq_dec (a b : List UInt8) : (a == b) = decide (a = b):=by
 by_cases h : a = b
 ·subst h;simp
 ·rw [decide_eq_false h];simpa using h

/-! ### impl_fileAt: function 66 (a text of its own) -/
theorem fileAt_pred (name : ByteArray) (B : Nat) (w : World) (hB : B < w.heap.size) (hcell : w.cell? ⟨B,0,none⟩ = some (.string name)) : ∀ (W : World) (x : S45),Below w.heap.size w W →
  Calls Try.prog 111 (#[.agg #[.string x.f0,.string x.f1,.int .i64 x.f2]] ++ #[.pointer (some ⟨B,0,none⟩)]) W fun e w' => e = .returned (.bool (decide (x.f0.toList = name.toList))) ∧ Below w.heap.size w w':=fun W x hb => by
 have hc : W.cell? ⟨B,0,none⟩ = some (.string name):=(hb.cell (p:=⟨B,0,none⟩) hB).trans hcell
 have hBW : B < W.heap.size:=Nat.lt_of_lt_of_le hB hb.size
 have hne : B ≠ W.heap.size:=by omega
 have hu45:=Try.underlying45
 show Calls Try.prog 111 #[.agg #[.string x.f0,.string x.f1,.int .i64 x.f2],.pointer (some ⟨B,0,none⟩)] W _
 go_enter Try.func111,Try.ntmps111
 go_wp2
 all_goals (go_ret;exact ⟨by first | rfl | (simp only [beq_dec];rfl) | simp_all,hb.alloc hb.size _⟩)
def impl_fileAt.f (l0_0 : List S45) (a1 : ByteArray) : Option Int:=some (idxFrom (fun x : S45 => decide (x.f0.toList = a1.toList)) l0_0 0)
set_option maxHeartbeats 8000000 in
set_option maxRecDepth 100000 in
theorem impl_fileAt.calls (A0_0 : Option Addr) (c0_0 : Nat) (l0_0 : List S45) (a1 : ByteArray) (r : Int) (w : World) (hr0_0 : Kd.C k45 w A0_0 l0_0.length l0_0) (hc0_0 : l0_0.length ≤ c0_0) (h : impl_fileAt.f l0_0 a1 = some r) :
  Calls Try.prog 66 #[.agg #[.slice A0_0 l0_0.length c0_0],.string a1] w fun e w' => e = .returned (.int .i64 r) ∧ Below w.heap.size w w':=by
 obtain rfl:=Option.some.inj h
 have hu30:=Try.underlying30
 have eg : ∀ args w,(callFunc 111 args).run Try.prog w = .ok (.enter 111 args) w:=enters_of Try.func111 (by kernel_rfl) rfl
 have hB2 : Below w.heap.size w ((w.alloc (.cells #[.slice A0_0 l0_0.length c0_0] 30)).alloc (.cells #[.string a1] 9)):=below_alloc (below_alloc (Below.refl _ _) _) _
 have hcon:=slices_IndexFunc110 (fun x : S45 => decide (x.f0.toList = a1.toList)) 111 #[.pointer (some ⟨w.heap.size + 1,0,none⟩)] eg A0_0 c0_0 l0_0 ((w.alloc (.cells #[.slice A0_0 l0_0.length c0_0] 30)).alloc (.cells #[.string a1] 9))
  (Kd.C_alloc (Kd.C_alloc hr0_0 _) _) (fileAt_pred a1 (w.heap.size + 1) _ (by simp) (by simp))
 generalize idxFrom (fun x : S45 => decide (x.f0.toList = a1.toList)) l0_0 0 = r at hcon ⊢
 go_enter Try.func66,Try.ntmps66
 go_wp2_with (go_at_call 110;refine hcon.mono ?_;rintro e w' ⟨rfl,hb'⟩)
 go_ret
 exact ⟨rfl,hB2.trans (hb'.mono (by simp;omega))⟩

end Go.Proofs.Ytgfacdhkamphiaa.PFnExactCutActs
