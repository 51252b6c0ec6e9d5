/- Walks, turned from a print. -/
import Derived.Test.YtlekhcopddajbaaGreatDoorOFnExactSegmentsx0
namespace Go.Proofs.YtlekhcopddajbaaGreatDoor.PFnExactSegments
open Go.RowKit Go.Proofs.YtlekhcopddajbaaGreatDoorW.PrintWords Go.Proofs.YtlekhcopddajbaaGreatDoorW.PrintLast Go.Proofs.YtlekhcopddajbaaGreatDoorW.PrintMore
attribute [local go_sem] max2_int min2_int max_two min_two max_three min_three max_four min_four
set_option linter.unusedVariables false
set_option linter.unusedSimpArgs false

/-! ### laws_toFile: function 37 -/
def laws_toFile.f (a0_0 : ByteArray) (a0_1 : ByteArray) (a0_2 : Int) : Option (ByteArray × ByteArray × Int):=some (a0_0,a0_1,a0_2)
set_option maxHeartbeats 8000000 in
set_option maxRecDepth 100000 in
theorem laws_toFile.calls (a0_0 : ByteArray) (a0_1 : ByteArray) (a0_2 : Int) (r1 : ByteArray) (r2 : ByteArray) (r3 : Int) (w : World) (h : laws_toFile.f a0_0 a0_1 a0_2 = some (r1,r2,r3)) :
  Calls Tryz.prog 37 #[.agg #[.string a0_0,.string a0_1,.int .i64 a0_2]] w fun e w' => e = .returned (.agg #[.string r1,.string r2,.int .i64 r3]) ∧ Below w.heap.size w w':=by
 have hu59:=Tryz.underlying59
 have hu46:=Tryz.underlying46
 have HB:=Aside0.mk (Below.refl w.heap.size w)
 have H : (some (a0_0,a0_1,a0_2)) = some (r1,r2,r3):=h
 clear h
 simp only [Option.some.injEq,Prod.mk.injEq] at H
 obtain ⟨rfl,rfl,rfl⟩:=H
 go_enter Tryz.func37,Tryz.ntmps37
 go_wp2_with (first | ((with_reducible refine gate_dst (N:=1) rfl ?_);refine zy0 (cs:=#[.string a0_0,.string a0_1,.int .i64 a0_2]) (t:=59) ?_;intro gb301 hg w2 hbox hb;have BK301:=Aside0.mk hbox;have GW301:=zz0 hg HB;have GE301:=zz0 hg HB;replace HB:=zs0 HB hb;clear hb hbox hg) | ((with_reducible refine gate_dst (N:=2) rfl ?_);refine zy0 (cs:=#[.string (⟨#[]⟩ : ByteArray),.string (⟨#[]⟩ : ByteArray),.int .i64 0]) (t:=46) ?_;intro gb302 hg w3 hbox hb;have BK302:=Aside0.mk hbox;have GW302:=zz0 hg HB;have GE302:=zz0 hg HB;replace HB:=zs0 HB hb;have NB301_302:=zl0 hg BK301;have NB302_301:=zg0 hg BK301;replace BK301:=zb0 BK301 hb;clear hb hbox hg) | ((with_reducible refine gate_dst (N:=3) rfl ?_);refine zy0 (cs:=#[.string (⟨#[]⟩ : ByteArray),.string (⟨#[]⟩ : ByteArray),.int .i64 0]) (t:=46) ?_;intro gb303 hg w4 hbox hb;have BK303:=Aside0.mk hbox;have GW303:=zz0 hg HB;have GE303:=zz0 hg HB;replace HB:=zs0 HB hb;have NB301_303:=zl0 hg BK301;have NB303_301:=zg0 hg BK301;replace BK301:=zb0 BK301 hb;have NB302_303:=zl0 hg BK302;have NB303_302:=zg0 hg BK302;replace BK302:=zb0 BK302 hb;clear hb hbox hg;obtain ⟨_,_⟩:=zn0 NB301_302;obtain ⟨_,_⟩:=zn0 NB301_303;obtain ⟨_,_,_,_,_,_⟩:=zd03 BK301;obtain ⟨_,_⟩:=zn0 NB303_302;obtain ⟨_,_,_,_,_,_⟩:=zd03 BK303;obtain ⟨_,_,_,_,_,_⟩:=zd03 BK302))
 refine bodyPost_ret (results_cell_row rfl _ _ gb302 46 #[.string a0_0,.string a0_1,.int .i64 a0_2] (0,0) _ rfl (by refine zT0 ?_;refine blk_put (cs:=#[.string a0_0,.string a0_1,.int .i64 0]) ?_ 2 _ rfl;refine zT0 ?_;refine blk_put (cs:=#[.string a0_0,.string (⟨#[]⟩ : ByteArray),.int .i64 0]) ?_ 1 _ rfl;refine zT0 ?_;refine blk_put (cs:=#[.string (⟨#[]⟩ : ByteArray),.string (⟨#[]⟩ : ByteArray),.int .i64 0]) ?_ 0 _ rfl;exact zK0 BK302.out) Tryz.underlying46 rfl (by kernel_rfl)) rfl ?_
 exact ⟨zW0,(zY0 HB.out)⟩

/-! ### laws_toFileS: function 18 -/
def laws_toFileS.l0 : Nat → List (S59) → List (S46) → Int → Option ((List (S46)))
 | 0,_,_,_ => none
 | k + 1,x0,x3,x4 => if x4 < (x0.length : Int) then (if 0 ≤ x4 then ((laws_toFile.f ((rd_T59 x0 x4).f0) ((rd_T59 x0 x4).f1) ((rd_T59 x0 x4).f2)).bind fun bt308 => (if x4 < (x3.length : Int) then (laws_toFileS.l0 k x0 (x3.set (x4 : Int).toNat (⟨bt308.1,bt308.2.1,bt308.2.2⟩ : S46)) (wrap64 (x4 + 1))) else (none))) else (none)) else (some x3)
def laws_toFileS.f (k : Nat) (l0 : List (S59)) : Option ((List (S46))):=if 0 ≤ (l0.length : Int) then (if ((l0.length : Int) : Int).toNat ≤ 7036874417766 then (laws_toFileS.l0 k l0 (List.replicate ((l0.length : Int) : Int).toNat z46) 0) else (none)) else (none)
theorem laws_toFileS.mono_l : ∀ k,(∀ y0 y1 y2,LeO (laws_toFileS.l0 k y0 y1 y2) (laws_toFileS.l0 (k + 1) y0 y1 y2))
 | 0 => fun _ _ _ r h => by simp [laws_toFileS.l0] at h
 | k + 1 => by
  have ih0:=laws_toFileS.mono_l k
  ·intro y0 y1 y2
   unfold laws_toFileS.l0
   repeat' first
  | (with_reducible exact ih0 _ _ _)
  | (with_reducible exact LeO.refl _)
  | (with_reducible exact LeO.none _)
  | (with_reducible refine LeO.ite ?_ ?_)
  | (with_reducible refine LeO.bind ?_ (fun _ => ?_))
theorem laws_toFileS.mono : ∀ a0 k,LeO (laws_toFileS.f k a0) (laws_toFileS.f (k + 1) a0):=by
 intro a0 k
 have ih0:=laws_toFileS.mono_l k
 unfold laws_toFileS.f
 repeat' first
  | (with_reducible exact ih0 _ _ _)
  | (with_reducible exact LeO.refl _)
  | (with_reducible exact LeO.none _)
  | (with_reducible refine LeO.ite ?_ ?_)
  | (with_reducible refine LeO.bind ?_ (fun _ => ?_))
set_option maxHeartbeats 8000000 in
set_option maxRecDepth 100000 in
theorem laws_toFileS.calls (k : Nat) (A0 : Option Addr) (c0 : Nat) (l0 : List (S59)) (r : List (S46)) (w : World) (hr0 : Kd.C k59 w A0 l0.length l0) (hc0 : l0.length ≤ c0) (h : laws_toFileS.f k l0 = some r) :
  Calls Tryz.prog 18 #[.slice A0 l0.length c0] w fun e w' => ∃ v0_ : Value,e = .returned (v0_) ∧ Kd.R k46 46 w' w.heap.size (fun _ => True) v0_ r ∧ Below w.heap.size w w':=by
 have hu59:=Tryz.underlying59
 have hu46:=Tryz.underlying46
 have HR0:=Aside0.mk hr0
 have HC0:=Aside0.mk hc0
 clear hr0 hc0
 have HB:=Aside0.mk (Below.refl w.heap.size w)
 have H : (if 0 ≤ (l0.length : Int) then (if ((l0.length : Int) : Int).toNat ≤ 7036874417766 then (laws_toFileS.l0 k l0 (List.replicate ((l0.length : Int) : Int).toNat z46) 0) else (none)) else (none)) = some r:=h
 clear h
 by_cases c2 : 0 ≤ (l0.length : Int)
 ·rw [if_pos c2] at H
  have c2b0:=eq_true c2
  have c2b1 : decide (0 ≤ (l0.length : Int)) = true:=decide_eq_true c2
  clear c2
  by_cases c3 : ((l0.length : Int) : Int).toNat ≤ 7036874417766
  ·rw [if_pos c3] at H
   have c3b0:=eq_true c3
   have c3b1 : decide (((l0.length : Int) : Int).toNat ≤ 7036874417766) = true:=decide_eq_true c3
   clear c3
   obtain ⟨y304,hy304⟩ : ∃ y_ : List (S46),y_ = (List.replicate ((l0.length : Int) : Int).toNat z46):=⟨_,rfl⟩
   replace H : (laws_toFileS.l0 k l0 y304 0) = some r:=by first | (rw [hy304];with_reducible exact H) | (have H2_:=(Option.bind_some _ _).symm.trans H;rw [hy304];with_reducible exact H2_) | (have H2_:=(Option.bind_some _ _).symm.trans H;with_reducible exact H2_) | with_reducible exact H | (rw [hy304];exact H) | exact H
   have Ny304:=Aside0.mk hy304
   clear hy304
   have H':=Aside0.mk H
   clear H
   go_enter Tryz.func18,Tryz.ntmps18
   go_wp2_with (first | ((with_reducible refine gate_dst (N:=7) rfl ?_);refine Kd.R_make k46 _ 46 rfl (N:=7) rfl 29 _ _ rfl (l0.length : Int) rfl rfl Tryz.underlying29 (.agg #[(.string ⟨#[]⟩),(.string ⟨#[]⟩),(.int .i64 0)]) 40 info46 rfl (by decide) (by omega) z46 (ok:=fun _ => True) (okp:=fun _ => True) (k46_mkM _ _ _ z46 ) (fun _ hk => hk) trivial (zD0) (Nat.le_trans (Nat.mul_le_mul_right _ (zD0 : (l0.length : Int).toNat ≤ 7036874417766)) (by omega)) (Below.refl _ _) (Nat.le_refl _) ?_;intro v305 w4 ho5 hb hg_ hnew_;clear hg_ hnew_;(first | rw [← Ny304.out] at ho5 | (simp only [Int.reduceToNat] at ho5;rw [← Ny304.out] at ho5));have HO306:=Aside0.mk (Kd.R_lower ho5 (zZ0 HB.out));replace HB:=zs0 HB hb;clear hb ho5))
   go_loopg [4] k (fun kq v4 w' => ∃ (x3_1 : List (S46)) (x4_1 : Int),v4 = .int .i64 x4_1 ∧ Aside0 (laws_toFileS.l0 kq l0 x3_1 x4_1 = some r) ∧ Aside0 (kq ≤ k) ∧ Aside0 (Kd.R k46 46 w' w.heap.size (fun _ => True) v305 x3_1) ∧ Aside0 (Below w.heap.size w w'))
   case atStart => exact ⟨(y304),(0),zE0,H',⟨Nat.le_refl _⟩,⟨zR0 HO306.out⟩,⟨zY0 HB.out⟩⟩
   case round =>
    clear H'
    try clear c2
    try clear c2b0
    try clear c2b1
    try clear c3
    try clear c3b0
    try clear c3b1
    obtain ⟨x3_1,x4_1,rfl,HA,HK1,HO_3,HB⟩:=hrel
    cases gk with
    | zero => exact absurd HA.out (by simp [laws_toFileS.l0])
    | succ k1 =>
     have H:=HA.out
     clear HA
     simp only [laws_toFileS.l0] at H
     by_cases c6 : x4_1 < (l0.length : Int)
     ·rw [if_pos c6] at H
      have c6b0 : decide (x4_1 < (l0.length : Int)) = true:=decide_eq_true c6
      clear c6
      by_cases c7 : 0 ≤ x4_1
      ·rw [if_pos c7] at H
       have c7b0 : decide (0 ≤ x4_1) = true:=decide_eq_true c7
       clear c7
       obtain ⟨⟨t308,t309,t310⟩,A8,H⟩:=bX0 H
       dsimp only at H
       by_cases c9 : x4_1 < (x3_1.length : Int)
       ·rw [if_pos c9] at H
        have c9b0 : decide (x4_1 < (x3_1.length : Int)) = true:=decide_eq_true c9
        clear c9
        obtain ⟨y311,hy311⟩ : ∃ y_ : List (S46),y_ = (x3_1.set (x4_1 : Int).toNat (⟨t308,t309,t310⟩ : S46)):=⟨_,rfl⟩
        replace H : (laws_toFileS.l0 k1 l0 y311 (wrap64 (x4_1 + 1))) = some r:=by first | (rw [hy311];with_reducible exact H) | (have H2_:=(Option.bind_some _ _).symm.trans H;rw [hy311];with_reducible exact H2_) | (have H2_:=(Option.bind_some _ _).symm.trans H;with_reducible exact H2_) | with_reducible exact H | (rw [hy311];exact H) | exact H
        have Ny311:=Aside0.mk hy311
        clear hy311
        have H':=Aside0.mk H
        clear H
        have p307 : 0 ≤ (x4_1 : Int):=zD0
        have q307 : x4_1 < (l0.length : Int):=zD0
        obtain ⟨ad307,e307,hx307_0,hx307_1,hx307_2⟩:=at_T59 HR0.out x4_1 p307 q307
        cases e307
        replace hx307_0:=zx0 HB hx307_0
        replace hx307_1:=zx0 HB hx307_1
        replace hx307_2:=zx0 HB hx307_2
        replace p307:=eq_true p307
        replace q307:=eq_true q307
        go_wp2_with (first | ((with_reducible refine gate_callee (f:=37) rfl ?_);refine goesL_ (some 20) rfl rfl Tryz.func37 (by kernel_rfl) rfl #[.agg #[.string ((rd_T59 l0 x4_1).f0),.string ((rd_T59 l0 x4_1).f1),.int .i64 ((rd_T59 l0 x4_1).f2)]] rfl zM0 ?_;(with_reducible refine (laws_toFile.calls ((rd_T59 l0 x4_1).f0) ((rd_T59 l0 x4_1).f1) ((rd_T59 l0 x4_1).f2) t308 t309 t310 _ A8.out).mono ?_);rintro e w11 ⟨rfl,hb⟩;refine ⟨_,rfl,?_⟩;replace HO_3:=Aside0.mk (Kd.R_below (zR0 HO_3.out) hb);replace HB:=zs0 HB hb;(try clear hb);have p10 : 0 ≤ (x4_1 : Int):=zD0;have q10 : (x4_1 : Int) < ((x3_1.length : Int) : Int):=zD0;obtain ⟨go10,co10,eo10,gb10,gl10,cl10,HG10⟩:=Kd.R_form HO_3.out (by omega);(first | cases eo10 | (injection eo10 with ea_ en_ ec_;(first | subst ea_ | (injection ea_ with ea_;subst ea_));subst ec_;clear en_));have GB10:=Aside0.mk gb10;have GG10:=Aside0.mk HG10;clear gb10 gl10 HG10;obtain ⟨ce10,hcl10,hM10,hcc10,hfr10⟩:=Kd.R_elem HO_3.out z46 (x4_1 : Int) p10 q10;obtain rfl:=k46_openM hM10;have hx10_0 : w11.cell? ⟨go10,(x4_1 : Int).toNat * 3,none⟩ = some (.string ((rd_T46 x3_1 x4_1).f0)):=hcc10 0 _ rfl;have hx10_1 : w11.cell? ⟨go10,(x4_1 : Int).toNat * 3 + 1,none⟩ = some (.string ((rd_T46 x3_1 x4_1).f1)):=hcc10 1 _ rfl;have hx10_2 : w11.cell? ⟨go10,(x4_1 : Int).toNat * 3 + 2,none⟩ = some (.int .i64 ((rd_T46 x3_1 x4_1).f2)):=hcc10 2 _ rfl;have hf10_0 : w11.frozen? ⟨go10,(x4_1 : Int).toNat * 3,none⟩ = false:=hfr10 0;have hf10_1 : w11.frozen? ⟨go10,(x4_1 : Int).toNat * 3 + 1,none⟩ = false:=hfr10 1;have hf10_2 : w11.frozen? ⟨go10,(x4_1 : Int).toNat * 3 + 2,none⟩ = false:=hfr10 2;clear hcl10 hcc10 hfr10 hM10;replace p10:=eq_true p10;replace q10:=eq_true q10;have HX12:=Aside0.mk (show Kd.R k46 46 w11 w.heap.size (fun _ => True) (.slice (some ⟨go10,0,none⟩) x3_1.length co10) x3_1 from (zR0 HO_3.out));obtain ⟨ce12,hcl12,hM12,hcc12,hfr12⟩:=Kd.R_elem HX12.out z46 (x4_1 : Int) (zD0) (by have h_ : (x4_1 : Int) < ((x3_1.length : Int) : Int):=zD0;first | exact h_ | (have e_:=(Kd.R_reads' HO_3.out).1;omega) | simpa using h_);obtain rfl:=k46_openM hM12;have HP12:=Kd.R_seg HX12.out (x4_1 : Int) (zD0) (by have h_ : (x4_1 : Int) < ((x3_1.length : Int) : Int):=zD0;first | exact h_ | (have e_:=(Kd.R_reads' HO_3.out).1;omega) | simpa using h_) (seg:=[.string t308,.string t309,.int .i64 t310]) (j:=0) hcl12 hcc12 (show 3 ≤ 3 from by decide) (x':=(⟨t308,t309,t310⟩ : S46)) (k46_mkM _ _ _ (⟨t308,t309,t310⟩ : S46) ) (fun _ hk => hk);have hx12_0:=hcc12 0 _ rfl;(try simp only [show (k46).sz = 3 from rfl,Nat.mul_one,Nat.add_zero] at hx12_0);have hf12_0:=hfr12 0;(try simp only [show (k46).sz = 3 from rfl,Nat.mul_one,Nat.add_zero] at hf12_0);have hx12_1:=hcc12 1 _ rfl;(try simp only [show (k46).sz = 3 from rfl,Nat.mul_one,Nat.add_zero] at hx12_1);have hf12_1:=hfr12 1;(try simp only [show (k46).sz = 3 from rfl,Nat.mul_one,Nat.add_zero] at hf12_1);have hx12_2:=hcc12 2 _ rfl;(try simp only [show (k46).sz = 3 from rfl,Nat.mul_one,Nat.add_zero] at hx12_2);have hf12_2:=hfr12 2;(try simp only [show (k46).sz = 3 from rfl,Nat.mul_one,Nat.add_zero] at hf12_2);clear hcl12 hcc12 hfr12 hM12) | ((with_reducible refine gate_store (t:=46) (p:=21) rfl ?_);refine store_event (t:=46) (p:=21) (v:=?vo_w13) (w1:=(((w11.setCell ⟨go10,(x4_1 : Int).toNat * 3,none⟩ (.string t308)).setCell ⟨go10,(x4_1 : Int).toNat * 3 + 1,none⟩ (.string t309)).setCell ⟨go10,(x4_1 : Int).toNat * 3 + 2,none⟩ (.int .i64 t310))) ?hg ?ho ?hn ?hr ?_;(case ho => rfl);(case hg => rfl);(case hn => rfl);(case hr => first | (go_simp;done) | (go_simp;rfl));intro w13 hw;have hg : w11.grownBy w13 (some go10):=(by rw [hw];exact HP12.2);have hp_ : Kd.R k46 46 w13 w.heap.size (fun _ => True) (.slice (some ⟨go10,0,none⟩) x3_1.length co10) y311:=(by rw [hw,Ny311.out];exact HP12.1);clear HP12;replace HO_3:=Aside0.mk hp_;replace HB:=Aside0.mk ((by rw [hw];exact below_set (below_set (below_set (HB.out) GB10.out) GB10.out) GB10.out : Below w.heap.size w w13));clear hg hw hp_))
        go_roundg k1
        case measure => have:=HK1.out;omega
        case rel => exact ⟨(y311),(wrap64 (x4_1 + 1)),zE0,H',⟨by have:=HK1.out;omega⟩,⟨zR0 HO_3.out⟩,⟨zY0 HB.out⟩⟩
       ·rw [if_neg c9] at H
        exact absurd H (by simp)
      ·rw [if_neg c7] at H
       exact absurd H (by simp)
     ·rw [if_neg c6] at H
      have c6b0 : decide (x4_1 < (l0.length : Int)) = false:=decide_eq_false c6
      clear c6
      obtain rfl:=Option.some.inj H
      go_wp2
      go_ret
      exact ⟨_,zW0,by exact zR0 HO_3.out,(zY0 HB.out)⟩
  ·rw [if_neg c3] at H
   exact absurd H (by simp)
 ·rw [if_neg c2] at H
  exact absurd H (by simp)

/-! ### laws_toDisk: function 6 -/
def laws_toDisk.f (k : Nat) (l0_0 : List (S59)) : Option ((List (S46))):=(laws_toFileS.f k l0_0).bind fun t315 => (some t315)
theorem laws_toDisk.mono : ∀ a0 k,LeO (laws_toDisk.f k a0) (laws_toDisk.f (k + 1) a0):=by
 intro a0 k
 unfold laws_toDisk.f
 repeat' first
  | (with_reducible exact laws_toFileS.mono _ _)
  | (with_reducible exact LeO.refl _)
  | (with_reducible exact LeO.none _)
  | (with_reducible refine LeO.ite ?_ ?_)
  | (with_reducible refine LeO.bind ?_ (fun _ => ?_))
set_option maxHeartbeats 8000000 in
set_option maxRecDepth 100000 in
theorem laws_toDisk.calls (k : Nat) (A0_0 : Option Addr) (c0_0 : Nat) (l0_0 : List (S59)) (r : List (S46)) (w : World) (hr0_0 : Kd.C k59 w A0_0 l0_0.length l0_0) (hc0_0 : l0_0.length ≤ c0_0) (h : laws_toDisk.f k l0_0 = some r) :
  Calls Tryz.prog 6 #[.agg #[.slice A0_0 l0_0.length c0_0]] w fun e w' => ∃ v0_ : Value,e = .returned (.agg #[v0_]) ∧ Kd.R k46 46 w' w.heap.size (fun _ => True) v0_ r ∧ Below w.heap.size w w':=by
 have hu24:=Tryz.underlying24
 have hu31:=Tryz.underlying31
 have HR0_0:=Aside0.mk hr0_0
 have HC0_0:=Aside0.mk hc0_0
 clear hr0_0 hc0_0
 have HB:=Aside0.mk (Below.refl w.heap.size w)
 have H : ((laws_toFileS.f k l0_0).bind fun t315 => (some t315)) = some r:=h
 clear h
 obtain ⟨t315,A2,H⟩:=bX0 H
 obtain rfl:=Option.some.inj H
 go_enter Tryz.func6,Tryz.ntmps6
 go_wp2_with (first | ((with_reducible refine gate_dst (N:=1) rfl ?_);refine zy0 (cs:=#[.slice A0_0 l0_0.length c0_0]) (t:=24) ?_;intro gb312 hg w3 hbox hb;have BK312:=Aside0.mk hbox;have GW312:=zz0 hg HB;have GE312:=zz0 hg HB;replace HB:=zs0 HB hb;clear hb hbox hg) | ((with_reducible refine gate_dst (N:=2) rfl ?_);refine zy0 (cs:=#[.slice none 0 0]) (t:=31) ?_;intro gb313 hg w4 hbox hb;have BK313:=Aside0.mk hbox;have GW313:=zz0 hg HB;have GE313:=zz0 hg HB;replace HB:=zs0 HB hb;have NB312_313:=zl0 hg BK312;have NB313_312:=zg0 hg BK312;replace BK312:=zb0 BK312 hb;clear hb hbox hg) | ((with_reducible refine gate_dst (N:=3) rfl ?_);refine zy0 (cs:=#[.slice none 0 0]) (t:=31) ?_;intro gb314 hg w5 hbox hb;have BK314:=Aside0.mk hbox;have GW314:=zz0 hg HB;have GE314:=zz0 hg HB;replace HB:=zs0 HB hb;have NB312_314:=zl0 hg BK312;have NB314_312:=zg0 hg BK312;replace BK312:=zb0 BK312 hb;have NB313_314:=zl0 hg BK313;have NB314_313:=zg0 hg BK313;replace BK313:=zb0 BK313 hb;clear hb hbox hg;obtain ⟨_,_⟩:=zn0 NB312_313;obtain ⟨_,_⟩:=zn0 NB312_314;obtain ⟨_,_⟩:=zd01 BK312) | ((with_reducible refine gate_callee (f:=18) rfl ?_);refine goesL_ (some 6) rfl rfl Tryz.func18 (by kernel_rfl) rfl #[.slice A0_0 l0_0.length c0_0] rfl zM0 ?_;(with_reducible refine (laws_toFileS.calls k _ _ l0_0 t315 _ ?side1 ?side2 A2.out).mono ?_);(case side1 => exact zA0 ((Kd.C_below HR0_0.out HB.out)));(case side2 => exact HC0_0.out);rintro e w9 ⟨v316,rfl,ho0,hb⟩;refine ⟨_,rfl,?_⟩;have HO317:=Aside0.mk (Kd.R_lower ho0 (zZ0 HB.out));replace BK312:=zb0 BK312 hb;replace BK313:=zb0 BK313 hb;replace BK314:=zb0 BK314 hb;replace HB:=zs0 HB hb;(try clear hb);(try clear ho0);obtain ⟨Ao10,co10,eo10⟩:=Kd.R_slice HO317.out;subst eo10;obtain ⟨_,_⟩:=zn0 NB314_313;obtain ⟨_,_⟩:=zd01 BK314;obtain ⟨_,_⟩:=zd01 BK313))
 refine bodyPost_ret (results_cell_row rfl _ _ gb313 31 #[.slice Ao10 t315.length co10] (0,0) _ rfl (by refine zT0 ?_;refine blk_put (cs:=#[.slice none 0 0]) ?_ 0 _ rfl;exact zK0 BK313.out) Tryz.underlying31 rfl (by kernel_rfl)) rfl ?_
 exact ⟨_,zW0,by refine zV0 ?_;exact Kd.R_mono (Kd.R_far (p:=⟨gb313,0,none⟩) (Kd.R_far (p:=⟨gb314,0,none⟩) (Kd.R_types (Kd.R_types HO317.out BK314.out (by decide)) BK313.out (by decide)) (fun _ hk => hk.1.2) (.slice Ao10 t315.length co10)) (fun _ hk => hk.2) (.slice Ao10 t315.length co10)) (fun _ hk => trivial),(zY0 HB.out)⟩

/-! ### impl_within: function 38 -/
def impl_within.f (a0 : Int) (a1 : Int) (a2 : Int) : Option (Bool):=if a0 ≥ a1 then (some (decide (a0 ≤ a2))) else (some false)
set_option maxHeartbeats 8000000 in
set_option maxRecDepth 100000 in
theorem impl_within.calls (a0 : Int) (a1 : Int) (a2 : Int) (r : Bool) (w : World) (h : impl_within.f a0 a1 a2 = some r) :
  Calls Tryz.prog 38 #[.int .i64 a0,.int .i64 a1,.int .i64 a2] w fun e w' => e = .returned (.bool r) ∧ Drawn0 w w':=by
 have H : (if a0 ≥ a1 then (some (decide (a0 ≤ a2))) else (some false)) = some r:=h
 clear h
 by_cases c4 : a0 ≥ a1
 ·rw [if_pos c4] at H
  have c4b0 : decide (a1 ≤ a0) = true:=decide_eq_true c4
  clear c4
  obtain rfl:=Option.some.inj H
  go_enter Tryz.func38,Tryz.ntmps38
  go_wp2
  go_ret
  exact ⟨by first | rfl | (simp;done) | (simp [*];done),by repeat (first | exact Drawn0.refl _ | apply Drawn0.step)⟩
 ·rw [if_neg c4] at H
  have c4b0 : decide (a1 ≤ a0) = false:=decide_eq_false c4
  clear c4
  obtain rfl:=Option.some.inj H
  go_enter Tryz.func38,Tryz.ntmps38
  go_wp2
  go_ret
  exact ⟨by first | rfl | (simp;done) | (simp [*];done),by repeat (first | exact Drawn0.refl _ | apply Drawn0.step)⟩

end Go.Proofs.YtlekhcopddajbaaGreatDoor.PFnExactSegments
