/- Walks, turned from a print. -/
import Derived.Test.YtgfacdhkamphiaaIns
import Derived.Test.YtgfacdhkamphiaaOFnActsx0
import Derived.Test.YtgfacdhkamphiaaOFnActsx2
import Derived.Test.YtgfacdhkamphiaaOFnActsx3
import Derived.Test.YtgfacdhkamphiaaOFnActsx4
namespace Go.Proofs.Ytgfacdhkamphiaa.PFnActs
open Go.RowKit Go.Proofs.YtgfacdhkamphiaaW.PrintWords Go.Proofs.YtgfacdhkamphiaaW.PrintLast Go.Proofs.YtgfacdhkamphiaaW.PrintMore
attribute [local go_sem] max2_int min2_int max_two min_two max_three min_three max_four min_four
set_option linter.unusedVariables false
set_option linter.unusedSimpArgs false

/-! ### impl_DoAct: function 38 (a text of its own) -/
/-- Only what S says has turned. -/
structure Only (w w' : World) (S : Nat → Prop) : Prop where
 os : w'.os = w.os
 tape : w'.tape = w.tape
 output : w'.output = w.output
 size : w.heap.size ≤ w'.heap.size
 block : ∀ i,i < w.heap.size → ¬ S i → w'.heap[i]? = w.heap[i]?
theorem Only.of_below {w W w' : World} {S : Nat → Prop} (h : Only w W S) (hb : Below W.heap.size W w') : Only w w' S :=
 ⟨hb.os.trans h.os,hb.tape.trans h.tape,hb.output.trans h.output,Nat.le_trans h.size hb.size,fun i hi hs => (hb.block i (Nat.lt_of_lt_of_le hi h.size)).trans (h.block i hi hs)⟩
theorem Only.refl (w : World) (S : Nat → Prop) : Only w w S:=⟨rfl,rfl,rfl,Nat.le_refl _,fun _ _ _ => rfl⟩
theorem Only.trans {w W w' : World} {S : Nat → Prop} (h : Only w W S) (k : Only W w' S) : Only w w' S :=
 ⟨k.os.trans h.os,k.tape.trans h.tape,k.output.trans h.output,Nat.le_trans h.size k.size,fun i hi hs => (k.block i (Nat.lt_of_lt_of_le hi h.size) hs).trans (h.block i hi hs)⟩
theorem Only.mono {w w' : World} {S S' : Nat → Prop} (h : Only w w' S) (hs : ∀ i,i < w.heap.size → S i → S' i) : Only w w' S' :=
 ⟨h.os,h.tape,h.output,h.size,fun i hi hn => h.block i hi (fun k => hn (hs i hi k))⟩
theorem Only.below {w w' : World} {S : Nat → Prop} (h : Only w w' S) {B : Nat} (hB : B ≤ w.heap.size) (hs : ∀ i,S i → B ≤ i) : Below B w w' :=
 ⟨h.os,h.tape,h.output,h.size,fun i hi => h.block i (by omega) (fun k => by have:=hs i k;omega)⟩
theorem Only.grown {w w' : World} {row : Option Nat} {S : Nat → Prop} (h : w.grownBy w' row) (hs : ∀ k,row = some k → S k) : Only w w' S :=
 ⟨h.os,h.tape,h.output,h.size,fun i hi hn => h.block i hi (fun e => hn (hs i e.symm))⟩
theorem Only.set {w W : World} {S : Nat → Prop} (h : Only w W S) {p : Addr} (hp : S p.block) (u : Value) : Only w (W.setCell p u) S :=
 ⟨h.os,h.tape,h.output,by simpa [World.setCell] using h.size,fun i hi hn => (Below.heap_setCell W p u i (fun e => hn (e ▸ hp))).trans (h.block i hi hn)⟩
theorem putFile_pred (f : S45) (B : Nat) (w : World) (hB : B < w.heap.size) (hcell : w.cell? ⟨B,0,none⟩ = some (.string f.f0)) : ∀ (W : World) (x : S45),Below w.heap.size w W →
  Calls Try.prog 114 (#[.agg #[.string x.f0,.string x.f1,.int .i64 x.f2]] ++ #[.pointer (some ⟨B,0,none⟩)]) W fun e w' => e = .returned (.bool (Op.bytesLess f.f0.toList x.f0.toList)) ∧ Below w.heap.size w w':=fun W x hb => by
 have hc : W.cell? ⟨B,0,none⟩ = some (.string f.f0):=(hb.cell (p:=⟨B,0,none⟩) hB).trans hcell
 have hBW : B < W.heap.size:=Nat.lt_of_lt_of_le hB hb.size
 have hne : B ≠ W.heap.size:=by omega
 have hu45:=Try.underlying45
 show Calls Try.prog 114 #[.agg #[.string x.f0,.string x.f1,.int .i64 x.f2],.pointer (some ⟨B,0,none⟩)] W _
 rw [less_gt x.f0.toList f.f0.toList]
 go_enter Try.func114,Try.ntmps114
 go_wp2
 all_goals (go_ret;exact ⟨by first | rfl | (simp only [beq_dec];rfl) | simp_all,hb.alloc hb.size _⟩)

/-! #### a row of files, as cells -/
def flat (l : List S45) : List Value:=l.flatMap (fun x => [.string x.f0,.string x.f1,.int .i64 x.f2])
theorem flat_cons (x : S45) (l : List S45) : flat (x :: l) = .string x.f0 :: .string x.f1 :: .int .i64 x.f2 :: flat l:=rfl
theorem flat_length (l : List S45) : (flat l).length = l.length * 3:=by
 induction l with
 | nil => rfl
 | cons a t ih => rw [flat_cons,List.length_cons,List.length_cons,List.length_cons,List.length_cons,ih];omega
theorem flat_append (l m : List S45) : flat (l ++ m) = flat l ++ flat m:=by simp [flat]
theorem flat_drop : ∀ (i : Nat) (l : List S45),(flat l).drop (i * 3) = flat (l.drop i)
 | 0,l => by simp
 | i + 1,[] => by simp [flat]
 | i + 1,x :: l => by rw [show (i + 1) * 3 = i * 3 + 1 + 1 + 1 from by omega,flat_cons,List.drop_succ_cons,List.drop_succ_cons,List.drop_succ_cons,List.drop_succ_cons];exact flat_drop i l
theorem flat_take : ∀ (i : Nat) (l : List S45),(flat l).take (i * 3) = flat (l.take i)
 | 0,l => by simp [flat]
 | i + 1,[] => by simp [flat]
 | i + 1,x :: l => by rw [show (i + 1) * 3 = i * 3 + 1 + 1 + 1 from by omega,flat_cons,List.take_succ_cons,List.take_succ_cons,List.take_succ_cons,List.take_succ_cons,flat_cons,flat_take i l]
theorem flat_one (l : List S45) : ∀ u ∈ flat l,u.oneCell' = true:=by
 intro u hu
 obtain ⟨x,_,hx⟩:=List.mem_flatMap.1 hu
 simp at hx
 rcases hx with rfl | rfl | rfl <;> rfl
theorem flat_at {l : List S45} {j : Nat} {p : S45} (h : l[j]? = some p) : ((flat l).drop (j * 3)).take 3 = [.string p.f0,.string p.f1,.int .i64 p.f2]:=by
 rw [flat_drop]
 obtain ⟨hj,rfl⟩:=List.getElem?_eq_some_iff.1 h
 rw [List.drop_eq_getElem_cons hj,flat_cons]
 rfl
theorem R_flat {w : World} {base : Nat} {ok : Nat → Prop} {v : Value} {l : List S45} (h : Kd.R k45 45 w base ok v l) : w.ownsRow base 45 3 v l.length (flat l):=by
 obtain ⟨_,inner,ho,hr⟩:=h
 have e : inner = flat l:=by
  have hl : inner.length = l.length * 3:=hr.1
  have key : ∀ (d : Nat) (j : Nat),l.length - j = d → j ≤ l.length → inner.drop (j * 3) = flat (l.drop j):=by
   intro d
   induction d with
   | zero =>
    intro j hd hj
    rw [List.drop_of_length_le (by omega),List.drop_of_length_le (by omega)];rfl
   | succ d ih =>
    intro j hd hj
    have hlt : j < l.length:=by omega
    have h1:=k45_openM (hr.2 j l[j] (List.getElem?_eq_getElem hlt))
    have h2:=ih (j + 1) (by omega) (by omega)
    rw [List.drop_eq_getElem_cons hlt,flat_cons,← h2,show (j + 1) * 3 = j * 3 + 3 from by omega,← List.drop_drop]
    have h3 : (inner.drop (j * 3)).take 3 = _:=h1
    conv => lhs;rw [← List.take_append_drop 3 (inner.drop (j * 3)),h3]
    rfl
  have:=key l.length 0 (by omega) (by omega)
  simpa using this
 rw [← e]
 exact ho
theorem flat_R {w : World} {base : Nat} {ok : Nat → Prop} {v : Value} {l : List S45} (h : w.ownsRow base 45 3 v l.length (flat l)) (hok : ∀ k,v.ownBlock = some k → ok k) : Kd.R k45 45 w base ok v l :=
 ⟨hok,flat l,h,by rw [flat_length];rfl,fun j p hj => by
  have e:=flat_at hj
  show k45.M w base _ p (((flat l).drop (j * 3)).take 3)
  rw [e]
  exact k45_mkM w base _ p⟩
def insAt (l : List S45) (i : Nat) (f : S45) : List S45:=l.take i ++ f :: l.drop i
theorem flat_ins (l : List S45) (i : Nat) (f : S45) : flat (insAt l i f) = (flat l).take (i * 3) ++ ([.string f.f0,.string f.f1,.int .i64 f.f2] ++ (flat l).drop (i * 3)):=by
 rw [insAt,flat_append,flat_cons,flat_take,flat_drop];rfl
theorem flat_erase (l : List S45) (i : Nat) : flat (l.eraseIdx i) = (flat l).take (i * 3) ++ (flat l).drop ((i + 1) * 3):=by
 rw [List.eraseIdx_eq_take_drop_succ,flat_append,flat_take,flat_drop]

theorem idxFrom_lt {α : Type} (p : α → Bool) : ∀ (l : List α) (i : Int),0 ≤ i → 0 ≤ idxFrom p l i → ∃ n : Nat,n < l.length ∧ idxFrom p l i = i + (n : Int)
 | [],i,hi,h => by simp [idxFrom] at h
 | x :: t,i,hi,h => by
  unfold idxFrom at h ⊢
  by_cases c : p x = true
  ·rw [if_pos c];exact ⟨0,by simp,by simp⟩
  ·rw [if_neg c] at h ⊢
   obtain ⟨n,hn,e⟩:=idxFrom_lt p t (i + 1) (by omega) h
   exact ⟨n + 1,by simp;omega,by rw [e];omega⟩
theorem flat_set (l : List S45) (n : Nat) (f : S45) (hn : n < l.length) : flat (l.set n f) = (flat l).take (n * 3) ++ ([.string f.f0,.string f.f1,.int .i64 f.f2] ++ (flat l).drop ((n + 1) * 3)):=by
 rw [List.set_eq_take_append_cons_drop,if_pos hn,flat_append,flat_cons,flat_take,flat_drop];rfl
theorem R_set3 {w W : World} {base g c n : Nat} {l : List S45} {f : S45} {cur : Array Value} (ho : w.ownsRow base 45 3 (.slice (some ⟨g,0,none⟩) l.length c) l.length (flat l)) (hw : w.heap[g]? = some (.cells cur 45 (0,0))) (hW : W.heap[g]? = some (.cells cur 45 (0,0))) (hn : n < l.length) :
  Kd.R k45 45 (W.setCells g (n * 3) [.string f.f0,.string f.f1,.int .i64 f.f2]) base (fun _ => True) (.slice (some ⟨g,0,none⟩) l.length c) (l.set n f):=by
 obtain ⟨hxc,hsp,hfz,hnc,hm,hgb,hxl,cur',hh,hcs⟩:=Ins.owns_cell ho
 rw [hw] at hh
 injection hh with hh
 injection hh with hh _
 subst hh
 have hc : ∀ j,W.cell? ⟨g,j,none⟩ = w.cell? ⟨g,j,none⟩:=fun j => by rw [cell_of_row W g j cur 45 (0,0) hW,cell_of_row w g j cur 45 (0,0) hw]
 obtain ⟨c1,hc1,hs1⟩:=Ins.heap_setCells_same g 45 [.string f.f0,.string f.f1,.int .i64 f.f2] (n * 3) W cur hW
 refine flat_R (l:=l.set n f) ?_ (fun _ _ => trivial)
 rw [List.length_set]
 refine Ins.owns_of_cells ⟨c1,hc1,hs1.trans hcs⟩ hgb hnc hm (by rw [flat_length,List.length_set]) (fun j v hj => ?_)
 rw [flat_set l n f hn] at hj
 have htl : ((flat l).take (n * 3)).length = n * 3:=by rw [List.length_take];omega
 by_cases q : n * 3 ≤ j ∧ j < n * 3 + 3
 ·have:=World.cell?_setCells_in g [.string f.f0,.string f.f1,.int .i64 f.f2] (n * 3) W (fun i hi => by rw [hc];exact hsp _ (by simp at hi;omega)) (j - n * 3) (by simp;omega)
  rw [show n * 3 + (j - n * 3) = j by omega] at this
  rw [this]
  rw [List.getElem?_append_right (by omega),htl,List.getElem?_append_left (by simp;omega),List.getElem?_eq_getElem (by simp;omega)] at hj
  exact hj
 ·rw [World.cell?_setCells_out g _ _ _ ⟨g,j,none⟩ (fun _ _ => by show j < n * 3 ∨ n * 3 + 3 ≤ j;omega),hc]
  by_cases q2 : j < n * 3
  ·rw [List.getElem?_append_left (by omega),List.getElem?_take,if_pos q2] at hj
   exact hxc j v hj
  ·rw [List.getElem?_append_right (by omega),htl,List.getElem?_append_right (by simp;omega),List.getElem?_drop] at hj
   simp only [List.length_cons,List.length_nil] at hj
   rw [show (n + 1) * 3 + (j - n * 3 - (0 + 1 + 1 + 1)) = j by omega] at hj
   exact hxc j v hj
def Put1 (w : World) (base B : Nat) (v : Value) (l : List S45) (e : Ending) (w' : World) : Prop :=
 e = .returned (.tuple #[]) ∧ ∃ v1,w'.heap[B]? = some (.cells #[v1] 30 (0,0)) ∧ Kd.R k45 45 w' base (fun _ => True) v1 l ∧ Only w w' (fun i => i = B ∨ some i = v.ownBlock)
set_option maxHeartbeats 4000000 in
set_option maxRecDepth 100000 in
theorem putFile_set (base B : Nat) (v : Value) (l : List S45) (f : S45) (w : World) (hp : w.heap[B]? = some (.cells #[v] 30 (0,0))) (hR : Kd.R k45 45 w base (fun _ => True) v l)
  (n : Nat) (hn : n < l.length) (hi : idxFrom (fun x : S45 => decide (x.f0.toList = f.f0.toList)) l 0 = (n : Int)) :
  Calls Try.prog 83 #[.pointer (some ⟨B,0,none⟩),.agg #[.string f.f0,.string f.f1,.int .i64 f.f2]] w (Put1 w base B v (l.set n f)):=by
 have hu45:=Try.underlying45
 have hu30:=Try.underlying30
 obtain ⟨A,c,rfl,hc,hC⟩:=Kd.R_reads hR
 have hBw : B < w.heap.size:=(Array.getElem?_eq_some_iff.1 hp).1
 have hBc : w.cell? ⟨B,0,none⟩ = some (.slice A l.length c):=cell_of_row w B 0 _ 30 (0,0) hp
 have hcall:=impl_fileAt.calls A c l f.f0 (n : Int) (w.alloc (.cells #[.string f.f0,.string f.f1,.int .i64 f.f2] 45)).drew (Kd.C_below hC (below_drew (below_alloc (Below.refl _ _) _))) hc (by unfold impl_fileAt.f;rw [hi])
 obtain ⟨g,cap,e,_,hgw,cells,hg⟩:=Kd.R_form hR (by omega)
 injection e with e1 e2 e3
 subst e1;subst e3
 have hown:=R_flat hR
 obtain ⟨hxc,hsp,hfz,_,hm,hgb,hxl,cur,hh,hcs⟩:=Ins.owns_cell hown
 unfold maxLen at hm
 have hBne : B ≠ w.heap.size:=by omega
 have hgne : g ≠ w.heap.size:=by omega
 have hgB : g ≠ B:=fun e => by subst e;rw [hh] at hp;injection hp with hp;injection hp with _ hp;exact absurd hp (by decide)
 have hlt : (n : Int) < (l.length : Int):=by omega
 have hnn : (0 : Int) ≤ (n : Int):=by omega
 have HC:=Aside0.mk hC
 have HI:=Aside0.mk hi
 have HR:=Aside0.mk hR
 have HP:=Aside0.mk hp
 have HH:=Aside0.mk hh
 have HX:=Aside0.mk hsp
 have HF:=Aside0.mk hfz
 clear hC hi hR hp hh hg hxc hsp hfz hcs hxl hown
 go_enter Try.func83,Try.ntmps83
 go_wp2_with fail
 go_region_held3 (fun w' => w'.cell? ⟨B,0,none⟩ = some (.slice (some ⟨g,0,none⟩) l.length c) ∧ w'.cell? ⟨w.heap.size,0,none⟩ = some (.string f.f0))
  (first
   | go_keep
   | exact ⟨(hb1.cell (p:=⟨B,0,none⟩) (by simp;omega)).trans (by go_simp),(hb1.cell (p:=⟨w.heap.size,0,none⟩) (by simp)).trans (by go_simp)⟩)
  (first | (go_simp;go_at_call 66;refine hcall.mono ?_;rintro e w1 ⟨rfl,hb1⟩))
 have c0 : w1.cell? ⟨B,0,none⟩ = some (.slice (some ⟨g,0,none⟩) l.length c):=(hb1.cell (p:=⟨B,0,none⟩) (by simp;omega)).trans (by go_simp)
 have c1 : w1.cell? ⟨w.heap.size,0,none⟩ = some (.string f.f0):=(hb1.cell (p:=⟨w.heap.size,0,none⟩) (by simp)).trans (by go_simp)
 have c2 : w1.cell? ⟨w.heap.size,1,none⟩ = some (.string f.f1):=(hb1.cell (p:=⟨w.heap.size,1,none⟩) (by simp)).trans (by go_simp)
 have c3 : w1.cell? ⟨w.heap.size,2,none⟩ = some (.int .i64 f.f2):=(hb1.cell (p:=⟨w.heap.size,2,none⟩) (by simp)).trans (by go_simp)
 have hg1 : w1.heap[g]? = some (.cells cur 45 (0,0)):=(hb1.block g (by simp;omega)).trans ((Below.heap_alloc w _ g hgw).trans HH.out)
 have hcz : n * 3 + 2 < cur.size:=by
  have:=Ins.owns_cell (R_flat HR.out)
  obtain ⟨_,_,_,h4,_,_,_,cur',hh',hcs'⟩:=this
  rw [HH.out] at hh'
  injection hh' with hh'
  injection hh' with hh' _
  subst hh'
  omega
 have e0 : w1.cell? ⟨g,n * 3,none⟩ = some (cur[n * 3]'(by omega)):=(cell_of_row w1 g _ cur 45 (0,0) hg1).trans (Array.getElem?_eq_getElem _)
 have e1 : w1.cell? ⟨g,n * 3 + 1,none⟩ = some (cur[n * 3 + 1]'(by omega)):=(cell_of_row w1 g _ cur 45 (0,0) hg1).trans (Array.getElem?_eq_getElem _)
 have e2 : w1.cell? ⟨g,n * 3 + 2,none⟩ = some (cur[n * 3 + 2]'(by omega)):=(cell_of_row w1 g _ cur 45 (0,0) hg1).trans (Array.getElem?_eq_getElem _)
 have f0 : w1.frozen? ⟨g,n * 3,none⟩ = false:=by simp [World.frozen?,hg1]
 have f1 : w1.frozen? ⟨g,n * 3 + 1,none⟩ = false:=by simp [World.frozen?,hg1]
 have f2 : w1.frozen? ⟨g,n * 3 + 2,none⟩ = false:=by simp [World.frozen?,hg1]
 have HG:=Aside0.mk hg1
 have HB:=Aside0.mk hb1
 generalize cur[n * 3]'(by omega) = o0 at e0
 generalize cur[n * 3 + 1]'(by omega) = o1 at e1
 generalize cur[n * 3 + 2]'(by omega) = o2 at e2
 clear hg1 hb1
 go_wp2
 go_region
 go_wp2
 go_end0
 have hB1 : w1.heap[B]? = some (.cells #[.slice (some ⟨g,0,none⟩) l.length c] 30 (0,0)):=(HB.out.block B (by simp;omega)).trans ((Below.heap_alloc w _ B hBw).trans HP.out)
 have hO : Only w w1 (fun i => i = B ∨ some i = (Value.slice (some ⟨g,0,none⟩) l.length c).ownBlock) :=
  Only.of_below (Only.of_below (Only.refl _ _) (below_alloc (Below.refl _ _) _)) ⟨HB.out.os,HB.out.tape,HB.out.output,HB.out.size,HB.out.block⟩
 have hS : ∀ j u (W : World),Only w W (fun i => i = B ∨ some i = (Value.slice (some ⟨g,0,none⟩) l.length c).ownBlock) → Only w (W.setCell ⟨g,j,none⟩ u) (fun i => i = B ∨ some i = (Value.slice (some ⟨g,0,none⟩) l.length c).ownBlock):=fun j u W h => h.set (p:=⟨g,j,none⟩) (.inr (by simp [Value.ownBlock])) u
 refine ⟨rfl,_,?_,Kd.R_drew (R_set3 (R_flat HR.out) HH.out HG.out hn),?_⟩
 ·have hf : ∀ j u (W : World),W.heap[B]? = some (.cells #[.slice (some ⟨g,0,none⟩) l.length c] 30 (0,0)) → (W.setCell ⟨g,j,none⟩ u).heap[B]? = some (.cells #[.slice (some ⟨g,0,none⟩) l.length c] 30 (0,0)):=fun j u W h => blk_far h (p:=⟨g,j,none⟩) (Ne.symm hgB) u
  exact hf _ _ _ (hf _ _ _ (hf _ _ _ hB1))
 ·have h3:=hS (n * 3 + 2) (.int .i64 f.f2) _ (hS (n * 3 + 1) (.string f.f1) _ (hS (n * 3) (.string f.f0) _ hO))
  exact ⟨h3.os,h3.tape,h3.output,h3.size,h3.block⟩
/-- The insert's contract, and what it leaves. -/
theorem ins_call (base B F : Nat) (v : Value) (l : List S45) (f : S45) (w w2 : World) (m : Nat) (hm : m ≤ l.length) (hp : w.heap[B]? = some (.cells #[v] 30 (0,0))) (hR : Kd.R k45 45 w base (fun _ => True) v l) (hbase : base ≤ w.heap.size) (hbig : (l.length + 1) * 40 ≤ 140737488355328) (hb : Below w.heap.size w w2)
  (hF : w.heap.size ≤ F) (hF2 : F < w2.heap.size) (d1 : w2.cell? ⟨F,0,none⟩ = some (.string f.f0)) (d2 : w2.cell? ⟨F,1,none⟩ = some (.string f.f1)) (d3 : w2.cell? ⟨F,2,none⟩ = some (.int .i64 f.f2)) :
  Calls Try.prog 115 #[v,.int .i64 m,.slice (some ⟨w2.heap.size,0,none⟩) 1 1] (w2.alloc (.cells #[.string f.f0,.string f.f1,.int .i64 f.f2] 45)).drew fun e w3 => ∃ g3 c3,e = .returned (.slice (some ⟨g3,0,none⟩) (l.length + 1) c3) ∧
   w3.cell? ⟨B,0,none⟩ = some v ∧ w3.frozen? ⟨B,0,none⟩ = false ∧ (w3.cell? ⟨F,0,none⟩ = some (.string f.f0) ∧ w3.cell? ⟨F,1,none⟩ = some (.string f.f1) ∧ w3.cell? ⟨F,2,none⟩ = some (.int .i64 f.f2)) ∧
   ∀ n,Aside0 (Put1 w base B v (insAt l m f) (.returned (.tuple #[])) ((w3.setCell ⟨B,0,none⟩ (.slice (some ⟨g3,0,none⟩) (l.length + 1) c3)).drewN n)):=by
 have hbv : ∀ k,v.ownBlock = some k → k < w.heap.size:=fun k hk => own_lt (R_flat hR) k hk
 have hBw : B < w.heap.size:=(Array.getElem?_eq_some_iff.1 hp).1
 have hsz:=hb.size
 have hBne : some B ≠ v.ownBlock:=Kd.R_ne hR hp (by decide)
 have hW : Below w.heap.size w (w2.alloc (.cells #[.string f.f0,.string f.f1,.int .i64 f.f2] 45)).drew:=below_drew (below_alloc hb _)
 have hown:=R_flat (Kd.R_below hR hW)
 refine (Ins.ins_own base l.length m w2.heap.size v (flat l) [.string f.f0,.string f.f1,.int .i64 f.f2] _ hm hown (flat_one l) (heap_alloc_new w2 _) (fun e => by have:=hbv _ e;omega) rfl
  (by intro u hu;simp at hu;rcases hu with rfl | rfl | rfl <;> rfl) (by show base ≤ (w2.alloc _).heap.size;simp;omega) hbig).mono ?_
 rintro e w3 ⟨v1,rfl,ho3,hg3,hat3⟩
 have hlt3 : ∀ k,k < w2.heap.size → k < ((w2.alloc (.cells #[.string f.f0,.string f.f1,.int .i64 f.f2] 45)).drew).heap.size:=fun k hk => by show k < (w2.alloc _).heap.size;simp;omega
 have hB3 : w3.heap[B]? = some (.cells #[v] 30 (0,0)):=(hg3.block B (hlt3 B (by omega)) hBne).trans ((hW.block B hBw).trans hp)
 have hF3 : ∀ j,w3.cell? ⟨F,j,none⟩ = w2.cell? ⟨F,j,none⟩:=fun j => by
  have e : w3.heap[F]? = w2.heap[F]?:=(hg3.block F (hlt3 F hF2) (fun e => by have:=hbv F e.symm;omega)).trans (Below.heap_alloc w2 _ F hF2)
  simp only [World.cell?,e]
 obtain ⟨g3,c3,hv1⟩ : ∃ g3 c3,v1 = .slice (some ⟨g3,0,none⟩) (l.length + 1) c3:=by
  rcases ho3.2 with ⟨_,h0⟩ | ⟨g,cap,cur,h,_⟩
  ·omega
  ·exact ⟨g,cap,h⟩
 subst hv1
 generalize hv1 : (.slice (some ⟨g3,0,none⟩) (l.length + 1) c3 : Value) = v1 at *
 refine ⟨g3,c3,by rw [hv1],cell_of_row w3 B 0 _ 30 (0,0) hB3,by simp [World.frozen?,hB3],⟨(hF3 0).trans d1,(hF3 1).trans d2,(hF3 2).trans d3⟩,fun n => ?_⟩
 rw [hv1]
 refine ⟨rfl,v1,?_,?_,?_⟩
 ·exact blk_drewN (blk_put hB3 0 v1 rfl) n
 ·have hfl : w3.ownsRow base 45 3 v1 (insAt l m f).length (flat (insAt l m f)):=by
   have e1 : (insAt l m f).length = l.length + 1:=by simp [insAt];omega
   rw [e1,flat_ins]
   exact ho3
  have hR3:=flat_R (ok:=fun _ => True) hfl (fun _ _ => trivial)
  exact Kd.R_drewN (Kd.R_set hR3 hB3 (by decide) 0 v1) n
 ·have hO : Only w w3 (fun i => i = B ∨ some i = v.ownBlock):=by
   have h1 : Only w (w2.alloc (.cells #[.string f.f0,.string f.f1,.int .i64 f.f2] 45)).drew (fun i => i = B ∨ some i = v.ownBlock):=Only.of_below (Only.refl _ _) hW
   exact h1.trans (Only.grown hg3 (fun k hk => .inr hk.symm))
  have h2:=hO.set (p:=⟨B,0,none⟩) (.inl rfl) v1
  exact ⟨h2.os,h2.tape,h2.output,h2.size,h2.block⟩
set_option maxHeartbeats 4000000 in
set_option maxRecDepth 100000 in
theorem putFile_ins (base B : Nat) (v : Value) (l : List S45) (f : S45) (w : World) (hp : w.heap[B]? = some (.cells #[v] 30 (0,0))) (hR : Kd.R k45 45 w base (fun _ => True) v l) (hbase : base ≤ w.heap.size) (hbig : (l.length + 1) * 40 ≤ 140737488355328)
  (hi : idxFrom (fun x : S45 => decide (x.f0.toList = f.f0.toList)) l 0 < 0) (j : Int) (hj : idxFrom (fun x : S45 => Op.bytesLess f.f0.toList x.f0.toList) l 0 = j) (m : Nat) (hm : m ≤ l.length) (hjm : (j < 0 ∧ m = l.length) ∨ j = (m : Int)) :
  Calls Try.prog 83 #[.pointer (some ⟨B,0,none⟩),.agg #[.string f.f0,.string f.f1,.int .i64 f.f2]] w (Put1 w base B v (insAt l m f)):=by
 have hu45:=Try.underlying45
 have hu30:=Try.underlying30
 obtain ⟨A,c,rfl,hc,hC⟩:=Kd.R_reads hR
 have hBw : B < w.heap.size:=(Array.getElem?_eq_some_iff.1 hp).1
 have hBc : w.cell? ⟨B,0,none⟩ = some (.slice A l.length c):=cell_of_row w B 0 _ 30 (0,0) hp
 generalize hr : idxFrom (fun x : S45 => decide (x.f0.toList = f.f0.toList)) l 0 = r at hi
 have hcall:=impl_fileAt.calls A c l f.f0 r (w.alloc (.cells #[.string f.f0,.string f.f1,.int .i64 f.f2] 45)).drew (Kd.C_below hC (below_drew (below_alloc (Below.refl _ _) _))) hc (by unfold impl_fileAt.f;rw [hr])
 have hBne : B ≠ w.heap.size:=by omega
 have hcl : (l.length : Int) ≤ 9223372036854775807:=by omega
 have hr0 : ¬ 0 ≤ r:=by omega
 have HC:=Aside0.mk hC
 have HR:=Aside0.mk hR
 have HP:=Aside0.mk hp
 have HJ:=Aside0.mk hj
 have HM:=Aside0.mk hjm
 clear hC hr hR hp hj hjm hi
 go_enter Try.func83,Try.ntmps83
 go_wp2_with fail
 go_region_held3 (fun w' => w'.cell? ⟨B,0,none⟩ = some (.slice A l.length c) ∧ w'.cell? ⟨w.heap.size,0,none⟩ = some (.string f.f0))
  (first
   | go_keep
   | exact ⟨(hb1.cell (p:=⟨B,0,none⟩) (by simp;omega)).trans (by go_simp),(hb1.cell (p:=⟨w.heap.size,0,none⟩) (by simp)).trans (by go_simp)⟩)
  (first | (go_simp;go_at_call 66;refine hcall.mono ?_;rintro e w1 ⟨rfl,hb1⟩))
 have c0 : w1.cell? ⟨B,0,none⟩ = some (.slice A l.length c):=(hb1.cell (p:=⟨B,0,none⟩) (by simp;omega)).trans (by go_simp)
 have c1 : w1.cell? ⟨w.heap.size,0,none⟩ = some (.string f.f0):=(hb1.cell (p:=⟨w.heap.size,0,none⟩) (by simp)).trans (by go_simp)
 have c2 : w1.cell? ⟨w.heap.size,1,none⟩ = some (.string f.f1):=(hb1.cell (p:=⟨w.heap.size,1,none⟩) (by simp)).trans (by go_simp)
 have c3 : w1.cell? ⟨w.heap.size,2,none⟩ = some (.int .i64 f.f2):=(hb1.cell (p:=⟨w.heap.size,2,none⟩) (by simp)).trans (by go_simp)
 have hs1 : w.heap.size + 1 ≤ w1.heap.size:=by have:=hb1.size;simp at this;exact this
 have hbw1 : Below w.heap.size w w1:=(below_drew (below_alloc (Below.refl _ _) _)).trans (hb1.mono (by simp))
 have hidx:=slices_IndexFunc110 (fun x : S45 => Op.bytesLess f.f0.toList x.f0.toList) 114 #[.pointer (some ⟨w.heap.size,0,none⟩)] (enters_of Try.func114 (by kernel_rfl) rfl) A c l w1 (Kd.C_below HC.out hbw1) (putFile_pred f w.heap.size w1 (by omega) c1)
 rw [HJ.out] at hidx
 have HB1:=Aside0.mk hb1
 have HBW:=Aside0.mk hbw1
 clear hb1 hbw1 hcall
 rcases HM.out with ⟨hj0,hjm⟩ | hjm
 ·subst hjm
  have hj1 : decide (j < 0) = true:=decide_eq_true hj0
  go_wp2_with (go_at_call 110;refine hidx.mono ?_;rintro e w2 ⟨rfl,hb2⟩;have d0:=(hb2.cell (p:=⟨B,0,none⟩) (by show B < _;omega)).trans c0;have d1:=(hb2.cell (p:=⟨w.heap.size,0,none⟩) (by show w.heap.size < _;omega)).trans c1;have d2:=(hb2.cell (p:=⟨w.heap.size,1,none⟩) (by show w.heap.size < _;omega)).trans c2;have d3:=(hb2.cell (p:=⟨w.heap.size,2,none⟩) (by show w.heap.size < _;omega)).trans c3)
  have hs2:=hb2.size
  have nB : B ≠ w2.heap.size:=by omega
  have nF : w.heap.size ≠ w2.heap.size:=by omega
  have dB0 : (w2.alloc (.cells #[.string f.f0,.string f.f1,.int .i64 f.f2] 45)).cell? ⟨B,0,none⟩ = some (.slice A l.length c):=Lib.cell?_alloc_some _ d0
  have hin:=ins_call base B w.heap.size (.slice A l.length c) l f w w2 l.length hm HP.out HR.out hbase hbig (HBW.out.trans (hb2.mono (by omega))) (Nat.le_refl _) (by omega) d1 d2 d3
  go_region_law (first | (go_simp;go_at_call 115;refine hin.mono ?_;rintro e w3 ⟨g3,c3,rfl,e0,e3,e4,hP⟩))
  all_goals (go_wp2;go_end0;first | exact (hP 0).out | exact (hP 1).out)
 ·subst hjm
  have hj1 : ¬ (m : Int) < 0:=by omega
  go_wp2_with (go_at_call 110;refine hidx.mono ?_;rintro e w2 ⟨rfl,hb2⟩;have d0:=(hb2.cell (p:=⟨B,0,none⟩) (by show B < _;omega)).trans c0;have d1:=(hb2.cell (p:=⟨w.heap.size,0,none⟩) (by show w.heap.size < _;omega)).trans c1;have d2:=(hb2.cell (p:=⟨w.heap.size,1,none⟩) (by show w.heap.size < _;omega)).trans c2;have d3:=(hb2.cell (p:=⟨w.heap.size,2,none⟩) (by show w.heap.size < _;omega)).trans c3)
  have hs2:=hb2.size
  have nB : B ≠ w2.heap.size:=by omega
  have nF : w.heap.size ≠ w2.heap.size:=by omega
  have dB0 : (w2.alloc (.cells #[.string f.f0,.string f.f1,.int .i64 f.f2] 45)).cell? ⟨B,0,none⟩ = some (.slice A l.length c):=Lib.cell?_alloc_some _ d0
  have hin:=ins_call base B w.heap.size (.slice A l.length c) l f w w2 m hm HP.out HR.out hbase hbig (HBW.out.trans (hb2.mono (by omega))) (Nat.le_refl _) (by omega) d1 d2 d3
  go_region_law (first | (go_simp;go_at_call 115;refine hin.mono ?_;rintro e w3 ⟨g3,c3,rfl,e0,e3,e4,hP⟩))
  all_goals (go_wp2;go_end0;first | exact (hP 0).out | exact (hP 1).out)
/-- The disk with the file in its place. -/
def putFileL (l : List S45) (f : S45) : List S45 :=
 if 0 ≤ idxFrom (fun x : S45 => decide (x.f0.toList = f.f0.toList)) l 0 then l.set (idxFrom (fun x : S45 => decide (x.f0.toList = f.f0.toList)) l 0).toNat f
 else if idxFrom (fun x : S45 => Op.bytesLess f.f0.toList x.f0.toList) l 0 < 0 then insAt l l.length f
 else insAt l (idxFrom (fun x : S45 => Op.bytesLess f.f0.toList x.f0.toList) l 0).toNat f
theorem putFile_calls (base B : Nat) (v : Value) (l : List S45) (f : S45) (w : World) (hp : w.heap[B]? = some (.cells #[v] 30 (0,0))) (hR : Kd.R k45 45 w base (fun _ => True) v l) (hbase : base ≤ w.heap.size) (hbig : (l.length + 1) * 40 ≤ 140737488355328) :
  Calls Try.prog 83 #[.pointer (some ⟨B,0,none⟩),.agg #[.string f.f0,.string f.f1,.int .i64 f.f2]] w (Put1 w base B v (putFileL l f)):=by
 unfold putFileL
 by_cases h : 0 ≤ idxFrom (fun x : S45 => decide (x.f0.toList = f.f0.toList)) l 0
 ·rw [if_pos h]
  obtain ⟨n,hn,e⟩:=idxFrom_lt _ l 0 (Int.le_refl _) h
  rw [Int.zero_add] at e
  rw [e,Int.toNat_natCast]
  exact putFile_set base B v l f w hp hR n hn e
 ·rw [if_neg h]
  by_cases h2 : idxFrom (fun x : S45 => Op.bytesLess f.f0.toList x.f0.toList) l 0 < 0
  ·rw [if_pos h2]
   exact putFile_ins base B v l f w hp hR hbase hbig (by omega) _ rfl l.length (Nat.le_refl _) (.inl ⟨h2,rfl⟩)
  ·rw [if_neg h2]
   obtain ⟨n,hn,e⟩:=idxFrom_lt _ l 0 (Int.le_refl _) (Int.not_lt.1 h2)
   rw [Int.zero_add] at e
   rw [e,Int.toNat_natCast]
   exact putFile_ins base B v l f w hp hR hbase hbig (by omega) _ e n (by omega) (.inr rfl)
/-- DoAct's own boxes: the disk, the act, the result. -/
structure Bx (W : World) (b : Nat) (vd : Value) (a0 : Int) (a1 a2 a3 : ByteArray) : Prop where
 d : W.heap[b]? = some (.cells #[vd] 30 (0,0))
 a : W.heap[b + 1]? = some (.cells #[.int .i64 a0,.string a1,.string a2,.string a3] 55 (0,0))
 r : W.heap[b + 2]? = some (.cells #[.slice none 0 0] 30 (0,0))
theorem Bx.step {W W1 : World} {b : Nat} {vd : Value} {a0 : Int} {a1 a2 a3 : ByteArray} (h : Bx W b vd a0 a1 a2 a3) (hb : ∀ i,i < b + 3 → W1.heap[i]? = W.heap[i]?) : Bx W1 b vd a0 a1 a2 a3 :=
 ⟨(hb _ (by omega)).trans h.d,(hb _ (by omega)).trans h.a,(hb _ (by omega)).trans h.r⟩
theorem Bx.lt {W : World} {b : Nat} {vd : Value} {a0 : Int} {a1 a2 a3 : ByteArray} (h : Bx W b vd a0 a1 a2 a3) : b + 3 ≤ W.heap.size:=by have:=(Array.getElem?_eq_some_iff.1 h.r).1;omega
theorem Bx.below {W W1 : World} {b : Nat} {vd : Value} {a0 : Int} {a1 a2 a3 : ByteArray} (h : Bx W b vd a0 a1 a2 a3) (hb : Below W.heap.size W W1) : Bx W1 b vd a0 a1 a2 a3:=h.step (fun i hi => hb.block i (by have:=h.lt;omega))
theorem Bx.cells {W : World} {b : Nat} {vd : Value} {a0 : Int} {a1 a2 a3 : ByteArray} (h : Bx W b vd a0 a1 a2 a3) :
  W.cell? ⟨b,0,none⟩ = some vd ∧ W.cell? ⟨b + 1,0,none⟩ = some (.int .i64 a0) ∧ W.cell? ⟨b + 1,1,none⟩ = some (.string a1) ∧ W.cell? ⟨b + 1,2,none⟩ = some (.string a2) ∧ W.cell? ⟨b + 1,3,none⟩ = some (.string a3) ∧
   W.cell? ⟨b + 2,0,none⟩ = some (.slice none 0 0) ∧ W.frozen? ⟨b + 2,0,none⟩ = false :=
 ⟨cell_of_row W _ 0 _ 30 (0,0) h.d,cell_of_row W _ 0 _ 55 (0,0) h.a,cell_of_row W _ 1 _ 55 (0,0) h.a,cell_of_row W _ 2 _ 55 (0,0) h.a,cell_of_row W _ 3 _ 55 (0,0) h.a,cell_of_row W _ 0 _ 30 (0,0) h.r,by simp [World.frozen?,h.r]⟩
def World3 (w : World) (vd : Value) (a0 : Int) (a1 a2 a3 : ByteArray) : World:=((w.alloc (.cells #[vd] 30)).alloc (.cells #[.int .i64 a0,.string a1,.string a2,.string a3] 55)).alloc (.cells #[.slice none 0 0] 30)
theorem bx_new (w : World) (vd : Value) (a0 : Int) (a1 a2 a3 : ByteArray) : Bx (World3 w vd a0 a1 a2 a3) w.heap.size vd a0 a1 a2 a3 :=
 ⟨blk_alloc (blk_alloc (heap_alloc_new w _) _) _,blk_alloc (by have:=heap_alloc_new (w.alloc (.cells #[vd] 30)) (.cells #[.int .i64 a0,.string a1,.string a2,.string a3] 55);rwa [show (w.alloc (.cells #[vd] 30)).heap.size = w.heap.size + 1 from by simp] at this) _,by have:=heap_alloc_new ((w.alloc (.cells #[vd] 30)).alloc (.cells #[.int .i64 a0,.string a1,.string a2,.string a3] 55)) (.cells #[.slice none 0 0] 30);rwa [show ((w.alloc (.cells #[vd] 30)).alloc (.cells #[.int .i64 a0,.string a1,.string a2,.string a3] 55)).heap.size = w.heap.size + 2 from by simp] at this⟩
theorem below3 (w : World) (vd : Value) (a0 : Int) (a1 a2 a3 : ByteArray) : Below w.heap.size w (World3 w vd a0 a1 a2 a3):=below_alloc (below_alloc (below_alloc (Below.refl _ _) _) _) _
/-- What DoAct hands back. -/
def Done (w : World) (r1 : List S45) (r2 : Bool) (e : Ending) (w' : World) : Prop:=∃ v0 : Value,e = .returned (.tuple #[.agg #[v0],.bool r2]) ∧ Kd.R k45 45 w' w.heap.size (fun _ => True) v0 r1 ∧ Below w.heap.size w w'
theorem done_nil {w W : World} {b : Nat} {vd : Value} {a0 : Int} {a1 a2 a3 : ByteArray} (hX : Bx W b vd a0 a1 a2 a3) (hB : Below w.heap.size w W) (hb : w.heap.size ≤ b) (n : Nat) : Done w [] false (.returned (.tuple #[.agg #[.slice none 0 0],.bool false])) ((W.setCell ⟨b + 2,0,none⟩ (.slice none 0 0)).drewN n) :=
 ⟨_,rfl,Kd.R_nil _ _ _ _ _,pw_below_drewN (hB.setCell (by show w.heap.size ≤ b + 2;omega) _) n⟩
theorem del_call (base g c n : Nat) (l l' : List S45) (W : World) (hn : n < l.length) (hl : l.eraseIdx n = l') (hR : Kd.R k45 45 W base (fun _ => True) (.slice (some ⟨g,0,none⟩) l.length c) l) :
  Calls Try.prog 84 #[.slice (some ⟨g,0,none⟩) l.length c,.int .i64 n,.int .i64 ((n : Int) + 1)] W fun e w' => e = .returned (.slice (some ⟨g,0,none⟩) l'.length c) ∧ Kd.R k45 45 w' base (fun _ => True) (.slice (some ⟨g,0,none⟩) l'.length c) l' ∧ W.grownBy w' (some g):=by
 have e : l'.length = l.length - 1:=by rw [← hl,List.length_eraseIdx,if_pos hn]
 refine (Ins.del_own base l.length n g c (flat l) W hn (R_flat hR) (flat_one l)).mono ?_
 rintro e' w' ⟨rfl,h2,h3⟩
 rw [e]
 refine ⟨rfl,flat_R ?_ (fun _ _ => trivial),h3⟩
 rw [← flat_erase,hl] at h2
 rw [e]
 exact h2
/-- The disk handed back out of its own box. -/
theorem done_row {w W : World} {b : Nat} {vd v : Value} {a0 : Int} {a1 a2 a3 : ByteArray} {l : List S45} (hX : Bx W b vd a0 a1 a2 a3) (hB : Below w.heap.size w W) (hb : w.heap.size ≤ b) (hR : Kd.R k45 45 W w.heap.size (fun _ => True) v l) (n : Nat) : Done w l true (.returned (.tuple #[.agg #[v],.bool true])) ((W.setCell ⟨b + 2,0,none⟩ v).drewN n) :=
 ⟨_,rfl,Kd.R_drewN (Kd.R_set hR hX.r (by decide) 0 v) n,pw_below_drewN (hB.setCell (by show w.heap.size ≤ b + 2;omega) _) n⟩
set_option maxHeartbeats 4000000 in
set_option maxRecDepth 100000 in
theorem doAct_no (k : Nat) (A : Option Addr) (c : Nat) (l : List S45) (a0 : Int) (a1 a2 a3 : ByteArray) (i : Int) (ok : Bool) (w : World) (hC : Kd.C k45 w A l.length l) (hc : l.length ≤ c) (hd : impl_DiskOk.f k l = some ok) (hi : idxFrom (fun x : S45 => decide (x.f0.toList = a1.toList)) l 0 = i) (h0 : ok = false) :
  Calls Try.prog 38 #[.agg #[.slice A l.length c],.agg #[.int .i64 a0,.string a1,.string a2,.string a3]] w (Done w [] false):=by
 subst h0
 have hu30:=Try.underlying30
 have hu45:=Try.underlying45
 have hu55:=Try.underlying55
 have hX0:=bx_new w (.slice A l.length c) a0 a1 a2 a3
 have hB0:=below3 w (.slice A l.length c) a0 a1 a2 a3
 have hcall1:=impl_fileAt.calls A c l a1 i (World3 w (.slice A l.length c) a0 a1 a2 a3) (Kd.C_below hC hB0) hc (by unfold impl_fileAt.f;rw [hi])
 have hsz0 : (World3 w (.slice A l.length c) a0 a1 a2 a3).heap.size = w.heap.size + 3:=by simp [World3]
 unfold World3 at hcall1 hX0 hB0 hsz0
 have HC:=Aside0.mk hC
 have HCC:=Aside0.mk hc
 have HD:=Aside0.mk hd
 have HI:=Aside0.mk hi
 have HX0:=Aside0.mk hX0
 have HB0:=Aside0.mk hB0
 have HSZ:=Aside0.mk hsz0
 clear hC hc hd hi hX0 hB0 hsz0
 go_enter Try.func38,Try.ntmps38
 go_wp2_with (first | (go_at_call 66;(refine hcall1.mono ?_;rintro e w1 ⟨rfl,hb1⟩;have HX1:=Aside0.mk (Bx.below HX0.out hb1);have HB1:=Aside0.mk (HB0.out.trans (hb1.mono (by rw [HSZ.out];omega)));obtain ⟨x10,x11,x12,x13,x14,x15,x16⟩:=HX1.out.cells;clear hb1)) | (go_at_call 27;(refine (impl_DiskOk.calls k A c l _ w1 (Kd.C_below HC.out HB1.out) HCC.out HD.out).mono ?_;rintro e w2 ⟨rfl,hb2⟩;have HX2:=Aside0.mk (Bx.below HX1.out hb2);have HB2:=Aside0.mk (HB1.out.trans (hb2.mono (by have:=HX1.out.lt;omega)));obtain ⟨x20,x21,x22,x23,x24,x25,x26⟩:=HX2.out.cells;clear hb2)))
 refine bodyPost_ret (results_ct rfl _ _ (w.heap.size + 2) 30 #[.slice none 0 0] (0,0) _ rfl (by (with_reducible repeat (first | refine blk_drewN ?_ _ | refine blk_drew ?_));exact blk_put HX2.out.r 0 _ rfl) Try.underlying30 rfl (by kernel_rfl)) rfl ?_
 exact done_nil HX2.out HB2.out (Nat.le_refl _) 0
set_option maxHeartbeats 4000000 in
set_option maxRecDepth 100000 in
theorem doAct_to (k : Nat) (A : Option Addr) (c : Nat) (l : List S45) (a0 : Int) (a1 a2 a3 : ByteArray) (i : Int) (ok : Bool) (w : World) (hC : Kd.C k45 w A l.length l) (hc : l.length ≤ c) (hd : impl_DiskOk.f k l = some ok) (hi : idxFrom (fun x : S45 => decide (x.f0.toList = a1.toList)) l 0 = i) (h0 : ok = true) (h3 : a0 ≠ 3) (ht : a3.toList ≠ []) :
  Calls Try.prog 38 #[.agg #[.slice A l.length c],.agg #[.int .i64 a0,.string a1,.string a2,.string a3]] w (Done w [] false):=by
 subst h0
 have hu30:=Try.underlying30
 have hu45:=Try.underlying45
 have hu55:=Try.underlying55
 have hX0:=bx_new w (.slice A l.length c) a0 a1 a2 a3
 have hB0:=below3 w (.slice A l.length c) a0 a1 a2 a3
 have hcall1:=impl_fileAt.calls A c l a1 i (World3 w (.slice A l.length c) a0 a1 a2 a3) (Kd.C_below hC hB0) hc (by unfold impl_fileAt.f;rw [hi])
 have hsz0 : (World3 w (.slice A l.length c) a0 a1 a2 a3).heap.size = w.heap.size + 3:=by simp [World3]
 unfold World3 at hcall1 hX0 hB0 hsz0
 have HC:=Aside0.mk hC
 have HCC:=Aside0.mk hc
 have HD:=Aside0.mk hd
 have HI:=Aside0.mk hi
 have HX0:=Aside0.mk hX0
 have HB0:=Aside0.mk hB0
 have HSZ:=Aside0.mk hsz0
 clear hC hc hd hi hX0 hB0 hsz0
 have h3b : (a0 == 3) = false:=beq_eq_false_iff_ne.mpr h3
 have h3c : (a0 != 3) = true:=bne_iff_ne.mpr h3
 clear h3
 have htb : (a3.toList == ([] : List UInt8)) = false:=beq_eq_false_iff_ne.mpr ht
 have htc : (a3.toList != ([] : List UInt8)) = true:=bne_iff_ne.mpr ht
 clear ht
 go_enter Try.func38,Try.ntmps38
 go_wp2_with (first | (go_at_call 66;(refine hcall1.mono ?_;rintro e w1 ⟨rfl,hb1⟩;have HX1:=Aside0.mk (Bx.below HX0.out hb1);have HB1:=Aside0.mk (HB0.out.trans (hb1.mono (by rw [HSZ.out];omega)));obtain ⟨x10,x11,x12,x13,x14,x15,x16⟩:=HX1.out.cells;clear hb1)) | (go_at_call 27;(refine (impl_DiskOk.calls k A c l _ w1 (Kd.C_below HC.out HB1.out) HCC.out HD.out).mono ?_;rintro e w2 ⟨rfl,hb2⟩;have HX2:=Aside0.mk (Bx.below HX1.out hb2);have HB2:=Aside0.mk (HB1.out.trans (hb2.mono (by have:=HX1.out.lt;omega)));obtain ⟨x20,x21,x22,x23,x24,x25,x26⟩:=HX2.out.cells;clear hb2)))
 refine bodyPost_ret (results_ct rfl _ _ (w.heap.size + 2) 30 #[.slice none 0 0] (0,0) _ rfl (by (with_reducible repeat (first | refine blk_drewN ?_ _ | refine blk_drew ?_));exact blk_put HX2.out.r 0 _ rfl) Try.underlying30 rfl (by kernel_rfl)) rfl ?_
 exact done_nil HX2.out HB2.out (Nat.le_refl _) 0
set_option maxHeartbeats 4000000 in
set_option maxRecDepth 100000 in
theorem doAct_text3 (k : Nat) (A : Option Addr) (c : Nat) (l : List S45) (a0 : Int) (a1 a2 a3 : ByteArray) (i : Int) (ok : Bool) (w : World) (hC : Kd.C k45 w A l.length l) (hc : l.length ≤ c) (hd : impl_DiskOk.f k l = some ok) (hi : idxFrom (fun x : S45 => decide (x.f0.toList = a1.toList)) l 0 = i) (h0 : ok = true) (h3 : a0 = 3) (hx : a2.toList ≠ []) :
  Calls Try.prog 38 #[.agg #[.slice A l.length c],.agg #[.int .i64 a0,.string a1,.string a2,.string a3]] w (Done w [] false):=by
 subst h0
 subst h3
 have hu30:=Try.underlying30
 have hu45:=Try.underlying45
 have hu55:=Try.underlying55
 have hX0:=bx_new w (.slice A l.length c) 3 a1 a2 a3
 have hB0:=below3 w (.slice A l.length c) 3 a1 a2 a3
 have hcall1:=impl_fileAt.calls A c l a1 i (World3 w (.slice A l.length c) 3 a1 a2 a3) (Kd.C_below hC hB0) hc (by unfold impl_fileAt.f;rw [hi])
 have hsz0 : (World3 w (.slice A l.length c) 3 a1 a2 a3).heap.size = w.heap.size + 3:=by simp [World3]
 unfold World3 at hcall1 hX0 hB0 hsz0
 have HC:=Aside0.mk hC
 have HCC:=Aside0.mk hc
 have HD:=Aside0.mk hd
 have HI:=Aside0.mk hi
 have HX0:=Aside0.mk hX0
 have HB0:=Aside0.mk hB0
 have HSZ:=Aside0.mk hsz0
 clear hC hc hd hi hX0 hB0 hsz0
 have hxb : (a2.toList == ([] : List UInt8)) = false:=beq_eq_false_iff_ne.mpr hx
 have hxc : (a2.toList != ([] : List UInt8)) = true:=bne_iff_ne.mpr hx
 clear hx
 go_enter Try.func38,Try.ntmps38
 go_wp2_with (first | (go_at_call 66;(refine hcall1.mono ?_;rintro e w1 ⟨rfl,hb1⟩;have HX1:=Aside0.mk (Bx.below HX0.out hb1);have HB1:=Aside0.mk (HB0.out.trans (hb1.mono (by rw [HSZ.out];omega)));obtain ⟨x10,x11,x12,x13,x14,x15,x16⟩:=HX1.out.cells;clear hb1)) | (go_at_call 27;(refine (impl_DiskOk.calls k A c l _ w1 (Kd.C_below HC.out HB1.out) HCC.out HD.out).mono ?_;rintro e w2 ⟨rfl,hb2⟩;have HX2:=Aside0.mk (Bx.below HX1.out hb2);have HB2:=Aside0.mk (HB1.out.trans (hb2.mono (by have:=HX1.out.lt;omega)));obtain ⟨x20,x21,x22,x23,x24,x25,x26⟩:=HX2.out.cells;clear hb2)))
 refine bodyPost_ret (results_ct rfl _ _ (w.heap.size + 2) 30 #[.slice none 0 0] (0,0) _ rfl (by (with_reducible repeat (first | refine blk_drewN ?_ _ | refine blk_drew ?_));exact blk_put HX2.out.r 0 _ rfl) Try.underlying30 rfl (by kernel_rfl)) rfl ?_
 exact done_nil HX2.out HB2.out (Nat.le_refl _) 0
set_option maxHeartbeats 4000000 in
set_option maxRecDepth 100000 in
theorem doAct_text (k : Nat) (A : Option Addr) (c : Nat) (l : List S45) (a0 : Int) (a1 a2 a3 : ByteArray) (i : Int) (ok : Bool) (w : World) (hC : Kd.C k45 w A l.length l) (hc : l.length ≤ c) (hd : impl_DiskOk.f k l = some ok) (hi : idxFrom (fun x : S45 => decide (x.f0.toList = a1.toList)) l 0 = i) (h0 : ok = true) (h3 : a0 ≠ 3) (ht : a3.toList = []) (h1 : a0 ≠ 1) (hx : a2.toList ≠ []) :
  Calls Try.prog 38 #[.agg #[.slice A l.length c],.agg #[.int .i64 a0,.string a1,.string a2,.string a3]] w (Done w [] false):=by
 subst h0
 have hu30:=Try.underlying30
 have hu45:=Try.underlying45
 have hu55:=Try.underlying55
 have hX0:=bx_new w (.slice A l.length c) a0 a1 a2 a3
 have hB0:=below3 w (.slice A l.length c) a0 a1 a2 a3
 have hcall1:=impl_fileAt.calls A c l a1 i (World3 w (.slice A l.length c) a0 a1 a2 a3) (Kd.C_below hC hB0) hc (by unfold impl_fileAt.f;rw [hi])
 have hsz0 : (World3 w (.slice A l.length c) a0 a1 a2 a3).heap.size = w.heap.size + 3:=by simp [World3]
 unfold World3 at hcall1 hX0 hB0 hsz0
 have HC:=Aside0.mk hC
 have HCC:=Aside0.mk hc
 have HD:=Aside0.mk hd
 have HI:=Aside0.mk hi
 have HX0:=Aside0.mk hX0
 have HB0:=Aside0.mk hB0
 have HSZ:=Aside0.mk hsz0
 clear hC hc hd hi hX0 hB0 hsz0
 have h3b : (a0 == 3) = false:=beq_eq_false_iff_ne.mpr h3
 have h3c : (a0 != 3) = true:=bne_iff_ne.mpr h3
 clear h3
 have h1b : (a0 == 1) = false:=beq_eq_false_iff_ne.mpr h1
 have h1c : (a0 != 1) = true:=bne_iff_ne.mpr h1
 clear h1
 have htb : (a3.toList == ([] : List UInt8)) = true:=beq_iff_eq.mpr ht
 have htc : (a3.toList != ([] : List UInt8)) = false:=bne_eq_false_iff_eq.mpr ht
 clear ht
 have hxb : (a2.toList == ([] : List UInt8)) = false:=beq_eq_false_iff_ne.mpr hx
 have hxc : (a2.toList != ([] : List UInt8)) = true:=bne_iff_ne.mpr hx
 clear hx
 go_enter Try.func38,Try.ntmps38
 go_wp2_with (first | (go_at_call 66;(refine hcall1.mono ?_;rintro e w1 ⟨rfl,hb1⟩;have HX1:=Aside0.mk (Bx.below HX0.out hb1);have HB1:=Aside0.mk (HB0.out.trans (hb1.mono (by rw [HSZ.out];omega)));obtain ⟨x10,x11,x12,x13,x14,x15,x16⟩:=HX1.out.cells;clear hb1)) | (go_at_call 27;(refine (impl_DiskOk.calls k A c l _ w1 (Kd.C_below HC.out HB1.out) HCC.out HD.out).mono ?_;rintro e w2 ⟨rfl,hb2⟩;have HX2:=Aside0.mk (Bx.below HX1.out hb2);have HB2:=Aside0.mk (HB1.out.trans (hb2.mono (by have:=HX1.out.lt;omega)));obtain ⟨x20,x21,x22,x23,x24,x25,x26⟩:=HX2.out.cells;clear hb2)))
 refine bodyPost_ret (results_ct rfl _ _ (w.heap.size + 2) 30 #[.slice none 0 0] (0,0) _ rfl (by (with_reducible repeat (first | refine blk_drewN ?_ _ | refine blk_drew ?_));exact blk_put HX2.out.r 0 _ rfl) Try.underlying30 rfl (by kernel_rfl)) rfl ?_
 exact done_nil HX2.out HB2.out (Nat.le_refl _) 0
set_option maxHeartbeats 4000000 in
set_option maxRecDepth 100000 in
theorem doAct_none3 (k : Nat) (A : Option Addr) (c : Nat) (l : List S45) (a0 : Int) (a1 a2 a3 : ByteArray) (i : Int) (ok : Bool) (w : World) (hC : Kd.C k45 w A l.length l) (hc : l.length ≤ c) (hd : impl_DiskOk.f k l = some ok) (hi : idxFrom (fun x : S45 => decide (x.f0.toList = a1.toList)) l 0 = i) (h0 : ok = true) (h3 : a0 = 3) (hx : a2.toList = []) (hk : i < 0) :
  Calls Try.prog 38 #[.agg #[.slice A l.length c],.agg #[.int .i64 a0,.string a1,.string a2,.string a3]] w (Done w [] false):=by
 subst h0
 subst h3
 have hu30:=Try.underlying30
 have hu45:=Try.underlying45
 have hu55:=Try.underlying55
 have hX0:=bx_new w (.slice A l.length c) 3 a1 a2 a3
 have hB0:=below3 w (.slice A l.length c) 3 a1 a2 a3
 have hcall1:=impl_fileAt.calls A c l a1 i (World3 w (.slice A l.length c) 3 a1 a2 a3) (Kd.C_below hC hB0) hc (by unfold impl_fileAt.f;rw [hi])
 have hsz0 : (World3 w (.slice A l.length c) 3 a1 a2 a3).heap.size = w.heap.size + 3:=by simp [World3]
 unfold World3 at hcall1 hX0 hB0 hsz0
 have HC:=Aside0.mk hC
 have HCC:=Aside0.mk hc
 have HD:=Aside0.mk hd
 have HI:=Aside0.mk hi
 have HX0:=Aside0.mk hX0
 have HB0:=Aside0.mk hB0
 have HSZ:=Aside0.mk hsz0
 clear hC hc hd hi hX0 hB0 hsz0
 have hxb : (a2.toList == ([] : List UInt8)) = true:=beq_iff_eq.mpr hx
 have hxc : (a2.toList != ([] : List UInt8)) = false:=bne_eq_false_iff_eq.mpr hx
 clear hx
 go_enter Try.func38,Try.ntmps38
 go_wp2_with (first | (go_at_call 66;(refine hcall1.mono ?_;rintro e w1 ⟨rfl,hb1⟩;have HX1:=Aside0.mk (Bx.below HX0.out hb1);have HB1:=Aside0.mk (HB0.out.trans (hb1.mono (by rw [HSZ.out];omega)));obtain ⟨x10,x11,x12,x13,x14,x15,x16⟩:=HX1.out.cells;clear hb1)) | (go_at_call 27;(refine (impl_DiskOk.calls k A c l _ w1 (Kd.C_below HC.out HB1.out) HCC.out HD.out).mono ?_;rintro e w2 ⟨rfl,hb2⟩;have HX2:=Aside0.mk (Bx.below HX1.out hb2);have HB2:=Aside0.mk (HB1.out.trans (hb2.mono (by have:=HX1.out.lt;omega)));obtain ⟨x20,x21,x22,x23,x24,x25,x26⟩:=HX2.out.cells;clear hb2)))
 refine bodyPost_ret (results_ct rfl _ _ (w.heap.size + 2) 30 #[.slice none 0 0] (0,0) _ rfl (by (with_reducible repeat (first | refine blk_drewN ?_ _ | refine blk_drew ?_));exact blk_put HX2.out.r 0 _ rfl) Try.underlying30 rfl (by kernel_rfl)) rfl ?_
 exact done_nil HX2.out HB2.out (Nat.le_refl _) 0
set_option maxHeartbeats 4000000 in
set_option maxRecDepth 100000 in
theorem doAct_none (k : Nat) (A : Option Addr) (c : Nat) (l : List S45) (a0 : Int) (a1 a2 a3 : ByteArray) (i : Int) (ok : Bool) (w : World) (hC : Kd.C k45 w A l.length l) (hc : l.length ≤ c) (hd : impl_DiskOk.f k l = some ok) (hi : idxFrom (fun x : S45 => decide (x.f0.toList = a1.toList)) l 0 = i) (h0 : ok = true) (h3 : a0 ≠ 3) (ht : a3.toList = []) (h1 : a0 ≠ 1) (hx : a2.toList = []) (hk : i < 0) :
  Calls Try.prog 38 #[.agg #[.slice A l.length c],.agg #[.int .i64 a0,.string a1,.string a2,.string a3]] w (Done w [] false):=by
 subst h0
 have hu30:=Try.underlying30
 have hu45:=Try.underlying45
 have hu55:=Try.underlying55
 have hX0:=bx_new w (.slice A l.length c) a0 a1 a2 a3
 have hB0:=below3 w (.slice A l.length c) a0 a1 a2 a3
 have hcall1:=impl_fileAt.calls A c l a1 i (World3 w (.slice A l.length c) a0 a1 a2 a3) (Kd.C_below hC hB0) hc (by unfold impl_fileAt.f;rw [hi])
 have hsz0 : (World3 w (.slice A l.length c) a0 a1 a2 a3).heap.size = w.heap.size + 3:=by simp [World3]
 unfold World3 at hcall1 hX0 hB0 hsz0
 have HC:=Aside0.mk hC
 have HCC:=Aside0.mk hc
 have HD:=Aside0.mk hd
 have HI:=Aside0.mk hi
 have HX0:=Aside0.mk hX0
 have HB0:=Aside0.mk hB0
 have HSZ:=Aside0.mk hsz0
 clear hC hc hd hi hX0 hB0 hsz0
 have h3b : (a0 == 3) = false:=beq_eq_false_iff_ne.mpr h3
 have h3c : (a0 != 3) = true:=bne_iff_ne.mpr h3
 clear h3
 have h1b : (a0 == 1) = false:=beq_eq_false_iff_ne.mpr h1
 have h1c : (a0 != 1) = true:=bne_iff_ne.mpr h1
 clear h1
 have htb : (a3.toList == ([] : List UInt8)) = true:=beq_iff_eq.mpr ht
 have htc : (a3.toList != ([] : List UInt8)) = false:=bne_eq_false_iff_eq.mpr ht
 clear ht
 have hxb : (a2.toList == ([] : List UInt8)) = true:=beq_iff_eq.mpr hx
 have hxc : (a2.toList != ([] : List UInt8)) = false:=bne_eq_false_iff_eq.mpr hx
 clear hx
 go_enter Try.func38,Try.ntmps38
 go_wp2_with (first | (go_at_call 66;(refine hcall1.mono ?_;rintro e w1 ⟨rfl,hb1⟩;have HX1:=Aside0.mk (Bx.below HX0.out hb1);have HB1:=Aside0.mk (HB0.out.trans (hb1.mono (by rw [HSZ.out];omega)));obtain ⟨x10,x11,x12,x13,x14,x15,x16⟩:=HX1.out.cells;clear hb1)) | (go_at_call 27;(refine (impl_DiskOk.calls k A c l _ w1 (Kd.C_below HC.out HB1.out) HCC.out HD.out).mono ?_;rintro e w2 ⟨rfl,hb2⟩;have HX2:=Aside0.mk (Bx.below HX1.out hb2);have HB2:=Aside0.mk (HB1.out.trans (hb2.mono (by have:=HX1.out.lt;omega)));obtain ⟨x20,x21,x22,x23,x24,x25,x26⟩:=HX2.out.cells;clear hb2)))
 refine bodyPost_ret (results_ct rfl _ _ (w.heap.size + 2) 30 #[.slice none 0 0] (0,0) _ rfl (by (with_reducible repeat (first | refine blk_drewN ?_ _ | refine blk_drew ?_));exact blk_put HX2.out.r 0 _ rfl) Try.underlying30 rfl (by kernel_rfl)) rfl ?_
 exact done_nil HX2.out HB2.out (Nat.le_refl _) 0
set_option maxHeartbeats 4000000 in
set_option maxRecDepth 100000 in
theorem doAct_other (k : Nat) (A : Option Addr) (c : Nat) (l : List S45) (a0 : Int) (a1 a2 a3 : ByteArray) (i : Int) (ok : Bool) (w : World) (hC : Kd.C k45 w A l.length l) (hc : l.length ≤ c) (hd : impl_DiskOk.f k l = some ok) (hi : idxFrom (fun x : S45 => decide (x.f0.toList = a1.toList)) l 0 = i) (h0 : ok = true) (h1 : a0 ≠ 1) (h2 : a0 ≠ 2) (h3 : a0 ≠ 3) (h4 : a0 ≠ 4) (ht : a3.toList = []) (hx : a2.toList = []) (hk : 0 ≤ i) (hlen : l.length < 3518437208883) :
  Calls Try.prog 38 #[.agg #[.slice A l.length c],.agg #[.int .i64 a0,.string a1,.string a2,.string a3]] w (Done w [] false):=by
 subst h0
 have hu30:=Try.underlying30
 have hu45:=Try.underlying45
 have hu55:=Try.underlying55
 have hX0:=bx_new w (.slice A l.length c) a0 a1 a2 a3
 have hB0:=below3 w (.slice A l.length c) a0 a1 a2 a3
 have hcall1:=impl_fileAt.calls A c l a1 i (World3 w (.slice A l.length c) a0 a1 a2 a3) (Kd.C_below hC hB0) hc (by unfold impl_fileAt.f;rw [hi])
 have hsz0 : (World3 w (.slice A l.length c) a0 a1 a2 a3).heap.size = w.heap.size + 3:=by simp [World3]
 unfold World3 at hcall1 hX0 hB0 hsz0
 have HC:=Aside0.mk hC
 have HCC:=Aside0.mk hc
 have HD:=Aside0.mk hd
 have HI:=Aside0.mk hi
 have HX0:=Aside0.mk hX0
 have HB0:=Aside0.mk hB0
 have HSZ:=Aside0.mk hsz0
 clear hC hc hd hi hX0 hB0 hsz0
 have hcp : impl_copyDisk.f l = some l:=by unfold impl_copyDisk.f;rw [if_pos (by simpa using hlen)];rfl
 have HCP:=Aside0.mk hcp
 clear hcp
 have HLEN:=Aside0.mk hlen
 clear hlen
 have hk2 : ¬ i < 0:=by omega
 have hk3 : decide (i < 0) = false:=decide_eq_false hk2
 have h1b : (a0 == 1) = false:=beq_eq_false_iff_ne.mpr h1
 have h1c : (a0 != 1) = true:=bne_iff_ne.mpr h1
 clear h1
 have h2b : (a0 == 2) = false:=beq_eq_false_iff_ne.mpr h2
 have h2c : (a0 != 2) = true:=bne_iff_ne.mpr h2
 clear h2
 have h3b : (a0 == 3) = false:=beq_eq_false_iff_ne.mpr h3
 have h3c : (a0 != 3) = true:=bne_iff_ne.mpr h3
 clear h3
 have h4b : (a0 == 4) = false:=beq_eq_false_iff_ne.mpr h4
 have h4c : (a0 != 4) = true:=bne_iff_ne.mpr h4
 clear h4
 have htb : (a3.toList == ([] : List UInt8)) = true:=beq_iff_eq.mpr ht
 have htc : (a3.toList != ([] : List UInt8)) = false:=bne_eq_false_iff_eq.mpr ht
 clear ht
 have hxb : (a2.toList == ([] : List UInt8)) = true:=beq_iff_eq.mpr hx
 have hxc : (a2.toList != ([] : List UInt8)) = false:=bne_eq_false_iff_eq.mpr hx
 clear hx
 go_enter Try.func38,Try.ntmps38
 go_wp2_with (first | (go_at_call 66;(refine hcall1.mono ?_;rintro e w1 ⟨rfl,hb1⟩;have HX1:=Aside0.mk (Bx.below HX0.out hb1);have HB1:=Aside0.mk (HB0.out.trans (hb1.mono (by rw [HSZ.out];omega)));obtain ⟨x10,x11,x12,x13,x14,x15,x16⟩:=HX1.out.cells;clear hb1)) | (go_at_call 27;(refine (impl_DiskOk.calls k A c l _ w1 (Kd.C_below HC.out HB1.out) HCC.out HD.out).mono ?_;rintro e w2 ⟨rfl,hb2⟩;have HX2:=Aside0.mk (Bx.below HX1.out hb2);have HB2:=Aside0.mk (HB1.out.trans (hb2.mono (by have:=HX1.out.lt;omega)));obtain ⟨x20,x21,x22,x23,x24,x25,x26⟩:=HX2.out.cells;clear hb2)) | (go_at_call 77;(refine (impl_copyDisk.calls A c l l w2 (Kd.C_below HC.out HB2.out) HCC.out HCP.out).mono ?_;rintro e w3 ⟨v0,rfl,hR3,hb3⟩;obtain ⟨A3,c3,rfl⟩:=Kd.R_slice hR3;have HX3:=Aside0.mk (Bx.below HX2.out hb3);have HB3:=Aside0.mk (HB2.out.trans (hb3.mono (by have:=HX2.out.lt;omega)));have HR3:=Aside0.mk (Kd.R_lower hR3 (by have:=HX2.out.lt;omega : w.heap.size ≤ w2.heap.size));obtain ⟨x30,x31,x32,x33,x34,x35,x36⟩:=HX3.out.cells;have hw3 : w.heap.size + 2 ≠ w3.heap.size:=(by have:=HX3.out.lt;omega);have HX4:=Aside0.mk (Bx.below HX3.out (below_alloc (Below.refl _ _) (.cells #[.slice A3 l.length c3] 30)));obtain ⟨x40,x41,x42,x43,x44,x45,x46⟩:=HX4.out.cells;have hO4:=heap_alloc_new w3 (.cells #[.slice A3 l.length c3] 30);have HO4:=Aside0.mk hO4;have y40:=cell_of_row _ w3.heap.size 0 _ 30 (0,0) hO4;clear hO4 hb3 hR3)))
 refine bodyPost_ret (results_ct rfl _ _ (w.heap.size + 2) 30 #[.slice none 0 0] (0,0) _ rfl (by (with_reducible repeat (first | refine blk_drewN ?_ _ | refine blk_drew ?_));exact blk_put HX4.out.r 0 _ rfl) Try.underlying30 rfl (by kernel_rfl)) rfl ?_
 exact done_nil HX4.out (below_alloc HB3.out _) (Nat.le_refl _) 0
set_option maxHeartbeats 4000000 in
set_option maxRecDepth 100000 in
theorem doAct_drop_true (k : Nat) (A : Option Addr) (c : Nat) (l : List S45) (a1 a2 a3 : ByteArray) (n : Nat) (l' : List S45) (w : World) (hC : Kd.C k45 w A l.length l) (hc : l.length ≤ c) (hd : impl_DiskOk.f k l = some true) (hi : idxFrom (fun x : S45 => decide (x.f0.toList = a1.toList)) l 0 = (n : Int)) (hlen : l.length < 3518437208883) (hn : n < l.length) (hl : l.eraseIdx n = l') (hd2 : impl_DiskOk.f k l' = some true) (ht : a3.toList = []) (hx : a2.toList = []) :
  Calls Try.prog 38 #[.agg #[.slice A l.length c],.agg #[.int .i64 4,.string a1,.string a2,.string a3]] w (Done w l' true):=by
 have hu30:=Try.underlying30
 have hu45:=Try.underlying45
 have hu55:=Try.underlying55
 have hX0:=bx_new w (.slice A l.length c) 4 a1 a2 a3
 have hB0:=below3 w (.slice A l.length c) 4 a1 a2 a3
 have hcall1:=impl_fileAt.calls A c l a1 (n : Int) (World3 w (.slice A l.length c) 4 a1 a2 a3) (Kd.C_below hC hB0) hc (by unfold impl_fileAt.f;rw [hi])
 have hsz0 : (World3 w (.slice A l.length c) 4 a1 a2 a3).heap.size = w.heap.size + 3:=by simp [World3]
 unfold World3 at hcall1 hX0 hB0 hsz0
 have HC:=Aside0.mk hC
 have HCC:=Aside0.mk hc
 have HD:=Aside0.mk hd
 have HI:=Aside0.mk hi
 have HX0:=Aside0.mk hX0
 have HB0:=Aside0.mk hB0
 have HSZ:=Aside0.mk hsz0
 clear hC hc hd hi hX0 hB0 hsz0
 have hcp : impl_copyDisk.f l = some l:=by unfold impl_copyDisk.f;rw [if_pos (by simpa using hlen)];rfl
 have HCP:=Aside0.mk hcp
 clear hcp
 have HLEN:=Aside0.mk hlen
 clear hlen
 have hpos : 0 < l.length:=by omega
 have HPOS:=Aside0.mk hpos
 have HN:=Aside0.mk hn
 have HL:=Aside0.mk hl
 have HD2:=Aside0.mk hd2
 have hw1 : IntKind.i64.wrap ((n : Int) + 1) = (n : Int) + 1:=by rw [IntKind.wrap_i64];have:=HLEN.out;omega
 have hk3 : decide ((n : Int) < 0) = false:=decide_eq_false (by omega)
 have tok1 : True:=trivial
 clear hn hl hd2 hpos
 have htb : (a3.toList == ([] : List UInt8)) = true:=beq_iff_eq.mpr ht
 have htc : (a3.toList != ([] : List UInt8)) = false:=bne_eq_false_iff_eq.mpr ht
 clear ht
 have hxb : (a2.toList == ([] : List UInt8)) = true:=beq_iff_eq.mpr hx
 have hxc : (a2.toList != ([] : List UInt8)) = false:=bne_eq_false_iff_eq.mpr hx
 clear hx
 go_enter Try.func38,Try.ntmps38
 go_wp2_with (first | (go_at_call 66;(refine hcall1.mono ?_;rintro e w1 ⟨rfl,hb1⟩;have HX1:=Aside0.mk (Bx.below HX0.out hb1);have HB1:=Aside0.mk (HB0.out.trans (hb1.mono (by rw [HSZ.out];omega)));obtain ⟨x10,x11,x12,x13,x14,x15,x16⟩:=HX1.out.cells;clear hb1)) | (go_at_call 27;(have _t:=tok1;refine (impl_DiskOk.calls k A c l _ w1 (Kd.C_below HC.out HB1.out) HCC.out HD.out).mono ?_;rintro e w2 ⟨rfl,hb2⟩;have HX2:=Aside0.mk (Bx.below HX1.out hb2);have HB2:=Aside0.mk (HB1.out.trans (hb2.mono (by have:=HX1.out.lt;omega)));obtain ⟨x20,x21,x22,x23,x24,x25,x26⟩:=HX2.out.cells;clear hb2 tok1 _t)) | (go_at_call 77;(refine (impl_copyDisk.calls A c l l w2 (Kd.C_below HC.out HB2.out) HCC.out HCP.out).mono ?_;rintro e w3 ⟨v0,rfl,hR3,hb3⟩;obtain ⟨g3,c3,hv0,hg3b,hg3w,cells3,hg3⟩:=Kd.R_form hR3 HPOS.out;subst hv0;have hgo : w.heap.size + 3 ≤ g3:=(by have:=HX2.out.lt;omega);have HX3:=Aside0.mk (Bx.below HX2.out hb3);have HB3:=Aside0.mk (HB2.out.trans (hb3.mono (by have:=HX2.out.lt;omega)));have HR3:=Aside0.mk (Kd.R_lower hR3 (by have:=HX2.out.lt;omega : w.heap.size ≤ w2.heap.size));obtain ⟨x30,x31,x32,x33,x34,x35,x36⟩:=HX3.out.cells;have hw3 : w.heap.size + 2 ≠ w3.heap.size:=(by have:=HX3.out.lt;omega);have HX4:=Aside0.mk (Bx.below HX3.out (below_alloc (Below.refl _ _) (.cells #[.slice (some ⟨g3,0,none⟩) l.length c3] 30)));obtain ⟨x40,x41,x42,x43,x44,x45,x46⟩:=HX4.out.cells;have hO4:=heap_alloc_new w3 (.cells #[.slice (some ⟨g3,0,none⟩) l.length c3] 30);have HO4:=Aside0.mk hO4;have HR4:=Aside0.mk (Kd.R_below HR3.out (below_alloc (Below.refl _ _) (.cells #[.slice (some ⟨g3,0,none⟩) l.length c3] 30)));have HB4:=Aside0.mk (below_alloc HB3.out (.cells #[.slice (some ⟨g3,0,none⟩) l.length c3] 30));have HG3:=Aside0.mk hg3w;clear hg3 hg3b;have y40:=cell_of_row _ w3.heap.size 0 _ 30 (0,0) hO4;clear hO4 hb3 hR3)) | (go_at_call 84;(refine (del_call w.heap.size g3 c3 n l l' _ HN.out HL.out HR4.out).mono ?_;rintro e w5 ⟨rfl,hR5,hg5⟩;have HX5:=Aside0.mk (Bx.step HX4.out (fun q hq => hg5.block q (by have:=HX4.out.lt;omega) (by rintro hh;injection hh with hh;omega)));have hO5:=(hg5.block w3.heap.size (by simp) (by rintro hh;injection hh with hh;have:=HG3.out;omega)).trans HO4.out;have HO5:=Aside0.mk hO5;have HB5:=Aside0.mk (HB4.out.grown hg5 (by have:=HX3.out.lt;simp;omega) (by rintro q hq;injection hq with hq;omega));have HR5:=Aside0.mk hR5;obtain ⟨x50,x51,x52,x53,x54,x55,x56⟩:=HX5.out.cells;have y50:=cell_of_row _ w3.heap.size 0 _ 30 (0,0) hO5;have y51 : w5.frozen? ⟨w3.heap.size,0,none⟩ = false:=(by simp [World.frozen?,hO5]);clear hO5 hR5 hg5;have h60 : w.heap.size + 3 ≤ w3.heap.size:=HX3.out.lt;have HX6:=Aside0.mk (Bx.step HX5.out (W1:=w5.setCell ⟨w3.heap.size,0,none⟩ (.slice (some ⟨g3,0,none⟩) l'.length c3)) (fun q hq => Below.heap_setCell _ _ _ _ (by show q ≠ w3.heap.size;omega)));have HO6:=Aside0.mk (blk_put HO5.out 0 (.slice (some ⟨g3,0,none⟩) l'.length c3) rfl);have HR6:=Aside0.mk (Kd.R_set HR5.out HO5.out (by decide) 0 (.slice (some ⟨g3,0,none⟩) l'.length c3));have HB6:=Aside0.mk (HB5.out.setCell (p:=⟨w3.heap.size,0,none⟩) (by show w.heap.size ≤ w3.heap.size;omega) (.slice (some ⟨g3,0,none⟩) l'.length c3)))) | (go_at_call 27;(refine (impl_DiskOk.calls k (some ⟨g3,0,none⟩) c3 l' _ _ (Kd.R_reads' HR6.out).2.2 (Kd.R_reads' HR6.out).2.1 HD2.out).mono ?_;rintro e w7 ⟨rfl,hb7⟩;have HX7:=Aside0.mk (Bx.below HX6.out hb7);have HB7:=Aside0.mk (HB6.out.trans (hb7.mono (by have:=HX6.out.lt;omega)));have HR7:=Aside0.mk (Kd.R_below HR6.out hb7);have hO7:=blk_below HO6.out hb7;obtain ⟨x70,x71,x72,x73,x74,x75,x76⟩:=HX7.out.cells;have y70:=cell_of_row _ w3.heap.size 0 _ 30 (0,0) hO7;clear hO7 hb7)))
 refine bodyPost_ret (results_ct rfl _ _ (w.heap.size + 2) 30 #[.slice (some ⟨g3,0,none⟩) l'.length c3] (0,0) _ rfl (by (with_reducible repeat (first | refine blk_drewN ?_ _ | refine blk_drew ?_));exact blk_put HX7.out.r 0 _ rfl) Try.underlying30 rfl (by kernel_rfl)) rfl ?_
 exact done_row HX7.out HB7.out (Nat.le_refl _) HR7.out 0
set_option maxHeartbeats 4000000 in
set_option maxRecDepth 100000 in
theorem doAct_drop_false (k : Nat) (A : Option Addr) (c : Nat) (l : List S45) (a1 a2 a3 : ByteArray) (n : Nat) (l' : List S45) (w : World) (hC : Kd.C k45 w A l.length l) (hc : l.length ≤ c) (hd : impl_DiskOk.f k l = some true) (hi : idxFrom (fun x : S45 => decide (x.f0.toList = a1.toList)) l 0 = (n : Int)) (hlen : l.length < 3518437208883) (hn : n < l.length) (hl : l.eraseIdx n = l') (hd2 : impl_DiskOk.f k l' = some false) (ht : a3.toList = []) (hx : a2.toList = []) :
  Calls Try.prog 38 #[.agg #[.slice A l.length c],.agg #[.int .i64 4,.string a1,.string a2,.string a3]] w (Done w [] false):=by
 have hu30:=Try.underlying30
 have hu45:=Try.underlying45
 have hu55:=Try.underlying55
 have hX0:=bx_new w (.slice A l.length c) 4 a1 a2 a3
 have hB0:=below3 w (.slice A l.length c) 4 a1 a2 a3
 have hcall1:=impl_fileAt.calls A c l a1 (n : Int) (World3 w (.slice A l.length c) 4 a1 a2 a3) (Kd.C_below hC hB0) hc (by unfold impl_fileAt.f;rw [hi])
 have hsz0 : (World3 w (.slice A l.length c) 4 a1 a2 a3).heap.size = w.heap.size + 3:=by simp [World3]
 unfold World3 at hcall1 hX0 hB0 hsz0
 have HC:=Aside0.mk hC
 have HCC:=Aside0.mk hc
 have HD:=Aside0.mk hd
 have HI:=Aside0.mk hi
 have HX0:=Aside0.mk hX0
 have HB0:=Aside0.mk hB0
 have HSZ:=Aside0.mk hsz0
 clear hC hc hd hi hX0 hB0 hsz0
 have hcp : impl_copyDisk.f l = some l:=by unfold impl_copyDisk.f;rw [if_pos (by simpa using hlen)];rfl
 have HCP:=Aside0.mk hcp
 clear hcp
 have HLEN:=Aside0.mk hlen
 clear hlen
 have hpos : 0 < l.length:=by omega
 have HPOS:=Aside0.mk hpos
 have HN:=Aside0.mk hn
 have HL:=Aside0.mk hl
 have HD2:=Aside0.mk hd2
 have hw1 : IntKind.i64.wrap ((n : Int) + 1) = (n : Int) + 1:=by rw [IntKind.wrap_i64];have:=HLEN.out;omega
 have hk3 : decide ((n : Int) < 0) = false:=decide_eq_false (by omega)
 have tok1 : True:=trivial
 clear hn hl hd2 hpos
 have htb : (a3.toList == ([] : List UInt8)) = true:=beq_iff_eq.mpr ht
 have htc : (a3.toList != ([] : List UInt8)) = false:=bne_eq_false_iff_eq.mpr ht
 clear ht
 have hxb : (a2.toList == ([] : List UInt8)) = true:=beq_iff_eq.mpr hx
 have hxc : (a2.toList != ([] : List UInt8)) = false:=bne_eq_false_iff_eq.mpr hx
 clear hx
 go_enter Try.func38,Try.ntmps38
 go_wp2_with (first | (go_at_call 66;(refine hcall1.mono ?_;rintro e w1 ⟨rfl,hb1⟩;have HX1:=Aside0.mk (Bx.below HX0.out hb1);have HB1:=Aside0.mk (HB0.out.trans (hb1.mono (by rw [HSZ.out];omega)));obtain ⟨x10,x11,x12,x13,x14,x15,x16⟩:=HX1.out.cells;clear hb1)) | (go_at_call 27;(have _t:=tok1;refine (impl_DiskOk.calls k A c l _ w1 (Kd.C_below HC.out HB1.out) HCC.out HD.out).mono ?_;rintro e w2 ⟨rfl,hb2⟩;have HX2:=Aside0.mk (Bx.below HX1.out hb2);have HB2:=Aside0.mk (HB1.out.trans (hb2.mono (by have:=HX1.out.lt;omega)));obtain ⟨x20,x21,x22,x23,x24,x25,x26⟩:=HX2.out.cells;clear hb2 tok1 _t)) | (go_at_call 77;(refine (impl_copyDisk.calls A c l l w2 (Kd.C_below HC.out HB2.out) HCC.out HCP.out).mono ?_;rintro e w3 ⟨v0,rfl,hR3,hb3⟩;obtain ⟨g3,c3,hv0,hg3b,hg3w,cells3,hg3⟩:=Kd.R_form hR3 HPOS.out;subst hv0;have hgo : w.heap.size + 3 ≤ g3:=(by have:=HX2.out.lt;omega);have HX3:=Aside0.mk (Bx.below HX2.out hb3);have HB3:=Aside0.mk (HB2.out.trans (hb3.mono (by have:=HX2.out.lt;omega)));have HR3:=Aside0.mk (Kd.R_lower hR3 (by have:=HX2.out.lt;omega : w.heap.size ≤ w2.heap.size));obtain ⟨x30,x31,x32,x33,x34,x35,x36⟩:=HX3.out.cells;have hw3 : w.heap.size + 2 ≠ w3.heap.size:=(by have:=HX3.out.lt;omega);have HX4:=Aside0.mk (Bx.below HX3.out (below_alloc (Below.refl _ _) (.cells #[.slice (some ⟨g3,0,none⟩) l.length c3] 30)));obtain ⟨x40,x41,x42,x43,x44,x45,x46⟩:=HX4.out.cells;have hO4:=heap_alloc_new w3 (.cells #[.slice (some ⟨g3,0,none⟩) l.length c3] 30);have HO4:=Aside0.mk hO4;have HR4:=Aside0.mk (Kd.R_below HR3.out (below_alloc (Below.refl _ _) (.cells #[.slice (some ⟨g3,0,none⟩) l.length c3] 30)));have HB4:=Aside0.mk (below_alloc HB3.out (.cells #[.slice (some ⟨g3,0,none⟩) l.length c3] 30));have HG3:=Aside0.mk hg3w;clear hg3 hg3b;have y40:=cell_of_row _ w3.heap.size 0 _ 30 (0,0) hO4;clear hO4 hb3 hR3)) | (go_at_call 84;(refine (del_call w.heap.size g3 c3 n l l' _ HN.out HL.out HR4.out).mono ?_;rintro e w5 ⟨rfl,hR5,hg5⟩;have HX5:=Aside0.mk (Bx.step HX4.out (fun q hq => hg5.block q (by have:=HX4.out.lt;omega) (by rintro hh;injection hh with hh;omega)));have hO5:=(hg5.block w3.heap.size (by simp) (by rintro hh;injection hh with hh;have:=HG3.out;omega)).trans HO4.out;have HO5:=Aside0.mk hO5;have HB5:=Aside0.mk (HB4.out.grown hg5 (by have:=HX3.out.lt;simp;omega) (by rintro q hq;injection hq with hq;omega));have HR5:=Aside0.mk hR5;obtain ⟨x50,x51,x52,x53,x54,x55,x56⟩:=HX5.out.cells;have y50:=cell_of_row _ w3.heap.size 0 _ 30 (0,0) hO5;have y51 : w5.frozen? ⟨w3.heap.size,0,none⟩ = false:=(by simp [World.frozen?,hO5]);clear hO5 hR5 hg5;have h60 : w.heap.size + 3 ≤ w3.heap.size:=HX3.out.lt;have HX6:=Aside0.mk (Bx.step HX5.out (W1:=w5.setCell ⟨w3.heap.size,0,none⟩ (.slice (some ⟨g3,0,none⟩) l'.length c3)) (fun q hq => Below.heap_setCell _ _ _ _ (by show q ≠ w3.heap.size;omega)));have HO6:=Aside0.mk (blk_put HO5.out 0 (.slice (some ⟨g3,0,none⟩) l'.length c3) rfl);have HR6:=Aside0.mk (Kd.R_set HR5.out HO5.out (by decide) 0 (.slice (some ⟨g3,0,none⟩) l'.length c3));have HB6:=Aside0.mk (HB5.out.setCell (p:=⟨w3.heap.size,0,none⟩) (by show w.heap.size ≤ w3.heap.size;omega) (.slice (some ⟨g3,0,none⟩) l'.length c3)))) | (go_at_call 27;(refine (impl_DiskOk.calls k (some ⟨g3,0,none⟩) c3 l' _ _ (Kd.R_reads' HR6.out).2.2 (Kd.R_reads' HR6.out).2.1 HD2.out).mono ?_;rintro e w7 ⟨rfl,hb7⟩;have HX7:=Aside0.mk (Bx.below HX6.out hb7);have HB7:=Aside0.mk (HB6.out.trans (hb7.mono (by have:=HX6.out.lt;omega)));have HR7:=Aside0.mk (Kd.R_below HR6.out hb7);have hO7:=blk_below HO6.out hb7;obtain ⟨x70,x71,x72,x73,x74,x75,x76⟩:=HX7.out.cells;have y70:=cell_of_row _ w3.heap.size 0 _ 30 (0,0) hO7;clear hO7 hb7)))
 refine bodyPost_ret (results_ct rfl _ _ (w.heap.size + 2) 30 #[.slice none 0 0] (0,0) _ rfl (by (with_reducible repeat (first | refine blk_drewN ?_ _ | refine blk_drew ?_));exact blk_put HX7.out.r 0 _ rfl) Try.underlying30 rfl (by kernel_rfl)) rfl ?_
 exact done_nil HX7.out HB7.out (Nat.le_refl _) 0
/-- One number of one element written. -/
theorem R_kept {W : World} {base g c n : Nat} {l : List S45} {s : Int} (hR : Kd.R k45 45 W base (fun _ => True) (.slice (some ⟨g,0,none⟩) l.length c) l) (hn : n < l.length) :
  Kd.R k45 45 (W.setCell ⟨g,n * 3 + 2,none⟩ (.int .i64 s)) base (fun _ => True) (.slice (some ⟨g,0,none⟩) l.length c) (l.set n ⟨(rd_T45 l n).f0,(rd_T45 l n).f1,s⟩):=by
 have ho:=R_flat hR
 obtain ⟨hxc,hsp,hfz,hnc,hm,hgb,hxl,cur,hh,hcs⟩:=Ins.owns_cell ho
 have hW : (W.setCell ⟨g,n * 3 + 2,none⟩ (.int .i64 s)).heap[g]? = some (.cells (cur.setIfInBounds (n * 3 + 2) (.int .i64 s)) 45 (0,0)):=blk_set hh _ _
 refine flat_R (l:=l.set n ⟨(rd_T45 l n).f0,(rd_T45 l n).f1,s⟩) ?_ (fun _ _ => trivial)
 rw [List.length_set]
 refine Ins.owns_of_cells ⟨_,hW,by simpa using hcs⟩ hgb hnc hm (by rw [flat_length,List.length_set]) (fun j v hj => ?_)
 rw [flat_set l n _ hn] at hj
 have htl : ((flat l).take (n * 3)).length = n * 3:=by rw [List.length_take];omega
 have er : rd_T45 l n = l[n]:=by
  unfold rd_T45
  rw [Int.toNat_natCast,List.getD_eq_getElem?_getD,List.getElem?_eq_getElem hn]
  rfl
 have hat : (flat l).drop (n * 3) = .string l[n].f0 :: .string l[n].f1 :: .int .i64 l[n].f2 :: flat (l.drop (n + 1)):=by rw [flat_drop,List.drop_eq_getElem_cons hn,flat_cons]
 by_cases q2 : j = n * 3 + 2
 ·subst q2
  rw [List.getElem?_append_right (by omega),htl,show n * 3 + 2 - n * 3 = 2 from by omega] at hj
  simp at hj
  rw [← hj]
  obtain ⟨u,hu⟩:=Option.isSome_iff_exists.1 (hsp (n * 3 + 2) (by omega))
  exact World.cell?_setCell_same _ _ _ hu
 ·rw [World.cell?_setCell_other _ _ _ _ (fun e => by injection e with _ e _;omega)]
  refine hxc j v ?_
  by_cases q : j < n * 3
  ·rw [List.getElem?_append_left (by omega),List.getElem?_take,if_pos q] at hj
   exact hj
  ·rw [List.getElem?_append_right (by omega),htl] at hj
   by_cases q3 : j < n * 3 + 3
   ·obtain ⟨d,rfl⟩ : ∃ d,j = n * 3 + d:=⟨j - n * 3,by omega⟩
    rw [show n * 3 + d - n * 3 = d from by omega] at hj
    have hd : (flat l)[n * 3 + d]? = ((flat l).drop (n * 3))[d]?:=by rw [List.getElem?_drop]
    rw [hd,hat]
    rw [er] at hj
    match d,q2,q3 with
    | 0,_,_ => simpa using hj
    | 1,_,_ => simpa using hj
    | 2,h,_ => exact absurd rfl h
    | d + 3,_,h => omega
   ·rw [List.getElem?_append_right (by simp;omega),List.getElem?_drop] at hj
    simp only [List.length_cons,List.length_nil] at hj
    rw [show (n + 1) * 3 + (j - n * 3 - (0 + 1 + 1 + 1)) = j by omega] at hj
    exact hj
set_option maxHeartbeats 4000000 in
set_option maxRecDepth 100000 in
theorem doAct_keep_true (k : Nat) (A : Option Addr) (c : Nat) (l : List S45) (a1 a2 a3 : ByteArray) (n : Nat) (l' : List S45) (w : World) (hC : Kd.C k45 w A l.length l) (hc : l.length ≤ c) (hd : impl_DiskOk.f k l = some true) (hi : idxFrom (fun x : S45 => decide (x.f0.toList = a1.toList)) l 0 = (n : Int)) (hlen : l.length < 3518437208883) (hn : n < l.length) (hl : l.set n ⟨(rd_T45 l n).f0,(rd_T45 l n).f1,((rd_T45 l n).f1.size : Int)⟩ = l') (hd2 : impl_DiskOk.f k l' = some true) (ht : a3.toList = []) (hx : a2.toList = []) :
  Calls Try.prog 38 #[.agg #[.slice A l.length c],.agg #[.int .i64 2,.string a1,.string a2,.string a3]] w (Done w l' true):=by
 have hu30:=Try.underlying30
 have hu45:=Try.underlying45
 have hu55:=Try.underlying55
 have hX0:=bx_new w (.slice A l.length c) 2 a1 a2 a3
 have hB0:=below3 w (.slice A l.length c) 2 a1 a2 a3
 have hcall1:=impl_fileAt.calls A c l a1 (n : Int) (World3 w (.slice A l.length c) 2 a1 a2 a3) (Kd.C_below hC hB0) hc (by unfold impl_fileAt.f;rw [hi])
 have hsz0 : (World3 w (.slice A l.length c) 2 a1 a2 a3).heap.size = w.heap.size + 3:=by simp [World3]
 unfold World3 at hcall1 hX0 hB0 hsz0
 have HC:=Aside0.mk hC
 have HCC:=Aside0.mk hc
 have HD:=Aside0.mk hd
 have HI:=Aside0.mk hi
 have HX0:=Aside0.mk hX0
 have HB0:=Aside0.mk hB0
 have HSZ:=Aside0.mk hsz0
 clear hC hc hd hi hX0 hB0 hsz0
 have hcp : impl_copyDisk.f l = some l:=by unfold impl_copyDisk.f;rw [if_pos (by simpa using hlen)];rfl
 have HCP:=Aside0.mk hcp
 clear hcp
 have HLEN:=Aside0.mk hlen
 clear hlen
 have hpos : 0 < l.length:=by omega
 have HPOS:=Aside0.mk hpos
 have HN:=Aside0.mk hn
 have hltz : (n : Int) < (l.length : Int):=by omega
 have hnn : (0 : Int) ≤ (n : Int):=by omega
 have hle : l'.length = l.length:=by rw [← hl,List.length_set]
 have HLE:=Aside0.mk hle
 have HL:=Aside0.mk hl
 have HD2:=Aside0.mk hd2
 have hk3 : decide ((n : Int) < 0) = false:=decide_eq_false (by omega)
 have tok1 : True:=trivial
 clear hn hl hd2 hpos hle
 have htb : (a3.toList == ([] : List UInt8)) = true:=beq_iff_eq.mpr ht
 have htc : (a3.toList != ([] : List UInt8)) = false:=bne_eq_false_iff_eq.mpr ht
 clear ht
 have hxb : (a2.toList == ([] : List UInt8)) = true:=beq_iff_eq.mpr hx
 have hxc : (a2.toList != ([] : List UInt8)) = false:=bne_eq_false_iff_eq.mpr hx
 clear hx
 go_enter Try.func38,Try.ntmps38
 go_wp2_with (first | (go_at_call 66;(refine hcall1.mono ?_;rintro e w1 ⟨rfl,hb1⟩;have HX1:=Aside0.mk (Bx.below HX0.out hb1);have HB1:=Aside0.mk (HB0.out.trans (hb1.mono (by rw [HSZ.out];omega)));obtain ⟨x10,x11,x12,x13,x14,x15,x16⟩:=HX1.out.cells;clear hb1)) | (go_at_call 27;(have _t:=tok1;refine (impl_DiskOk.calls k A c l _ w1 (Kd.C_below HC.out HB1.out) HCC.out HD.out).mono ?_;rintro e w2 ⟨rfl,hb2⟩;have HX2:=Aside0.mk (Bx.below HX1.out hb2);have HB2:=Aside0.mk (HB1.out.trans (hb2.mono (by have:=HX1.out.lt;omega)));obtain ⟨x20,x21,x22,x23,x24,x25,x26⟩:=HX2.out.cells;clear hb2 tok1 _t)) | (go_at_call 77;(refine (impl_copyDisk.calls A c l l w2 (Kd.C_below HC.out HB2.out) HCC.out HCP.out).mono ?_;rintro e w3 ⟨v0,rfl,hR3,hb3⟩;obtain ⟨g3,c3,hv0,hg3b,hg3w,cells3,hg3⟩:=Kd.R_form hR3 HPOS.out;subst hv0;have hgo : w.heap.size + 3 ≤ g3:=(by have:=HX2.out.lt;omega);have HX3:=Aside0.mk (Bx.below HX2.out hb3);have HB3:=Aside0.mk (HB2.out.trans (hb3.mono (by have:=HX2.out.lt;omega)));have HR3:=Aside0.mk (Kd.R_lower hR3 (by have:=HX2.out.lt;omega : w.heap.size ≤ w2.heap.size));obtain ⟨x30,x31,x32,x33,x34,x35,x36⟩:=HX3.out.cells;have hw3 : w.heap.size + 2 ≠ w3.heap.size:=(by have:=HX3.out.lt;omega);have HX4:=Aside0.mk (Bx.below HX3.out (below_alloc (Below.refl _ _) (.cells #[.slice (some ⟨g3,0,none⟩) l.length c3] 30)));obtain ⟨x40,x41,x42,x43,x44,x45,x46⟩:=HX4.out.cells;have hO4:=heap_alloc_new w3 (.cells #[.slice (some ⟨g3,0,none⟩) l.length c3] 30);have HO4:=Aside0.mk hO4;have HR4:=Aside0.mk (Kd.R_below HR3.out (below_alloc (Below.refl _ _) (.cells #[.slice (some ⟨g3,0,none⟩) l.length c3] 30)));have HB4:=Aside0.mk (below_alloc HB3.out (.cells #[.slice (some ⟨g3,0,none⟩) l.length c3] 30));have HG3:=Aside0.mk hg3w;clear hg3 hg3b;have y40:=cell_of_row _ w3.heap.size 0 _ 30 (0,0) hO4;clear hO4 hb3 hR3)))
 obtain ⟨ad,he,_,e1,e2⟩:=at_T45 (Kd.R_reads' HR4.out).2.2 (n : Int) hnn hltz
 cases he
 rw [Int.toNat_natCast,add_plain] at e1 e2
 have e3 : (w3.alloc (.cells #[.slice (some ⟨g3,0,none⟩) l.length c3] 30)).frozen? ⟨g3,n * 3 + 2,none⟩ = false:=(Ins.owns_cell (R_flat HR4.out)).2.2.1 _
 go_region
 have h60 : w.heap.size + 3 ≤ w3.heap.size:=HX3.out.lt
 have hXa:=Bx.step HX3.out (W1:=w3.setCell ⟨g3,n * 3 + 2,none⟩ (.int .i64 ((rd_T45 l n).f1.size : Int))) (fun q hq => Below.heap_setCell _ _ _ _ (by show q ≠ g3;omega))
 have hRa:=R_kept (s:=((rd_T45 l n).f1.size : Int)) HR3.out HN.out
 have hBa:=HB3.out.setCell (p:=⟨g3,n * 3 + 2,none⟩) (by show w.heap.size ≤ g3;omega) (.int .i64 ((rd_T45 l n).f1.size : Int))
 have hsa : (w3.setCell ⟨g3,n * 3 + 2,none⟩ (.int .i64 ((rd_T45 l n).f1.size : Int))).heap.size = w3.heap.size:=by simp [World.setCell]
 generalize w3.setCell ⟨g3,n * 3 + 2,none⟩ (.int .i64 ((rd_T45 l n).f1.size : Int)) = ws at hXa hRa hBa hsa ⊢
 rw [HL.out] at hRa
 have HX6:=Aside0.mk (Bx.below (Bx.below hXa (below_alloc (Below.refl _ _) (.cells #[.slice (some ⟨g3,0,none⟩) l.length c3] 30))) (below_drew (Below.refl _ _)))
 have HR6:=Aside0.mk (Kd.R_drew (Kd.R_below hRa (below_alloc (Below.refl _ _) (.cells #[.slice (some ⟨g3,0,none⟩) l.length c3] 30))))
 have HB6:=Aside0.mk (below_drew (below_alloc hBa (.cells #[.slice (some ⟨g3,0,none⟩) l.length c3] 30)))
 have hO6 : (ws.alloc (.cells #[.slice (some ⟨g3,0,none⟩) l.length c3] 30)).drew.heap[w3.heap.size]? = some (.cells #[.slice (some ⟨g3,0,none⟩) l.length c3] 30 (0,0)):=by rw [← hsa];exact heap_alloc_new ws _
 generalize (ws.alloc (.cells #[.slice (some ⟨g3,0,none⟩) l.length c3] 30)).drew = w6 at HX6 HR6 HB6 hO6 ⊢
 have HO6:=Aside0.mk hO6
 obtain ⟨x60,x61,x62,x63,x64,x65,x66⟩:=HX6.out.cells
 have y60:=cell_of_row _ w3.heap.size 0 _ 30 (0,0) hO6
 have hdc:=impl_DiskOk.calls k (some ⟨g3,0,none⟩) c3 l' _ w6 (Kd.R_reads' HR6.out).2.2 (by rw [HLE.out];exact (Kd.R_reads' HR6.out).2.1) HD2.out
 rw [HLE.out] at hdc
 clear hXa hRa hBa hsa hO6 e1 e2 e3 y40 x30 x31 x32 x33 x34 x35 x36 x40 x41 x42 x43 x44 x45 x46
 go_wp2_with (go_at_call 27;(refine hdc.mono ?_;rintro e w7 ⟨rfl,hb7⟩;have HX7:=Aside0.mk (Bx.below HX6.out hb7);have HB7:=Aside0.mk (HB6.out.trans (hb7.mono (by have:=HX6.out.lt;omega)));have HR7:=Aside0.mk (Kd.R_below HR6.out hb7);have hO7:=blk_below HO6.out hb7;obtain ⟨x70,x71,x72,x73,x74,x75,x76⟩:=HX7.out.cells;have y70:=cell_of_row _ w3.heap.size 0 _ 30 (0,0) hO7;clear hO7 hb7))
 refine bodyPost_ret (results_ct rfl _ _ (w.heap.size + 2) 30 #[.slice (some ⟨g3,0,none⟩) l.length c3] (0,0) _ rfl (by (with_reducible repeat (first | refine blk_drewN ?_ _ | refine blk_drew ?_));exact blk_put HX7.out.r 0 _ rfl) Try.underlying30 rfl (by kernel_rfl)) rfl ?_
 exact done_row HX7.out HB7.out (Nat.le_refl _) HR7.out 0
set_option maxHeartbeats 4000000 in
set_option maxRecDepth 100000 in
theorem doAct_keep_false (k : Nat) (A : Option Addr) (c : Nat) (l : List S45) (a1 a2 a3 : ByteArray) (n : Nat) (l' : List S45) (w : World) (hC : Kd.C k45 w A l.length l) (hc : l.length ≤ c) (hd : impl_DiskOk.f k l = some true) (hi : idxFrom (fun x : S45 => decide (x.f0.toList = a1.toList)) l 0 = (n : Int)) (hlen : l.length < 3518437208883) (hn : n < l.length) (hl : l.set n ⟨(rd_T45 l n).f0,(rd_T45 l n).f1,((rd_T45 l n).f1.size : Int)⟩ = l') (hd2 : impl_DiskOk.f k l' = some false) (ht : a3.toList = []) (hx : a2.toList = []) :
  Calls Try.prog 38 #[.agg #[.slice A l.length c],.agg #[.int .i64 2,.string a1,.string a2,.string a3]] w (Done w [] false):=by
 have hu30:=Try.underlying30
 have hu45:=Try.underlying45
 have hu55:=Try.underlying55
 have hX0:=bx_new w (.slice A l.length c) 2 a1 a2 a3
 have hB0:=below3 w (.slice A l.length c) 2 a1 a2 a3
 have hcall1:=impl_fileAt.calls A c l a1 (n : Int) (World3 w (.slice A l.length c) 2 a1 a2 a3) (Kd.C_below hC hB0) hc (by unfold impl_fileAt.f;rw [hi])
 have hsz0 : (World3 w (.slice A l.length c) 2 a1 a2 a3).heap.size = w.heap.size + 3:=by simp [World3]
 unfold World3 at hcall1 hX0 hB0 hsz0
 have HC:=Aside0.mk hC
 have HCC:=Aside0.mk hc
 have HD:=Aside0.mk hd
 have HI:=Aside0.mk hi
 have HX0:=Aside0.mk hX0
 have HB0:=Aside0.mk hB0
 have HSZ:=Aside0.mk hsz0
 clear hC hc hd hi hX0 hB0 hsz0
 have hcp : impl_copyDisk.f l = some l:=by unfold impl_copyDisk.f;rw [if_pos (by simpa using hlen)];rfl
 have HCP:=Aside0.mk hcp
 clear hcp
 have HLEN:=Aside0.mk hlen
 clear hlen
 have hpos : 0 < l.length:=by omega
 have HPOS:=Aside0.mk hpos
 have HN:=Aside0.mk hn
 have hltz : (n : Int) < (l.length : Int):=by omega
 have hnn : (0 : Int) ≤ (n : Int):=by omega
 have hle : l'.length = l.length:=by rw [← hl,List.length_set]
 have HLE:=Aside0.mk hle
 have HL:=Aside0.mk hl
 have HD2:=Aside0.mk hd2
 have hk3 : decide ((n : Int) < 0) = false:=decide_eq_false (by omega)
 have tok1 : True:=trivial
 clear hn hl hd2 hpos hle
 have htb : (a3.toList == ([] : List UInt8)) = true:=beq_iff_eq.mpr ht
 have htc : (a3.toList != ([] : List UInt8)) = false:=bne_eq_false_iff_eq.mpr ht
 clear ht
 have hxb : (a2.toList == ([] : List UInt8)) = true:=beq_iff_eq.mpr hx
 have hxc : (a2.toList != ([] : List UInt8)) = false:=bne_eq_false_iff_eq.mpr hx
 clear hx
 go_enter Try.func38,Try.ntmps38
 go_wp2_with (first | (go_at_call 66;(refine hcall1.mono ?_;rintro e w1 ⟨rfl,hb1⟩;have HX1:=Aside0.mk (Bx.below HX0.out hb1);have HB1:=Aside0.mk (HB0.out.trans (hb1.mono (by rw [HSZ.out];omega)));obtain ⟨x10,x11,x12,x13,x14,x15,x16⟩:=HX1.out.cells;clear hb1)) | (go_at_call 27;(have _t:=tok1;refine (impl_DiskOk.calls k A c l _ w1 (Kd.C_below HC.out HB1.out) HCC.out HD.out).mono ?_;rintro e w2 ⟨rfl,hb2⟩;have HX2:=Aside0.mk (Bx.below HX1.out hb2);have HB2:=Aside0.mk (HB1.out.trans (hb2.mono (by have:=HX1.out.lt;omega)));obtain ⟨x20,x21,x22,x23,x24,x25,x26⟩:=HX2.out.cells;clear hb2 tok1 _t)) | (go_at_call 77;(refine (impl_copyDisk.calls A c l l w2 (Kd.C_below HC.out HB2.out) HCC.out HCP.out).mono ?_;rintro e w3 ⟨v0,rfl,hR3,hb3⟩;obtain ⟨g3,c3,hv0,hg3b,hg3w,cells3,hg3⟩:=Kd.R_form hR3 HPOS.out;subst hv0;have hgo : w.heap.size + 3 ≤ g3:=(by have:=HX2.out.lt;omega);have HX3:=Aside0.mk (Bx.below HX2.out hb3);have HB3:=Aside0.mk (HB2.out.trans (hb3.mono (by have:=HX2.out.lt;omega)));have HR3:=Aside0.mk (Kd.R_lower hR3 (by have:=HX2.out.lt;omega : w.heap.size ≤ w2.heap.size));obtain ⟨x30,x31,x32,x33,x34,x35,x36⟩:=HX3.out.cells;have hw3 : w.heap.size + 2 ≠ w3.heap.size:=(by have:=HX3.out.lt;omega);have HX4:=Aside0.mk (Bx.below HX3.out (below_alloc (Below.refl _ _) (.cells #[.slice (some ⟨g3,0,none⟩) l.length c3] 30)));obtain ⟨x40,x41,x42,x43,x44,x45,x46⟩:=HX4.out.cells;have hO4:=heap_alloc_new w3 (.cells #[.slice (some ⟨g3,0,none⟩) l.length c3] 30);have HO4:=Aside0.mk hO4;have HR4:=Aside0.mk (Kd.R_below HR3.out (below_alloc (Below.refl _ _) (.cells #[.slice (some ⟨g3,0,none⟩) l.length c3] 30)));have HB4:=Aside0.mk (below_alloc HB3.out (.cells #[.slice (some ⟨g3,0,none⟩) l.length c3] 30));have HG3:=Aside0.mk hg3w;clear hg3 hg3b;have y40:=cell_of_row _ w3.heap.size 0 _ 30 (0,0) hO4;clear hO4 hb3 hR3)))
 obtain ⟨ad,he,_,e1,e2⟩:=at_T45 (Kd.R_reads' HR4.out).2.2 (n : Int) hnn hltz
 cases he
 rw [Int.toNat_natCast,add_plain] at e1 e2
 have e3 : (w3.alloc (.cells #[.slice (some ⟨g3,0,none⟩) l.length c3] 30)).frozen? ⟨g3,n * 3 + 2,none⟩ = false:=(Ins.owns_cell (R_flat HR4.out)).2.2.1 _
 go_region
 have h60 : w.heap.size + 3 ≤ w3.heap.size:=HX3.out.lt
 have hXa:=Bx.step HX3.out (W1:=w3.setCell ⟨g3,n * 3 + 2,none⟩ (.int .i64 ((rd_T45 l n).f1.size : Int))) (fun q hq => Below.heap_setCell _ _ _ _ (by show q ≠ g3;omega))
 have hRa:=R_kept (s:=((rd_T45 l n).f1.size : Int)) HR3.out HN.out
 have hBa:=HB3.out.setCell (p:=⟨g3,n * 3 + 2,none⟩) (by show w.heap.size ≤ g3;omega) (.int .i64 ((rd_T45 l n).f1.size : Int))
 have hsa : (w3.setCell ⟨g3,n * 3 + 2,none⟩ (.int .i64 ((rd_T45 l n).f1.size : Int))).heap.size = w3.heap.size:=by simp [World.setCell]
 generalize w3.setCell ⟨g3,n * 3 + 2,none⟩ (.int .i64 ((rd_T45 l n).f1.size : Int)) = ws at hXa hRa hBa hsa ⊢
 rw [HL.out] at hRa
 have HX6:=Aside0.mk (Bx.below (Bx.below hXa (below_alloc (Below.refl _ _) (.cells #[.slice (some ⟨g3,0,none⟩) l.length c3] 30))) (below_drew (Below.refl _ _)))
 have HR6:=Aside0.mk (Kd.R_drew (Kd.R_below hRa (below_alloc (Below.refl _ _) (.cells #[.slice (some ⟨g3,0,none⟩) l.length c3] 30))))
 have HB6:=Aside0.mk (below_drew (below_alloc hBa (.cells #[.slice (some ⟨g3,0,none⟩) l.length c3] 30)))
 have hO6 : (ws.alloc (.cells #[.slice (some ⟨g3,0,none⟩) l.length c3] 30)).drew.heap[w3.heap.size]? = some (.cells #[.slice (some ⟨g3,0,none⟩) l.length c3] 30 (0,0)):=by rw [← hsa];exact heap_alloc_new ws _
 generalize (ws.alloc (.cells #[.slice (some ⟨g3,0,none⟩) l.length c3] 30)).drew = w6 at HX6 HR6 HB6 hO6 ⊢
 have HO6:=Aside0.mk hO6
 obtain ⟨x60,x61,x62,x63,x64,x65,x66⟩:=HX6.out.cells
 have y60:=cell_of_row _ w3.heap.size 0 _ 30 (0,0) hO6
 have hdc:=impl_DiskOk.calls k (some ⟨g3,0,none⟩) c3 l' _ w6 (Kd.R_reads' HR6.out).2.2 (by rw [HLE.out];exact (Kd.R_reads' HR6.out).2.1) HD2.out
 rw [HLE.out] at hdc
 clear hXa hRa hBa hsa hO6 e1 e2 e3 y40 x30 x31 x32 x33 x34 x35 x36 x40 x41 x42 x43 x44 x45 x46
 go_wp2_with (go_at_call 27;(refine hdc.mono ?_;rintro e w7 ⟨rfl,hb7⟩;have HX7:=Aside0.mk (Bx.below HX6.out hb7);have HB7:=Aside0.mk (HB6.out.trans (hb7.mono (by have:=HX6.out.lt;omega)));have HR7:=Aside0.mk (Kd.R_below HR6.out hb7);have hO7:=blk_below HO6.out hb7;obtain ⟨x70,x71,x72,x73,x74,x75,x76⟩:=HX7.out.cells;have y70:=cell_of_row _ w3.heap.size 0 _ 30 (0,0) hO7;clear hO7 hb7))
 refine bodyPost_ret (results_ct rfl _ _ (w.heap.size + 2) 30 #[.slice none 0 0] (0,0) _ rfl (by (with_reducible repeat (first | refine blk_drewN ?_ _ | refine blk_drew ?_));exact blk_put HX7.out.r 0 _ rfl) Try.underlying30 rfl (by kernel_rfl)) rfl ?_
 exact done_nil HX7.out HB7.out (Nat.le_refl _) 0
/-- What putFile leaves, for the walk of DoAct. -/
theorem put_call (b O : Nat) (vd v : Value) (a0 : Int) (a1 a2 a3 : ByteArray) (l l' : List S45) (f : S45) (w W : World) (hX : Bx W w.heap.size vd a0 a1 a2 a3) (hB : Below w.heap.size w W) (hO : W.heap[O]? = some (.cells #[v] 30 (0,0))) (hOb : w.heap.size + 3 ≤ O) (hR : Kd.R k45 45 W w.heap.size (fun _ => True) v l)
  (hown : ∀ q,v.ownBlock = some q → w.heap.size + 3 ≤ q) (hbig : (l.length + 1) * 40 ≤ 140737488355328) (hl : putFileL l f = l') :
  Calls Try.prog 83 #[.pointer (some ⟨O,0,none⟩),.agg #[.string f.f0,.string f.f1,.int .i64 f.f2]] W fun e w' => e = .returned (.tuple #[]) ∧ ∃ A6 c6,w'.heap[O]? = some (.cells #[.slice A6 l'.length c6] 30 (0,0)) ∧ Kd.R k45 45 w' w.heap.size (fun _ => True) (.slice A6 l'.length c6) l' ∧ Bx w' w.heap.size vd a0 a1 a2 a3 ∧ Below w.heap.size w w':=by
 refine (putFile_calls w.heap.size O v l f W hO hR (by have:=hX.lt;omega) hbig).mono ?_
 rintro e w' ⟨rfl,v1,h1,h2,h3⟩
 rw [hl] at h2
 obtain ⟨A6,c6,rfl⟩:=Kd.R_slice h2
 refine ⟨rfl,A6,c6,h1,h2,hX.step (fun q hq => h3.block q (by have:=hX.lt;omega) (by
  rintro (e | e)
  ·omega
  ·have:=hown q e.symm;omega)),hB.trans (h3.below (by have:=hX.lt;omega) (by
  rintro q (e | e)
  ·omega
  ·have:=hown q e.symm;omega))⟩
set_option maxHeartbeats 4000000 in
set_option maxRecDepth 100000 in
theorem doAct_add_true (k : Nat) (A : Option Addr) (c : Nat) (l : List S45) (a1 a2 a3 : ByteArray) (n : Nat) (l' : List S45) (w : World) (hC : Kd.C k45 w A l.length l) (hc : l.length ≤ c) (hd : impl_DiskOk.f k l = some true) (hi : idxFrom (fun x : S45 => decide (x.f0.toList = a1.toList)) l 0 = (n : Int)) (hlen : l.length < 3518437208883) (hn : n < l.length) (hsz : (rd_T45 l n).f1.size + a2.size ≤ 9223372036854775807) (hl : putFileL l ⟨(rd_T45 l n).f0,(rd_T45 l n).f1 ++ a2,(rd_T45 l n).f2⟩ = l') (hd2 : impl_DiskOk.f k l' = some true) (ht : a3.toList = []) :
  Calls Try.prog 38 #[.agg #[.slice A l.length c],.agg #[.int .i64 1,.string a1,.string a2,.string a3]] w (Done w l' true):=by
 have hu30:=Try.underlying30
 have hu45:=Try.underlying45
 have hu55:=Try.underlying55
 have hX0:=bx_new w (.slice A l.length c) 1 a1 a2 a3
 have hB0:=below3 w (.slice A l.length c) 1 a1 a2 a3
 have hcall1:=impl_fileAt.calls A c l a1 (n : Int) (World3 w (.slice A l.length c) 1 a1 a2 a3) (Kd.C_below hC hB0) hc (by unfold impl_fileAt.f;rw [hi])
 have hsz0 : (World3 w (.slice A l.length c) 1 a1 a2 a3).heap.size = w.heap.size + 3:=by simp [World3]
 unfold World3 at hcall1 hX0 hB0 hsz0
 have HC:=Aside0.mk hC
 have HCC:=Aside0.mk hc
 have HD:=Aside0.mk hd
 have HI:=Aside0.mk hi
 have HX0:=Aside0.mk hX0
 have HB0:=Aside0.mk hB0
 have HSZ:=Aside0.mk hsz0
 clear hC hc hd hi hX0 hB0 hsz0
 have hcp : impl_copyDisk.f l = some l:=by unfold impl_copyDisk.f;rw [if_pos (by simpa using hlen)];rfl
 have HCP:=Aside0.mk hcp
 clear hcp
 have HLEN:=Aside0.mk hlen
 clear hlen
 have HL:=Aside0.mk hl
 have HD2:=Aside0.mk hd2
 have tok1 : True:=trivial
 clear hl hd2
 have HN:=Aside0.mk hn
 have hltz : (n : Int) < (l.length : Int):=by omega
 have hnn : (0 : Int) ≤ (n : Int):=by omega
 have hk3 : decide ((0 : Int) ≤ (n : Int)) = true:=decide_eq_true hnn
 clear hn
 have htb : (a3.toList == ([] : List UInt8)) = true:=beq_iff_eq.mpr ht
 have htc : (a3.toList != ([] : List UInt8)) = false:=bne_eq_false_iff_eq.mpr ht
 clear ht
 go_enter Try.func38,Try.ntmps38
 go_wp2_with (first | (go_at_call 66;(refine hcall1.mono ?_;rintro e w1 ⟨rfl,hb1⟩;have HX1:=Aside0.mk (Bx.below HX0.out hb1);have HB1:=Aside0.mk (HB0.out.trans (hb1.mono (by rw [HSZ.out];omega)));obtain ⟨x10,x11,x12,x13,x14,x15,x16⟩:=HX1.out.cells;clear hb1)) | (go_at_call 27;(have _t:=tok1;refine (impl_DiskOk.calls k A c l _ w1 (Kd.C_below HC.out HB1.out) HCC.out HD.out).mono ?_;rintro e w2 ⟨rfl,hb2⟩;have HX2:=Aside0.mk (Bx.below HX1.out hb2);have HB2:=Aside0.mk (HB1.out.trans (hb2.mono (by have:=HX1.out.lt;omega)));obtain ⟨x20,x21,x22,x23,x24,x25,x26⟩:=HX2.out.cells;clear hb2 tok1 _t)) | (go_at_call 77;(refine (impl_copyDisk.calls A c l l w2 (Kd.C_below HC.out HB2.out) HCC.out HCP.out).mono ?_;rintro e w3 ⟨v0,rfl,hR3,hb3⟩;obtain ⟨A3,c3,rfl⟩:=Kd.R_slice hR3;have HX3:=Aside0.mk (Bx.below HX2.out hb3);have HB3:=Aside0.mk (HB2.out.trans (hb3.mono (by have:=HX2.out.lt;omega)));have HR3:=Aside0.mk (Kd.R_lower hR3 (by have:=HX2.out.lt;omega : w.heap.size ≤ w2.heap.size));obtain ⟨x30,x31,x32,x33,x34,x35,x36⟩:=HX3.out.cells;have hw3 : w.heap.size + 2 ≠ w3.heap.size:=(by have:=HX3.out.lt;omega);have HX4:=Aside0.mk (Bx.below HX3.out (below_alloc (Below.refl _ _) (.cells #[.slice A3 l.length c3] 30)));obtain ⟨x40,x41,x42,x43,x44,x45,x46⟩:=HX4.out.cells;have hO4:=heap_alloc_new w3 (.cells #[.slice A3 l.length c3] 30);have HO4:=Aside0.mk hO4;have y40:=cell_of_row _ w3.heap.size 0 _ 30 (0,0) hO4;have hq3 : ∀ q,(Value.slice A3 l.length c3).ownBlock = some q → w.heap.size + 3 ≤ q:=(fun q hq => Nat.le_trans HX2.out.lt (own_base (R_flat hR3) q hq));have HQ3:=Aside0.mk hq3;have HR4:=Aside0.mk (Kd.R_below HR3.out (below_alloc (Below.refl _ _) (.cells #[.slice A3 l.length c3] 30)));have HB4:=Aside0.mk (below_alloc HB3.out (.cells #[.slice A3 l.length c3] 30));obtain ⟨ad,he,e0,e1,e2⟩:=at_T45 (Kd.C_below HC.out (below_alloc HB4.out (.cells #[.string a1,.string ⟨#[]⟩,.int .i64 0] 45))) (n : Int) hnn hltz;cases he;rw [Int.toNat_natCast] at e0 e1 e2;obtain ⟨x7a0,x7a1,x7a2,x7a3,x7a4,x7a5,x7a6⟩:=(Bx.below HX4.out (below_alloc (Below.refl _ _) (.cells #[.string a1,.string ⟨#[]⟩,.int .i64 0] 45))).cells;obtain ⟨x7b0,x7b1,x7b2,x7b3,x7b4,x7b5,x7b6⟩:=(Bx.below HX4.out (below_alloc (Below.refl _ _) (.cells #[.string (rd_T45 l n).f0,.string (rd_T45 l n).f1,.int .i64 (rd_T45 l n).f2] 45))).cells;clear hq3 hO4 hb3 hR3;have h60 : w.heap.size + 3 ≤ w3.heap.size:=HX3.out.lt;have HPUT:=put_call w.heap.size w3.heap.size _ (.slice A3 l.length c3) 1 a1 a2 a3 l l' ⟨(rd_T45 l n).f0,(rd_T45 l n).f1 ++ a2,(rd_T45 l n).f2⟩ w ((w3.alloc (.cells #[.slice A3 l.length c3] 30)).alloc (.cells #[.string (rd_T45 l n).f0,.string ((rd_T45 l n).f1 ++ a2),.int .i64 (rd_T45 l n).f2] 45)) (Bx.below HX4.out (below_alloc (Below.refl _ _) _)) (below_alloc HB4.out _) (blk_alloc HO4.out _) h60 (Kd.R_below HR4.out (below_alloc (Below.refl _ _) _)) HQ3.out (by have:=HLEN.out;omega) HL.out)) | (go_at_call 83;(refine HPUT.mono ?_;rintro e w6 ⟨rfl,A6,c6,hO6,hR6,hX6,hB6⟩;have HX6:=Aside0.mk hX6;have HO6:=Aside0.mk hO6;have HR6:=Aside0.mk hR6;have HB6:=Aside0.mk hB6;obtain ⟨x60,x61,x62,x63,x64,x65,x66⟩:=hX6.cells;have y60:=cell_of_row _ w3.heap.size 0 _ 30 (0,0) hO6;clear hX6 hR6 hB6 hO6)) | (go_at_call 27;(refine (impl_DiskOk.calls k A6 c6 l' _ _ (Kd.R_reads' HR6.out).2.2 (Kd.R_reads' HR6.out).2.1 HD2.out).mono ?_;rintro e w7 ⟨rfl,hb7⟩;have HX7:=Aside0.mk (Bx.below HX6.out hb7);have HB7:=Aside0.mk (HB6.out.trans (hb7.mono (by have:=HX6.out.lt;omega)));have HR7:=Aside0.mk (Kd.R_below HR6.out hb7);have hO7:=blk_below HO6.out hb7;obtain ⟨x70,x71,x72,x73,x74,x75,x76⟩:=HX7.out.cells;have y70:=cell_of_row _ w3.heap.size 0 _ 30 (0,0) hO7;clear hO7 hb7)))
 refine bodyPost_ret (results_ct rfl _ _ (w.heap.size + 2) 30 #[.slice A6 l'.length c6] (0,0) _ rfl (by (with_reducible repeat (first | refine blk_drewN ?_ _ | refine blk_drew ?_));exact blk_put HX7.out.r 0 _ rfl) Try.underlying30 rfl (by kernel_rfl)) rfl ?_
 exact done_row HX7.out HB7.out (Nat.le_refl _) HR7.out 0
set_option maxHeartbeats 4000000 in
set_option maxRecDepth 100000 in
theorem doAct_add_false (k : Nat) (A : Option Addr) (c : Nat) (l : List S45) (a1 a2 a3 : ByteArray) (n : Nat) (l' : List S45) (w : World) (hC : Kd.C k45 w A l.length l) (hc : l.length ≤ c) (hd : impl_DiskOk.f k l = some true) (hi : idxFrom (fun x : S45 => decide (x.f0.toList = a1.toList)) l 0 = (n : Int)) (hlen : l.length < 3518437208883) (hn : n < l.length) (hsz : (rd_T45 l n).f1.size + a2.size ≤ 9223372036854775807) (hl : putFileL l ⟨(rd_T45 l n).f0,(rd_T45 l n).f1 ++ a2,(rd_T45 l n).f2⟩ = l') (hd2 : impl_DiskOk.f k l' = some false) (ht : a3.toList = []) :
  Calls Try.prog 38 #[.agg #[.slice A l.length c],.agg #[.int .i64 1,.string a1,.string a2,.string a3]] w (Done w [] false):=by
 have hu30:=Try.underlying30
 have hu45:=Try.underlying45
 have hu55:=Try.underlying55
 have hX0:=bx_new w (.slice A l.length c) 1 a1 a2 a3
 have hB0:=below3 w (.slice A l.length c) 1 a1 a2 a3
 have hcall1:=impl_fileAt.calls A c l a1 (n : Int) (World3 w (.slice A l.length c) 1 a1 a2 a3) (Kd.C_below hC hB0) hc (by unfold impl_fileAt.f;rw [hi])
 have hsz0 : (World3 w (.slice A l.length c) 1 a1 a2 a3).heap.size = w.heap.size + 3:=by simp [World3]
 unfold World3 at hcall1 hX0 hB0 hsz0
 have HC:=Aside0.mk hC
 have HCC:=Aside0.mk hc
 have HD:=Aside0.mk hd
 have HI:=Aside0.mk hi
 have HX0:=Aside0.mk hX0
 have HB0:=Aside0.mk hB0
 have HSZ:=Aside0.mk hsz0
 clear hC hc hd hi hX0 hB0 hsz0
 have hcp : impl_copyDisk.f l = some l:=by unfold impl_copyDisk.f;rw [if_pos (by simpa using hlen)];rfl
 have HCP:=Aside0.mk hcp
 clear hcp
 have HLEN:=Aside0.mk hlen
 clear hlen
 have HL:=Aside0.mk hl
 have HD2:=Aside0.mk hd2
 have tok1 : True:=trivial
 clear hl hd2
 have HN:=Aside0.mk hn
 have hltz : (n : Int) < (l.length : Int):=by omega
 have hnn : (0 : Int) ≤ (n : Int):=by omega
 have hk3 : decide ((0 : Int) ≤ (n : Int)) = true:=decide_eq_true hnn
 clear hn
 have htb : (a3.toList == ([] : List UInt8)) = true:=beq_iff_eq.mpr ht
 have htc : (a3.toList != ([] : List UInt8)) = false:=bne_eq_false_iff_eq.mpr ht
 clear ht
 go_enter Try.func38,Try.ntmps38
 go_wp2_with (first | (go_at_call 66;(refine hcall1.mono ?_;rintro e w1 ⟨rfl,hb1⟩;have HX1:=Aside0.mk (Bx.below HX0.out hb1);have HB1:=Aside0.mk (HB0.out.trans (hb1.mono (by rw [HSZ.out];omega)));obtain ⟨x10,x11,x12,x13,x14,x15,x16⟩:=HX1.out.cells;clear hb1)) | (go_at_call 27;(have _t:=tok1;refine (impl_DiskOk.calls k A c l _ w1 (Kd.C_below HC.out HB1.out) HCC.out HD.out).mono ?_;rintro e w2 ⟨rfl,hb2⟩;have HX2:=Aside0.mk (Bx.below HX1.out hb2);have HB2:=Aside0.mk (HB1.out.trans (hb2.mono (by have:=HX1.out.lt;omega)));obtain ⟨x20,x21,x22,x23,x24,x25,x26⟩:=HX2.out.cells;clear hb2 tok1 _t)) | (go_at_call 77;(refine (impl_copyDisk.calls A c l l w2 (Kd.C_below HC.out HB2.out) HCC.out HCP.out).mono ?_;rintro e w3 ⟨v0,rfl,hR3,hb3⟩;obtain ⟨A3,c3,rfl⟩:=Kd.R_slice hR3;have HX3:=Aside0.mk (Bx.below HX2.out hb3);have HB3:=Aside0.mk (HB2.out.trans (hb3.mono (by have:=HX2.out.lt;omega)));have HR3:=Aside0.mk (Kd.R_lower hR3 (by have:=HX2.out.lt;omega : w.heap.size ≤ w2.heap.size));obtain ⟨x30,x31,x32,x33,x34,x35,x36⟩:=HX3.out.cells;have hw3 : w.heap.size + 2 ≠ w3.heap.size:=(by have:=HX3.out.lt;omega);have HX4:=Aside0.mk (Bx.below HX3.out (below_alloc (Below.refl _ _) (.cells #[.slice A3 l.length c3] 30)));obtain ⟨x40,x41,x42,x43,x44,x45,x46⟩:=HX4.out.cells;have hO4:=heap_alloc_new w3 (.cells #[.slice A3 l.length c3] 30);have HO4:=Aside0.mk hO4;have y40:=cell_of_row _ w3.heap.size 0 _ 30 (0,0) hO4;have hq3 : ∀ q,(Value.slice A3 l.length c3).ownBlock = some q → w.heap.size + 3 ≤ q:=(fun q hq => Nat.le_trans HX2.out.lt (own_base (R_flat hR3) q hq));have HQ3:=Aside0.mk hq3;have HR4:=Aside0.mk (Kd.R_below HR3.out (below_alloc (Below.refl _ _) (.cells #[.slice A3 l.length c3] 30)));have HB4:=Aside0.mk (below_alloc HB3.out (.cells #[.slice A3 l.length c3] 30));obtain ⟨ad,he,e0,e1,e2⟩:=at_T45 (Kd.C_below HC.out (below_alloc HB4.out (.cells #[.string a1,.string ⟨#[]⟩,.int .i64 0] 45))) (n : Int) hnn hltz;cases he;rw [Int.toNat_natCast] at e0 e1 e2;obtain ⟨x7a0,x7a1,x7a2,x7a3,x7a4,x7a5,x7a6⟩:=(Bx.below HX4.out (below_alloc (Below.refl _ _) (.cells #[.string a1,.string ⟨#[]⟩,.int .i64 0] 45))).cells;obtain ⟨x7b0,x7b1,x7b2,x7b3,x7b4,x7b5,x7b6⟩:=(Bx.below HX4.out (below_alloc (Below.refl _ _) (.cells #[.string (rd_T45 l n).f0,.string (rd_T45 l n).f1,.int .i64 (rd_T45 l n).f2] 45))).cells;clear hq3 hO4 hb3 hR3;have h60 : w.heap.size + 3 ≤ w3.heap.size:=HX3.out.lt;have HPUT:=put_call w.heap.size w3.heap.size _ (.slice A3 l.length c3) 1 a1 a2 a3 l l' ⟨(rd_T45 l n).f0,(rd_T45 l n).f1 ++ a2,(rd_T45 l n).f2⟩ w ((w3.alloc (.cells #[.slice A3 l.length c3] 30)).alloc (.cells #[.string (rd_T45 l n).f0,.string ((rd_T45 l n).f1 ++ a2),.int .i64 (rd_T45 l n).f2] 45)) (Bx.below HX4.out (below_alloc (Below.refl _ _) _)) (below_alloc HB4.out _) (blk_alloc HO4.out _) h60 (Kd.R_below HR4.out (below_alloc (Below.refl _ _) _)) HQ3.out (by have:=HLEN.out;omega) HL.out)) | (go_at_call 83;(refine HPUT.mono ?_;rintro e w6 ⟨rfl,A6,c6,hO6,hR6,hX6,hB6⟩;have HX6:=Aside0.mk hX6;have HO6:=Aside0.mk hO6;have HR6:=Aside0.mk hR6;have HB6:=Aside0.mk hB6;obtain ⟨x60,x61,x62,x63,x64,x65,x66⟩:=hX6.cells;have y60:=cell_of_row _ w3.heap.size 0 _ 30 (0,0) hO6;clear hX6 hR6 hB6 hO6)) | (go_at_call 27;(refine (impl_DiskOk.calls k A6 c6 l' _ _ (Kd.R_reads' HR6.out).2.2 (Kd.R_reads' HR6.out).2.1 HD2.out).mono ?_;rintro e w7 ⟨rfl,hb7⟩;have HX7:=Aside0.mk (Bx.below HX6.out hb7);have HB7:=Aside0.mk (HB6.out.trans (hb7.mono (by have:=HX6.out.lt;omega)));have HR7:=Aside0.mk (Kd.R_below HR6.out hb7);have hO7:=blk_below HO6.out hb7;obtain ⟨x70,x71,x72,x73,x74,x75,x76⟩:=HX7.out.cells;have y70:=cell_of_row _ w3.heap.size 0 _ 30 (0,0) hO7;clear hO7 hb7)))
 refine bodyPost_ret (results_ct rfl _ _ (w.heap.size + 2) 30 #[.slice none 0 0] (0,0) _ rfl (by (with_reducible repeat (first | refine blk_drewN ?_ _ | refine blk_drew ?_));exact blk_put HX7.out.r 0 _ rfl) Try.underlying30 rfl (by kernel_rfl)) rfl ?_
 exact done_nil HX7.out HB7.out (Nat.le_refl _) 0
set_option maxHeartbeats 4000000 in
set_option maxRecDepth 100000 in
theorem doAct_addn_true (k : Nat) (A : Option Addr) (c : Nat) (l : List S45) (a1 a2 a3 : ByteArray) (i : Int) (l' : List S45) (w : World) (hC : Kd.C k45 w A l.length l) (hc : l.length ≤ c) (hd : impl_DiskOk.f k l = some true) (hi : idxFrom (fun x : S45 => decide (x.f0.toList = a1.toList)) l 0 = i) (hlen : l.length < 3518437208883) (hk : i < 0) (hsz : a2.size ≤ 9223372036854775807) (hl : putFileL l ⟨a1,(⟨#[]⟩ : ByteArray) ++ a2,0⟩ = l') (hd2 : impl_DiskOk.f k l' = some true) (ht : a3.toList = []) :
  Calls Try.prog 38 #[.agg #[.slice A l.length c],.agg #[.int .i64 1,.string a1,.string a2,.string a3]] w (Done w l' true):=by
 have hu30:=Try.underlying30
 have hu45:=Try.underlying45
 have hu55:=Try.underlying55
 have hX0:=bx_new w (.slice A l.length c) 1 a1 a2 a3
 have hB0:=below3 w (.slice A l.length c) 1 a1 a2 a3
 have hcall1:=impl_fileAt.calls A c l a1 i (World3 w (.slice A l.length c) 1 a1 a2 a3) (Kd.C_below hC hB0) hc (by unfold impl_fileAt.f;rw [hi])
 have hsz0 : (World3 w (.slice A l.length c) 1 a1 a2 a3).heap.size = w.heap.size + 3:=by simp [World3]
 unfold World3 at hcall1 hX0 hB0 hsz0
 have HC:=Aside0.mk hC
 have HCC:=Aside0.mk hc
 have HD:=Aside0.mk hd
 have HI:=Aside0.mk hi
 have HX0:=Aside0.mk hX0
 have HB0:=Aside0.mk hB0
 have HSZ:=Aside0.mk hsz0
 clear hC hc hd hi hX0 hB0 hsz0
 have hcp : impl_copyDisk.f l = some l:=by unfold impl_copyDisk.f;rw [if_pos (by simpa using hlen)];rfl
 have HCP:=Aside0.mk hcp
 clear hcp
 have HLEN:=Aside0.mk hlen
 clear hlen
 have HL:=Aside0.mk hl
 have HD2:=Aside0.mk hd2
 have tok1 : True:=trivial
 clear hl hd2
 have hk2 : ¬ (0 : Int) ≤ i:=by omega
 have hk3 : decide ((0 : Int) ≤ i) = false:=decide_eq_false hk2
 have htb : (a3.toList == ([] : List UInt8)) = true:=beq_iff_eq.mpr ht
 have htc : (a3.toList != ([] : List UInt8)) = false:=bne_eq_false_iff_eq.mpr ht
 clear ht
 go_enter Try.func38,Try.ntmps38
 go_wp2_with (first | (go_at_call 66;(refine hcall1.mono ?_;rintro e w1 ⟨rfl,hb1⟩;have HX1:=Aside0.mk (Bx.below HX0.out hb1);have HB1:=Aside0.mk (HB0.out.trans (hb1.mono (by rw [HSZ.out];omega)));obtain ⟨x10,x11,x12,x13,x14,x15,x16⟩:=HX1.out.cells;clear hb1)) | (go_at_call 27;(have _t:=tok1;refine (impl_DiskOk.calls k A c l _ w1 (Kd.C_below HC.out HB1.out) HCC.out HD.out).mono ?_;rintro e w2 ⟨rfl,hb2⟩;have HX2:=Aside0.mk (Bx.below HX1.out hb2);have HB2:=Aside0.mk (HB1.out.trans (hb2.mono (by have:=HX1.out.lt;omega)));obtain ⟨x20,x21,x22,x23,x24,x25,x26⟩:=HX2.out.cells;clear hb2 tok1 _t)) | (go_at_call 77;(refine (impl_copyDisk.calls A c l l w2 (Kd.C_below HC.out HB2.out) HCC.out HCP.out).mono ?_;rintro e w3 ⟨v0,rfl,hR3,hb3⟩;obtain ⟨A3,c3,rfl⟩:=Kd.R_slice hR3;have HX3:=Aside0.mk (Bx.below HX2.out hb3);have HB3:=Aside0.mk (HB2.out.trans (hb3.mono (by have:=HX2.out.lt;omega)));have HR3:=Aside0.mk (Kd.R_lower hR3 (by have:=HX2.out.lt;omega : w.heap.size ≤ w2.heap.size));obtain ⟨x30,x31,x32,x33,x34,x35,x36⟩:=HX3.out.cells;have hw3 : w.heap.size + 2 ≠ w3.heap.size:=(by have:=HX3.out.lt;omega);have HX4:=Aside0.mk (Bx.below HX3.out (below_alloc (Below.refl _ _) (.cells #[.slice A3 l.length c3] 30)));obtain ⟨x40,x41,x42,x43,x44,x45,x46⟩:=HX4.out.cells;have hO4:=heap_alloc_new w3 (.cells #[.slice A3 l.length c3] 30);have HO4:=Aside0.mk hO4;have y40:=cell_of_row _ w3.heap.size 0 _ 30 (0,0) hO4;have hq3 : ∀ q,(Value.slice A3 l.length c3).ownBlock = some q → w.heap.size + 3 ≤ q:=(fun q hq => Nat.le_trans HX2.out.lt (own_base (R_flat hR3) q hq));have HQ3:=Aside0.mk hq3;have HR4:=Aside0.mk (Kd.R_below HR3.out (below_alloc (Below.refl _ _) (.cells #[.slice A3 l.length c3] 30)));have HB4:=Aside0.mk (below_alloc HB3.out (.cells #[.slice A3 l.length c3] 30));obtain ⟨x7a0,x7a1,x7a2,x7a3,x7a4,x7a5,x7a6⟩:=(Bx.below HX4.out (below_alloc (Below.refl _ _) (.cells #[.string a1,.string ⟨#[]⟩,.int .i64 0] 45))).cells;clear hq3 hO4 hb3 hR3;have h60 : w.heap.size + 3 ≤ w3.heap.size:=HX3.out.lt;have HPUT:=put_call w.heap.size w3.heap.size _ (.slice A3 l.length c3) 1 a1 a2 a3 l l' ⟨a1,(⟨#[]⟩ : ByteArray) ++ a2,0⟩ w ((w3.alloc (.cells #[.slice A3 l.length c3] 30)).alloc (.cells #[.string a1,.string ((⟨#[]⟩ : ByteArray) ++ a2),.int .i64 0] 45)) (Bx.below HX4.out (below_alloc (Below.refl _ _) _)) (below_alloc HB4.out _) (blk_alloc HO4.out _) h60 (Kd.R_below HR4.out (below_alloc (Below.refl _ _) _)) HQ3.out (by have:=HLEN.out;omega) HL.out)) | (go_at_call 83;(refine HPUT.mono ?_;rintro e w6 ⟨rfl,A6,c6,hO6,hR6,hX6,hB6⟩;have HX6:=Aside0.mk hX6;have HO6:=Aside0.mk hO6;have HR6:=Aside0.mk hR6;have HB6:=Aside0.mk hB6;obtain ⟨x60,x61,x62,x63,x64,x65,x66⟩:=hX6.cells;have y60:=cell_of_row _ w3.heap.size 0 _ 30 (0,0) hO6;clear hX6 hR6 hB6 hO6)) | (go_at_call 27;(refine (impl_DiskOk.calls k A6 c6 l' _ _ (Kd.R_reads' HR6.out).2.2 (Kd.R_reads' HR6.out).2.1 HD2.out).mono ?_;rintro e w7 ⟨rfl,hb7⟩;have HX7:=Aside0.mk (Bx.below HX6.out hb7);have HB7:=Aside0.mk (HB6.out.trans (hb7.mono (by have:=HX6.out.lt;omega)));have HR7:=Aside0.mk (Kd.R_below HR6.out hb7);have hO7:=blk_below HO6.out hb7;obtain ⟨x70,x71,x72,x73,x74,x75,x76⟩:=HX7.out.cells;have y70:=cell_of_row _ w3.heap.size 0 _ 30 (0,0) hO7;clear hO7 hb7)))
 refine bodyPost_ret (results_ct rfl _ _ (w.heap.size + 2) 30 #[.slice A6 l'.length c6] (0,0) _ rfl (by (with_reducible repeat (first | refine blk_drewN ?_ _ | refine blk_drew ?_));exact blk_put HX7.out.r 0 _ rfl) Try.underlying30 rfl (by kernel_rfl)) rfl ?_
 exact done_row HX7.out HB7.out (Nat.le_refl _) HR7.out 0
set_option maxHeartbeats 4000000 in
set_option maxRecDepth 100000 in
theorem doAct_addn_false (k : Nat) (A : Option Addr) (c : Nat) (l : List S45) (a1 a2 a3 : ByteArray) (i : Int) (l' : List S45) (w : World) (hC : Kd.C k45 w A l.length l) (hc : l.length ≤ c) (hd : impl_DiskOk.f k l = some true) (hi : idxFrom (fun x : S45 => decide (x.f0.toList = a1.toList)) l 0 = i) (hlen : l.length < 3518437208883) (hk : i < 0) (hsz : a2.size ≤ 9223372036854775807) (hl : putFileL l ⟨a1,(⟨#[]⟩ : ByteArray) ++ a2,0⟩ = l') (hd2 : impl_DiskOk.f k l' = some false) (ht : a3.toList = []) :
  Calls Try.prog 38 #[.agg #[.slice A l.length c],.agg #[.int .i64 1,.string a1,.string a2,.string a3]] w (Done w [] false):=by
 have hu30:=Try.underlying30
 have hu45:=Try.underlying45
 have hu55:=Try.underlying55
 have hX0:=bx_new w (.slice A l.length c) 1 a1 a2 a3
 have hB0:=below3 w (.slice A l.length c) 1 a1 a2 a3
 have hcall1:=impl_fileAt.calls A c l a1 i (World3 w (.slice A l.length c) 1 a1 a2 a3) (Kd.C_below hC hB0) hc (by unfold impl_fileAt.f;rw [hi])
 have hsz0 : (World3 w (.slice A l.length c) 1 a1 a2 a3).heap.size = w.heap.size + 3:=by simp [World3]
 unfold World3 at hcall1 hX0 hB0 hsz0
 have HC:=Aside0.mk hC
 have HCC:=Aside0.mk hc
 have HD:=Aside0.mk hd
 have HI:=Aside0.mk hi
 have HX0:=Aside0.mk hX0
 have HB0:=Aside0.mk hB0
 have HSZ:=Aside0.mk hsz0
 clear hC hc hd hi hX0 hB0 hsz0
 have hcp : impl_copyDisk.f l = some l:=by unfold impl_copyDisk.f;rw [if_pos (by simpa using hlen)];rfl
 have HCP:=Aside0.mk hcp
 clear hcp
 have HLEN:=Aside0.mk hlen
 clear hlen
 have HL:=Aside0.mk hl
 have HD2:=Aside0.mk hd2
 have tok1 : True:=trivial
 clear hl hd2
 have hk2 : ¬ (0 : Int) ≤ i:=by omega
 have hk3 : decide ((0 : Int) ≤ i) = false:=decide_eq_false hk2
 have htb : (a3.toList == ([] : List UInt8)) = true:=beq_iff_eq.mpr ht
 have htc : (a3.toList != ([] : List UInt8)) = false:=bne_eq_false_iff_eq.mpr ht
 clear ht
 go_enter Try.func38,Try.ntmps38
 go_wp2_with (first | (go_at_call 66;(refine hcall1.mono ?_;rintro e w1 ⟨rfl,hb1⟩;have HX1:=Aside0.mk (Bx.below HX0.out hb1);have HB1:=Aside0.mk (HB0.out.trans (hb1.mono (by rw [HSZ.out];omega)));obtain ⟨x10,x11,x12,x13,x14,x15,x16⟩:=HX1.out.cells;clear hb1)) | (go_at_call 27;(have _t:=tok1;refine (impl_DiskOk.calls k A c l _ w1 (Kd.C_below HC.out HB1.out) HCC.out HD.out).mono ?_;rintro e w2 ⟨rfl,hb2⟩;have HX2:=Aside0.mk (Bx.below HX1.out hb2);have HB2:=Aside0.mk (HB1.out.trans (hb2.mono (by have:=HX1.out.lt;omega)));obtain ⟨x20,x21,x22,x23,x24,x25,x26⟩:=HX2.out.cells;clear hb2 tok1 _t)) | (go_at_call 77;(refine (impl_copyDisk.calls A c l l w2 (Kd.C_below HC.out HB2.out) HCC.out HCP.out).mono ?_;rintro e w3 ⟨v0,rfl,hR3,hb3⟩;obtain ⟨A3,c3,rfl⟩:=Kd.R_slice hR3;have HX3:=Aside0.mk (Bx.below HX2.out hb3);have HB3:=Aside0.mk (HB2.out.trans (hb3.mono (by have:=HX2.out.lt;omega)));have HR3:=Aside0.mk (Kd.R_lower hR3 (by have:=HX2.out.lt;omega : w.heap.size ≤ w2.heap.size));obtain ⟨x30,x31,x32,x33,x34,x35,x36⟩:=HX3.out.cells;have hw3 : w.heap.size + 2 ≠ w3.heap.size:=(by have:=HX3.out.lt;omega);have HX4:=Aside0.mk (Bx.below HX3.out (below_alloc (Below.refl _ _) (.cells #[.slice A3 l.length c3] 30)));obtain ⟨x40,x41,x42,x43,x44,x45,x46⟩:=HX4.out.cells;have hO4:=heap_alloc_new w3 (.cells #[.slice A3 l.length c3] 30);have HO4:=Aside0.mk hO4;have y40:=cell_of_row _ w3.heap.size 0 _ 30 (0,0) hO4;have hq3 : ∀ q,(Value.slice A3 l.length c3).ownBlock = some q → w.heap.size + 3 ≤ q:=(fun q hq => Nat.le_trans HX2.out.lt (own_base (R_flat hR3) q hq));have HQ3:=Aside0.mk hq3;have HR4:=Aside0.mk (Kd.R_below HR3.out (below_alloc (Below.refl _ _) (.cells #[.slice A3 l.length c3] 30)));have HB4:=Aside0.mk (below_alloc HB3.out (.cells #[.slice A3 l.length c3] 30));obtain ⟨x7a0,x7a1,x7a2,x7a3,x7a4,x7a5,x7a6⟩:=(Bx.below HX4.out (below_alloc (Below.refl _ _) (.cells #[.string a1,.string ⟨#[]⟩,.int .i64 0] 45))).cells;clear hq3 hO4 hb3 hR3;have h60 : w.heap.size + 3 ≤ w3.heap.size:=HX3.out.lt;have HPUT:=put_call w.heap.size w3.heap.size _ (.slice A3 l.length c3) 1 a1 a2 a3 l l' ⟨a1,(⟨#[]⟩ : ByteArray) ++ a2,0⟩ w ((w3.alloc (.cells #[.slice A3 l.length c3] 30)).alloc (.cells #[.string a1,.string ((⟨#[]⟩ : ByteArray) ++ a2),.int .i64 0] 45)) (Bx.below HX4.out (below_alloc (Below.refl _ _) _)) (below_alloc HB4.out _) (blk_alloc HO4.out _) h60 (Kd.R_below HR4.out (below_alloc (Below.refl _ _) _)) HQ3.out (by have:=HLEN.out;omega) HL.out)) | (go_at_call 83;(refine HPUT.mono ?_;rintro e w6 ⟨rfl,A6,c6,hO6,hR6,hX6,hB6⟩;have HX6:=Aside0.mk hX6;have HO6:=Aside0.mk hO6;have HR6:=Aside0.mk hR6;have HB6:=Aside0.mk hB6;obtain ⟨x60,x61,x62,x63,x64,x65,x66⟩:=hX6.cells;have y60:=cell_of_row _ w3.heap.size 0 _ 30 (0,0) hO6;clear hX6 hR6 hB6 hO6)) | (go_at_call 27;(refine (impl_DiskOk.calls k A6 c6 l' _ _ (Kd.R_reads' HR6.out).2.2 (Kd.R_reads' HR6.out).2.1 HD2.out).mono ?_;rintro e w7 ⟨rfl,hb7⟩;have HX7:=Aside0.mk (Bx.below HX6.out hb7);have HB7:=Aside0.mk (HB6.out.trans (hb7.mono (by have:=HX6.out.lt;omega)));have HR7:=Aside0.mk (Kd.R_below HR6.out hb7);have hO7:=blk_below HO6.out hb7;obtain ⟨x70,x71,x72,x73,x74,x75,x76⟩:=HX7.out.cells;have y70:=cell_of_row _ w3.heap.size 0 _ 30 (0,0) hO7;clear hO7 hb7)))
 refine bodyPost_ret (results_ct rfl _ _ (w.heap.size + 2) 30 #[.slice none 0 0] (0,0) _ rfl (by (with_reducible repeat (first | refine blk_drewN ?_ _ | refine blk_drew ?_));exact blk_put HX7.out.r 0 _ rfl) Try.underlying30 rfl (by kernel_rfl)) rfl ?_
 exact done_nil HX7.out HB7.out (Nat.le_refl _) 0
set_option maxHeartbeats 4000000 in
set_option maxRecDepth 100000 in
theorem doAct_same (k : Nat) (A : Option Addr) (c : Nat) (l : List S45) (a1 a2 a3 : ByteArray) (n : Nat) (w : World) (hC : Kd.C k45 w A l.length l) (hc : l.length ≤ c) (hd : impl_DiskOk.f k l = some true) (hi : idxFrom (fun x : S45 => decide (x.f0.toList = a1.toList)) l 0 = (n : Int)) (hlen : l.length < 3518437208883) (hn : n < l.length) (hx : a2.toList = []) (hne : a3.toList = a1.toList) :
  Calls Try.prog 38 #[.agg #[.slice A l.length c],.agg #[.int .i64 3,.string a1,.string a2,.string a3]] w (Done w [] false):=by
 have hu30:=Try.underlying30
 have hu45:=Try.underlying45
 have hu55:=Try.underlying55
 have hX0:=bx_new w (.slice A l.length c) 3 a1 a2 a3
 have hB0:=below3 w (.slice A l.length c) 3 a1 a2 a3
 have hcall1:=impl_fileAt.calls A c l a1 (n : Int) (World3 w (.slice A l.length c) 3 a1 a2 a3) (Kd.C_below hC hB0) hc (by unfold impl_fileAt.f;rw [hi])
 have hsz0 : (World3 w (.slice A l.length c) 3 a1 a2 a3).heap.size = w.heap.size + 3:=by simp [World3]
 unfold World3 at hcall1 hX0 hB0 hsz0
 have HC:=Aside0.mk hC
 have HCC:=Aside0.mk hc
 have HD:=Aside0.mk hd
 have HI:=Aside0.mk hi
 have HX0:=Aside0.mk hX0
 have HB0:=Aside0.mk hB0
 have HSZ:=Aside0.mk hsz0
 clear hC hc hd hi hX0 hB0 hsz0
 have hcp : impl_copyDisk.f l = some l:=by unfold impl_copyDisk.f;rw [if_pos (by simpa using hlen)];rfl
 have HCP:=Aside0.mk hcp
 clear hcp
 have HLEN:=Aside0.mk hlen
 clear hlen
 have hpos : 0 < l.length:=by omega
 have HPOS:=Aside0.mk hpos
 have HN:=Aside0.mk hn
 have hltz : (n : Int) < (l.length : Int):=by omega
 have hnn : (0 : Int) ≤ (n : Int):=by omega
 have hk3 : decide ((n : Int) < 0) = false:=decide_eq_false (by omega)
 have tok1 : True:=trivial
 clear hn hpos
 have hxb : (a2.toList == ([] : List UInt8)) = true:=beq_iff_eq.mpr hx
 have hxc : (a2.toList != ([] : List UInt8)) = false:=bne_eq_false_iff_eq.mpr hx
 clear hx
 have hneb : (a3.toList == a1.toList) = true:=beq_iff_eq.mpr hne
 have hnec : (a3.toList != a1.toList) = false:=bne_eq_false_iff_eq.mpr hne
 clear hne
 go_enter Try.func38,Try.ntmps38
 go_wp2_with (first | (go_at_call 66;(refine hcall1.mono ?_;rintro e w1 ⟨rfl,hb1⟩;have HX1:=Aside0.mk (Bx.below HX0.out hb1);have HB1:=Aside0.mk (HB0.out.trans (hb1.mono (by rw [HSZ.out];omega)));obtain ⟨x10,x11,x12,x13,x14,x15,x16⟩:=HX1.out.cells;clear hb1)) | (go_at_call 27;(have _t:=tok1;refine (impl_DiskOk.calls k A c l _ w1 (Kd.C_below HC.out HB1.out) HCC.out HD.out).mono ?_;rintro e w2 ⟨rfl,hb2⟩;have HX2:=Aside0.mk (Bx.below HX1.out hb2);have HB2:=Aside0.mk (HB1.out.trans (hb2.mono (by have:=HX1.out.lt;omega)));obtain ⟨x20,x21,x22,x23,x24,x25,x26⟩:=HX2.out.cells;clear hb2 tok1 _t)) | (go_at_call 77;(refine (impl_copyDisk.calls A c l l w2 (Kd.C_below HC.out HB2.out) HCC.out HCP.out).mono ?_;rintro e w3 ⟨v0,rfl,hR3,hb3⟩;obtain ⟨g3,c3,hv0,hg3b,hg3w,cells3,hg3⟩:=Kd.R_form hR3 HPOS.out;subst hv0;have hgo : w.heap.size + 3 ≤ g3:=(by have:=HX2.out.lt;omega);have HX3:=Aside0.mk (Bx.below HX2.out hb3);have HB3:=Aside0.mk (HB2.out.trans (hb3.mono (by have:=HX2.out.lt;omega)));have HR3:=Aside0.mk (Kd.R_lower hR3 (by have:=HX2.out.lt;omega : w.heap.size ≤ w2.heap.size));obtain ⟨x30,x31,x32,x33,x34,x35,x36⟩:=HX3.out.cells;have hw3 : w.heap.size + 2 ≠ w3.heap.size:=(by have:=HX3.out.lt;omega);have HX4:=Aside0.mk (Bx.below HX3.out (below_alloc (Below.refl _ _) (.cells #[.slice (some ⟨g3,0,none⟩) l.length c3] 30)));obtain ⟨x40,x41,x42,x43,x44,x45,x46⟩:=HX4.out.cells;have hO4:=heap_alloc_new w3 (.cells #[.slice (some ⟨g3,0,none⟩) l.length c3] 30);have HO4:=Aside0.mk hO4;have HR4:=Aside0.mk (Kd.R_below HR3.out (below_alloc (Below.refl _ _) (.cells #[.slice (some ⟨g3,0,none⟩) l.length c3] 30)));have HB4:=Aside0.mk (below_alloc HB3.out (.cells #[.slice (some ⟨g3,0,none⟩) l.length c3] 30));have HG3:=Aside0.mk hg3w;clear hg3 hg3b;have y40:=cell_of_row _ w3.heap.size 0 _ 30 (0,0) hO4;obtain ⟨ad,he,e0,e1,e2⟩:=at_T45 (Kd.C_below HC.out HB4.out) (n : Int) hnn hltz;cases he;rw [Int.toNat_natCast] at e0 e1 e2;have h60 : w.heap.size + 3 ≤ w3.heap.size:=HX3.out.lt;have HX5:=Aside0.mk (Bx.below HX4.out (below_alloc (Below.refl _ _) (.cells #[.string (rd_T45 l n).f0,.string (rd_T45 l n).f1,.int .i64 (rd_T45 l n).f2] 45)));obtain ⟨x50,x51,x52,x53,x54,x55,x56⟩:=HX5.out.cells;have HB5:=Aside0.mk (below_alloc HB4.out (.cells #[.string (rd_T45 l n).f0,.string (rd_T45 l n).f1,.int .i64 (rd_T45 l n).f2] 45));have HR5:=Aside0.mk (Kd.R_below HR4.out (below_alloc (Below.refl _ _) (.cells #[.string (rd_T45 l n).f0,.string (rd_T45 l n).f1,.int .i64 (rd_T45 l n).f2] 45)));have hO5:=blk_alloc HO4.out (.cells #[.string (rd_T45 l n).f0,.string (rd_T45 l n).f1,.int .i64 (rd_T45 l n).f2] 45);have HO5:=Aside0.mk hO5;have y50:=cell_of_row _ w3.heap.size 0 _ 30 (0,0) hO5;have hF5 : ((w3.alloc (.cells #[.slice (some ⟨g3,0,none⟩) l.length c3] 30)).alloc (.cells #[.string (rd_T45 l n).f0,.string (rd_T45 l n).f1,.int .i64 (rd_T45 l n).f2] 45)).heap[w3.heap.size + 1]? = some (.cells #[.string (rd_T45 l n).f0,.string (rd_T45 l n).f1,.int .i64 (rd_T45 l n).f2] 45):=(by have:=heap_alloc_new (w3.alloc (.cells #[.slice (some ⟨g3,0,none⟩) l.length c3] 30)) (.cells #[.string (rd_T45 l n).f0,.string (rd_T45 l n).f1,.int .i64 (rd_T45 l n).f2] 45);rwa [show (w3.alloc (.cells #[.slice (some ⟨g3,0,none⟩) l.length c3] 30)).heap.size = w3.heap.size + 1 from by simp] at this);have HF5:=Aside0.mk hF5;clear hO4 hb3 hR3 hO5 hF5)))
 refine bodyPost_ret (results_ct rfl _ _ (w.heap.size + 2) 30 #[.slice none 0 0] (0,0) _ rfl (by (with_reducible repeat (first | refine blk_drewN ?_ _ | refine blk_drew ?_));exact blk_put HX5.out.r 0 _ rfl) Try.underlying30 rfl (by kernel_rfl)) rfl ?_
 exact done_nil HX5.out HB5.out (Nat.le_refl _) 0
set_option maxHeartbeats 4000000 in
set_option maxRecDepth 100000 in
theorem doAct_unkept (k : Nat) (A : Option Addr) (c : Nat) (l : List S45) (a1 a2 a3 : ByteArray) (n : Nat) (w : World) (hC : Kd.C k45 w A l.length l) (hc : l.length ≤ c) (hd : impl_DiskOk.f k l = some true) (hi : idxFrom (fun x : S45 => decide (x.f0.toList = a1.toList)) l 0 = (n : Int)) (hlen : l.length < 3518437208883) (hn : n < l.length) (hx : a2.toList = []) (hne : a3.toList ≠ a1.toList) (hk : (rd_T45 l n).f2 ≠ ((rd_T45 l n).f1.size : Int)) :
  Calls Try.prog 38 #[.agg #[.slice A l.length c],.agg #[.int .i64 3,.string a1,.string a2,.string a3]] w (Done w [] false):=by
 have hu30:=Try.underlying30
 have hu45:=Try.underlying45
 have hu55:=Try.underlying55
 have hX0:=bx_new w (.slice A l.length c) 3 a1 a2 a3
 have hB0:=below3 w (.slice A l.length c) 3 a1 a2 a3
 have hcall1:=impl_fileAt.calls A c l a1 (n : Int) (World3 w (.slice A l.length c) 3 a1 a2 a3) (Kd.C_below hC hB0) hc (by unfold impl_fileAt.f;rw [hi])
 have hsz0 : (World3 w (.slice A l.length c) 3 a1 a2 a3).heap.size = w.heap.size + 3:=by simp [World3]
 unfold World3 at hcall1 hX0 hB0 hsz0
 have HC:=Aside0.mk hC
 have HCC:=Aside0.mk hc
 have HD:=Aside0.mk hd
 have HI:=Aside0.mk hi
 have HX0:=Aside0.mk hX0
 have HB0:=Aside0.mk hB0
 have HSZ:=Aside0.mk hsz0
 clear hC hc hd hi hX0 hB0 hsz0
 have hcp : impl_copyDisk.f l = some l:=by unfold impl_copyDisk.f;rw [if_pos (by simpa using hlen)];rfl
 have HCP:=Aside0.mk hcp
 clear hcp
 have HLEN:=Aside0.mk hlen
 clear hlen
 have hpos : 0 < l.length:=by omega
 have HPOS:=Aside0.mk hpos
 have HN:=Aside0.mk hn
 have hltz : (n : Int) < (l.length : Int):=by omega
 have hnn : (0 : Int) ≤ (n : Int):=by omega
 have hk3 : decide ((n : Int) < 0) = false:=decide_eq_false (by omega)
 have tok1 : True:=trivial
 clear hn hpos
 have hxb : (a2.toList == ([] : List UInt8)) = true:=beq_iff_eq.mpr hx
 have hxc : (a2.toList != ([] : List UInt8)) = false:=bne_eq_false_iff_eq.mpr hx
 clear hx
 have hneb : (a3.toList == a1.toList) = false:=beq_eq_false_iff_ne.mpr hne
 have hnec : (a3.toList != a1.toList) = true:=bne_iff_ne.mpr hne
 clear hne
 have hkb : ((rd_T45 l n).f2 != ((rd_T45 l n).f1.size : Int)) = true:=bne_iff_ne.mpr hk
 have hkc : ((rd_T45 l n).f2 == ((rd_T45 l n).f1.size : Int)) = false:=beq_eq_false_iff_ne.mpr hk
 clear hk
 go_enter Try.func38,Try.ntmps38
 go_wp2_with (first | (go_at_call 66;(refine hcall1.mono ?_;rintro e w1 ⟨rfl,hb1⟩;have HX1:=Aside0.mk (Bx.below HX0.out hb1);have HB1:=Aside0.mk (HB0.out.trans (hb1.mono (by rw [HSZ.out];omega)));obtain ⟨x10,x11,x12,x13,x14,x15,x16⟩:=HX1.out.cells;clear hb1)) | (go_at_call 27;(have _t:=tok1;refine (impl_DiskOk.calls k A c l _ w1 (Kd.C_below HC.out HB1.out) HCC.out HD.out).mono ?_;rintro e w2 ⟨rfl,hb2⟩;have HX2:=Aside0.mk (Bx.below HX1.out hb2);have HB2:=Aside0.mk (HB1.out.trans (hb2.mono (by have:=HX1.out.lt;omega)));obtain ⟨x20,x21,x22,x23,x24,x25,x26⟩:=HX2.out.cells;clear hb2 tok1 _t)) | (go_at_call 77;(refine (impl_copyDisk.calls A c l l w2 (Kd.C_below HC.out HB2.out) HCC.out HCP.out).mono ?_;rintro e w3 ⟨v0,rfl,hR3,hb3⟩;obtain ⟨g3,c3,hv0,hg3b,hg3w,cells3,hg3⟩:=Kd.R_form hR3 HPOS.out;subst hv0;have hgo : w.heap.size + 3 ≤ g3:=(by have:=HX2.out.lt;omega);have HX3:=Aside0.mk (Bx.below HX2.out hb3);have HB3:=Aside0.mk (HB2.out.trans (hb3.mono (by have:=HX2.out.lt;omega)));have HR3:=Aside0.mk (Kd.R_lower hR3 (by have:=HX2.out.lt;omega : w.heap.size ≤ w2.heap.size));obtain ⟨x30,x31,x32,x33,x34,x35,x36⟩:=HX3.out.cells;have hw3 : w.heap.size + 2 ≠ w3.heap.size:=(by have:=HX3.out.lt;omega);have HX4:=Aside0.mk (Bx.below HX3.out (below_alloc (Below.refl _ _) (.cells #[.slice (some ⟨g3,0,none⟩) l.length c3] 30)));obtain ⟨x40,x41,x42,x43,x44,x45,x46⟩:=HX4.out.cells;have hO4:=heap_alloc_new w3 (.cells #[.slice (some ⟨g3,0,none⟩) l.length c3] 30);have HO4:=Aside0.mk hO4;have HR4:=Aside0.mk (Kd.R_below HR3.out (below_alloc (Below.refl _ _) (.cells #[.slice (some ⟨g3,0,none⟩) l.length c3] 30)));have HB4:=Aside0.mk (below_alloc HB3.out (.cells #[.slice (some ⟨g3,0,none⟩) l.length c3] 30));have HG3:=Aside0.mk hg3w;clear hg3 hg3b;have y40:=cell_of_row _ w3.heap.size 0 _ 30 (0,0) hO4;obtain ⟨ad,he,e0,e1,e2⟩:=at_T45 (Kd.C_below HC.out HB4.out) (n : Int) hnn hltz;cases he;rw [Int.toNat_natCast] at e0 e1 e2;have h60 : w.heap.size + 3 ≤ w3.heap.size:=HX3.out.lt;have HX5:=Aside0.mk (Bx.below HX4.out (below_alloc (Below.refl _ _) (.cells #[.string (rd_T45 l n).f0,.string (rd_T45 l n).f1,.int .i64 (rd_T45 l n).f2] 45)));obtain ⟨x50,x51,x52,x53,x54,x55,x56⟩:=HX5.out.cells;have HB5:=Aside0.mk (below_alloc HB4.out (.cells #[.string (rd_T45 l n).f0,.string (rd_T45 l n).f1,.int .i64 (rd_T45 l n).f2] 45));have HR5:=Aside0.mk (Kd.R_below HR4.out (below_alloc (Below.refl _ _) (.cells #[.string (rd_T45 l n).f0,.string (rd_T45 l n).f1,.int .i64 (rd_T45 l n).f2] 45)));have hO5:=blk_alloc HO4.out (.cells #[.string (rd_T45 l n).f0,.string (rd_T45 l n).f1,.int .i64 (rd_T45 l n).f2] 45);have HO5:=Aside0.mk hO5;have y50:=cell_of_row _ w3.heap.size 0 _ 30 (0,0) hO5;have hF5 : ((w3.alloc (.cells #[.slice (some ⟨g3,0,none⟩) l.length c3] 30)).alloc (.cells #[.string (rd_T45 l n).f0,.string (rd_T45 l n).f1,.int .i64 (rd_T45 l n).f2] 45)).heap[w3.heap.size + 1]? = some (.cells #[.string (rd_T45 l n).f0,.string (rd_T45 l n).f1,.int .i64 (rd_T45 l n).f2] 45):=(by have:=heap_alloc_new (w3.alloc (.cells #[.slice (some ⟨g3,0,none⟩) l.length c3] 30)) (.cells #[.string (rd_T45 l n).f0,.string (rd_T45 l n).f1,.int .i64 (rd_T45 l n).f2] 45);rwa [show (w3.alloc (.cells #[.slice (some ⟨g3,0,none⟩) l.length c3] 30)).heap.size = w3.heap.size + 1 from by simp] at this);have HF5:=Aside0.mk hF5;clear hO4 hb3 hR3 hO5 hF5)))
 refine bodyPost_ret (results_ct rfl _ _ (w.heap.size + 2) 30 #[.slice none 0 0] (0,0) _ rfl (by (with_reducible repeat (first | refine blk_drewN ?_ _ | refine blk_drew ?_));exact blk_put HX5.out.r 0 _ rfl) Try.underlying30 rfl (by kernel_rfl)) rfl ?_
 exact done_nil HX5.out HB5.out (Nat.le_refl _) 0
set_option maxHeartbeats 4000000 in
set_option maxRecDepth 100000 in
theorem doAct_move_true (k : Nat) (A : Option Addr) (c : Nat) (l : List S45) (a1 a2 a3 : ByteArray) (n : Nat) (w : World) (hC : Kd.C k45 w A l.length l) (hc : l.length ≤ c) (hd : impl_DiskOk.f k l = some true) (hi : idxFrom (fun x : S45 => decide (x.f0.toList = a1.toList)) l 0 = (n : Int)) (hlen : l.length < 3518437208883) (hn : n < l.length) (hx : a2.toList = []) (hne : a3.toList ≠ a1.toList) (hk : (rd_T45 l n).f2 = ((rd_T45 l n).f1.size : Int)) (l1 l' : List S45) (hl1 : l.eraseIdx n = l1) (hl : putFileL l1 ⟨a3,(rd_T45 l n).f1,(rd_T45 l n).f2⟩ = l') (hd2 : impl_DiskOk.f k l' = some true) :
  Calls Try.prog 38 #[.agg #[.slice A l.length c],.agg #[.int .i64 3,.string a1,.string a2,.string a3]] w (Done w l' true):=by
 have hu30:=Try.underlying30
 have hu45:=Try.underlying45
 have hu55:=Try.underlying55
 have hX0:=bx_new w (.slice A l.length c) 3 a1 a2 a3
 have hB0:=below3 w (.slice A l.length c) 3 a1 a2 a3
 have hcall1:=impl_fileAt.calls A c l a1 (n : Int) (World3 w (.slice A l.length c) 3 a1 a2 a3) (Kd.C_below hC hB0) hc (by unfold impl_fileAt.f;rw [hi])
 have hsz0 : (World3 w (.slice A l.length c) 3 a1 a2 a3).heap.size = w.heap.size + 3:=by simp [World3]
 unfold World3 at hcall1 hX0 hB0 hsz0
 have HC:=Aside0.mk hC
 have HCC:=Aside0.mk hc
 have HD:=Aside0.mk hd
 have HI:=Aside0.mk hi
 have HX0:=Aside0.mk hX0
 have HB0:=Aside0.mk hB0
 have HSZ:=Aside0.mk hsz0
 clear hC hc hd hi hX0 hB0 hsz0
 have hcp : impl_copyDisk.f l = some l:=by unfold impl_copyDisk.f;rw [if_pos (by simpa using hlen)];rfl
 have HCP:=Aside0.mk hcp
 clear hcp
 have HLEN:=Aside0.mk hlen
 clear hlen
 have hle1 : l1.length ≤ l.length:=by rw [← hl1,List.length_eraseIdx];split <;> omega
 have HLE1:=Aside0.mk hle1
 have HL1:=Aside0.mk hl1
 have HL:=Aside0.mk hl
 have HD2:=Aside0.mk hd2
 have hw1 : IntKind.i64.wrap ((n : Int) + 1) = (n : Int) + 1:=by rw [IntKind.wrap_i64];have:=HLEN.out;omega
 clear hl1 hl hd2 hle1
 have hpos : 0 < l.length:=by omega
 have HPOS:=Aside0.mk hpos
 have HN:=Aside0.mk hn
 have hltz : (n : Int) < (l.length : Int):=by omega
 have hnn : (0 : Int) ≤ (n : Int):=by omega
 have hk3 : decide ((n : Int) < 0) = false:=decide_eq_false (by omega)
 have tok1 : True:=trivial
 clear hn hpos
 have hxb : (a2.toList == ([] : List UInt8)) = true:=beq_iff_eq.mpr hx
 have hxc : (a2.toList != ([] : List UInt8)) = false:=bne_eq_false_iff_eq.mpr hx
 clear hx
 have hneb : (a3.toList == a1.toList) = false:=beq_eq_false_iff_ne.mpr hne
 have hnec : (a3.toList != a1.toList) = true:=bne_iff_ne.mpr hne
 clear hne
 have hkb : ((rd_T45 l n).f2 != ((rd_T45 l n).f1.size : Int)) = false:=bne_eq_false_iff_eq.mpr hk
 have hkc : ((rd_T45 l n).f2 == ((rd_T45 l n).f1.size : Int)) = true:=beq_iff_eq.mpr hk
 clear hk
 go_enter Try.func38,Try.ntmps38
 go_wp2_with (first | (go_at_call 66;(refine hcall1.mono ?_;rintro e w1 ⟨rfl,hb1⟩;have HX1:=Aside0.mk (Bx.below HX0.out hb1);have HB1:=Aside0.mk (HB0.out.trans (hb1.mono (by rw [HSZ.out];omega)));obtain ⟨x10,x11,x12,x13,x14,x15,x16⟩:=HX1.out.cells;clear hb1)) | (go_at_call 27;(have _t:=tok1;refine (impl_DiskOk.calls k A c l _ w1 (Kd.C_below HC.out HB1.out) HCC.out HD.out).mono ?_;rintro e w2 ⟨rfl,hb2⟩;have HX2:=Aside0.mk (Bx.below HX1.out hb2);have HB2:=Aside0.mk (HB1.out.trans (hb2.mono (by have:=HX1.out.lt;omega)));obtain ⟨x20,x21,x22,x23,x24,x25,x26⟩:=HX2.out.cells;clear hb2 tok1 _t)) | (go_at_call 77;(refine (impl_copyDisk.calls A c l l w2 (Kd.C_below HC.out HB2.out) HCC.out HCP.out).mono ?_;rintro e w3 ⟨v0,rfl,hR3,hb3⟩;obtain ⟨g3,c3,hv0,hg3b,hg3w,cells3,hg3⟩:=Kd.R_form hR3 HPOS.out;subst hv0;have hgo : w.heap.size + 3 ≤ g3:=(by have:=HX2.out.lt;omega);have HX3:=Aside0.mk (Bx.below HX2.out hb3);have HB3:=Aside0.mk (HB2.out.trans (hb3.mono (by have:=HX2.out.lt;omega)));have HR3:=Aside0.mk (Kd.R_lower hR3 (by have:=HX2.out.lt;omega : w.heap.size ≤ w2.heap.size));obtain ⟨x30,x31,x32,x33,x34,x35,x36⟩:=HX3.out.cells;have hw3 : w.heap.size + 2 ≠ w3.heap.size:=(by have:=HX3.out.lt;omega);have HX4:=Aside0.mk (Bx.below HX3.out (below_alloc (Below.refl _ _) (.cells #[.slice (some ⟨g3,0,none⟩) l.length c3] 30)));obtain ⟨x40,x41,x42,x43,x44,x45,x46⟩:=HX4.out.cells;have hO4:=heap_alloc_new w3 (.cells #[.slice (some ⟨g3,0,none⟩) l.length c3] 30);have HO4:=Aside0.mk hO4;have HR4:=Aside0.mk (Kd.R_below HR3.out (below_alloc (Below.refl _ _) (.cells #[.slice (some ⟨g3,0,none⟩) l.length c3] 30)));have HB4:=Aside0.mk (below_alloc HB3.out (.cells #[.slice (some ⟨g3,0,none⟩) l.length c3] 30));have HG3:=Aside0.mk hg3w;clear hg3 hg3b;have y40:=cell_of_row _ w3.heap.size 0 _ 30 (0,0) hO4;obtain ⟨ad,he,e0,e1,e2⟩:=at_T45 (Kd.C_below HC.out HB4.out) (n : Int) hnn hltz;cases he;rw [Int.toNat_natCast] at e0 e1 e2;have h60 : w.heap.size + 3 ≤ w3.heap.size:=HX3.out.lt;have HX5:=Aside0.mk (Bx.below HX4.out (below_alloc (Below.refl _ _) (.cells #[.string (rd_T45 l n).f0,.string (rd_T45 l n).f1,.int .i64 (rd_T45 l n).f2] 45)));obtain ⟨x50,x51,x52,x53,x54,x55,x56⟩:=HX5.out.cells;have HB5:=Aside0.mk (below_alloc HB4.out (.cells #[.string (rd_T45 l n).f0,.string (rd_T45 l n).f1,.int .i64 (rd_T45 l n).f2] 45));have HR5:=Aside0.mk (Kd.R_below HR4.out (below_alloc (Below.refl _ _) (.cells #[.string (rd_T45 l n).f0,.string (rd_T45 l n).f1,.int .i64 (rd_T45 l n).f2] 45)));have hO5:=blk_alloc HO4.out (.cells #[.string (rd_T45 l n).f0,.string (rd_T45 l n).f1,.int .i64 (rd_T45 l n).f2] 45);have HO5:=Aside0.mk hO5;have y50:=cell_of_row _ w3.heap.size 0 _ 30 (0,0) hO5;have hF5 : ((w3.alloc (.cells #[.slice (some ⟨g3,0,none⟩) l.length c3] 30)).alloc (.cells #[.string (rd_T45 l n).f0,.string (rd_T45 l n).f1,.int .i64 (rd_T45 l n).f2] 45)).heap[w3.heap.size + 1]? = some (.cells #[.string (rd_T45 l n).f0,.string (rd_T45 l n).f1,.int .i64 (rd_T45 l n).f2] 45):=(by have:=heap_alloc_new (w3.alloc (.cells #[.slice (some ⟨g3,0,none⟩) l.length c3] 30)) (.cells #[.string (rd_T45 l n).f0,.string (rd_T45 l n).f1,.int .i64 (rd_T45 l n).f2] 45);rwa [show (w3.alloc (.cells #[.slice (some ⟨g3,0,none⟩) l.length c3] 30)).heap.size = w3.heap.size + 1 from by simp] at this);have HF5:=Aside0.mk hF5;clear hO4 hb3 hR3 hO5 hF5)) | (go_at_call 84;(refine (del_call w.heap.size g3 c3 n l l1 _ HN.out HL1.out HR5.out).mono ?_;rintro e w6 ⟨rfl,hR6,hg6⟩;have HX6:=Aside0.mk (Bx.step HX5.out (fun q hq => hg6.block q (by have:=HX5.out.lt;omega) (by rintro hh;injection hh with hh;omega)));have hO6:=(hg6.block w3.heap.size (by simp;omega) (by rintro hh;injection hh with hh;have:=HG3.out;omega)).trans HO5.out;have hF6:=(hg6.block (w3.heap.size + 1) (by simp) (by rintro hh;injection hh with hh;have:=HG3.out;omega)).trans HF5.out;have HB6:=Aside0.mk (HB5.out.grown hg6 (by have:=HX3.out.lt;simp;omega) (by rintro q hq;injection hq with hq;omega));obtain ⟨x60,x61,x62,x63,x64,x65,x66⟩:=HX6.out.cells;have y60:=cell_of_row _ w3.heap.size 0 _ 30 (0,0) hO6;have y61 : w6.frozen? ⟨w3.heap.size,0,none⟩ = false:=(by simp [World.frozen?,hO6]);have HXS1:=Bx.step HX6.out (W1:=w6.setCell ⟨w3.heap.size,0,none⟩ (.slice (some ⟨g3,0,none⟩) l1.length c3)) (fun q hq => Below.heap_setCell _ _ _ _ (by show q ≠ w3.heap.size;omega));have hOS1:=blk_put hO6 0 (.slice (some ⟨g3,0,none⟩) l1.length c3) rfl;have HRS1:=Kd.R_set hR6 hO6 (by decide) 0 (.slice (some ⟨g3,0,none⟩) l1.length c3);have HBS1:=HB6.out.setCell (p:=⟨w3.heap.size,0,none⟩) (by show w.heap.size ≤ w3.heap.size;omega) (.slice (some ⟨g3,0,none⟩) l1.length c3);have hFS1:=blk_far hF6 (p:=⟨w3.heap.size,0,none⟩) (by show w3.heap.size + 1 ≠ w3.heap.size;omega) (.slice (some ⟨g3,0,none⟩) l1.length c3);obtain ⟨xa0,xa1,xa2,xa3,xa4,xa5,xa6⟩:=HXS1.cells;have z10:=cell_of_row _ (w3.heap.size + 1) 0 _ 45 (0,0) hFS1;have z13 : (w6.setCell ⟨w3.heap.size,0,none⟩ (.slice (some ⟨g3,0,none⟩) l1.length c3)).frozen? ⟨w3.heap.size + 1,0,none⟩ = false:=blk_frozen hFS1 0;have HXS2:=Bx.step HXS1 (W1:=(w6.setCell ⟨w3.heap.size,0,none⟩ (.slice (some ⟨g3,0,none⟩) l1.length c3)).setCell ⟨w3.heap.size + 1,0,none⟩ (.string a3)) (fun q hq => Below.heap_setCell _ _ _ _ (by show q ≠ w3.heap.size + 1;omega));have hOS2:=blk_far hOS1 (p:=⟨w3.heap.size + 1,0,none⟩) (by show w3.heap.size ≠ w3.heap.size + 1;omega) (.string a3);have hFS2:=blk_put hFS1 0 (.string a3) rfl;have hgF : ∀ q,(Value.slice (some ⟨g3,0,none⟩) l1.length c3).ownBlock = some q → q ≠ w3.heap.size + 1:=(by intro q hq;simp [Value.ownBlock] at hq;have:=HG3.out;omega);have HRS2:=Kd.R_mono (Kd.R_far (p:=⟨w3.heap.size + 1,0,none⟩) (flat_R (ok:=fun q => q ≠ w3.heap.size + 1) (R_flat HRS1) hgF) (fun _ hk => hk) (.string a3)) (fun _ _ => trivial);have HBS2:=HBS1.setCell (p:=⟨w3.heap.size + 1,0,none⟩) (by show w.heap.size ≤ w3.heap.size + 1;omega) (.string a3);obtain ⟨xb0,xb1,xb2,xb3,xb4,xb5,xb6⟩:=HXS2.cells;have zb0:=cell_of_row _ (w3.heap.size + 1) 0 _ 45 (0,0) hFS2;have zb1:=cell_of_row _ (w3.heap.size + 1) 1 _ 45 (0,0) hFS2;have zb2:=cell_of_row _ (w3.heap.size + 1) 2 _ 45 (0,0) hFS2;have HPUT:=put_call w.heap.size w3.heap.size _ (.slice (some ⟨g3,0,none⟩) l1.length c3) 3 a1 a2 a3 l1 l' ⟨a3,(rd_T45 l n).f1,(rd_T45 l n).f2⟩ w _ HXS2 HBS2 hOS2 h60 HRS2 (by intro q hq;simp [Value.ownBlock] at hq;omega) (by have:=HLEN.out;have:=HLE1.out;omega) HL.out;clear HXS1 hOS1 HRS1 HBS1 hFS1 HXS2 hOS2 HRS2 HBS2 hFS2 hgF; clear hO6 hR6 hg6 hF6)) | (go_at_call 83;(refine HPUT.mono ?_;rintro e w8 ⟨rfl,A6,c6,hO6,hR6,hX6,hB6⟩;have HX6:=Aside0.mk hX6;have HO6:=Aside0.mk hO6;have HR6:=Aside0.mk hR6;have HB6:=Aside0.mk hB6;obtain ⟨x60,x61,x62,x63,x64,x65,x66⟩:=hX6.cells;have y60:=cell_of_row _ w3.heap.size 0 _ 30 (0,0) hO6;clear hX6 hR6 hB6 hO6)) | (go_at_call 27;(refine (impl_DiskOk.calls k A6 c6 l' _ _ (Kd.R_reads' HR6.out).2.2 (Kd.R_reads' HR6.out).2.1 HD2.out).mono ?_;rintro e w7 ⟨rfl,hb7⟩;have HX7:=Aside0.mk (Bx.below HX6.out hb7);have HB7:=Aside0.mk (HB6.out.trans (hb7.mono (by have:=HX6.out.lt;omega)));have HR7:=Aside0.mk (Kd.R_below HR6.out hb7);have hO7:=blk_below HO6.out hb7;obtain ⟨x70,x71,x72,x73,x74,x75,x76⟩:=HX7.out.cells;have y70:=cell_of_row _ w3.heap.size 0 _ 30 (0,0) hO7;clear hO7 hb7)))
 refine bodyPost_ret (results_ct rfl _ _ (w.heap.size + 2) 30 #[.slice A6 l'.length c6] (0,0) _ rfl (by (with_reducible repeat (first | refine blk_drewN ?_ _ | refine blk_drew ?_));exact blk_put HX7.out.r 0 _ rfl) Try.underlying30 rfl (by kernel_rfl)) rfl ?_
 exact done_row HX7.out HB7.out (Nat.le_refl _) HR7.out 0
set_option maxHeartbeats 4000000 in
set_option maxRecDepth 100000 in
theorem doAct_move_false (k : Nat) (A : Option Addr) (c : Nat) (l : List S45) (a1 a2 a3 : ByteArray) (n : Nat) (w : World) (hC : Kd.C k45 w A l.length l) (hc : l.length ≤ c) (hd : impl_DiskOk.f k l = some true) (hi : idxFrom (fun x : S45 => decide (x.f0.toList = a1.toList)) l 0 = (n : Int)) (hlen : l.length < 3518437208883) (hn : n < l.length) (hx : a2.toList = []) (hne : a3.toList ≠ a1.toList) (hk : (rd_T45 l n).f2 = ((rd_T45 l n).f1.size : Int)) (l1 l' : List S45) (hl1 : l.eraseIdx n = l1) (hl : putFileL l1 ⟨a3,(rd_T45 l n).f1,(rd_T45 l n).f2⟩ = l') (hd2 : impl_DiskOk.f k l' = some false) :
  Calls Try.prog 38 #[.agg #[.slice A l.length c],.agg #[.int .i64 3,.string a1,.string a2,.string a3]] w (Done w [] false):=by
 have hu30:=Try.underlying30
 have hu45:=Try.underlying45
 have hu55:=Try.underlying55
 have hX0:=bx_new w (.slice A l.length c) 3 a1 a2 a3
 have hB0:=below3 w (.slice A l.length c) 3 a1 a2 a3
 have hcall1:=impl_fileAt.calls A c l a1 (n : Int) (World3 w (.slice A l.length c) 3 a1 a2 a3) (Kd.C_below hC hB0) hc (by unfold impl_fileAt.f;rw [hi])
 have hsz0 : (World3 w (.slice A l.length c) 3 a1 a2 a3).heap.size = w.heap.size + 3:=by simp [World3]
 unfold World3 at hcall1 hX0 hB0 hsz0
 have HC:=Aside0.mk hC
 have HCC:=Aside0.mk hc
 have HD:=Aside0.mk hd
 have HI:=Aside0.mk hi
 have HX0:=Aside0.mk hX0
 have HB0:=Aside0.mk hB0
 have HSZ:=Aside0.mk hsz0
 clear hC hc hd hi hX0 hB0 hsz0
 have hcp : impl_copyDisk.f l = some l:=by unfold impl_copyDisk.f;rw [if_pos (by simpa using hlen)];rfl
 have HCP:=Aside0.mk hcp
 clear hcp
 have HLEN:=Aside0.mk hlen
 clear hlen
 have hle1 : l1.length ≤ l.length:=by rw [← hl1,List.length_eraseIdx];split <;> omega
 have HLE1:=Aside0.mk hle1
 have HL1:=Aside0.mk hl1
 have HL:=Aside0.mk hl
 have HD2:=Aside0.mk hd2
 have hw1 : IntKind.i64.wrap ((n : Int) + 1) = (n : Int) + 1:=by rw [IntKind.wrap_i64];have:=HLEN.out;omega
 clear hl1 hl hd2 hle1
 have hpos : 0 < l.length:=by omega
 have HPOS:=Aside0.mk hpos
 have HN:=Aside0.mk hn
 have hltz : (n : Int) < (l.length : Int):=by omega
 have hnn : (0 : Int) ≤ (n : Int):=by omega
 have hk3 : decide ((n : Int) < 0) = false:=decide_eq_false (by omega)
 have tok1 : True:=trivial
 clear hn hpos
 have hxb : (a2.toList == ([] : List UInt8)) = true:=beq_iff_eq.mpr hx
 have hxc : (a2.toList != ([] : List UInt8)) = false:=bne_eq_false_iff_eq.mpr hx
 clear hx
 have hneb : (a3.toList == a1.toList) = false:=beq_eq_false_iff_ne.mpr hne
 have hnec : (a3.toList != a1.toList) = true:=bne_iff_ne.mpr hne
 clear hne
 have hkb : ((rd_T45 l n).f2 != ((rd_T45 l n).f1.size : Int)) = false:=bne_eq_false_iff_eq.mpr hk
 have hkc : ((rd_T45 l n).f2 == ((rd_T45 l n).f1.size : Int)) = true:=beq_iff_eq.mpr hk
 clear hk
 go_enter Try.func38,Try.ntmps38
 go_wp2_with (first | (go_at_call 66;(refine hcall1.mono ?_;rintro e w1 ⟨rfl,hb1⟩;have HX1:=Aside0.mk (Bx.below HX0.out hb1);have HB1:=Aside0.mk (HB0.out.trans (hb1.mono (by rw [HSZ.out];omega)));obtain ⟨x10,x11,x12,x13,x14,x15,x16⟩:=HX1.out.cells;clear hb1)) | (go_at_call 27;(have _t:=tok1;refine (impl_DiskOk.calls k A c l _ w1 (Kd.C_below HC.out HB1.out) HCC.out HD.out).mono ?_;rintro e w2 ⟨rfl,hb2⟩;have HX2:=Aside0.mk (Bx.below HX1.out hb2);have HB2:=Aside0.mk (HB1.out.trans (hb2.mono (by have:=HX1.out.lt;omega)));obtain ⟨x20,x21,x22,x23,x24,x25,x26⟩:=HX2.out.cells;clear hb2 tok1 _t)) | (go_at_call 77;(refine (impl_copyDisk.calls A c l l w2 (Kd.C_below HC.out HB2.out) HCC.out HCP.out).mono ?_;rintro e w3 ⟨v0,rfl,hR3,hb3⟩;obtain ⟨g3,c3,hv0,hg3b,hg3w,cells3,hg3⟩:=Kd.R_form hR3 HPOS.out;subst hv0;have hgo : w.heap.size + 3 ≤ g3:=(by have:=HX2.out.lt;omega);have HX3:=Aside0.mk (Bx.below HX2.out hb3);have HB3:=Aside0.mk (HB2.out.trans (hb3.mono (by have:=HX2.out.lt;omega)));have HR3:=Aside0.mk (Kd.R_lower hR3 (by have:=HX2.out.lt;omega : w.heap.size ≤ w2.heap.size));obtain ⟨x30,x31,x32,x33,x34,x35,x36⟩:=HX3.out.cells;have hw3 : w.heap.size + 2 ≠ w3.heap.size:=(by have:=HX3.out.lt;omega);have HX4:=Aside0.mk (Bx.below HX3.out (below_alloc (Below.refl _ _) (.cells #[.slice (some ⟨g3,0,none⟩) l.length c3] 30)));obtain ⟨x40,x41,x42,x43,x44,x45,x46⟩:=HX4.out.cells;have hO4:=heap_alloc_new w3 (.cells #[.slice (some ⟨g3,0,none⟩) l.length c3] 30);have HO4:=Aside0.mk hO4;have HR4:=Aside0.mk (Kd.R_below HR3.out (below_alloc (Below.refl _ _) (.cells #[.slice (some ⟨g3,0,none⟩) l.length c3] 30)));have HB4:=Aside0.mk (below_alloc HB3.out (.cells #[.slice (some ⟨g3,0,none⟩) l.length c3] 30));have HG3:=Aside0.mk hg3w;clear hg3 hg3b;have y40:=cell_of_row _ w3.heap.size 0 _ 30 (0,0) hO4;obtain ⟨ad,he,e0,e1,e2⟩:=at_T45 (Kd.C_below HC.out HB4.out) (n : Int) hnn hltz;cases he;rw [Int.toNat_natCast] at e0 e1 e2;have h60 : w.heap.size + 3 ≤ w3.heap.size:=HX3.out.lt;have HX5:=Aside0.mk (Bx.below HX4.out (below_alloc (Below.refl _ _) (.cells #[.string (rd_T45 l n).f0,.string (rd_T45 l n).f1,.int .i64 (rd_T45 l n).f2] 45)));obtain ⟨x50,x51,x52,x53,x54,x55,x56⟩:=HX5.out.cells;have HB5:=Aside0.mk (below_alloc HB4.out (.cells #[.string (rd_T45 l n).f0,.string (rd_T45 l n).f1,.int .i64 (rd_T45 l n).f2] 45));have HR5:=Aside0.mk (Kd.R_below HR4.out (below_alloc (Below.refl _ _) (.cells #[.string (rd_T45 l n).f0,.string (rd_T45 l n).f1,.int .i64 (rd_T45 l n).f2] 45)));have hO5:=blk_alloc HO4.out (.cells #[.string (rd_T45 l n).f0,.string (rd_T45 l n).f1,.int .i64 (rd_T45 l n).f2] 45);have HO5:=Aside0.mk hO5;have y50:=cell_of_row _ w3.heap.size 0 _ 30 (0,0) hO5;have hF5 : ((w3.alloc (.cells #[.slice (some ⟨g3,0,none⟩) l.length c3] 30)).alloc (.cells #[.string (rd_T45 l n).f0,.string (rd_T45 l n).f1,.int .i64 (rd_T45 l n).f2] 45)).heap[w3.heap.size + 1]? = some (.cells #[.string (rd_T45 l n).f0,.string (rd_T45 l n).f1,.int .i64 (rd_T45 l n).f2] 45):=(by have:=heap_alloc_new (w3.alloc (.cells #[.slice (some ⟨g3,0,none⟩) l.length c3] 30)) (.cells #[.string (rd_T45 l n).f0,.string (rd_T45 l n).f1,.int .i64 (rd_T45 l n).f2] 45);rwa [show (w3.alloc (.cells #[.slice (some ⟨g3,0,none⟩) l.length c3] 30)).heap.size = w3.heap.size + 1 from by simp] at this);have HF5:=Aside0.mk hF5;clear hO4 hb3 hR3 hO5 hF5)) | (go_at_call 84;(refine (del_call w.heap.size g3 c3 n l l1 _ HN.out HL1.out HR5.out).mono ?_;rintro e w6 ⟨rfl,hR6,hg6⟩;have HX6:=Aside0.mk (Bx.step HX5.out (fun q hq => hg6.block q (by have:=HX5.out.lt;omega) (by rintro hh;injection hh with hh;omega)));have hO6:=(hg6.block w3.heap.size (by simp;omega) (by rintro hh;injection hh with hh;have:=HG3.out;omega)).trans HO5.out;have hF6:=(hg6.block (w3.heap.size + 1) (by simp) (by rintro hh;injection hh with hh;have:=HG3.out;omega)).trans HF5.out;have HB6:=Aside0.mk (HB5.out.grown hg6 (by have:=HX3.out.lt;simp;omega) (by rintro q hq;injection hq with hq;omega));obtain ⟨x60,x61,x62,x63,x64,x65,x66⟩:=HX6.out.cells;have y60:=cell_of_row _ w3.heap.size 0 _ 30 (0,0) hO6;have y61 : w6.frozen? ⟨w3.heap.size,0,none⟩ = false:=(by simp [World.frozen?,hO6]);have HXS1:=Bx.step HX6.out (W1:=w6.setCell ⟨w3.heap.size,0,none⟩ (.slice (some ⟨g3,0,none⟩) l1.length c3)) (fun q hq => Below.heap_setCell _ _ _ _ (by show q ≠ w3.heap.size;omega));have hOS1:=blk_put hO6 0 (.slice (some ⟨g3,0,none⟩) l1.length c3) rfl;have HRS1:=Kd.R_set hR6 hO6 (by decide) 0 (.slice (some ⟨g3,0,none⟩) l1.length c3);have HBS1:=HB6.out.setCell (p:=⟨w3.heap.size,0,none⟩) (by show w.heap.size ≤ w3.heap.size;omega) (.slice (some ⟨g3,0,none⟩) l1.length c3);have hFS1:=blk_far hF6 (p:=⟨w3.heap.size,0,none⟩) (by show w3.heap.size + 1 ≠ w3.heap.size;omega) (.slice (some ⟨g3,0,none⟩) l1.length c3);obtain ⟨xa0,xa1,xa2,xa3,xa4,xa5,xa6⟩:=HXS1.cells;have z10:=cell_of_row _ (w3.heap.size + 1) 0 _ 45 (0,0) hFS1;have z13 : (w6.setCell ⟨w3.heap.size,0,none⟩ (.slice (some ⟨g3,0,none⟩) l1.length c3)).frozen? ⟨w3.heap.size + 1,0,none⟩ = false:=blk_frozen hFS1 0;have HXS2:=Bx.step HXS1 (W1:=(w6.setCell ⟨w3.heap.size,0,none⟩ (.slice (some ⟨g3,0,none⟩) l1.length c3)).setCell ⟨w3.heap.size + 1,0,none⟩ (.string a3)) (fun q hq => Below.heap_setCell _ _ _ _ (by show q ≠ w3.heap.size + 1;omega));have hOS2:=blk_far hOS1 (p:=⟨w3.heap.size + 1,0,none⟩) (by show w3.heap.size ≠ w3.heap.size + 1;omega) (.string a3);have hFS2:=blk_put hFS1 0 (.string a3) rfl;have hgF : ∀ q,(Value.slice (some ⟨g3,0,none⟩) l1.length c3).ownBlock = some q → q ≠ w3.heap.size + 1:=(by intro q hq;simp [Value.ownBlock] at hq;have:=HG3.out;omega);have HRS2:=Kd.R_mono (Kd.R_far (p:=⟨w3.heap.size + 1,0,none⟩) (flat_R (ok:=fun q => q ≠ w3.heap.size + 1) (R_flat HRS1) hgF) (fun _ hk => hk) (.string a3)) (fun _ _ => trivial);have HBS2:=HBS1.setCell (p:=⟨w3.heap.size + 1,0,none⟩) (by show w.heap.size ≤ w3.heap.size + 1;omega) (.string a3);obtain ⟨xb0,xb1,xb2,xb3,xb4,xb5,xb6⟩:=HXS2.cells;have zb0:=cell_of_row _ (w3.heap.size + 1) 0 _ 45 (0,0) hFS2;have zb1:=cell_of_row _ (w3.heap.size + 1) 1 _ 45 (0,0) hFS2;have zb2:=cell_of_row _ (w3.heap.size + 1) 2 _ 45 (0,0) hFS2;have HPUT:=put_call w.heap.size w3.heap.size _ (.slice (some ⟨g3,0,none⟩) l1.length c3) 3 a1 a2 a3 l1 l' ⟨a3,(rd_T45 l n).f1,(rd_T45 l n).f2⟩ w _ HXS2 HBS2 hOS2 h60 HRS2 (by intro q hq;simp [Value.ownBlock] at hq;omega) (by have:=HLEN.out;have:=HLE1.out;omega) HL.out;clear HXS1 hOS1 HRS1 HBS1 hFS1 HXS2 hOS2 HRS2 HBS2 hFS2 hgF; clear hO6 hR6 hg6 hF6)) | (go_at_call 83;(refine HPUT.mono ?_;rintro e w8 ⟨rfl,A6,c6,hO6,hR6,hX6,hB6⟩;have HX6:=Aside0.mk hX6;have HO6:=Aside0.mk hO6;have HR6:=Aside0.mk hR6;have HB6:=Aside0.mk hB6;obtain ⟨x60,x61,x62,x63,x64,x65,x66⟩:=hX6.cells;have y60:=cell_of_row _ w3.heap.size 0 _ 30 (0,0) hO6;clear hX6 hR6 hB6 hO6)) | (go_at_call 27;(refine (impl_DiskOk.calls k A6 c6 l' _ _ (Kd.R_reads' HR6.out).2.2 (Kd.R_reads' HR6.out).2.1 HD2.out).mono ?_;rintro e w7 ⟨rfl,hb7⟩;have HX7:=Aside0.mk (Bx.below HX6.out hb7);have HB7:=Aside0.mk (HB6.out.trans (hb7.mono (by have:=HX6.out.lt;omega)));have HR7:=Aside0.mk (Kd.R_below HR6.out hb7);have hO7:=blk_below HO6.out hb7;obtain ⟨x70,x71,x72,x73,x74,x75,x76⟩:=HX7.out.cells;have y70:=cell_of_row _ w3.heap.size 0 _ 30 (0,0) hO7;clear hO7 hb7)))
 refine bodyPost_ret (results_ct rfl _ _ (w.heap.size + 2) 30 #[.slice none 0 0] (0,0) _ rfl (by (with_reducible repeat (first | refine blk_drewN ?_ _ | refine blk_drew ?_));exact blk_put HX7.out.r 0 _ rfl) Try.underlying30 rfl (by kernel_rfl)) rfl ?_
 exact done_nil HX7.out HB7.out (Nat.le_refl _) 0
def impl_DoAct.fin (k : Nat) (l : List S45) : Option (List S45 × Bool):=(impl_DiskOk.f k l).bind fun t => if t = true then some (l,true) else some ([],false)
def impl_DoAct.go (k : Nat) (l : List S45) (i a0 : Int) (a1 a2 a3 : ByteArray) : Option (List S45 × Bool) :=
 if a0 = 1 then (if 0 ≤ i then (if (rd_T45 l i).f1.size + a2.size ≤ 9223372036854775807 then impl_DoAct.fin k (putFileL l ⟨(rd_T45 l i).f0,(rd_T45 l i).f1 ++ a2,(rd_T45 l i).f2⟩) else none)
  else (if a2.size ≤ 9223372036854775807 then impl_DoAct.fin k (putFileL l ⟨a1,(⟨#[]⟩ : ByteArray) ++ a2,0⟩) else none))
 else if a0 = 2 then impl_DoAct.fin k (l.set i.toNat ⟨(rd_T45 l i).f0,(rd_T45 l i).f1,((rd_T45 l i).f1.size : Int)⟩)
 else if a0 = 3 then (if a3.toList = a1.toList then some ([],false) else if (rd_T45 l i).f2 = ((rd_T45 l i).f1.size : Int) then impl_DoAct.fin k (putFileL (l.eraseIdx i.toNat) ⟨a3,(rd_T45 l i).f1,(rd_T45 l i).f2⟩) else some ([],false))
 else if a0 = 4 then impl_DoAct.fin k (l.eraseIdx i.toNat)
 else some ([],false)
def impl_DoAct.f (k : Nat) (l0_0 : List S45) (a1_0 : Int) (a1_1 a1_2 a1_3 : ByteArray) : Option (List S45 × Bool) :=
 (impl_DiskOk.f k l0_0).bind fun t => if t = true then
  (if a1_0 = 3 ∨ a1_3.toList = [] then
   (if a1_0 = 1 ∨ (a1_2.toList = [] ∧ 0 ≤ idxFrom (fun x : S45 => decide (x.f0.toList = a1_1.toList)) l0_0 0) then
    (if l0_0.length < 3518437208883 then impl_DoAct.go k l0_0 (idxFrom (fun x : S45 => decide (x.f0.toList = a1_1.toList)) l0_0 0) a1_0 a1_1 a1_2 a1_3 else none)
   else some ([],false))
  else some ([],false))
 else some ([],false)
theorem impl_DoAct.mono : ∀ a0 a1 a2 a3 a4 k,LeO (impl_DoAct.f k a0 a1 a2 a3 a4) (impl_DoAct.f (k + 1) a0 a1 a2 a3 a4):=by
 have hf : ∀ k l,LeO (impl_DoAct.fin k l) (impl_DoAct.fin (k + 1) l):=fun k l => LeO.bind (impl_DiskOk.mono _ _) (fun _ => LeO.refl _)
 intro a0 a1 a2 a3 a4 k
 unfold impl_DoAct.f
 refine LeO.bind (impl_DiskOk.mono _ _) (fun _ => ?_)
 unfold impl_DoAct.go
 repeat' first
  | exact hf _ _
  | exact LeO.refl _
  | refine LeO.ite ?_ ?_
theorem fin_some {k : Nat} {l r1 : List S45} {r2 : Bool} (h : impl_DoAct.fin k l = some (r1,r2)) : (impl_DiskOk.f k l = some true ∧ r1 = l ∧ r2 = true) ∨ (impl_DiskOk.f k l = some false ∧ r1 = [] ∧ r2 = false):=by
 unfold impl_DoAct.fin at h
 obtain ⟨t,h1,h2⟩:=Option.bind_eq_some_iff.mp h
 cases t with
 | true => rw [if_pos rfl] at h2;simp only [Option.some.injEq,Prod.mk.injEq] at h2;exact .inl ⟨h1,h2.1.symm,h2.2.symm⟩
 | false => rw [if_neg (by decide)] at h2;simp only [Option.some.injEq,Prod.mk.injEq] at h2;exact .inr ⟨h1,h2.1.symm,h2.2.symm⟩
theorem impl_DoAct.calls (k : Nat) (A0_0 : Option Addr) (c0_0 : Nat) (l0_0 : List S45) (a1_0 : Int) (a1_1 a1_2 a1_3 : ByteArray) (r1 : List S45) (r2 : Bool) (w : World) (hr0_0 : Kd.C k45 w A0_0 l0_0.length l0_0) (hc0_0 : l0_0.length ≤ c0_0) (h : impl_DoAct.f k l0_0 a1_0 a1_1 a1_2 a1_3 = some (r1,r2)) :
  Calls Try.prog 38 #[.agg #[.slice A0_0 l0_0.length c0_0],.agg #[.int .i64 a1_0,.string a1_1,.string a1_2,.string a1_3]] w fun e w' => ∃ v0_ : Value,e = .returned (.tuple #[.agg #[v0_],.bool r2]) ∧ Kd.R k45 45 w' w.heap.size (fun _ => True) v0_ r1 ∧ Below w.heap.size w w':=by
 show Calls Try.prog 38 _ w (Done w r1 r2)
 unfold impl_DoAct.f at h
 obtain ⟨ok,hd,h⟩:=Option.bind_eq_some_iff.mp h
 have nil_ : ∀ {x : Option (List S45 × Bool)},x = some ([],false) → x = some (r1,r2) → r1 = [] ∧ r2 = false:=by
  intro x e1 e2;rw [e1] at e2;simp only [Option.some.injEq,Prod.mk.injEq] at e2;exact ⟨e2.1.symm,e2.2.symm⟩
 cases ok with
 | false =>
  rw [if_neg (by decide)] at h
  obtain ⟨rfl,rfl⟩:=nil_ rfl h
  exact doAct_no k A0_0 c0_0 l0_0 a1_0 a1_1 a1_2 a1_3 _ false w hr0_0 hc0_0 hd rfl rfl
 | true =>
  rw [if_pos rfl] at h
  by_cases g1 : a1_0 = 3 ∨ a1_3.toList = []
  ·rw [if_pos g1] at h
   by_cases g2 : a1_0 = 1 ∨ (a1_2.toList = [] ∧ 0 ≤ idxFrom (fun x : S45 => decide (x.f0.toList = a1_1.toList)) l0_0 0)
   ·rw [if_pos g2] at h
    by_cases g3 : l0_0.length < 3518437208883
    ·rw [if_pos g3] at h
     unfold impl_DoAct.go at h
     by_cases c1 : a1_0 = 1
     ·subst c1
      rw [if_pos rfl] at h
      have ht : a1_3.toList = []:=by
       rcases g1 with g1 | g1
       ·exact absurd g1 (by decide)
       ·exact g1
      by_cases c2 : 0 ≤ idxFrom (fun x : S45 => decide (x.f0.toList = a1_1.toList)) l0_0 0
      ·rw [if_pos c2] at h
       obtain ⟨n,hn,e⟩:=idxFrom_lt _ l0_0 0 (Int.le_refl _) c2
       rw [Int.zero_add] at e
       rw [e] at h
       by_cases c3 : (rd_T45 l0_0 n).f1.size + a1_2.size ≤ 9223372036854775807
       ·rw [if_pos c3] at h
        rcases fin_some h with ⟨h2,rfl,rfl⟩ | ⟨h2,rfl,rfl⟩
        ·exact doAct_add_true k A0_0 c0_0 l0_0 a1_1 a1_2 a1_3 n _ w hr0_0 hc0_0 hd e g3 hn c3 rfl h2 ht
        ·exact doAct_add_false k A0_0 c0_0 l0_0 a1_1 a1_2 a1_3 n _ w hr0_0 hc0_0 hd e g3 hn c3 rfl h2 ht
       ·rw [if_neg c3] at h;cases h
      ·rw [if_neg c2] at h
       by_cases c3 : a1_2.size ≤ 9223372036854775807
       ·rw [if_pos c3] at h
        rcases fin_some h with ⟨h2,rfl,rfl⟩ | ⟨h2,rfl,rfl⟩
        ·exact doAct_addn_true k A0_0 c0_0 l0_0 a1_1 a1_2 a1_3 _ _ w hr0_0 hc0_0 hd rfl g3 (Int.not_le.1 c2) c3 rfl h2 ht
        ·exact doAct_addn_false k A0_0 c0_0 l0_0 a1_1 a1_2 a1_3 _ _ w hr0_0 hc0_0 hd rfl g3 (Int.not_le.1 c2) c3 rfl h2 ht
       ·rw [if_neg c3] at h;cases h
     ·rw [if_neg c1] at h
      obtain ⟨hx,hk⟩ : a1_2.toList = [] ∧ 0 ≤ idxFrom (fun x : S45 => decide (x.f0.toList = a1_1.toList)) l0_0 0:=by
       rcases g2 with g2 | g2
       ·exact absurd g2 c1
       ·exact g2
      obtain ⟨n,hn,e⟩:=idxFrom_lt _ l0_0 0 (Int.le_refl _) hk
      rw [Int.zero_add] at e
      rw [e] at h
      simp only [Int.toNat_natCast] at h
      by_cases c2 : a1_0 = 2
      ·subst c2
       rw [if_pos rfl] at h
       have ht : a1_3.toList = []:=by
        rcases g1 with g1 | g1
        ·exact absurd g1 (by decide)
        ·exact g1
       rcases fin_some h with ⟨h2,rfl,rfl⟩ | ⟨h2,rfl,rfl⟩
       ·exact doAct_keep_true k A0_0 c0_0 l0_0 a1_1 a1_2 a1_3 n _ w hr0_0 hc0_0 hd e g3 hn rfl h2 ht hx
       ·exact doAct_keep_false k A0_0 c0_0 l0_0 a1_1 a1_2 a1_3 n _ w hr0_0 hc0_0 hd e g3 hn rfl h2 ht hx
      ·rw [if_neg c2] at h
       by_cases c3 : a1_0 = 3
       ·subst c3
        rw [if_pos rfl] at h
        by_cases c4 : a1_3.toList = a1_1.toList
        ·rw [if_pos c4] at h
         obtain ⟨rfl,rfl⟩:=nil_ rfl h
         exact doAct_same k A0_0 c0_0 l0_0 a1_1 a1_2 a1_3 n w hr0_0 hc0_0 hd e g3 hn hx c4
        ·rw [if_neg c4] at h
         by_cases c5 : (rd_T45 l0_0 n).f2 = ((rd_T45 l0_0 n).f1.size : Int)
         ·rw [if_pos c5] at h
          rcases fin_some h with ⟨h2,rfl,rfl⟩ | ⟨h2,rfl,rfl⟩
          ·exact doAct_move_true k A0_0 c0_0 l0_0 a1_1 a1_2 a1_3 n w hr0_0 hc0_0 hd e g3 hn hx c4 c5 _ _ rfl rfl h2
          ·exact doAct_move_false k A0_0 c0_0 l0_0 a1_1 a1_2 a1_3 n w hr0_0 hc0_0 hd e g3 hn hx c4 c5 _ _ rfl rfl h2
         ·rw [if_neg c5] at h
          obtain ⟨rfl,rfl⟩:=nil_ rfl h
          exact doAct_unkept k A0_0 c0_0 l0_0 a1_1 a1_2 a1_3 n w hr0_0 hc0_0 hd e g3 hn hx c4 c5
       ·rw [if_neg c3] at h
        have ht : a1_3.toList = []:=by
         rcases g1 with g1 | g1
         ·exact absurd g1 c3
         ·exact g1
        by_cases c4 : a1_0 = 4
        ·subst c4
         rw [if_pos rfl] at h
         rcases fin_some h with ⟨h2,rfl,rfl⟩ | ⟨h2,rfl,rfl⟩
         ·exact doAct_drop_true k A0_0 c0_0 l0_0 a1_1 a1_2 a1_3 n _ w hr0_0 hc0_0 hd e g3 hn rfl h2 ht hx
         ·exact doAct_drop_false k A0_0 c0_0 l0_0 a1_1 a1_2 a1_3 n _ w hr0_0 hc0_0 hd e g3 hn rfl h2 ht hx
        ·rw [if_neg c4] at h
         obtain ⟨rfl,rfl⟩:=nil_ rfl h
         exact doAct_other k A0_0 c0_0 l0_0 a1_0 a1_1 a1_2 a1_3 _ true w hr0_0 hc0_0 hd rfl rfl c1 c2 c3 c4 ht hx hk g3
    ·rw [if_neg g3] at h;cases h
   ·rw [if_neg g2] at h
    obtain ⟨rfl,rfl⟩:=nil_ rfl h
    have c1 : a1_0 ≠ 1:=fun e => g2 (.inl e)
    by_cases hx : a1_2.toList = []
    ·have hk : idxFrom (fun x : S45 => decide (x.f0.toList = a1_1.toList)) l0_0 0 < 0:=Int.not_le.1 (fun e => g2 (.inr ⟨hx,e⟩))
     by_cases c3 : a1_0 = 3
     ·exact doAct_none3 k A0_0 c0_0 l0_0 a1_0 a1_1 a1_2 a1_3 _ true w hr0_0 hc0_0 hd rfl rfl c3 hx hk
     ·exact doAct_none k A0_0 c0_0 l0_0 a1_0 a1_1 a1_2 a1_3 _ true w hr0_0 hc0_0 hd rfl rfl c3 (g1.resolve_left c3) c1 hx hk
    ·by_cases c3 : a1_0 = 3
     ·exact doAct_text3 k A0_0 c0_0 l0_0 a1_0 a1_1 a1_2 a1_3 _ true w hr0_0 hc0_0 hd rfl rfl c3 hx
     ·exact doAct_text k A0_0 c0_0 l0_0 a1_0 a1_1 a1_2 a1_3 _ true w hr0_0 hc0_0 hd rfl rfl c3 (g1.resolve_left c3) c1 hx
  ·rw [if_neg g1] at h
   obtain ⟨rfl,rfl⟩:=nil_ rfl h
   exact doAct_to k A0_0 c0_0 l0_0 a1_0 a1_1 a1_2 a1_3 _ true w hr0_0 hc0_0 hd rfl rfl (fun e => g1 (.inl e)) (fun e => g1 (.inr e))

end Go.Proofs.Ytgfacdhkamphiaa.PFnActs
