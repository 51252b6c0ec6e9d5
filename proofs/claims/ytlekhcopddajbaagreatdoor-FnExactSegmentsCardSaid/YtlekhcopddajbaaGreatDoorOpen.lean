/- A value that comes in and reads as data is of its kind: numbers, bools, strings, slices and structs of these, nested. Conditions: the type's table row is the kind's, the value reads. -/
import Derived.Test.YtlekhcopddajbaaGreatDoorFew
import Derived.Deep.Slices
import Derived.ChangeSame
import Derived.DataReads
namespace Go.Proofs.YtlekhcopddajbaaGreatDoor.Base
open Go Go.RowKit Go.ChangeShapes Go.WideShapes Go.Deep Go.Proofs.YtlekhcopddajbaaGreatDoorW.PrintWords

def Opens (P : Program) (t : TypeId) {α : Type} (d : Kd α) (Ok : α → Prop) : Prop :=
  P.cellsOf t = d.sz ∧ ∀ (H : Type) (enc : TypeId × Value → H) (w : World) (base : Nat) (sp : Nat → Bool) (held : Bool) (fuel : Nat) (cs : List Value) (x : DataW H × List MemPlace),
    DataW.trod enc P w base sp held fuel t cs = some x → ∃ a, d.K w a cs ∧ Ok a
theorem opens_int {P : Program} {t : TypeId} {k : IntKind} (ht : P.underlying t = some (.int k)) (hc : P.cellsOf t = 1) : Opens P t (Kd.int k) (fun a => (Lit.int k a).wf = true) := by
  refine ⟨hc, fun H enc w base sp held fuel cs x h => ?_⟩
  obtain ⟨n, h1, _, h2⟩ := DataW.trod_int ht h
  exact ⟨n, h1, h2⟩
theorem opens_string {P : Program} {t : TypeId} (ht : P.underlying t = some .string) (hc : P.cellsOf t = 1) : Opens P t Kd.string (fun a => a.size ≤ maxLen) := by
  refine ⟨hc, fun H enc w base sp held fuel cs x h => ?_⟩
  obtain ⟨n, h1, _, h2⟩ := DataW.trod_string ht h
  exact ⟨n, h1, h2⟩
theorem opens_bool {P : Program} {t : TypeId} (ht : P.underlying t = some .bool) (hc : P.cellsOf t = 1) : Opens P t Kd.bool (fun _ => True) := by
  refine ⟨hc, fun H enc w base sp held fuel cs x h => ?_⟩
  obtain ⟨n, h1, _⟩ := DataW.trod_bool ht h
  exact ⟨n, h1, trivial⟩
theorem opens_iso {P : Program} {t : TypeId} {α β : Type} {d : Kd α} {Ok : α → Prop} (h : Opens P t d Ok) (f : β → α) (g : α → β) (hg : ∀ a, f (g a) = a) : Opens P t (Kd.iso d f) (fun b => Ok (f b)) := by
  refine ⟨h.1, fun H enc w base sp held fuel cs x hx => ?_⟩
  obtain ⟨a, h1, h2⟩ := h.2 H enc w base sp held fuel cs x hx
  exact ⟨g a, by show d.K w (f (g a)) cs; rw [hg]; exact h1, by show Ok (f (g a)); rw [hg]; exact h2⟩
theorem opens_slice {P : Program} {t e : TypeId} {α : Type} {d : Kd α} {Ok : α → Prop} (ht : P.underlying t = some (.slice e)) (hc : P.cellsOf t = 1) (h : Opens P e d Ok) : Opens P t (Kd.slice e d) (fun l => l.length ≤ maxLen ∧ ∀ a ∈ l, Ok a) := by
  refine ⟨hc, fun H enc w base sp held fuel cs x hx => ?_⟩
  rcases open_slice ht hx with ⟨rfl, _⟩ | ⟨a, len, cap, m, n, D, Pl, rfl, hb, hl, hm, hmm, _, hel⟩
  · exact ⟨[], ⟨none, 0, rfl, Nat.le_refl _, rfl, by show 0 ≤ _; omega, fun h0 => absurd h0 (by simp)⟩, Nat.zero_le _, fun a ha => by cases ha⟩
  · have hlm : len ≤ m := by rw [hmm]; split <;> omega
    have each : ∀ i : Fin len, ∃ y : α × List Value, y.2.length = d.sz ∧ d.K w y.1 y.2 ∧ Ok y.1 ∧ ∀ j u, y.2[j]? = some u → w.cell? (a.add (i.val * d.sz + j)) = some u := fun i => by
      obtain ⟨cs', h1, h2⟩ := hel i.val (Nat.lt_of_lt_of_le i.isLt hlm)
      obtain ⟨y, h3, h4⟩ := h.2 H enc w base sp held n cs' _ h2
      obtain ⟨_, h5, h6⟩ := World.cells?_some h1
      refine ⟨(y, cs'), d.K_len h3, h3, h4, fun j u hj => ?_⟩
      have hj' : j < cs'.length := (List.getElem?_eq_some_iff.1 hj).1
      have := h6 j (by omega)
      rw [Go.Deep.add_add, h.1] at this
      rw [this]; exact hj
    let Y : Fin len → α × List Value := fun i => Classical.choose (each i)
    have hY : ∀ i, _ := fun i => Classical.choose_spec (each i)
    have hlen : (List.ofFn fun i => (Y i).1).length = len := by rw [List.length_ofFn]
    refine ⟨List.ofFn fun i => (Y i).1, ⟨some a, cap, by rw [hlen], by rw [hlen]; exact hl, rfl, ?_, fun _ => ⟨a, rfl, fun j p hp => ?_⟩⟩, ?_, ?_⟩
    · rw [hlen]; unfold maxLen at hm; omega
    · obtain ⟨hj, he⟩ := List.getElem?_eq_some_iff.1 hp
      rw [hlen] at hj
      rw [List.getElem_ofFn] at he
      obtain ⟨z1, z2, z3, z4⟩ := hY ⟨j, hj⟩
      refine ⟨(Y ⟨j, hj⟩).2, z1, ?_, z4⟩
      rw [← he]
      exact z2
    · rw [hlen]; omega
    · intro b hb
      rw [List.mem_ofFn] at hb
      obtain ⟨i, rfl⟩ := hb
      exact (hY i).2.2.1
theorem opens_struct2 {P : Program} {t : TypeId} {α β : Type} {d0 : Kd α} {d1 : Kd β} {O0 : α → Prop} {O1 : β → Prop} {f0 f1 : Field} (ht : P.underlying t = some (.struct #[f0, f1])) (hc : P.cellsOf t = d0.sz + d1.sz)
    (h0 : Opens P f0.type d0 O0) (h1 : Opens P f1.type d1 O1) (e0 : f0.offset = 0) (e1 : f1.offset = d0.sz) : Opens P t (Kd.pair d0 d1) (fun x => O0 x.1 ∧ O1 x.2) := by
  refine ⟨hc, fun H enc w base sp held fuel cs x hx => ?_⟩
  obtain ⟨xs, n, _, _, hl, hlen, hf⟩ := DataW.trod_struct ht hx
  match xs, hlen with
  | [y0, y1], _ =>
    have g0 : DataW.trod enc P w base sp held n f0.type ((cs.drop f0.offset).take (P.cellsOf f0.type)) = some y0 := by simpa using hf 0 f0 rfl
    have g1 : DataW.trod enc P w base sp held n f1.type ((cs.drop f1.offset).take (P.cellsOf f1.type)) = some y1 := by simpa using hf 1 f1 rfl
    obtain ⟨a, ka, oa⟩ := h0.2 H enc w base sp held n _ _ g0
    obtain ⟨b, kb, ob⟩ := h1.2 H enc w base sp held n _ _ g1
    rw [e0, h0.1, List.drop_zero] at ka
    rw [e1, h1.1] at kb
    rw [List.take_of_length_le (by rw [List.length_drop]; omega)] at kb
    exact ⟨(a, b), ⟨_, _, (List.take_append_drop d0.sz cs).symm, ka, kb⟩, oa, ob⟩
/-- A struct's fields from number k on, as a struct of their own would read. -/
def OpensFrom (P : Program) (fs : Array Field) (k : Nat) {α : Type} (d : Kd α) (Ok : α → Prop) : Prop :=
  ∀ (H : Type) (enc : TypeId × Value → H) (w : World) (base : Nat) (sp : Nat → Bool) (held : Bool) (n : Nat) (cs : List Value) (xs : List (DataW H × List MemPlace)) (o : Nat),
    (∀ (f : Field), fs[k]? = some f → f.offset = o) → cs.length = o + d.sz → xs.length = fs.size →
    (∀ (i : Nat) (f : Field), fs[i]? = some f → DataW.trod enc P w base sp held n f.type ((cs.drop f.offset).take (P.cellsOf f.type)) = xs[i]?) → ∃ a, d.K w a (cs.drop o) ∧ Ok a
theorem opensFrom_last {P : Program} {fs : Array Field} {k : Nat} {f : Field} {α : Type} {d : Kd α} {Ok : α → Prop} (hk : fs[k]? = some f) (h : Opens P f.type d Ok) : OpensFrom P fs k d Ok := by
  intro H enc w base sp held n cs xs o ho hl hx hf
  have hlt : k < xs.length := by rw [hx]; exact (Array.getElem?_eq_some_iff.1 hk).1
  have g := hf k f hk
  rw [List.getElem?_eq_getElem hlt] at g
  obtain ⟨a, ka, oa⟩ := h.2 H enc w base sp held n _ _ g
  rw [ho f hk, h.1, List.take_of_length_le (by rw [List.length_drop]; omega)] at ka
  exact ⟨a, ka, oa⟩
theorem opensFrom_cons {P : Program} {fs : Array Field} {k : Nat} {f : Field} {α β : Type} {d0 : Kd α} {d1 : Kd β} {O0 : α → Prop} {O1 : β → Prop} (hk : fs[k]? = some f) (h : Opens P f.type d0 O0) (hn : ∀ f', fs[k + 1]? = some f' → f'.offset = f.offset + d0.sz)
    (hr : OpensFrom P fs (k + 1) d1 O1) : OpensFrom P fs k (Kd.pair d0 d1) (fun x => O0 x.1 ∧ O1 x.2) := by
  intro H enc w base sp held n cs xs o ho hl hx hf
  have hlt : k < xs.length := by rw [hx]; exact (Array.getElem?_eq_some_iff.1 hk).1
  have g := hf k f hk
  rw [List.getElem?_eq_getElem hlt] at g
  have ho' := ho f hk
  obtain ⟨a, ka, oa⟩ := h.2 H enc w base sp held n _ _ g
  rw [ho', h.1] at ka
  have hl2 : cs.length = o + (d0.sz + d1.sz) := hl
  obtain ⟨b, kb, ob⟩ := hr H enc w base sp held n cs xs (o + d0.sz) (fun f' h' => by rw [hn f' h', ho']) (by omega) hx hf
  refine ⟨(a, b), ⟨_, _, ?_, ka, kb⟩, oa, ob⟩
  rw [← List.drop_drop, List.take_append_drop]
theorem opens_struct {P : Program} {t : TypeId} {fs : Array Field} {α : Type} {d : Kd α} {Ok : α → Prop} (ht : P.underlying t = some (.struct fs)) (hc : P.cellsOf t = d.sz) (h0 : ∀ f, fs[0]? = some f → f.offset = 0) (h : OpensFrom P fs 0 d Ok) : Opens P t d Ok := by
  refine ⟨hc, fun H enc w base sp held fuel cs x hx => ?_⟩
  obtain ⟨xs, n, _, _, hl, hlen, hf⟩ := DataW.trod_struct ht hx
  obtain ⟨a, ka, oa⟩ := h H enc w base sp held n cs xs 0 h0 (by rw [hl, hc, Nat.zero_add]) hlen hf
  rw [List.drop_zero] at ka
  exact ⟨a, ka, oa⟩
/-- An argument that is a struct by value. -/
theorem open_agg {P : Program} {t : TypeId} {fs : Array Field} {α : Type} {d : Kd α} {Ok : α → Prop} (ht : P.underlying t = some (.struct fs)) (h : Opens P t d Ok) {H : Type} {enc : TypeId × Value → H} {w w' : World} {r : Reach} {base b0 : Nat} {sp : Nat → Bool} {held : Bool} {v : Value} {dd : DataW H} {ps : List MemPlace}
    (hval : Value.okWide P w' r b0 t v) (hd : DataW.Trod enc P w base sp held t v dd ps) : ∃ a cs, v = .agg cs ∧ d.K w a cs.toList ∧ Ok a := by
  obtain ⟨cs, rfl, _⟩ := okWide_struct ht hval
  obtain ⟨fuel, hf⟩ := hd
  obtain ⟨a, ka, oa⟩ := h.2 H enc w base sp held fuel _ _ hf
  exact ⟨a, cs, rfl, by simpa [Value.cells] using ka, oa⟩
theorem open_sl {P : Program} {t e : TypeId} {α : Type} {d : Kd α} {Ok : α → Prop} (ht : P.underlying t = some (.slice e)) (h : Opens P t (Kd.slice e d) (fun l => l.length ≤ maxLen ∧ ∀ a ∈ l, Ok a)) {H : Type} {enc : TypeId × Value → H} {w w' : World} {r : Reach} {base b0 : Nat} {sp : Nat → Bool} {held : Bool} {v : Value} {dd : DataW H} {ps : List MemPlace}
    (hval : Value.okWide P w' r b0 t v) (hd : DataW.Trod enc P w base sp held t v dd ps) : ∃ A c l, v = .slice A l.length c ∧ l.length ≤ c ∧ d.C w A l.length l ∧ l.length ≤ maxLen ∧ ∀ a ∈ l, Ok a := by
  obtain ⟨a, len, cap, rfl⟩ := okWide_slice ht hval
  obtain ⟨fuel, hf⟩ := hd
  obtain ⟨l, ⟨A, c, h1, h2, h3⟩, o1, o2⟩ := h.2 H enc w base sp held fuel _ _ hf
  refine ⟨A, c, l, ?_, h2, h3, o1, o2⟩
  simpa [Value.cells] using h1
end Go.Proofs.YtlekhcopddajbaaGreatDoor.Base
