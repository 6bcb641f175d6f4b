/- Any parameter that reads as data reads as a value of its kind: integers, bools, strings, slices, structs, by the type's shape; no condition. -/
import Derived.Test.YtiaahlbaeeiipaaWWords
import Derived.Deep.Slices
import Derived.SizedLaws
import Derived.WideShapes
set_option linter.unusedVariables false
namespace Go.Proofs.YtiaahlbaeeiipaaOpen
open Go.ChangeShapes Go.WideShapes Go.Deep Go.RowKit
open Go.Proofs.YtiaahlbaeeiipaaW.PrintWords

/-- A value of type t that reads as data reads as one of kind d, and what the data says of it is Good. -/
def Opens {α : Type} (P : Program) (t : TypeId) (d : Kd α) (Good : α → Prop) : Prop :=
  ∀ (H : Type) (enc : TypeId × Value → H) (w : World) (fuel : Nat) (cs : List Value) (x : DataW H) (ps : List MemPlace),
    DataW.trod enc P w 0 (fun _ => true) true fuel t cs = some (x, ps) → (∀ n ∈ x.weights P t, n ≤ reachBytes) → ∃ a : α, d.K w a cs ∧ Good a

section
variable {P : Program} {t e : TypeId}

theorem opens_int {k : IntKind} (ht : P.underlying t = some (.int k)) : Opens P t (Kd.int k) (fun n => (Lit.int k n).wf = true) := by
  intro H enc w fuel cs x ps h _
  obtain ⟨n, rfl, _, hw⟩ := DataW.trod_int ht h
  exact ⟨n, rfl, hw⟩

theorem opens_bool (ht : P.underlying t = some .bool) : Opens P t Kd.bool (fun _ => True) := by
  intro H enc w fuel cs x ps h _
  obtain ⟨n, rfl, _⟩ := DataW.trod_bool ht h
  exact ⟨n, rfl, trivial⟩

theorem opens_string (ht : P.underlying t = some .string) : Opens P t Kd.string (fun s => s.size ≤ 140737488351232) := by
  intro H enc w fuel cs x ps h hw
  obtain ⟨s, rfl, hx, _⟩ := DataW.trod_string ht h
  refine ⟨s, rfl, ?_⟩
  have := hw s.data.toList.length (by rw [(Prod.mk.inj hx).1]; simp [DataW.weights])
  rw [Array.length_toList] at this
  exact this

theorem weightsAll_mem {H : Type} {l : List (DataW H)} {y : DataW H} {n : Nat} (hy : y ∈ l) (hn : n ∈ y.weights P e) : n ∈ DataW.weightsAll P e l := by
  induction l with
  | nil => simp at hy
  | cons z l ih =>
    simp only [DataW.weightsAll, List.mem_append]
    rcases List.mem_cons.1 hy with rfl | hy
    · exact .inl hn
    · exact .inr (ih hy)

theorem opens_slice {α : Type} {d : Kd α} {G : α → Prop} {B : Nat} (e' : Nat) (z : α) (ht : P.underlying t = some (.slice e)) (hd : Opens P e d G) (hc : P.cellsOf e = d.sz) (hB : P.bytesOf e = B) :
    Opens P t (Kd.slice e' d) (fun xs => (∀ x ∈ xs, G x) ∧ xs.length * B ≤ 140737488351232 ∧ xs.length ≤ 9223372036854775807) := by
  intro H enc w fuel cs x ps h hw
  rcases open_slice ht h with ⟨rfl, hx⟩ | ⟨a, len, cap, m, n, D, Pl, rfl, hb, hl, hm, hmm, hx, hel⟩
  · exact ⟨[], ⟨none, 0, rfl, Nat.le_refl _, rfl, by simp, fun h0 => absurd h0 (by simp)⟩, by simp, by simp, by simp⟩
  · simp only [if_true] at hmm
    subst hmm
    obtain ⟨hx, _⟩ := Prod.mk.inj hx
    subst hx
    have hsz : (len + (m - len)) * B ≤ reachBytes := by
      have := hw ((((List.range len).map D).length + ((List.range (m - len)).map fun j => D (len + j)).length) * P.bytesOf e) (by simp only [DataW.weights, ht]; exact List.mem_cons_self)
      simpa [hB] using this
    have key : ∀ i, i < len → ∃ p : α × List Value, d.K w p.1 p.2 ∧ G p.1 ∧ p.2.length = d.sz ∧ ∀ j u, p.2[j]? = some u → w.cell? (a.add (i * d.sz + j)) = some u := by
      intro i hi
      obtain ⟨cs', h1, h2⟩ := hel i (by omega)
      have hk' : ∀ k ∈ (D i).weights P e, k ≤ reachBytes := by
        intro k hk
        refine hw k ?_
        simp only [DataW.weights, ht]
        exact List.mem_cons_of_mem _ (List.mem_append.2 (.inl (weightsAll_mem (List.mem_map.2 ⟨i, List.mem_range.2 hi, rfl⟩) hk)))
      obtain ⟨b, hK, hG⟩ := hd H enc w n cs' (D i) (Pl i) h2 hk'
      obtain ⟨_, hlen, hcell⟩ := World.cells?_some h1
      refine ⟨(b, cs'), hK, hG, by rw [hlen, hc], fun j u hj => ?_⟩
      have hj' : j < P.cellsOf e := by
        rw [← hlen]
        exact (List.getElem?_eq_some_iff.1 hj).1
      have := hcell j hj'
      rw [hc, Go.Deep.add_add] at this
      rw [this]
      exact hj
    obtain ⟨f, hf⟩ : ∃ f : Nat → α × List Value, ∀ i, i < len → d.K w (f i).1 (f i).2 ∧ G (f i).1 ∧ (f i).2.length = d.sz ∧ ∀ j u, (f i).2[j]? = some u → w.cell? (a.add (i * d.sz + j)) = some u :=
      ⟨fun i => if hi : i < len then Classical.choose (key i hi) else (z, []), fun i hi => by simp only [dif_pos hi]; exact Classical.choose_spec (key i hi)⟩
    have hln : ((List.range len).map fun i => (f i).1).length = len := by simp
    have hmx : len ≤ 9223372036854775807 := by simp only [maxLen] at hm; omega
    refine ⟨(List.range len).map fun i => (f i).1, ⟨some a, m, by rw [hln], by rw [hln]; exact hl, ?_⟩, ?_, ?_, by rw [hln]; exact hmx⟩
    · refine ⟨rfl, by rw [hln]; exact hmx, fun _ => ⟨a, rfl, fun j p hj => ?_⟩⟩
      have hj' : j < len := by
        have := (List.getElem?_eq_some_iff.1 hj).1
        simpa using this
      have hp : (f j).1 = p := by simpa [hj'] using hj
      subst hp
      obtain ⟨h1, _, h3, h4⟩ := hf j hj'
      exact ⟨(f j).2, h3, h1, h4⟩
    · intro y hy
      obtain ⟨i, hi, rfl⟩ := List.mem_map.1 hy
      exact (hf i (List.mem_range.1 hi)).2.1
    · rw [hln]
      exact Nat.le_trans (Nat.mul_le_mul_right _ (by omega)) hsz

/-- The fields from cell 'off' on. -/
def OpensSeg {α : Type} (P : Program) (fs : List Field) (off : Nat) (d : Kd α) (Good : α → Prop) : Prop :=
  ∀ (H : Type) (enc : TypeId × Value → H) (w : World) (fuel : Nat) (cs : List Value) (xs : List (DataW H × List MemPlace)),
    cs.length = off + d.sz → xs.length = fs.length → (∀ (i : Nat) (f : Field), fs[i]? = some f → DataW.trod enc P w 0 (fun _ => true) true fuel f.type ((cs.drop f.offset).take (P.cellsOf f.type)) = xs[i]?) →
    (∀ n ∈ DataW.weightsEach P (fs.map (·.type)) (xs.map (·.1)), n ≤ reachBytes) → ∃ a : α, d.K w a (cs.drop off) ∧ Good a

theorem seg_one {α : Type} {d : Kd α} {G : α → Prop} {f : Field} {off : Nat} (ho : f.offset = off) (hc : P.cellsOf f.type = d.sz) (hd : Opens P f.type d G) : OpensSeg P [f] off d G := by
  intro H enc w fuel cs xs hl hx h hw
  have h0 := h 0 f rfl
  obtain ⟨⟨x, ps⟩, rfl⟩ : ∃ y, xs = [y] := by
    cases xs with
    | nil => simp at hx
    | cons y l => exact ⟨y, by simp at hx; rw [hx]⟩
  simp only [List.getElem?_cons_zero] at h0
  rw [ho, hc, List.take_of_length_le (by rw [List.length_drop]; omega)] at h0
  exact hd H enc w fuel _ x ps h0 (fun n hn => hw n (by simp [DataW.weightsEach, hn]))

theorem seg_cons {α β : Type} {d : Kd α} {b : Kd β} {G : α → Prop} {G' : β → Prop} {f : Field} {fs : List Field} {off off' : Nat} (ho : f.offset = off) (hc : P.cellsOf f.type = d.sz) (hn : off' = off + d.sz)
    (hd : Opens P f.type d G) (hb : OpensSeg P fs off' b G') : OpensSeg P (f :: fs) off (Kd.pair d b) (fun p => G p.1 ∧ G' p.2) := by
  intro H enc w fuel cs xs hl hx h hw
  have h0 := h 0 f rfl
  obtain ⟨⟨x, ps⟩, xs, rfl⟩ : ∃ y ys, xs = y :: ys := by
    cases xs with
    | nil => simp at hx
    | cons y l => exact ⟨y, l, rfl⟩
  simp only [List.getElem?_cons_zero] at h0
  rw [ho, hc] at h0
  have hl' : cs.length = off + (d.sz + b.sz) := hl
  obtain ⟨a, hK, hG⟩ := hd H enc w fuel _ x ps h0 (fun n hn => hw n (by simp [DataW.weightsEach, hn]))
  obtain ⟨a', hK', hG'⟩ := hb H enc w fuel cs xs (by omega) (by simpa using hx) (fun i g hg => by simpa using h (i + 1) g (by simpa using hg)) (fun n hn => hw n (by simp [DataW.weightsEach, hn]))
  refine ⟨(a, a'), ⟨(cs.drop off).take d.sz, cs.drop off', ?_, hK, hK'⟩, hG, hG'⟩
  rw [hn, ← List.drop_drop, List.take_append_drop]

theorem opens_struct {α β : Type} {d : Kd α} {G : α → Prop} {fs : Array Field} (f : β → α) (g : α → β) (hfg : ∀ a, f (g a) = a) (ht : P.underlying t = some (.struct fs)) (hc : P.cellsOf t = d.sz) (hd : OpensSeg P fs.toList 0 d G) :
    Opens P t (Kd.iso d f) (fun b => G (f b)) := by
  intro H enc w fuel cs x ps h hw
  obtain ⟨xs, n, rfl, hx, hl, hxl, hf⟩ := DataW.trod_struct ht h
  obtain ⟨hx, _⟩ := Prod.mk.inj hx
  subst hx
  obtain ⟨a, hK, hG⟩ := hd H enc w n cs xs (by omega) (by simpa using hxl) (fun i f hf' => hf i f (by simpa using hf')) (fun k hk => hw k (by simpa [DataW.weights, ht] using hk))
  refine ⟨g a, ?_, ?_⟩
  · show d.K w (f (g a)) cs
    rw [hfg]
    simpa using hK
  · show G (f (g a))
    rw [hfg]
    exact hG

theorem Opens.mono {α : Type} {d : Kd α} {G G' : α → Prop} (h : Opens P t d G) (hg : ∀ a, G a → G' a) : Opens P t d G' := by
  intro H enc w fuel cs x ps hh hw
  obtain ⟨a, hK, hG⟩ := h H enc w fuel cs x ps hh hw
  exact ⟨a, hK, hg a hG⟩

/-- A parameter, opened. -/
theorem Opens.param {α : Type} {d : Kd α} {G : α → Prop} {H : Type} {enc : TypeId × Value → H} {W : World} {v : Value} {x : DataW H} {ps : List MemPlace} {ts : List TypeId} {ds : List (DataW H)} (j : Nat) (h : Opens P t d G)
    (hv : DataW.Trod enc P W 0 (fun _ => true) true t v x ps) (hsz : (DataW.weightsEach P ts ds).all (· ≤ reachBytes) = true) (ht : ts[j]? = some t) (hd : ds[j]? = some x) : ∃ a : α, d.K W a v.cells.toList ∧ G a := by
  obtain ⟨fuel, hf⟩ := hv
  exact h H enc W fuel _ x ps hf (fun n hn => by simpa using List.all_eq_true.1 hsz n (DataW.weights_mem_each ht hd n hn))
end
end Go.Proofs.YtiaahlbaeeiipaaOpen
