/- Arguments opened: whatever can be read as data of a type lies in memory as a value of the printed kind, its texts and slices within reach; no condition. -/
import Derived.Test.YtojiicbdbajljaaDoorBaseP
import Derived.Deep.Slices
import Derived.SizedLaws
import Derived.ChangeArms
namespace Go.Proofs.YtojiicbdbajljaaDoor
open Go.RowKit Go.Deep Go.Proofs.YtojiicbdbajljaaDoorW.PrintWords

/-- A datum's numbers of bytes are all within reach. -/
def Near {H : Type} (P : Program) (t : TypeId) (d : DataW H) : Prop := ∀ n ∈ d.weights P t, n ≤ 140737488351232
structure Opens {α : Type} (P : Program) (t : TypeId) (d : Kd α) (G : α → Prop) : Prop where
  sz : P.cellsOf t = d.sz
  op : ∀ {H : Type} {enc : TypeId × Value → H} {w : World} {base : Nat} {sp : Nat → Bool} {held : Bool} {fuel : Nat} {cs : List Value} {x : DataW H × List MemPlace},
    DataW.trod enc P w base sp held fuel t cs = some x → Near P t x.1 → ∃ a, d.K w a cs ∧ G a

theorem Opens.int {P : Program} {t : TypeId} {k : IntKind} (h : P.underlying t = some (.int k)) (hc : P.cellsOf t = 1) : Opens P t (Kd.int k) (fun n => (Lit.int k n).wf = true) :=
  ⟨hc, fun hd _ => by
    obtain ⟨n, rfl, _, hw⟩ := DataW.trod_int h hd
    exact ⟨n, rfl, hw⟩⟩
theorem Opens.bool {P : Program} {t : TypeId} (h : P.underlying t = some .bool) (hc : P.cellsOf t = 1) : Opens P t Kd.bool (fun _ => True) :=
  ⟨hc, fun hd _ => by
    obtain ⟨b, rfl, _⟩ := DataW.trod_bool h hd
    exact ⟨b, rfl, trivial⟩⟩
theorem Opens.string {P : Program} {t : TypeId} (h : P.underlying t = some .string) (hc : P.cellsOf t = 1) : Opens P t Kd.string (fun s => s.size ≤ 140737488351232) :=
  ⟨hc, fun hd hn => by
    obtain ⟨s, rfl, rfl, _⟩ := DataW.trod_string h hd
    refine ⟨s, rfl, ?_⟩
    have := hn s.data.toList.length (by simp [DataW.weights])
    simpa using this⟩

theorem weightsAll_mem {H : Type} {P : Program} {e : TypeId} : ∀ {l : List (DataW H)} {d : DataW H}, d ∈ l → ∀ n ∈ d.weights P e, n ∈ DataW.weightsAll P e l
  | [], _, h, _, _ => absurd h (by simp)
  | x :: l, d, h, n, hn => by
    rw [DataW.weightsAll, List.mem_append]
    rcases List.mem_cons.1 h with rfl | h
    · exact .inl hn
    · exact .inr (weightsAll_mem h n hn)

theorem addr_add_add (a : Addr) (i j : Nat) : (a.add i).add j = a.add (i + j) := by
  unfold Addr.add
  by_cases hi : i = 0 <;> by_cases hj : j = 0 <;> simp [hi, hj, Nat.add_assoc]

theorem Opens.slice {α : Type} {P : Program} {t e : TypeId} {d : Kd α} {G : α → Prop} (h : P.underlying t = some (.slice e)) (hc : P.cellsOf t = 1) (o : Opens P e d G) (z : α) :
    Opens P t (Kd.slice e d) (fun l => (∀ a ∈ l, G a) ∧ l.length * P.bytesOf e ≤ 140737488351232 ∧ l.length ≤ 9223372036854775807) :=
  ⟨hc, fun {H enc w base sp held fuel cs x} hd hn => by
    rcases open_slice h hd with ⟨rfl, rfl⟩ | ⟨a, len, cap, m, n, D, Pl, rfl, hb, hl, hm, hmm, rfl, hi⟩
    · exact ⟨[], ⟨none, 0, rfl, Nat.le_refl _, rfl, by simp, fun h => absurd h (by simp)⟩, by simp, by simp, by simp⟩
    · have hlm : len ≤ m := by rw [hmm]; split <;> omega
      have hnear : ∀ i, i < len → Near P e (D i) := by
        intro i hi' k hk
        refine hn k ?_
        simp only [DataW.weights, h]
        refine List.mem_cons_of_mem _ (List.mem_append.2 (.inl (weightsAll_mem (List.mem_map.2 ⟨i, List.mem_range.2 hi', rfl⟩) k hk)))
      haveI : Inhabited α := ⟨z⟩
      obtain ⟨F, hF⟩ := choose_lt (α := α) (p := fun i v => i < len → ∃ c : List Value, c.length = d.sz ∧ d.K w v c ∧ G v ∧ ∀ j u, c[j]? = some u → w.cell? (a.add (i * d.sz + j)) = some u) (fun i him => by
        by_cases hil : i < len
        · obtain ⟨cs', h1, h2⟩ := hi i him
          obtain ⟨v, hK, hG⟩ := o.op h2 (hnear i hil)
          rw [o.sz] at h1
          obtain ⟨_, hcl, hat⟩ := World.cells?_some h1
          refine ⟨v, fun _ => ⟨cs', hcl, hK, hG, fun j u hu => ?_⟩⟩
          have hj : j < d.sz := by rw [← hcl]; exact (List.getElem?_eq_some_iff.1 hu).1
          have := hat j hj
          rw [addr_add_add] at this
          rw [this, hu]
        · exact ⟨z, fun h => absurd h hil⟩)
      have hget : ∀ j p, ((List.range len).map F)[j]? = some p → j < len ∧ p = F j := by
        intro j p hj
        rw [List.getElem?_map] at hj
        have hlt : j < len := by
          rcases Nat.lt_or_ge j len with h1 | h1
          · exact h1
          · rw [List.getElem?_eq_none (by simpa using h1)] at hj; cases hj
        rw [List.getElem?_range hlt] at hj
        exact ⟨hlt, (Option.some.inj hj).symm⟩
      refine ⟨(List.range len).map F, ⟨some a, cap, by simp, by simpa using hl, by simp, by simp only [List.length_map, List.length_range]; unfold maxLen at hm; omega, fun _ => ⟨a, rfl, fun j p hj => ?_⟩⟩, ?_, ?_, ?_⟩
      · obtain ⟨hlt, rfl⟩ := hget j p hj
        obtain ⟨c, h1, h2, _, h4⟩ := hF j (by omega) hlt
        exact ⟨c, h1, h2, h4⟩
      · intro v hv
        obtain ⟨j, hj⟩ := List.mem_iff_getElem?.1 hv
        obtain ⟨hlt, rfl⟩ := hget j v hj
        obtain ⟨c, _, _, h3, _⟩ := hF j (by omega) hlt
        exact h3
      · have := hn ((((List.range len).map D).length + ((List.range (m - len)).map fun j => D (len + j)).length) * P.bytesOf e) (by simp only [DataW.weights, h]; exact List.mem_cons_self)
        simp only [List.length_map, List.length_range] at this ⊢
        exact Nat.le_trans (Nat.mul_le_mul_right _ (by omega)) this
      · simp only [List.length_map, List.length_range]; unfold maxLen at hm; omega⟩
end Go.Proofs.YtojiicbdbajljaaDoor
