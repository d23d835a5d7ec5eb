/- The plain law of SchemaAsks: over numbers, texts and lists alone, the statement's function answers true for all schemas whose texts are within reach. -/
import Derived.Test.YtojiicbdbajljaaDoorEvs
import Derived.Test.YtojiicbdbajljaaDoorQx
namespace Go.Proofs.YtojiicbdbajljaaDoor.Q
open Go.RowKit Go.Proofs.YtojiicbdbajljaaDoorW.PrintWords Go.Proofs.YtojiicbdbajljaaDoorW.PrintLast Go.Proofs.YtojiicbdbajljaaDoorW.PrintMore

abbrev Col := S82
abbrev RCol := S86
def conv (c : Col) : RCol := ⟨c.f0, c.f1, c.f2⟩
theorem rd_conv (l : List Col) (i : Int) (h0 : 0 ≤ i) (h1 : i < l.length) : rd_T86 (l.map conv) i = conv (rd_T82 l i) := by
  unfold rd_T86 rd_T82
  have : i.toNat < l.length := by omega
  rw [List.getD_eq_getElem?_getD, List.getD_eq_getElem?_getD, List.getElem?_map, List.getElem?_eq_getElem this]
  rfl

/-! ### light -/
theorem light_loop (l : List Col) (hl : l.length ≤ 9223372036854775806) (hc : ∀ c ∈ l, c.f0.size ≤ 140737488351232) (d : Nat) : ∀ (n x : Int), 0 ≤ x → x ≤ l.length → (l.length : Int) - x = d → 0 ≤ n → n ≤ 2000 →
    ∃ b, Ev (fun k => hachurelaw22_light.l0 k n l (l.length : Int) x) b := by
  induction d with
  | zero =>
    intro n x h0 h1 hd _ _
    refine ⟨true, Ev.succ ?_⟩
    simp only [hachurelaw22_light.l0]
    exact Ev.neg (by omega) (Ev.now _)
  | succ d ih =>
    intro n x h0 h1 hd g0 g1
    have hlt : x < (l.length : Int) := by omega
    have hz : (rd_T82 l x).f0.size ≤ 140737488351232 := by
      refine hc _ ?_
      unfold rd_T82
      rw [List.getD_eq_getElem?_getD, List.getElem?_eq_getElem (by omega)]
      exact List.getElem_mem _
    have hw : wrap64 (n + ((rd_T82 l x).f0.size : Int)) = n + ((rd_T82 l x).f0.size : Int) := wrap_in (by omega) (by omega)
    by_cases hb : n + ((rd_T82 l x).f0.size : Int) > 2000
    · refine ⟨false, Ev.succ ?_⟩
      simp only [hachurelaw22_light.l0]
      refine Ev.pos hlt (Ev.pos h0 (Ev.pos hlt ?_))
      rw [hw]
      exact Ev.pos hb (Ev.now _)
    · obtain ⟨b, hb'⟩ := ih (n + ((rd_T82 l x).f0.size : Int)) (x + 1) (by omega) (by omega) (by omega) (by omega) (by omega)
      refine ⟨b, Ev.succ ?_⟩
      simp only [hachurelaw22_light.l0]
      refine Ev.pos hlt (Ev.pos h0 (Ev.pos hlt ?_))
      rw [hw, wrap_in (x := x + 1) (by omega) (by omega)]
      exact Ev.neg hb hb'
theorem light_ev (s : ByteArray) (a b : Int) (l : List Col) (hc : ∀ c ∈ l, c.f0.size ≤ 140737488351232) :
    ∃ r, Ev (fun k => hachurelaw22_light.f k s a b l) r ∧ (r = true → l.length ≤ 50 ∧ s.size ≤ 500) := by
  by_cases h1 : (l.length : Int) > 50
  · refine ⟨false, ?_, fun h => by cases h⟩
    simp only [hachurelaw22_light.f]
    refine Ev.pos h1 (Ev.succ ?_)
    simp only [hachurelaw22_light.j0]
    exact Ev.pos trivial (Ev.now _)
  · by_cases h2 : (s.size : Int) > 500
    · refine ⟨false, ?_, fun h => by cases h⟩
      simp only [hachurelaw22_light.f]
      refine Ev.neg h1 (Ev.succ ?_)
      simp only [hachurelaw22_light.j0]
      exact Ev.pos (by simpa using h2) (Ev.now _)
    · obtain ⟨r, hr⟩ := light_loop l (by omega) hc l.length (s.size : Int) 0 (by omega) (by omega) (by omega) (by omega) (by omega)
      refine ⟨r, ?_, fun _ => by omega⟩
      simp only [hachurelaw22_light.f]
      refine Ev.neg h1 (Ev.succ ?_)
      simp only [hachurelaw22_light.j0]
      exact Ev.neg (by simpa using h2) hr

/-! ### the example -/
theorem lives_ev : Ev (fun k => hachurelaw22_lives.f k) true := Ev.of (fun k => hachurelaw22_lives.mono k) (k := 5) (by decide +kernel)

/-! ### a schema in the document's form -/
theorem plain_loop (l : List Col) (hl : l.length ≤ 100) (s : ByteArray) (a b : Int) (d : Nat) : ∀ (x : Int), 0 ≤ x → x ≤ l.length → (l.length : Int) - x = d →
    Ev (fun k => hachurelaw22_plain.l0 k l (l.length : Int) x s a b ((l.take x.toNat).map conv)) (s, a, b, l.map conv) := by
  induction d with
  | zero =>
    intro x h0 h1 hd
    refine Ev.succ ?_
    simp only [hachurelaw22_plain.l0]
    refine Ev.neg (by omega) (Ev.is ?_)
    rw [show x.toNat = l.length by omega, List.take_length]
  | succ d ih =>
    intro x h0 h1 hd
    have hlt : x < (l.length : Int) := by omega
    have hi := ih (x + 1) (by omega) (by omega) (by omega)
    refine Ev.succ ?_
    simp only [hachurelaw22_plain.l0]
    refine Ev.pos hlt (Ev.pos h0 (Ev.pos hlt (Ev.pos (by rw [List.length_map, List.length_take]; omega) ?_)))
    rw [wrap_in (x := x + 1) (by omega) (by omega)]
    have e : (l.take x.toNat).map conv ++ [(⟨(rd_T82 l x).f0, (rd_T82 l x).f1, (rd_T82 l x).f2⟩ : RCol)] = (l.take (x + 1).toNat).map conv := by
      rw [show (x + 1).toNat = x.toNat + 1 by omega, List.take_succ_eq_append_getElem (by omega), List.map_append]
      unfold rd_T82
      rw [List.getD_eq_getElem?_getD, List.getElem?_eq_getElem (by omega)]
      rfl
    rw [e]
    exact hi
theorem plain_ev (s : ByteArray) (a b : Int) (l : List Col) (hl : l.length ≤ 100) : Ev (fun k => hachurelaw22_plain.f k s a b l) (s, a, b, l.map conv) := by
  simp only [hachurelaw22_plain.f]
  have := plain_loop l hl s a b l.length 0 (by omega) (by omega) (by omega)
  simpa using this

/-! ### names -/
theorem bt_cast (s : ByteArray) (x : Int) (h0 : 0 ≤ x) : bt s ((x.toNat : Nat) : Int) = bt s x := by rw [Int.toNat_of_nonneg h0]
theorem nameAt_iff (s : ByteArray) (x : Int) (h0 : 0 ≤ x) : nameAt s x.toNat = true ↔ ((97 ≤ bt s x ∧ bt s x ≤ 122) ∨ (0 < x ∧ (bt s x = 95 ∨ (48 ≤ bt s x ∧ bt s x ≤ 57)))) := by
  unfold nameAt
  rw [bt_cast s x h0]
  simp only [Bool.or_eq_true, Bool.and_eq_true, decide_eq_true_eq]
  omega
theorem name_loop (s : ByteArray) (hs : s.size ≤ 140737488351232) (d : Nat) : ∀ (x : Int), 0 ≤ x → x ≤ s.size → (s.size : Int) - x = d → (∀ i, i < x.toNat → nameAt s i = true) →
    Ev (fun k => hachureref22_Name.l0 k s x) (nameOk s) := by
  induction d with
  | zero =>
    intro x h0 h1 hd hg
    refine Ev.succ ?_
    simp only [hachureref22_Name.l0]
    refine Ev.neg (by omega) ?_
    rw [nameOk_end (fun i hi => hg i (by omega))]
    by_cases hz : (s.size : Int) ≥ 1
    · refine Ev.pos hz (Ev.is ?_)
      rw [show decide (1 ≤ s.size) = true from decide_eq_true (by omega), Bool.true_and]
      exact decide_eq_decide.2 (by omega)
    · refine Ev.neg hz (Ev.is ?_)
      rw [show decide (1 ≤ s.size) = false from decide_eq_false (by omega)]
      rfl
  | succ d ih =>
    intro x h0 h1 hd hg
    have hlt : x < (s.size : Int) := by omega
    have hA := nameAt_iff s x h0
    have hnext : nameAt s x.toNat = true → Ev (fun k => hachureref22_Name.l0 k s (wrap64 (x + 1))) (nameOk s) := by
      intro hn
      rw [wrap_in (x := x + 1) (by omega) (by omega)]
      refine ih (x + 1) (by omega) (by omega) (by omega) (fun i hi => ?_)
      by_cases e : i = x.toNat
      · rw [e]; exact hn
      · exact hg i (by omega)
    have hbad : ¬ nameAt s x.toNat = true → false = nameOk s := fun hn => (nameOk_bad (pos := x.toNat) (by omega) (Bool.eq_false_iff.2 hn)).symm
    refine Ev.succ ?_
    simp only [hachureref22_Name.l0]
    refine Ev.pos hlt (Ev.pos h0 ?_)
    have hrest : (¬ (97 ≤ bt s x ∧ bt s x ≤ 122)) → Ev (fun k => if x = 0 then (some false) else (if (bt s x) = 95 then (hachureref22_Name.l0 k s (wrap64 (x + 1))) else (if (bt s x) < 48 then (some false) else (if (bt s x) > 57 then (some false) else (hachureref22_Name.l0 k s (wrap64 (x + 1))))))) (nameOk s) := by
      intro hn
      by_cases c1 : x = 0
      · exact Ev.pos c1 (Ev.is (hbad (by rw [hA]; omega)))
      · refine Ev.neg c1 ?_
        by_cases c2 : bt s x = 95
        · exact Ev.pos c2 (hnext (hA.2 (by omega)))
        · refine Ev.neg c2 ?_
          by_cases c3 : bt s x < 48
          · exact Ev.pos c3 (Ev.is (hbad (by rw [hA]; omega)))
          · refine Ev.neg c3 ?_
            by_cases c4 : bt s x > 57
            · exact Ev.pos c4 (Ev.is (hbad (by rw [hA]; omega)))
            · exact Ev.neg c4 (hnext (hA.2 (by omega)))
    by_cases c1 : bt s x ≥ 97
    · refine Ev.pos c1 ?_
      by_cases c2 : bt s x ≤ 122
      · exact Ev.pos c2 (hnext (hA.2 (by omega)))
      · exact Ev.neg c2 (hrest (by omega))
    · exact Ev.neg c1 (hrest (by omega))
theorem refName_ev (s : ByteArray) (hs : s.size ≤ 140737488351232) : Ev (fun k => hachureref22_Name.f k s) (nameOk s) :=
  name_loop s hs s.size 0 (by omega) (by omega) (by omega) (fun i hi => absurd hi (by omega))

/-! ### Good -/
def goodR (s : ByteArray) (a b : Int) (l : List Col) : Int := if headOk s a b l.length = true then (if colsOk l l.length = true then 0 else 2) else 2
def names (l : List Col) : List ByteArray := l.map (·.f0)
theorem nameIn_iff (l : List ByteArray) (s : ByteArray) : nameIn l s = true ↔ ∃ i : Nat, ∃ x, l[i]? = some x ∧ x.toList = s.toList := by
  unfold nameIn
  rw [List.any_eq_true]
  constructor
  · rintro ⟨x, hx, he⟩
    obtain ⟨i, hi⟩ := List.mem_iff_getElem?.1 hx
    exact ⟨i, x, hi, by simpa using he⟩
  · rintro ⟨i, x, hi, he⟩
    exact ⟨x, List.mem_of_getElem? hi, by simpa using he⟩
theorem dup_loop (l : List Col) (hl : l.length ≤ 100) (y : List RCol) (hy : y.length ≤ l.length) (L : List RCol) (n x : Int) (s0 : ByteArray) (a b : Int) (s : ByteArray) (p : Int) (q : Bool) (r : Int)
    (hno : nameIn (y.map (·.f0)) s = false → Ev (fun k => hachureref22_Good.l0 k L n (wrap64 (x + 1)) s0 a b L) r) (hyes : nameIn (y.map (·.f0)) s = true → r = 2) (d : Nat) : ∀ (j : Int), 0 ≤ j → j ≤ y.length → (y.length : Int) - j = d → nameIn ((y.take j.toNat).map (·.f0)) s = false →
    Ev (fun k => hachureref22_Good.l1 k L n x y (y.length : Int) j s0 a b L s p q) r := by
  induction d with
  | zero =>
    intro j h0 h1 hd hg
    refine Ev.succ ?_
    simp only [hachureref22_Good.l1]
    refine Ev.neg (by omega) (hno ?_)
    rw [show j.toNat = y.length by omega, List.take_length] at hg
    exact hg
  | succ d ih =>
    intro j h0 h1 hd hg
    have hlt : j < (y.length : Int) := by omega
    have hlt' : j.toNat < y.length := by omega
    have hr : rd_T86 y j = y[j.toNat] := by
      unfold rd_T86
      rw [List.getD_eq_getElem?_getD, List.getElem?_eq_getElem hlt']
      rfl
    refine Ev.succ ?_
    simp only [hachureref22_Good.l1]
    refine Ev.pos hlt (Ev.pos h0 (Ev.pos hlt ?_))
    by_cases c : s.toList = (rd_T86 y j).f0.toList
    · refine Ev.pos c (Ev.is (hyes ?_).symm)
      rw [nameIn_iff]
      exact ⟨j.toNat, y[j.toNat].f0, by rw [List.getElem?_map, List.getElem?_eq_getElem hlt']; rfl, by rw [c, hr]⟩
    · refine Ev.neg c ?_
      rw [wrap_in (x := j + 1) (by omega) (by omega)]
      refine ih (j + 1) (by omega) (by omega) (by omega) ?_
      rw [show (j + 1).toNat = j.toNat + 1 by omega, List.take_succ_eq_append_getElem hlt', List.map_append, List.map_cons, List.map_nil, nameIn_snoc, hg, Bool.false_or]
      rw [beq_eq_false_iff_ne, ← hr]
      exact fun e => c e.symm
theorem conv_names (l : List Col) (k : Nat) : ((l.map conv).take k).map (·.f0) = (l.take k).map (·.f0) := by
  rw [← List.map_take, List.map_map]
  rfl
theorem good_loop (l : List Col) (hl : l.length ≤ 100) (hc : ∀ c ∈ l, c.f0.size ≤ 140737488351232) (s0 : ByteArray) (a b : Int) (d : Nat) : ∀ (x : Int), 0 ≤ x → x ≤ l.length → (l.length : Int) - x = d → colsOk l x.toNat = true →
    Ev (fun k => hachureref22_Good.l0 k (l.map conv) ((l.map conv).length : Int) x s0 a b (l.map conv)) (if colsOk l l.length = true then 0 else 2) := by
  induction d with
  | zero =>
    intro x h0 h1 hd hg
    refine Ev.succ ?_
    simp only [hachureref22_Good.l0]
    rw [show x.toNat = l.length by omega] at hg
    rw [if_pos hg]
    exact Ev.neg (by rw [List.length_map]; omega) (Ev.now _)
  | succ d ih =>
    intro x h0 h1 hd hg
    have hlt : x < (l.length : Int) := by omega
    have hlt' : x.toNat < l.length := by omega
    have hlm : x < ((l.map conv).length : Int) := by rw [List.length_map]; exact hlt
    have hrd := rd_conv l x h0 hlt
    have hcol : l.getD x.toNat z82 = rd_T82 l x := rfl
    have hsz : (rd_T82 l x).f0.size ≤ 140737488351232 := by
      refine hc _ ?_
      unfold rd_T82
      rw [List.getD_eq_getElem?_getD, List.getElem?_eq_getElem hlt']
      exact List.getElem_mem _
    have hcs := colsOk_succ l x.toNat
    rw [hg, Bool.true_and, hcol] at hcs
    have hnx := ih (x + 1) (by omega) (by omega) (by omega)
    rw [show (x + 1).toNat = x.toNat + 1 by omega] at hnx
    have hbad : colsOk l (x.toNat + 1) = false → (2 : Int) = (if colsOk l l.length = true then 0 else 2) := fun h => by
      rw [if_neg]
      rw [colsOk_le (show x.toNat + 1 ≤ l.length by omega) h]
      decide
    generalize rd_T82 l x = c at *
    have hj2 : ∀ bad : Bool, (bad = true → colOk c = false) → (bad = false → colOk c = true) → Ev (fun k => hachureref22_Good.j2 k x (l.map conv) ((l.map conv).length : Int) x bad s0 a b (l.map conv) (conv c).f0 (conv c).f1 (conv c).f2) (if colsOk l l.length = true then 0 else 2) := by
      intro bad hb1 hb2
      refine Ev.succ ?_
      simp only [hachureref22_Good.j2]
      cases bad with
      | true =>
        rw [hb1 rfl, Bool.false_and] at hcs
        exact Ev.pos rfl (Ev.is (hbad hcs))
      | false =>
        rw [hb2 rfl, Bool.true_and] at hcs
        refine Ev.neg (by decide) (Ev.pos h0 (Ev.pos (by omega) (Ev.bind1 rfl ?_)))
        refine dup_loop l hl ((l.map conv).take x.toNat) (by rw [List.length_take]; simp; omega) (l.map conv) ((l.map conv).length : Int) x s0 a b (conv c).f0 _ _ _ ?_ ?_ ((l.map conv).take x.toNat).length 0 (by omega) (by omega) (by omega) rfl
        · intro hn
          rw [conv_names] at hn
          rw [show (conv c).f0 = c.f0 from rfl] at hn
          rw [hn] at hcs
          rw [wrap_in (x := x + 1) (by omega) (by omega)]
          exact hnx hcs
        · intro hn
          rw [conv_names] at hn
          rw [show (conv c).f0 = c.f0 from rfl] at hn
          rw [hn] at hcs
          exact (hbad hcs).symm
    refine Ev.succ ?_
    simp only [hachureref22_Good.l0]
    refine Ev.pos hlm (Ev.pos h0 (Ev.pos hlm ?_))
    rw [hrd]
    refine Ev.bind (refName_ev c.f0 hsz) ?_
    have hco : colOk c = (nameOk c.f0 && (decide (1 ≤ c.f1) && decide (c.f1 ≤ 3))) := rfl
    cases hn : nameOk c.f0 with
    | false =>
      rw [hn] at hco
      exact Ev.neg (by decide) (hj2 true (fun _ => hco) (fun h => by cases h))
    | true =>
      rw [hn, Bool.true_and] at hco
      refine Ev.pos rfl ?_
      by_cases c1 : (conv c).f1 < 1
      · refine Ev.pos c1 (hj2 true (fun _ => ?_) (fun h => by cases h))
        rw [hco, show decide (1 ≤ c.f1) = false from decide_eq_false (by have : c.f1 < 1 := c1; omega)]
        rfl
      · refine Ev.neg c1 (hj2 _ (fun h => ?_) (fun h => ?_))
        · have h' : c.f1 > 3 := of_decide_eq_true h
          rw [hco, show decide (c.f1 ≤ 3) = false from decide_eq_false (by omega), Bool.and_false]
        · have h' : ¬ c.f1 > 3 := of_decide_eq_false h
          have h'' : ¬ c.f1 < 1 := c1
          rw [hco, show decide (c.f1 ≤ 3) = true from decide_eq_true (by omega), show decide (1 ≤ c.f1) = true from decide_eq_true (by omega)]
          rfl

theorem refGood_ev (s : ByteArray) (a b : Int) (l : List Col) (hl : l.length ≤ 100) (hs : s.size ≤ 140737488351232) (hc : ∀ c ∈ l, c.f0.size ≤ 140737488351232) :
    Ev (fun k => hachureref22_Good.f k s a b (l.map conv)) (goodR s a b l) := by
  have hj : ∀ bad : Bool, (bad = true → headOk s a b l.length = false) → (bad = false → headOk s a b l.length = true) → Ev (fun k => hachureref22_Good.j0 k bad s a b (l.map conv)) (goodR s a b l) := by
    intro bad h1 h2
    refine Ev.succ ?_
    simp only [hachureref22_Good.j0]
    unfold goodR
    cases bad with
    | true =>
      rw [if_neg (by rw [h1 rfl]; decide)]
      exact Ev.pos rfl (Ev.now _)
    | false =>
      rw [if_pos (h2 rfl)]
      exact Ev.neg (by decide) (good_loop l hl hc s a b l.length 0 (by omega) (by omega) (by omega) rfl)
  have hh : headOk s a b l.length = (nameOk s && (decide (0 ≤ a) && (decide (a ≤ 7) && (decide (-2147483648 ≤ b) && (decide (b ≤ 2147483647) && decide (l.length ≤ 4)))))) := rfl
  simp only [hachureref22_Good.f]
  refine Ev.bind (refName_ev s hs) ?_
  cases hn : nameOk s with
  | false => rw [hn, Bool.false_and] at hh; exact Ev.neg (by decide) (hj true (fun _ => hh) (fun h => by cases h))
  | true =>
    rw [hn, Bool.true_and] at hh
    refine Ev.pos rfl ?_
    have hf : ¬ (0 ≤ a ∧ a ≤ 7 ∧ -2147483648 ≤ b ∧ b ≤ 2147483647 ∧ l.length ≤ 4) → headOk s a b l.length = false := fun h => by
      rw [hh, Bool.eq_false_iff]
      intro e
      simp only [Bool.and_eq_true, decide_eq_true_eq] at e
      exact h e
    by_cases c1 : a < 0
    · exact Ev.pos c1 (hj true (fun _ => hf (by omega)) (fun h => by cases h))
    · refine Ev.neg c1 ?_
      by_cases c2 : a > 7
      · exact Ev.pos c2 (hj true (fun _ => hf (by omega)) (fun h => by cases h))
      · refine Ev.neg c2 ?_
        by_cases c3 : b < -2147483648
        · exact Ev.pos c3 (hj true (fun _ => hf (by omega)) (fun h => by cases h))
        · refine Ev.neg c3 ?_
          by_cases c4 : b > 2147483647
          · exact Ev.pos c4 (hj true (fun _ => hf (by omega)) (fun h => by cases h))
          · refine Ev.neg c4 (hj _ (fun h => hf ?_) (fun h => ?_))
            · have h' := of_decide_eq_true h
              rw [List.length_map] at h'
              omega
            · have h' := of_decide_eq_false h
              rw [List.length_map] at h'
              rw [hh]
              simp only [Bool.and_eq_true, decide_eq_true_eq]
              omega

/-! ### Same -/
theorem colSame_loop (l m : List Col) (hl : l.length ≤ 100) (he : l.length = m.length) (s1 : ByteArray) (a1 b1 : Int) (s2 : ByteArray) (a2 b2 : Int) (d : Nat) : ∀ (x : Int), 0 ≤ x → x ≤ l.length → (l.length : Int) - x = d →
    ∃ r, Ev (fun k => schema_Column.l0 k l m (l.length : Int) x) r ∧ Ev (fun k => hachureref22_Same.l0 k ((l.map conv).length : Int) x s1 a1 b1 (l.map conv) s2 a2 b2 (m.map conv)) r := by
  induction d with
  | zero =>
    intro x h0 h1 hd
    refine ⟨true, Ev.succ ?_, Ev.succ ?_⟩
    · simp only [schema_Column.l0]
      exact Ev.neg (by omega) (Ev.now _)
    · simp only [hachureref22_Same.l0]
      exact Ev.neg (by rw [List.length_map]; omega) (Ev.now _)
  | succ d ih =>
    intro x h0 h1 hd
    have hlt : x < (l.length : Int) := by omega
    have hlm : x < (m.length : Int) := by omega
    obtain ⟨r, hr1, hr2⟩ := ih (x + 1) (by omega) (by omega) (by omega)
    have e1 := rd_conv l x h0 hlt
    have e2 := rd_conv m x h0 hlm
    have g1 : x < ((l.map conv).length : Int) := by rw [List.length_map]; exact hlt
    have g2 : x < ((m.map conv).length : Int) := by rw [List.length_map]; exact hlm
    by_cases c : (!((((rd_T82 l x).f0).toList) == (((rd_T82 m x).f0).toList)) || (!(((rd_T82 l x).f1) == ((rd_T82 m x).f1)) || (!(((rd_T82 l x).f2) == ((rd_T82 m x).f2))))) = true
    · refine ⟨false, Ev.succ ?_, Ev.succ ?_⟩
      · simp only [schema_Column.l0]
        exact Ev.pos hlt (Ev.pos h0 (Ev.pos hlt (Ev.pos hlm (Ev.pos c (Ev.now _)))))
      · simp only [hachureref22_Same.l0]
        rw [e1, e2]
        exact Ev.pos g1 (Ev.pos h0 (Ev.pos g1 (Ev.pos g2 (Ev.pos c (Ev.now _)))))
    · refine ⟨r, Ev.succ ?_, Ev.succ ?_⟩
      · simp only [schema_Column.l0]
        rw [wrap_in (x := x + 1) (by omega) (by omega)]
        exact Ev.pos hlt (Ev.pos h0 (Ev.pos hlt (Ev.pos hlm (Ev.neg c hr1))))
      · simp only [hachureref22_Same.l0]
        rw [e1, e2, wrap_in (x := x + 1) (by omega) (by omega)]
        exact Ev.pos g1 (Ev.pos h0 (Ev.pos g1 (Ev.pos g2 (Ev.neg c hr2))))
theorem same_ev (s1 : ByteArray) (a1 b1 : Int) (l : List Col) (s2 : ByteArray) (a2 b2 : Int) (m : List Col) (hl : l.length ≤ 100) :
    ∃ r, Ev (fun k => schema_Same.f k s1 a1 b1 l s2 a2 b2 m) r ∧ Ev (fun k => hachureref22_Same.f k s1 a1 b1 (l.map conv) s2 a2 b2 (m.map conv)) r := by
  have hbad : Ev (fun k => hachureref22_Same.j0 k true s1 a1 b1 (l.map conv) s2 a2 b2 (m.map conv)) false := by
    refine Ev.succ ?_
    simp only [hachureref22_Same.j0]
    exact Ev.pos trivial (Ev.now _)
  simp only [schema_Same.f, hachureref22_Same.f]
  by_cases c1 : s1.toList = s2.toList
  · by_cases c2 : a1 = a2
    · by_cases c3 : b1 = b2
      · by_cases c4 : l.length = m.length
        · obtain ⟨r, h1, h2⟩ := colSame_loop l m hl c4 s1 a1 b1 s2 a2 b2 l.length 0 (by omega) (by omega) (by omega)
          refine ⟨r, Ev.pos c1 (Ev.pos c2 (Ev.pos c3 (Ev.bind (a := r) ?_ (Ev.now _)))), Ev.pos c1 (Ev.pos c2 (Ev.pos c3 (Ev.succ ?_)))⟩
          · simp only [schema_Column.f]
            exact Ev.pos (by omega) h1
          · simp only [hachureref22_Same.j0]
            exact Ev.neg (by simp [c4]) h2
        · refine ⟨false, Ev.pos c1 (Ev.pos c2 (Ev.pos c3 (Ev.bind (a := false) ?_ (Ev.now _)))), Ev.pos c1 (Ev.pos c2 (Ev.pos c3 (Ev.succ ?_)))⟩
          · simp only [schema_Column.f]
            exact Ev.neg (by omega) (Ev.now _)
          · simp only [hachureref22_Same.j0]
            exact Ev.pos (by rw [List.length_map, List.length_map, bne_iff_ne]; omega) (Ev.now _)
      · exact ⟨false, Ev.pos c1 (Ev.pos c2 (Ev.neg c3 (Ev.now _))), Ev.pos c1 (Ev.pos c2 (Ev.neg c3 hbad))⟩
    · exact ⟨false, Ev.pos c1 (Ev.neg c2 (Ev.now _)), Ev.pos c1 (Ev.neg c2 hbad)⟩
  · exact ⟨false, Ev.neg c1 (Ev.now _), Ev.neg c1 hbad⟩

/-! ### digits -/
theorem digit_piece (u : Nat) (h : u < 10) : (⟨#[48, 49, 50, 51, 52, 53, 54, 55, 56, 57]⟩ : ByteArray).extract u (u + 1) = bs (Lib.decDigits u) := by
  rw [Lib.decDigits_one h]
  match u, h with
  | 0, _ => rfl
  | 1, _ => rfl
  | 2, _ => rfl
  | 3, _ => rfl
  | 4, _ => rfl
  | 5, _ => rfl
  | 6, _ => rfl
  | 7, _ => rfl
  | 8, _ => rfl
  | 9, _ => rfl
  | k + 10, h => exact absurd h (by omega)
theorem bs_app (a b : List UInt8) : bs a ++ bs b = bs (a ++ b) := toList_inj (by rw [toList_app, toList_bs, toList_bs, toList_bs])
theorem bs_size (a : List UInt8) : (bs a).size = a.length := by rw [← toList_size, toList_bs]
theorem dec_len (u : Nat) (h : u ≤ 9223372036854775807) : (Lib.decDigits u).length ≤ 21 := by
  have := Lib.itoa_length_le (u : Int) (by omega) (by omega)
  rwa [Lib.itoa_nonneg] at this
theorem digits_nat (u : Nat) : u ≤ 9223372036854775807 → Ev (fun k => hachureref21_Digits.f k (u : Int)) (bs (Lib.decDigits u)) := by
  induction u using Nat.strongRecOn with
  | _ u ih =>
    intro hu
    refine Ev.succ ?_
    simp only [hachureref21_Digits.f]
    refine Ev.pos (by omega) (Ev.succ ?_)
    simp only [hachureref21_Digits.j0]
    by_cases h : u < 10
    · rw [wrap_in (x := (u : Int) + 1) (by omega) (by omega)]
      refine Ev.pos (by simp; omega) (Ev.pos (by omega) (Ev.pos (by omega) (Ev.pos (by omega) (Ev.is ?_))))
      rw [show ((u : Int) + 1).toNat = u + 1 by omega, show (u : Int).toNat = u from rfl]
      exact digit_piece u h
    · have e1 : Int.tdiv (u : Int) 10 = ((u / 10 : Nat) : Int) := by rw [Int.tdiv_eq_ediv_of_nonneg (by omega)]; omega
      have e2 : Int.tmod (u : Int) 10 = ((u % 10 : Nat) : Int) := by rw [Int.tmod_eq_emod_of_nonneg (by omega)]; omega
      refine Ev.neg (by simp; omega) (Ev.neg (by omega) ?_)
      rw [e1, e2, wrap_in (x := ((u / 10 : Nat) : Int)) (by omega) (by omega)]
      have hl := dec_len (u / 10) (by omega)
      have hm := dec_len (u % 10) (by omega)
      refine Ev.bind (ih (u / 10) (by omega) (by omega)) (Ev.bind (ih (u % 10) (by omega) (by omega)) (Ev.pos (by rw [bs_size, bs_size]; omega) (Ev.is ?_)))
      rw [bs_app]
      congr 1
      rw [Lib.decDigits_one (show u % 10 < 10 by omega)]
      conv => rhs; rw [Lib.decDigits, dif_neg h]
theorem digits_neg (u : Nat) : 1 ≤ u → u ≤ 9223372036854775808 → Ev (fun k => hachureref21_Digits.f k (-(u : Int))) (bs (45 :: Lib.decDigits u)) := by
  induction u using Nat.strongRecOn with
  | _ u ih =>
    intro hu1 hu
    refine Ev.succ ?_
    simp only [hachureref21_Digits.f]
    refine Ev.neg (by omega) (Ev.succ ?_)
    simp only [hachureref21_Digits.j0]
    refine Ev.neg (by decide) (Ev.pos (by omega) ?_)
    by_cases h10 : -(u : Int) > -10
    · refine Ev.pos h10 ?_
      rw [show wrap64 (- -(u : Int)) = (u : Int) by unfold wrap64; omega]
      have hl := dec_len u (by omega)
      refine Ev.bind (digits_nat u (by omega)) (Ev.pos (by rw [bs_size]; omega) (Ev.is ?_))
      rw [show (⟨#[45]⟩ : ByteArray) = bs [45] from rfl, bs_app]
      rfl
    · refine Ev.neg h10 ?_
      have h : ¬ u < 10 := by omega
      have e1 : Int.tdiv (-(u : Int)) 10 = -((u / 10 : Nat) : Int) := by rw [Int.neg_tdiv, Int.tdiv_eq_ediv_of_nonneg (by omega)]; omega
      have e2 : Int.tmod (-(u : Int)) 10 = -((u % 10 : Nat) : Int) := by rw [Int.neg_tmod, Int.tmod_eq_emod_of_nonneg (by omega)]; omega
      rw [e1, e2, show wrap64 (- -((u % 10 : Nat) : Int)) = ((u % 10 : Nat) : Int) by unfold wrap64; omega, wrap_in (x := -((u / 10 : Nat) : Int)) (by omega) (by omega)]
      have hl := dec_len (u / 10) (by omega)
      have hm := dec_len (u % 10) (by omega)
      refine Ev.bind (ih (u / 10) (by omega) (by omega) (by omega)) (Ev.bind (digits_nat (u % 10) (by omega)) (Ev.pos (by rw [bs_size, bs_size, List.length_cons]; omega) (Ev.is ?_)))
      rw [bs_app]
      congr 1
      rw [Lib.decDigits_one (show u % 10 < 10 by omega)]
      conv => rhs; rw [Lib.decDigits, dif_neg h]
      rfl
theorem digits_ev (n : Int) (h0 : -9223372036854775808 ≤ n) (h1 : n ≤ 9223372036854775807) : Ev (fun k => hachureref21_Digits.f k n) (bs (Lib.itoa n)) := by
  by_cases hn : n < 0
  · obtain ⟨u, rfl⟩ : ∃ u : Nat, n = -(u : Int) := ⟨n.natAbs, by omega⟩
    rw [Lib.itoa_neg u (by omega)]
    exact digits_neg u (by omega) (by omega)
  · obtain ⟨u, rfl⟩ : ∃ u : Nat, n = (u : Int) := ⟨n.toNat, by omega⟩
    rw [Lib.itoa_nonneg]
    exact digits_nat u (by omega)

/-! ### Text of a good schema -/
def colText (c : Col) : List UInt8 := c.f0.toList ++ [58] ++ (rdOf ByteArray.empty typeNames c.f1).toList ++ (if c.f2 = true then [33] else [])
theorem colText_ok (c : Col) (hc : colOk c = true) (hs : c.f0.size ≤ 140737488351232) : schema_Column_text.f c.f0 c.f1 c.f2 = some (bs (colText c)) := by
  unfold colOk at hc
  simp only [Bool.and_eq_true, decide_eq_true_eq] at hc
  unfold schema_Column_text.f
  rw [if_pos (by omega), if_pos (by omega), if_pos (by omega)]
  congr 1
  apply toList_inj
  rw [toList_bs, toList_app, toList_app, toList_app]
  unfold colText
  rw [show (⟨#[58]⟩ : ByteArray).toList = [58] from toList_lit [58]]
  congr 1
  split
  · exact toList_lit [33]
  · exact toList_lit []
theorem colText_len (c : Col) (hc : colOk c = true) : (colText c).length ≤ 18 := by
  unfold colOk nameOk at hc
  simp only [Bool.and_eq_true, decide_eq_true_eq] at hc
  have h1 := hc.1.2.2
  have h2 := typeNames_size c.f1
  unfold colText
  simp only [List.length_append, toList_size, List.length_singleton]
  split <;> simp <;> omega
def textOf (s : ByteArray) (kind : ByteArray) (b : Int) (l : List Col) : List UInt8 := s.toList ++ [32] ++ kind.toList ++ [32] ++ Lib.itoa b ++ (l.map fun c => 32 :: colText c).flatten
theorem flat_len (l : List Col) (h : ∀ c ∈ l, (colText c).length ≤ 18) : ((l.map fun c => 32 :: colText c).flatten).length ≤ 19 * l.length := by
  induction l with
  | nil => simp
  | cons c l ih =>
    simp only [List.map_cons, List.flatten_cons, List.length_append, List.length_cons]
    have := h c List.mem_cons_self
    have := ih (fun c hc => h c (List.mem_cons_of_mem _ hc))
    omega
/-- The program's text. -/
theorem text_loop (s : ByteArray) (kind : ByteArray) (b : Int) (l : List Col) (hl : l.length ≤ 4) (hs : s.size ≤ 12) (hk : kind.size ≤ 40) (hb0 : -9223372036854775808 ≤ b) (hb1 : b ≤ 9223372036854775807) (hc : ∀ c ∈ l, colOk c = true) (d : Nat) : ∀ (x : Int), 0 ≤ x → x ≤ l.length → (l.length : Int) - x = d →
    Ev (fun k => schema_Text.l0 k ([s, kind, bs (Lib.itoa b)] ++ (l.take x.toNat).map (fun c => bs (colText c))) l (l.length : Int) x) (bs (textOf s kind b l)) := by
  have hlen : ∀ c ∈ l, (colText c).length ≤ 18 := fun c h => colText_len c (hc c h)
  have hcs : ∀ c ∈ l, c.f0.size ≤ 140737488351232 := fun c h => by
    have := hc c h
    unfold colOk nameOk at this
    simp only [Bool.and_eq_true, decide_eq_true_eq] at this
    omega
  induction d with
  | zero =>
    intro x h0 h1 hd
    refine Ev.succ ?_
    simp only [schema_Text.l0]
    refine Ev.neg (by omega) (Ev.bind1 (a := bs (textOf s kind b l)) ?_ (Ev.now _))
    rw [show x.toNat = l.length by omega, List.take_length]
    have e : Lib.join (([s, kind, bs (Lib.itoa b)] ++ l.map (fun c => bs (colText c))).map fun x => x.data.toList) (⟨#[32]⟩ : ByteArray).data.toList = textOf s kind b l := by
      simp only [data_toList]
      rw [List.map_append, List.map_cons, List.map_cons, List.map_cons, List.map_nil, List.cons_append, Lib.join_cons, toList_bs]
      unfold Lib.joinTail textOf
      simp only [List.cons_append, List.nil_append, List.map_cons, List.flatten_cons, List.append_assoc, List.map_map]
      congr 6
      apply List.map_congr_left
      intro c _
      simp [toList_bs]
    have hz : (textOf s kind b l).length ≤ 200 := by
      unfold textOf
      simp only [List.length_append, toList_size, List.length_singleton]
      have h3 := flat_len l hlen
      have h4 := Lib.itoa_length_le b hb0 hb1
      omega
    unfold strings_Join.f
    rw [e, if_pos (by simp; omega), if_pos (by omega)]
  | succ d ih =>
    intro x h0 h1 hd
    have hlt : x < (l.length : Int) := by omega
    have hlt' : x.toNat < l.length := by omega
    have hr : rd_T82 l x = l[x.toNat] := by
      unfold rd_T82
      rw [List.getD_eq_getElem?_getD, List.getElem?_eq_getElem hlt']
      rfl
    have hi := ih (x + 1) (by omega) (by omega) (by omega)
    refine Ev.succ ?_
    simp only [schema_Text.l0]
    refine Ev.pos hlt (Ev.pos h0 (Ev.pos hlt (Ev.bind1 (a := bs (colText l[x.toNat])) ?_ (Ev.pos ?_ ?_))))
    · rw [hr]
      exact colText_ok _ (hc _ (List.getElem_mem _)) (hcs _ (List.getElem_mem _))
    · simp; omega
    · rw [wrap_in (x := x + 1) (by omega) (by omega)]
      rw [show (x + 1).toNat = x.toNat + 1 by omega, List.take_succ_eq_append_getElem hlt', List.map_append, ← List.append_assoc] at hi
      exact hi

def kindName (a : Int) : ByteArray := if a = 0 then ⟨#[65, 78, 89]⟩ else rdOf ByteArray.empty formNames a
theorem kindName_size (a : Int) : (kindName a).size ≤ 40 := by
  unfold kindName
  split
  · decide
  · unfold rdOf formNames
    match a.toNat with
    | 0 => decide
    | 1 => decide
    | 2 => decide
    | 3 => decide
    | 4 => decide
    | 5 => decide
    | 6 => decide
    | 7 => decide
    | k + 8 => simp
structure GoodS (s : ByteArray) (a b : Int) (l : List Col) : Prop where
  hs : s.size ≤ 12
  ha0 : 0 ≤ a
  ha7 : a ≤ 7
  hb0 : -2147483648 ≤ b
  hb1 : b ≤ 2147483647
  hl : l.length ≤ 4
  hc : ∀ c ∈ l, colOk c = true
theorem goodS_of {s : ByteArray} {a b : Int} {l : List Col} (h : goodR s a b l = 0) : GoodS s a b l := by
  unfold goodR at h
  split at h
  · rename_i h1
    split at h
    · rename_i h2
      unfold headOk nameOk at h1
      simp only [Bool.and_eq_true, decide_eq_true_eq] at h1
      refine ⟨h1.1.2.2, h1.2.1, h1.2.2.1, h1.2.2.2.1, h1.2.2.2.2.1, h1.2.2.2.2.2, fun c hc => ?_⟩
      unfold colsOk at h2
      rw [List.all_eq_true] at h2
      obtain ⟨i, hi⟩ := List.mem_iff_getElem?.1 hc
      have hlt := (List.getElem?_eq_some_iff.1 hi).1
      have h3 := h2 i (List.mem_range.2 hlt)
      rw [Bool.and_eq_true, List.getD_eq_getElem?_getD, hi] at h3
      exact h3.1
    · cases h
  · cases h
theorem shapeName_eq (a : Int) (h0 : 0 ≤ a) (h7 : a ≤ 7) : ∃ r, shape_Name.f a = some r ∧ hachureref13_Name.f a = some r ∧ (a ≠ 0 → r = kindName a) := by
  unfold shape_Name.f hachureref13_Name.f kindName
  by_cases h : a = 0
  · subst h
    exact ⟨⟨#[]⟩, by rw [if_neg (by omega)], by rw [if_pos (by omega)], fun h => absurd rfl h⟩
  · refine ⟨rdOf ByteArray.empty formNames a, by rw [if_pos (by omega), if_pos (by omega)], ?_, fun _ => by rw [if_neg h]⟩
    rw [if_neg (by omega), if_neg (by omega), if_pos (by omega), if_pos (by omega)]
    rfl
theorem text_ev (s : ByteArray) (a b : Int) (l : List Col) (g : GoodS s a b l) : Ev (fun k => schema_Text.f k s a b l) (bs (textOf s (kindName a) b l)) := by
  obtain ⟨r, h1, _, h3⟩ := shapeName_eq a g.ha0 g.ha7
  have hb0 := g.hb0
  have hb1 := g.hb1
  have hl := g.hl
  have hi : strconv_Itoa.f b = some (bs (Lib.itoa b)) := by unfold strconv_Itoa.f; rw [if_pos (by omega), if_pos (by omega)]
  have hlp := text_loop s (kindName a) b l g.hl g.hs (kindName_size a) (by omega) (by omega) g.hc l.length 0 (by omega) (by omega) (by omega)
  simp only [schema_Text.f]
  refine Ev.bind1 h1 (Ev.bind1 hi (Ev.bind1 rfl ?_))
  by_cases h : a = 0
  · refine Ev.pos h (Ev.pos (by simp) (Ev.succ ?_))
    simp only [schema_Text.j0]
    subst h
    simpa [kindName] using hlp
  · refine Ev.neg h (Ev.succ ?_)
    simp only [schema_Text.j0]
    rw [h3 h]
    simpa using hlp
/-- The document's text. -/
theorem refText_loop (l : List Col) (hl : l.length ≤ 4) (hc : ∀ c ∈ l, colOk c = true) (p : List UInt8) (hp : p.length ≤ 200) (d : Nat) : ∀ (x : Int), 0 ≤ x → x ≤ l.length → (l.length : Int) - x = d →
    Ev (fun k => hachureref22_Text.l0 k (bs (p ++ ((l.take x.toNat).map fun c => 32 :: colText c).flatten)) (l.map conv) ((l.map conv).length : Int) x) (bs (p ++ (l.map fun c => 32 :: colText c).flatten)) := by
  have hlen : ∀ c ∈ l, (colText c).length ≤ 18 := fun c h => colText_len c (hc c h)
  induction d with
  | zero =>
    intro x h0 h1 hd
    refine Ev.succ ?_
    simp only [hachureref22_Text.l0]
    refine Ev.neg (by rw [List.length_map]; omega) (Ev.is ?_)
    rw [show x.toNat = l.length by omega, List.take_length]
  | succ d ih =>
    intro x h0 h1 hd
    have hlt : x < (l.length : Int) := by omega
    have hlt' : x.toNat < l.length := by omega
    have hlm : x < ((l.map conv).length : Int) := by rw [List.length_map]; exact hlt
    have hr : rd_T82 l x = l[x.toNat] := by
      unfold rd_T82
      rw [List.getD_eq_getElem?_getD, List.getElem?_eq_getElem hlt']
      rfl
    have hrd := rd_conv l x h0 hlt
    rw [hr] at hrd
    have hi := ih (x + 1) (by omega) (by omega) (by omega)
    have hco := hc _ (List.getElem_mem hlt')
    have hcl := hlen _ (List.getElem_mem hlt')
    have hpre : ((l.take x.toNat).map fun c => 32 :: colText c).flatten.length ≤ 19 * 4 := by
      have := flat_len (l.take x.toNat) (fun c h => hlen c (List.mem_of_mem_take h))
      rw [List.length_take] at this
      omega
    rw [show (x + 1).toNat = x.toNat + 1 by omega, List.take_succ_eq_append_getElem hlt', List.map_append, List.flatten_append, List.map_cons, List.map_nil, List.flatten_cons, List.flatten_nil, List.append_nil, ← List.append_assoc] at hi
    generalize l[x.toNat] = c at *
    generalize ((l.take x.toNat).map fun c => 32 :: colText c).flatten = pre at *
    unfold colOk nameOk at hco
    simp only [Bool.and_eq_true, decide_eq_true_eq] at hco
    have hn := hco.1.2.2
    have ht := typeNames_size c.f1
    refine Ev.succ ?_
    simp only [hachureref22_Text.l0]
    rw [hrd, wrap_in (x := x + 1) (by omega) (by omega)]
    have ec : (conv c).f0 = c.f0 := rfl
    have ek : (conv c).f1 = c.f1 := rfl
    have em : (conv c).f2 = c.f2 := rfl
    rw [ec, ek, em]
    have etn : ([(⟨#[]⟩ : ByteArray), (⟨#[105, 110, 116]⟩ : ByteArray), (⟨#[116, 101, 120, 116]⟩ : ByteArray), (⟨#[102, 108, 97, 103]⟩ : ByteArray)] : List ByteArray) = typeNames := rfl
    rw [etn]
    have z1 : (⟨#[32]⟩ : ByteArray).size = 1 := rfl
    have z2 : (⟨#[58]⟩ : ByteArray).size = 1 := rfl
    have z3 : (⟨#[33]⟩ : ByteArray).size = 1 := rfl
    have hsz : (bs (p ++ pre)).size ≤ 300 := by rw [bs_size, List.length_append]; omega
    have l1 : (⟨#[32]⟩ : ByteArray).toList = [32] := toList_lit [32]
    have l2 : (⟨#[58]⟩ : ByteArray).toList = [58] := toList_lit [58]
    have l3 : (⟨#[33]⟩ : ByteArray).toList = [33] := toList_lit [33]
    refine Ev.pos hlm (Ev.pos h0 (Ev.pos hlm (Ev.pos (by omega) (Ev.pos (by rw [ByteArray.size_append]; omega) (Ev.pos (by omega) (Ev.pos (by omega) (Ev.pos (by simp only [ByteArray.size_append]; omega) (Ev.pos (by simp only [ByteArray.size_append]; omega) ?_))))))))
    by_cases hm : c.f2 = true
    · refine Ev.pos hm (Ev.pos (by simp only [ByteArray.size_append]; omega) ?_)
      have e : bs (p ++ pre ++ 32 :: colText c) = (bs (p ++ pre) ++ ((((⟨#[32]⟩ : ByteArray) ++ c.f0) ++ (⟨#[58]⟩ : ByteArray)) ++ (rdOf ByteArray.empty typeNames c.f1))) ++ (⟨#[33]⟩ : ByteArray) := by
        apply toList_inj
        simp only [toList_app, toList_bs, l1, l2, l3, colText, if_pos hm]
        simp
      rw [← e]
      exact hi
    · refine Ev.neg hm ?_
      have e : bs (p ++ pre ++ 32 :: colText c) = bs (p ++ pre) ++ ((((⟨#[32]⟩ : ByteArray) ++ c.f0) ++ (⟨#[58]⟩ : ByteArray)) ++ (rdOf ByteArray.empty typeNames c.f1)) := by
        apply toList_inj
        simp only [toList_app, toList_bs, l1, l2, colText, if_neg hm]
        simp
      rw [← e]
      exact hi
theorem refText_ev (s : ByteArray) (a b : Int) (l : List Col) (g : GoodS s a b l) : Ev (fun k => hachureref22_Text.f k s a b (l.map conv)) (bs (textOf s (kindName a) b l)) := by
  obtain ⟨r, _, h2, h3⟩ := shapeName_eq a g.ha0 g.ha7
  have hb0 := g.hb0
  have hb1 := g.hb1
  have hs := g.hs
  have hk := kindName_size a
  have z1 : (⟨#[32]⟩ : ByteArray).size = 1 := rfl
  have hil := Lib.itoa_length_le b (by omega) (by omega)
  have l1 : (⟨#[32]⟩ : ByteArray).toList = [32] := toList_lit [32]
  have hj : Ev (fun k => hachureref22_Text.j0 k (kindName a) s a b (l.map conv)) (bs (textOf s (kindName a) b l)) := by
    refine Ev.succ ?_
    simp only [hachureref22_Text.j0]
    refine Ev.pos (by omega) (Ev.pos (by simp only [ByteArray.size_append]; omega) (Ev.pos (by simp only [ByteArray.size_append]; omega) (Ev.bind (digits_ev b (by omega) (by omega)) (Ev.pos (by simp only [ByteArray.size_append, bs_size]; omega) ?_))))
    have h := refText_loop l g.hl g.hc (s.toList ++ [32] ++ (kindName a).toList ++ [32] ++ Lib.itoa b) (by simp only [List.length_append, toList_size, List.length_singleton]; omega) l.length 0 (by omega) (by omega) (by omega)
    have e : bs (s.toList ++ [32] ++ (kindName a).toList ++ [32] ++ Lib.itoa b ++ ((l.take (0 : Int).toNat).map fun c => 32 :: colText c).flatten) = (((s ++ (⟨#[32]⟩ : ByteArray)) ++ kindName a) ++ (⟨#[32]⟩ : ByteArray)) ++ bs (Lib.itoa b) := by
      apply toList_inj
      simp only [toList_app, toList_bs, l1]
      simp
    rw [e] at h
    exact h
  simp only [hachureref22_Text.f]
  refine Ev.bind1 h2 ?_
  by_cases h : a = 0
  · refine Ev.pos h ?_
    have : kindName a = (⟨#[65, 78, 89]⟩ : ByteArray) := by unfold kindName; rw [if_pos h]
    rw [← this]
    exact hj
  · refine Ev.neg h ?_
    rw [h3 h]
    exact hj

/-! ### the law -/
theorem j2_ev (s : ByteArray) (a b : Int) (l : List Col) (hl : l.length ≤ 100) (hs : s.size ≤ 140737488351232) (hc : ∀ c ∈ l, c.f0.size ≤ 140737488351232) :
    Ev (fun k => hachurelaw22_SchemaAsks.j2 k false s a b l s a b (l.map conv)) true := by
  refine Ev.succ ?_
  simp only [hachurelaw22_SchemaAsks.j2]
  refine Ev.neg (by decide) (Ev.bind (refGood_ev s a b l hl hs hc) ?_)
  by_cases h : goodR s a b l = 0
  · have g := goodS_of h
    exact Ev.pos h (Ev.bind (text_ev s a b l g) (Ev.bind (refText_ev s a b l g) (Ev.pos rfl (Ev.bind lives_ev (Ev.now _)))))
  · exact Ev.neg h (Ev.bind lives_ev (Ev.now _))
theorem want_ev (x2 : ByteArray) (x7 : Int) (x8 : Bool) (s1 : ByteArray) (a1 b1 : Int) (l1 : List Col) (s2 : ByteArray) (a2 b2 : Int) (l2 : List Col) (r : Bool)
    (h : Ev (fun k => hachurelaw22_SchemaAsks.l0 k x2 x7 x8 (typeIdx x2 + 1) 3 s1 a1 b1 l1 s2 a2 b2 l2) r) : Ev (fun k => hachurelaw22_SchemaAsks.l0 k x2 x7 x8 0 0 s1 a1 b1 l1 s2 a2 b2 l2) r := by
  have hw0 : wrap64 ((0 : Int) + 1) = 1 := wrap_in (by omega) (by omega)
  have hw1 : wrap64 ((1 : Int) + 1) = 2 := wrap_in (by omega) (by omega)
  have hw2 : wrap64 ((2 : Int) + 1) = 3 := wrap_in (by omega) (by omega)
  have hne : ∀ {a b : ByteArray}, a ≠ b → ¬ a.toList = b.toList := fun h e => h (toList_inj e)
  have e0 : rdOf ByteArray.empty ([(⟨#[105, 110, 116]⟩ : ByteArray), (⟨#[116, 101, 120, 116]⟩ : ByteArray), (⟨#[102, 108, 97, 103]⟩ : ByteArray)] : List ByteArray) 0 = ⟨#[105, 110, 116]⟩ := rfl
  have e1 : rdOf ByteArray.empty ([(⟨#[105, 110, 116]⟩ : ByteArray), (⟨#[116, 101, 120, 116]⟩ : ByteArray), (⟨#[102, 108, 97, 103]⟩ : ByteArray)] : List ByteArray) 1 = ⟨#[116, 101, 120, 116]⟩ := rfl
  have e2 : rdOf ByteArray.empty ([(⟨#[105, 110, 116]⟩ : ByteArray), (⟨#[116, 101, 120, 116]⟩ : ByteArray), (⟨#[102, 108, 97, 103]⟩ : ByteArray)] : List ByteArray) 2 = ⟨#[102, 108, 97, 103]⟩ := rfl
  have hi := typeIdx_eq x2
  have d01 : (⟨#[105, 110, 116]⟩ : ByteArray) ≠ ⟨#[116, 101, 120, 116]⟩ := by decide
  have d02 : (⟨#[105, 110, 116]⟩ : ByteArray) ≠ ⟨#[102, 108, 97, 103]⟩ := by decide
  have d12 : (⟨#[116, 101, 120, 116]⟩ : ByteArray) ≠ ⟨#[102, 108, 97, 103]⟩ := by decide
  by_cases c0 : x2 = ⟨#[105, 110, 116]⟩
  · rw [if_pos c0] at hi
    rw [hi] at h
    refine Ev.succ ?_
    simp only [hachurelaw22_SchemaAsks.l0]
    refine Ev.pos (by decide) (Ev.pos (by decide) (Ev.pos (by rw [e0, c0]) ?_))
    rw [hw0]
    refine Ev.succ ?_
    simp only [hachurelaw22_SchemaAsks.l0]
    refine Ev.pos (by decide) (Ev.pos (by decide) (Ev.neg (by rw [e1, c0]; exact hne d01.symm) ?_))
    rw [hw1]
    refine Ev.succ ?_
    simp only [hachurelaw22_SchemaAsks.l0]
    refine Ev.pos (by decide) (Ev.pos (by decide) (Ev.neg (by rw [e2, c0]; exact hne d02.symm) ?_))
    rw [hw2]
    exact h
  · rw [if_neg c0] at hi
    refine Ev.succ ?_
    simp only [hachurelaw22_SchemaAsks.l0]
    refine Ev.pos (by decide) (Ev.pos (by decide) (Ev.neg (by rw [e0]; exact hne (Ne.symm c0)) ?_))
    rw [hw0]
    by_cases c1 : x2 = ⟨#[116, 101, 120, 116]⟩
    · rw [if_pos c1] at hi
      rw [hi] at h
      refine Ev.succ ?_
      simp only [hachurelaw22_SchemaAsks.l0]
      refine Ev.pos (by decide) (Ev.pos (by decide) (Ev.pos (by rw [e1, c1]) ?_))
      rw [hw1]
      refine Ev.succ ?_
      simp only [hachurelaw22_SchemaAsks.l0]
      refine Ev.pos (by decide) (Ev.pos (by decide) (Ev.neg (by rw [e2, c1]; exact hne d12.symm) ?_))
      rw [hw2]
      exact h
    · rw [if_neg c1] at hi
      refine Ev.succ ?_
      simp only [hachurelaw22_SchemaAsks.l0]
      refine Ev.pos (by decide) (Ev.pos (by decide) (Ev.neg (by rw [e1]; exact hne (Ne.symm c1)) ?_))
      rw [hw1]
      by_cases c2 : x2 = ⟨#[102, 108, 97, 103]⟩
      · rw [if_pos c2] at hi
        rw [hi] at h
        refine Ev.succ ?_
        simp only [hachurelaw22_SchemaAsks.l0]
        refine Ev.pos (by decide) (Ev.pos (by decide) (Ev.pos (by rw [e2, c2]) ?_))
        rw [hw2]
        exact h
      · rw [if_neg c2] at hi
        rw [hi] at h
        refine Ev.succ ?_
        simp only [hachurelaw22_SchemaAsks.l0]
        refine Ev.pos (by decide) (Ev.pos (by decide) (Ev.neg (by rw [e2]; exact hne (Ne.symm c2)) ?_))
        rw [hw2]
        exact h
theorem SchemaAsks (s1 : ByteArray) (a1 b1 : Int) (l1 : List Col) (s2 : ByteArray) (a2 b2 : Int) (l2 : List Col) (x : ByteArray)
    (hs1 : s1.size ≤ 140737488351232) (hc1 : ∀ c ∈ l1, c.f0.size ≤ 140737488351232) (hc2 : ∀ c ∈ l2, c.f0.size ≤ 140737488351232) :
    ∃ k, hachurelaw22_SchemaAsks.f k s1 a1 b1 l1 s2 a2 b2 l2 x = some true := by
  apply Ev.rounds
  have hbad : Ev (fun k => hachurelaw22_SchemaAsks.j0 k x true s1 a1 b1 l1 s2 a2 b2 l2) true := by
    refine Ev.succ ?_
    simp only [hachurelaw22_SchemaAsks.j0]
    exact Ev.pos trivial (Ev.bind lives_ev (Ev.now _))
  obtain ⟨r1, h1, g1⟩ := light_ev s1 a1 b1 l1 hc1
  obtain ⟨r2, h2, g2⟩ := light_ev s2 a2 b2 l2 hc2
  simp only [hachurelaw22_SchemaAsks.f]
  refine Ev.bind h1 ?_
  cases r1 with
  | false => exact Ev.neg (by decide) hbad
  | true =>
    refine Ev.pos rfl (Ev.bind h2 ?_)
    cases r2 with
    | false => exact Ev.neg (by decide) hbad
    | true =>
      refine Ev.pos rfl ?_
      have hl1 := (g1 rfl).1
      have hl2 := (g2 rfl).1
      by_cases hx : (x.size : Int) > 500
      · rw [show decide ((x.size : Int) > 500) = true from decide_eq_true hx]
        exact hbad
      · rw [show decide ((x.size : Int) > 500) = false from decide_eq_false hx]
        refine Ev.succ ?_
        simp only [hachurelaw22_SchemaAsks.j0]
        refine Ev.neg (by decide) (Ev.bind1 (a := (typeIdx x + 1, decide (typeIdx x ≥ 0))) rfl (want_ev x _ _ s1 a1 b1 l1 s2 a2 b2 l2 true ?_))
        refine Ev.succ ?_
        simp only [hachurelaw22_SchemaAsks.l0]
        obtain ⟨rs, hsame1, hsame2⟩ := same_ev s1 a1 b1 l1 s2 a2 b2 l2 (by omega)
        refine Ev.neg (by decide) (Ev.bind (plain_ev s1 a1 b1 l1 (by omega)) (Ev.bind1 (a := goodR s1 a1 b1 l1) rfl (Ev.bind (refGood_ev s1 a1 b1 l1 (by omega) hs1 hc1) (Ev.pos rfl ?_))))
        refine Ev.bind1 (a := nameOk x) rfl (Ev.bind (refName_ev x (by omega)) (Ev.neg (by simp) (Ev.bind hsame1 (Ev.bind (plain_ev s2 a2 b2 l2 (by omega)) (Ev.bind hsame2 (Ev.neg (by simp) (Ev.pos trivial ?_)))))))
        have e : (decide (typeIdx x ≥ 0) != decide (typeIdx x + 1 > 0)) = false := by
          rw [bne_eq_false_iff_eq]
          exact decide_eq_decide.2 (by omega)
        rw [e]
        exact j2_ev s1 a1 b1 l1 (by omega) hs1 hc1
end Go.Proofs.YtojiicbdbajljaaDoor.Q
