-- Printed by a program of this session (wip/myprint.py, over the kit's printer) out of the translation.
import Derived.Test.YtojiicbdbajljaaDoorQx0
import Derived.Test.YtojiicbdbajljaaDoorQx10
import Derived.Test.YtojiicbdbajljaaDoorQx11
namespace Go.Proofs.YtojiicbdbajljaaDoor.Q
open Go.RowKit Go.Proofs.YtojiicbdbajljaaDoorW.PrintWords Go.Proofs.YtojiicbdbajljaaDoorW.PrintLast Go.Proofs.YtojiicbdbajljaaDoorW.PrintMore
attribute [local go_sem] max2_int min2_int max_two min_two max_three min_three max_four min_four   -- for this text's walks alone
set_option linter.unusedVariables false
set_option linter.unusedSimpArgs false

/-! ### schema_Good: function 12 -/
def colOk (c : S82) : Bool := nameOk c.f0 && (decide (1 ≤ c.f1) && decide (c.f1 ≤ 3))
theorem ba_ext {a b : ByteArray} (h : a.toList = b.toList) : a = b := by
  rw [ByteArray.toList_eq, ByteArray.toList_eq] at h
  have := Array.toList_inj.1 h
  cases a; cases b; simp_all
def nameIn (l : List ByteArray) (s : ByteArray) : Bool := l.any fun x => x.toList == s.toList
theorem nameIn_snoc (l : List ByteArray) (x s : ByteArray) : nameIn (l ++ [x]) s = (nameIn l s || (x.toList == s.toList)) := by simp [nameIn]
/-- Are the first k columns good, and no two of one name? -/
def colsOk (l : List S82) (k : Nat) : Bool := (List.range k).all fun i => colOk (l.getD i z82) && !nameIn ((l.take i).map (·.f0)) (l.getD i z82).f0
def headOk (a0_0 : ByteArray) (a0_1 a0_2 : Int) (n : Nat) : Bool := nameOk a0_0 && (decide (0 ≤ a0_1) && (decide (a0_1 ≤ 7) && (decide (-2147483648 ≤ a0_2) && (decide (a0_2 ≤ 2147483647) && decide (n ≤ 4)))))
def schema_Good.f (a0_0 : ByteArray) (a0_1 : Int) (a0_2 : Int) (l0_3 : List (S82)) : Option (Int) := some (if headOk a0_0 a0_1 a0_2 l0_3.length = true then (if colsOk l0_3 l0_3.length = true then 0 else 2) else 2)
theorem colsOk_succ (l : List S82) (k : Nat) : colsOk l (k + 1) = (colsOk l k && (colOk (l.getD k z82) && !nameIn ((l.take k).map (·.f0)) (l.getD k z82).f0)) := by
  unfold colsOk
  rw [List.range_succ, List.all_append]
  simp
theorem colsOk_le {l : List S82} {k n : Nat} (h : k ≤ n) (hk : colsOk l k = false) : colsOk l n = false := by
  induction h with
  | refl => exact hk
  | step _ ih => rw [colsOk_succ, ih]; rfl
theorem good_eq (c : S82) : schema_Column_good.f c.f0 c.f1 c.f2 = some (colOk c) := by
  unfold schema_Column_good.f schema_Name.f colOk
  simp only [Option.bind_some]
  cases nameOk c.f0
  · simp
  · simp only [if_true, Bool.true_and]
    by_cases h : c.f1 ≥ 1
    · rw [if_pos h]; simp [h]
    · rw [if_neg h]; simp; omega
/-- A look-up in a map of bools of the call's own. -/
theorem run_lookup_bool {H : Type} {P : Program} {w : World} {t k e : TypeId} {K : Go.Maps.Keyed P k} {b n : Nat} {D : DataW H} (ht : P.underlying t = some (.map k e)) (he : P.underlying e = some .bool) (hz : (zeroValue e).run P w = .ok (.bool false) w)
    (hown : w.ownsMap P k (plainElem P e) b n D) {key : Value} {kl : Lit} (hkey : keyOf P k key = some kl) {c : Bool} (hat : D.atKey kl (.lit (.bool false)) = .lit (.bool c)) :
    (Instr.lookup t (.map (some b)) key false).run P w = .ok (.bool c) w := by
  obtain ⟨v, ps, hrun, hv⟩ := hown.lookup K ht hz (plainElem_bool he false) hkey
  rw [hat] at hv
  have e1 : v = .bool c := by
    unfold plainElem at hv
    rw [he] at hv
    split at hv
    · simp only [Option.some.injEq, Prod.mk.injEq, DataW.lit.injEq, Lit.bool.injEq] at hv
      rw [hv.1]
    · rename_i h1; cases h1
    · rename_i h1; cases h1
    · cases hv
  rw [hrun, e1]
/-- Which names the map has seen. -/
def Seen (D : DataW Unit) (l : List ByteArray) : Prop := Go.Maps.IsMap D ∧ ∀ s : ByteArray, D.atKey (.string s.data.toList) (.lit (.bool false)) = .lit (.bool (nameIn l s))
theorem Seen.nil : Seen (.map []) [] := ⟨Go.Maps.isMap_empty, fun s => rfl⟩
theorem Seen.put {D : DataW Unit} {l : List ByteArray} (h : Seen D l) (s : ByteArray) : Seen (D.put (.string s.data.toList) (.lit (.bool true))) (l ++ [s]) := by
  refine ⟨h.1.put _ _, fun s' => ?_⟩
  rw [nameIn_snoc]
  by_cases e : s' = s
  · subst e
    rw [Go.Maps.atKey_put_same h.1 (by unfold WideAt.IsKeyLit; simp)]
    simp
  · have e2 : (s.toList == s'.toList) = false := by
      rw [beq_eq_false_iff_ne]
      exact fun e' => e (ba_ext e').symm
    rw [Go.Maps.atKey_put_other (by
      intro e'
      apply e
      injection e' with e'
      exact ba_ext (by rw [ByteArray.toList_eq, ByteArray.toList_eq]; exact e')), h.2 s', e2, Bool.or_false]
theorem owns_below {w w' : World} {P : Program} {k : TypeId} {R : Value → Option (DataW Unit × List MemPlace)} {b n : Nat} {D : DataW Unit} (h : w.ownsMap P k R b n D) (hb : Below w.heap.size w w') : w'.ownsMap P k R b n D := by
  have hlt := h.lt
  obtain ⟨es, clock, h1, h2⟩ := h
  exact ⟨es, clock, (hb.block b hlt).trans h1, h2⟩
/-- What holds at the head of each round. -/
def GoodIn (l : List S82) (cells : Array Value) (w : World) (B M : Nat) (x : Int) (wr : World) : Prop :=
  0 ≤ x ∧ x.toNat ≤ l.length ∧ colsOk l x.toNat = true ∧ wr.heap[B]? = some (.cells cells 24 (0, 0)) ∧ Below w.heap.size w wr ∧
    ∃ D : DataW Unit, wr.ownsMap Tryd.prog 9 (plainElem Tryd.prog 4) M x.toNat D ∧ Seen D ((l.take x.toNat).map (·.f0))
set_option maxRecDepth 100000 in
set_option maxHeartbeats 2000000 in
theorem schema_Good.calls (a0_0 : ByteArray) (a0_1 : Int) (a0_2 : Int) (A0_3 : Option Addr) (c0_3 : Nat) (l0_3 : List (S82)) (r : Int) (w : World) (hr0_3 : Kd.C k82 w A0_3 l0_3.length l0_3) (hc0_3 : l0_3.length ≤ c0_3) (h : schema_Good.f a0_0 a0_1 a0_2 l0_3 = some r) :
    Calls Tryd.prog 12 #[.agg #[.string a0_0, .int .i64 a0_1, .int .i64 a0_2, .slice A0_3 l0_3.length c0_3]] w fun e w' => e = .returned (.int .i64 r) ∧ Below w.heap.size w w' := by
  unfold schema_Good.f at h
  have HR := Aside0.mk hr0_3
  have HC := Aside0.mk hc0_3
  clear hr0_3 hc0_3
  have h1 := Option.some.inj h
  clear h
  have hmm := @run_makeMap Tryd.prog
  have hlen : l0_3.length ≤ 9223372036854775807 := HR.out.2.1
  by_cases hok : headOk a0_0 a0_1 a0_2 l0_3.length = true
  · rw [if_pos hok] at h1
    have H1 := Aside0.mk h1
    clear h1
    unfold headOk at hok
    simp only [Bool.and_eq_true, decide_eq_true_eq] at hok
    obtain ⟨k1, k2, k3, k4, k5, k6⟩ := hok
    have hN : schema_Name.f a0_0 = some true := congrArg some k1
    have HK := Aside0.mk hN
    clear k1 hN
    have hk2 : decide (a0_1 < 0) = false := decide_eq_false (by omega)
    have hk3 : decide (7 < a0_1) = false := decide_eq_false (by omega)
    have hk4 : decide (a0_2 < -2147483648) = false := decide_eq_false (by omega)
    have hk5 : decide (2147483647 < a0_2) = false := decide_eq_false (by omega)
    have hk6 : decide (4 < l0_3.length) = false := decide_eq_false (by omega)
    have hk7 : decide (4 < (l0_3.length : Int)) = false := decide_eq_false (by omega)
    go_enter Tryd.func12, Tryd.ntmps12
    go_wp2_with (go_at_call 14; (with_reducible refine (schema_Name.calls a0_0 true _ HK.out).mono ?_); rintro e w1 ⟨rfl, hb⟩; have BK := Aside0.mk (blk_below (g := w.heap.size) (o := .cells #[.string a0_0, .int .i64 a0_1, .int .i64 a0_2, .slice A0_3 l0_3.length c0_3] 24 (0, 0)) (heap_alloc_new w _) hb); have HB := Aside0.mk (((Below.refl w.heap.size w).alloc (Nat.le_refl _) _).trans (hb.mono (by simp))); clear hb; have hlt := blk_lt BK.out; have hc0 := (blk_cell BK.out 0).trans rfl; have hc1 := (blk_cell BK.out 1).trans rfl;  have hc2 := (blk_cell BK.out 2).trans rfl; have hc3 := (blk_cell BK.out 3).trans rfl)
    go_loopw [40] (fun v wr => ∃ x : Int, v = .int .i64 x ∧ GoodIn l0_3 #[.string a0_0, .int .i64 a0_1, .int .i64 a0_2, .slice A0_3 l0_3.length c0_3] w w.heap.size w1.heap.size x wr) (fun v _ => l0_3.length - (intOf v).toNat)
    case atStart => exact ⟨0, rfl, by omega, by simp, rfl, blk_alloc BK.out _, below_alloc HB.out _, .map [], World.ownsMap_made _ _ _ _, Seen.nil⟩
    case round =>
      obtain ⟨x, rfl, g1, g2, g3, g4, g5, D, g6, g7⟩ := hrel
      have G3 := Aside0.mk g3
      have BK' := Aside0.mk g4
      have HB' := Aside0.mk g5
      have G6 := Aside0.mk g6
      have G7 := Aside0.mk g7
      clear g3 g4 g5 g6 g7
      by_cases hx : x < (l0_3.length : Int)
      · obtain ⟨ad, e, hx0, hx1, hx2⟩ := at_T82 HR.out x g1 hx
        cases e
        replace hx0 := (HB'.out.cell (World.block_lt_of_cell? w _ hx0)).trans hx0
        replace hx1 := (HB'.out.cell (World.block_lt_of_cell? w _ hx1)).trans hx1
        replace hx2 := (HB'.out.cell (World.block_lt_of_cell? w _ hx2)).trans hx2
        have hxb : decide (x < (l0_3.length : Int)) = true := decide_eq_true hx
        have hgd := good_eq (rd_T82 l0_3 x)
        have hcs := colsOk_succ l0_3 x.toNat
        rw [G3.out, Bool.true_and, show l0_3.getD x.toNat z82 = rd_T82 l0_3 x from rfl] at hcs
        have HGD := Aside0.mk hgd
        have HCS := Aside0.mk hcs
        clear hgd hcs
        have g1' := eq_true g1
        generalize hcol : rd_T82 l0_3 x = col at *
        have HCOL := Aside0.mk hcol
        clear hcol
        by_cases hco : colOk col = true
        · rw [hco] at HGD HCS
          have hn1 : x.toNat + 1 ≤ l0_3.length := by omega
          have hkey : keyOf Tryd.prog 9 (.string col.f0) = some (.string col.f0.data.toList) := Go.WideMaps.keyOf_string_mk Tryd.underlying9 (by
            unfold colOk nameOk at hco
            simp only [Bool.and_eq_true, decide_eq_true_eq] at hco
            have := hco.1.2.2
            unfold maxLen
            omega)
          have HKEY := Aside0.mk hkey
          clear hkey
          cases hin : nameIn ((l0_3.take x.toNat).map (·.f0)) col.f0 with
          | true =>
            rw [hin] at HCS
            have HIN := Aside0.mk hin
            clear hin
            have hr : r = 2 := by rw [← H1.out, if_neg]; rw [colsOk_le hn1 HCS.out]; decide
            subst hr
            go_wp2_with (go_at_call 37; (with_reducible refine (schema_Column_good.calls col.f0 col.f1 col.f2 true _ HGD.out).mono ?_); rintro e w2 ⟨rfl, hb⟩; have BK2 := Aside0.mk (blk_below (blk_alloc BK'.out _) hb); have hc3 := (blk_cell BK2.out 3).trans rfl; have BC2 := Aside0.mk (blk_below (heap_alloc_new wr _) hb); have hcc := (blk_cell BC2.out 0).trans rfl; have hlk := run_lookup_bool Tryd.underlying87 Tryd.underlying4 (Tryd.zeroValue4 _) (K := Go.Maps.string_keyed Tryd.underlying9) (owns_below (G6.out.alloc _) hb) (key := .string col.f0) (kl := .string col.f0.data.toList) HKEY.out (c := true) ((G7.out.2 _).trans (by rw [HIN.out])); have HB2 := Aside0.mk ((below_alloc HB'.out _).trans (hb.mono (by have := HB'.out.size; simp; omega))); clear hb)
            go_ret
            exact ⟨rfl, HB2.out⟩
          | false =>
            rw [hin] at HCS
            have HIN := Aside0.mk hin
            clear hin
            go_wp2_with (first | (go_at_call 37; (with_reducible refine (schema_Column_good.calls col.f0 col.f1 col.f2 true _ HGD.out).mono ?_); rintro e w2 ⟨rfl, hb⟩; have BK2 := Aside0.mk (blk_below (blk_alloc BK'.out _) hb); have hc3 := (blk_cell BK2.out 3).trans rfl; have BC2 := Aside0.mk (blk_below (heap_alloc_new wr _) hb); have hcc := (blk_cell BC2.out 0).trans rfl; have hlk := run_lookup_bool Tryd.underlying87 Tryd.underlying4 (Tryd.zeroValue4 _) (K := Go.Maps.string_keyed Tryd.underlying9) (owns_below (G6.out.alloc _) hb) (key := .string col.f0) (kl := .string col.f0.data.toList) HKEY.out (c := false) ((G7.out.2 _).trans (by rw [HIN.out])); have G62 := Aside0.mk (owns_below (G6.out.alloc _) hb); have HB2 := Aside0.mk ((below_alloc HB'.out _).trans (hb.mono (by have := HB'.out.size; simp; omega))); clear hb) | (at_mapUpdate; refine wpList_mapUpdate_own _ rfl _ _ _ 87 rfl 9 4 (Go.Maps.string_keyed Tryd.underlying9) Tryd.underlying87 _ w1.heap.size x.toNat D rfl G62.out (by unfold maxLen; omega) _ _ _ rfl rfl HKEY.out (.lit (.bool true)) [] (plainElem_bool Tryd.underlying4 true) ?_; intro w3 hown3 hgrow3))
            go_roundw
            case rel =>
              have hw : wrap64 (x + 1) = x + 1 := by unfold wrap64; omega
              refine ⟨x + 1, by first | rfl | rw [hw], by omega, by omega, ?_, ?_, ?_, D.put (.string col.f0.data.toList) (.lit (.bool true)), ?_, ?_⟩
              · rw [show (x + 1).toNat = x.toNat + 1 by omega, HCS.out]; rfl
              · exact (hgrow3.block _ (blk_lt BK2.out) (by simp; omega)).trans BK2.out
              · exact HB2.out.grown hgrow3 HB2.out.size (by intro k hk; injection hk with hk; omega)
              · rw [show (x + 1).toNat = x.toNat + 1 by omega]; exact hown3
              · have := G7.out.put col.f0
                rw [show (x + 1).toNat = x.toNat + 1 by omega, List.take_succ_eq_append_getElem (by omega), List.map_append]
                have e1 : l0_3[x.toNat]'(by omega) = col := by rw [← HCOL.out]; unfold rd_T82; rw [List.getD_eq_getElem?_getD, List.getElem?_eq_getElem (by omega)]; rfl
                rw [List.map_cons, List.map_nil, e1]
                exact this
            case measure => simp [intOf]; omega
        · replace hco := Bool.eq_false_iff.2 hco
          rw [hco] at HGD HCS
          have hr : r = 2 := by rw [← H1.out, if_neg]; rw [colsOk_le (show x.toNat + 1 ≤ l0_3.length by omega) HCS.out]; decide
          subst hr
          go_wp2_with (go_at_call 37; (with_reducible refine (schema_Column_good.calls col.f0 col.f1 col.f2 false _ HGD.out).mono ?_); rintro e w2 ⟨rfl, hb⟩; have HB2 := Aside0.mk ((below_alloc HB'.out _).trans (hb.mono (by have := HB'.out.size; simp; omega))); clear hb)
          go_ret
          exact ⟨rfl, HB2.out⟩
      · have hxe : x.toNat = l0_3.length := by omega
        have hr : r = 0 := by rw [← H1.out, if_pos]; rw [← hxe]; exact G3.out
        subst hr
        have hxb : decide (x < (l0_3.length : Int)) = false := decide_eq_false hx
        clear hxe
        go_wp2
        go_ret
        exact ⟨rfl, HB'.out⟩
  · rw [if_neg hok] at h1
    subst h1
    have HO := Aside0.mk hok
    clear hok
    have HH : Aside0 ((nameOk a0_0 = true ∧ 0 ≤ a0_1 ∧ a0_1 ≤ 7 ∧ -2147483648 ≤ a0_2 ∧ a0_2 ≤ 2147483647 ∧ l0_3.length ≤ 4) → False) := ⟨fun hh => HO.out (by unfold headOk; simp only [Bool.and_eq_true, decide_eq_true_eq]; exact hh)⟩
    clear HO
    have hN : schema_Name.f a0_0 = some (nameOk a0_0) := rfl
    generalize nameOk a0_0 = nb at *
    have HN := Aside0.mk hN
    clear hN
    go_enter Tryd.func12, Tryd.ntmps12
    cases nb with
    | false =>
      go_wp2_with (go_at_call 14; (with_reducible refine (schema_Name.calls a0_0 false _ HN.out).mono ?_); rintro e w1 ⟨rfl, hb⟩; have HB := Aside0.mk (((Below.refl w.heap.size w).alloc (Nat.le_refl _) _).trans (hb.mono (by simp))); clear hb)
      go_ret
      exact ⟨rfl, HB.out⟩
    | true =>
      go_wp2_with (go_at_call 14; (with_reducible refine (schema_Name.calls a0_0 true _ HN.out).mono ?_); rintro e w1 ⟨rfl, hb⟩; have BK := Aside0.mk (blk_below (g := w.heap.size) (o := .cells #[.string a0_0, .int .i64 a0_1, .int .i64 a0_2, .slice A0_3 l0_3.length c0_3] 24 (0, 0)) (heap_alloc_new w _) hb); have HB := Aside0.mk (((Below.refl w.heap.size w).alloc (Nat.le_refl _) _).trans (hb.mono (by simp))); clear hb; have hlt := blk_lt BK.out; have hc0 := (blk_cell BK.out 0).trans rfl; have hc1 := (blk_cell BK.out 1).trans rfl;  have hc2 := (blk_cell BK.out 2).trans rfl; have hc3 := (blk_cell BK.out 3).trans rfl)
      all_goals first
        | (go_ret; exact ⟨rfl, HB.out⟩)
        | exact absurd (HH.out ⟨by first | rfl | trivial, by omega, by omega, by omega, by omega, by omega⟩) id


end Go.Proofs.YtojiicbdbajljaaDoor.Q
