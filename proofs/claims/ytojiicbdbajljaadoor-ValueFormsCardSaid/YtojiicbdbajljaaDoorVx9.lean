-- Printed by a program of this session (wip/myprint.py, over the kit's printer) out of the translation.
import Derived.Test.YtojiicbdbajljaaDoorVx0
namespace Go.Proofs.YtojiicbdbajljaaDoor.V
open Go.RowKit Go.Proofs.YtojiicbdbajljaaDoorW.PrintWords Go.Proofs.YtojiicbdbajljaaDoorW.PrintLast Go.Proofs.YtojiicbdbajljaaDoorW.PrintMore
attribute [local go_sem] max2_int min2_int max_two min_two max_three min_three max_four min_four   -- for this text's walks alone
set_option linter.unusedVariables false
set_option linter.unusedSimpArgs false

/-! ### strconv_Itoa: function 40 -/
def strconv_Itoa.f (a0 : Int) : Option (ByteArray) := if -9223372036854775808 ≤ a0 then (if a0 ≤ 9223372036854775807 then some (bs (Lib.itoa a0)) else none) else none
theorem strconv_Itoa.calls (a0 : Int) (r : ByteArray) (w : World) (hG : Gl w) (h : strconv_Itoa.f a0 = some r) :
    Calls Tryd.prog 40 #[.int .i64 a0] w fun e w' => e = .returned (.string r) ∧ Below w.heap.size w w' := by
  unfold strconv_Itoa.f at h
  split at h
  · split at h
    · obtain rfl := Option.some.inj h
      refine (Tryd.strconv_Itoa a0 (by assumption) (by assumption) w hG.pow).mono ?_
      rintro e w' ⟨rfl, k, os, rfl⟩
      exact ⟨rfl, below_grows _ _ _⟩
    · cases h
  · cases h


/-! ### value_quoted: function 80 -/
/-! (*strings.Builder).WriteByte over this program (after the shelf's walk), value.quoted. -/
set_option maxRecDepth 100000 in
set_option maxHeartbeats 2000000 in
theorem wb_copyCheck (B b : Nat) (bs : List Value) (w : World) (h : Lib.IsBuilder 149 5 B b bs w) :
    Calls Tryd.prog 110 #[.pointer (some ⟨b, 0, none⟩)] w fun e w' => e = .returned (.tuple #[]) ∧ (Lib.BuilderAt 149 5 B b (.pointer (some ⟨b, 0, none⟩)) bs w' ∧ Below B w w') := Any.Builder_copyCheck (P := Tryd.prog) (ρ := Tryd.lays165_ren) { Tryd.lays165 with } Tryd.Builder_Extra_165.toX72 B b bs w h
set_option maxRecDepth 100000 in
set_option maxHeartbeats 2000000 in
theorem writeByte_calls (B b : Nat) (bs : List Value) (c : Int) (w : World) (h : Lib.IsBuilder 149 5 B b bs w) (hlen : bs.length + 1 ≤ 140737488355328) (hBw : B ≤ w.heap.size) :
    Calls Tryd.prog 105 #[.pointer (some ⟨b, 0, none⟩), .int .u8 c] w fun e w' => e = .returned .nilIface ∧ (Lib.BuilderAt 149 5 B b (.pointer (some ⟨b, 0, none⟩)) (bs ++ [.int .u8 c]) w' ∧ Below B w w') := by
  obtain ⟨i0, hi, hz0, hz1, hz2⟩ := info_parts Tryd.Builder_Extra_165.infoByte
  have mixed : Tryd.prog.follows .mixedOrders = true := by kernel_rfl
  go_enter Tryd.func105, Tryd.ntmps105
  go_wp2_with (go_at_call 110; refine (wb_copyCheck B b bs _ h).mono ?_)
  rintro e w1 ⟨rfl, h1, hb1⟩
  obtain ⟨hB, v, hbk, hown, hne⟩ := h1
  have c0 : w1.cell? ⟨b, 0, none⟩ = some (.pointer (some ⟨b, 0, none⟩)) := by rw [Lib.cell_of_heap hbk]; rfl
  have c1 : w1.cell? ⟨b, 1, none⟩ = some v := by rw [Lib.cell_of_heap hbk]; rfl
  go_wp2_with (at_builtin; refine wpList_append_own _ rfl _ _ 43 rfl B 5 i0 (.int .u8 0) 1 1 Tryd.underlying43 hi hz0 hz1 hz2 rfl (by decide) _ _ _ rfl (hown.alloc _) ⟨w1.heap.size, 0, none⟩ 1 1 [.int .u8 c] rfl rfl ?c1 ?c2 ?c3 ?c4 ?c5 ?_)
  case c1 =>
    intro j u hj
    match j, hj with
    | 0, hj => simp at hj; subst hj; simp [Addr.add]
  case c2 => intro u hu; simp at hu; subst hu; rfl
  case c3 => unfold maxLen; omega
  case c4 => omega
  case c5 => have := hb1.size; simp; omega
  intro v' w2 hown' hgrow _
  have hlt : b < w1.heap.size := by
    rcases Nat.lt_or_ge b w1.heap.size with h' | h'
    · exact h'
    · simp [Array.getElem?_eq_none h'] at hbk
  have hb2 : w2.heap[b]? = some (.cells #[.pointer (some ⟨b, 0, none⟩), v] 149 (0, 0)) := by
    rw [hgrow.block b (by simp; omega) (fun e => hne e.symm), Lib.alloc_old w1 _ b hlt]
    exact hbk
  have d0 : w2.cell? ⟨b, 0, none⟩ = some (.pointer (some ⟨b, 0, none⟩)) := by rw [Lib.cell_of_heap hb2]; rfl
  have d1 : w2.cell? ⟨b, 1, none⟩ = some v := by rw [Lib.cell_of_heap hb2]; rfl
  have f1 : w2.frozen? ⟨b, 1, none⟩ = false := Lib.frozen_of_heap hb2 1
  obtain ⟨g, cap, rfl⟩ : ∃ g cap, v' = .slice (some ⟨g, 0, none⟩) (bs.length + 1) cap := by
    rcases hown'.2 with ⟨_, h0⟩ | ⟨g, cap, cur, hv, _⟩
    · omega
    · exact ⟨g, cap, hv⟩
  go_wp2
  go_ret
  refine ⟨rfl, ?_, ?_⟩
  · exact Lib.BuilderAt.put (T := 149) (e := 5) hB hb2 (bs' := bs ++ [.int .u8 c]) (by simpa using hown') Tryd.Builder_Extra_165.neB5
  · exact ((hb1.alloc (by have := hb1.size; omega) _).grown hgrow (by have := hb1.size; simp; omega) (fun k hk => (hown.lt k hk).1)).setCell (p := ⟨b, 1, none⟩) hB _
def quoteC (c : UInt8) : List UInt8 := if c = 34 ∨ c = 92 then [92, c] else [c]
def quoteN (s : ByteArray) (n : Nat) : List UInt8 := 34 :: (s.data.toList.take n).flatMap quoteC
def value_quoted.f (a0 : ByteArray) : Option (ByteArray) := if a0.size ≤ 60000000000000 then some ⟨(quoteN a0 a0.size ++ [34]).toArray⟩ else none
theorem quoteN_succ (s : ByteArray) (n : Nat) (c : UInt8) (h : s.data.toList[n]? = some c) : quoteN s (n + 1) = quoteN s n ++ quoteC c := by
  unfold quoteN
  obtain ⟨hl, hc⟩ := List.getElem?_eq_some_iff.1 h
  rw [List.take_succ_eq_append_getElem hl, List.flatMap_append, hc]
  simp
theorem quoteN_length (s : ByteArray) (n : Nat) : (quoteN s n).length ≤ 1 + 2 * n := by
  unfold quoteN
  induction n with
  | zero => simp
  | succ n ih =>
    by_cases h : n < s.data.toList.length
    · rw [List.take_succ_eq_append_getElem h, List.flatMap_append]
      have : ([s.data.toList[n]].flatMap quoteC).length ≤ 2 := by
        simp only [List.flatMap_cons, List.flatMap_nil, List.append_nil]
        unfold quoteC
        split <;> simp
      simp only [List.length_cons, List.length_append] at ih ⊢
      omega
    · rw [List.take_of_length_le (by omega)] at ih ⊢
      omega
theorem byteCells_snoc (l : List UInt8) (c : UInt8) (i : Int) (h : (c.toNat : Int) = i) : Lib.byteCells l ++ [Value.int .u8 i] = Lib.byteCells (l ++ [c]) := by
  subst h
  simp [Lib.byteCells]
theorem byteCells_length (l : List UInt8) : (Lib.byteCells l).length = l.length := by simp [Lib.byteCells]
theorem used_is {T e : TypeId} {B b : Nat} {bs : List Value} {w : World} (h : Lib.BuilderAt T e B b (.pointer (some ⟨b, 0, none⟩)) bs w) : Lib.IsBuilder T e B b bs w := .inr h
theorem intOf_int2 (k : IntKind) (x : Int) : intOf (.int k x) = x := rfl
theorem meas_lt2 {x K : Nat} {z : Int} (h : x < K) (hz : z = ((x + 1 : Nat) : Int)) : K - (intOf (Value.int .i64 z)).toNat < K - (intOf (Value.int .i64 (x : Int))).toNat := by
  rw [intOf_int2, intOf_int2, hz]
  omega
set_option maxRecDepth 100000 in
set_option maxHeartbeats 2000000 in
theorem value_quoted.calls (a0 : ByteArray) (r : ByteArray) (w : World) (h : value_quoted.f a0 = some r) :
    Calls Tryd.prog 80 #[.string a0] w fun e w' => e = .returned (.string r) ∧ Below w.heap.size w w' := by
  unfold value_quoted.f at h
  have LM : Aside0 (a0.size ≤ 60000000000000) := by
    by_cases c : a0.size ≤ 60000000000000
    · exact ⟨c⟩
    · rw [if_neg c] at h; cases h
  rw [if_pos LM.out] at h
  have HH := Aside0.mk (Option.some.inj h)
  clear h
  have hbk : (w.alloc (.cells #[.pointer none, .slice none 0 0] 149 (0, 0))).heap[w.heap.size]? = some (.cells #[.pointer none, .slice none 0 0] 149 (0, 0)) := heap_alloc_new w _
  have H0 : Aside0 (Lib.IsBuilder 149 5 w.heap.size w.heap.size (Lib.byteCells []) (w.alloc (.cells #[.pointer none, .slice none 0 0] 149 (0, 0)))) := ⟨.inl ⟨Nat.le_refl _, .slice none 0 0, hbk, own_nil _ _ _ _, by simp [Value.ownBlock]⟩⟩
  clear hbk
  go_enter Tryd.func80, Tryd.ntmps80
  go_wp2_with (go_at_call 105; (with_reducible refine (writeByte_calls w.heap.size w.heap.size (Lib.byteCells []) 34 _ H0.out (by simp [Lib.byteCells]) (by simp)).mono ?_); rintro e w1 ⟨rfl, hb1, hb⟩; rw [byteCells_snoc [] 34 34 rfl] at hb1; have HA := Aside0.mk hb1; have HB := Aside0.mk (((Below.refl w.heap.size w).alloc (Nat.le_refl _) _).trans hb); clear hb1 hb)
  go_loopw [8] (fun v8 wr => ∃ x : Nat, v8 = .int .i64 x ∧ Aside0 (x ≤ a0.size) ∧ Aside0 (Lib.BuilderAt 149 5 w.heap.size w.heap.size (.pointer (some ⟨w.heap.size, 0, none⟩)) (Lib.byteCells (quoteN a0 x)) wr) ∧ Aside0 (Below w.heap.size w wr)) (fun v8 _ => a0.size - (intOf v8).toNat)
  case atStart => exact ⟨0, rfl, ⟨Nat.zero_le _⟩, HA, HB⟩
  case round =>
    obtain ⟨x, rfl, HX, HA', HB'⟩ := hrel
    by_cases hlt : x < a0.size
    · have hlb : decide ((x : Int) < (a0.size : Int)) = true := decide_eq_true (by omega)
      have p4 : (0 ≤ (x : Int)) = True := eq_true (by omega)
      have q4 : ((x : Int) < (a0.size : Int)) = True := eq_true (by omega)
      have hx4 : ∀ h : x < a0.size, ((a0[x]'h).toNat : Int) = bt a0 (x : Int) := fun h => bt_at a0 (x : Int) h
      obtain ⟨c8, hc8⟩ : ∃ c8 : UInt8, a0.data.toList[x]? = some c8 := ⟨_, List.getElem?_eq_getElem (by rw [data_length]; omega)⟩
      have hcb : (c8.toNat : Int) = bt a0 (x : Int) := by
        rw [← hx4 hlt]
        obtain ⟨_, hc⟩ := List.getElem?_eq_some_iff.1 hc8
        rw [← hc]
        rfl
      have hw_ : wrap64 ((x : Int) + 1) = ((x + 1 : Nat) : Int) := by unfold wrap64; have := LM.out; omega
      have HW_ := Aside0.mk hw_
      have HS := Aside0.mk (quoteN_succ a0 x c8 hc8)
      have HCB := Aside0.mk hcb
      have HLEN := Aside0.mk (quoteN_length a0 x)
      clear hw_ hc8 hcb
      have hrange := bt_range a0 (x : Int)
      generalize bt a0 (x : Int) = c at *
      by_cases hq : c8 = 34 ∨ c8 = 92
      · have hs2 : quoteN a0 (x + 1) = (quoteN a0 x ++ [92]) ++ [c8] := by
          rw [HS.out]
          unfold quoteC
          rw [if_pos hq, List.append_assoc]
          rfl
        have HS2 := Aside0.mk hs2
        clear hs2
        rcases hq with hq | hq
        · have hc : c = 34 := by rw [← HCB.out, hq]; rfl
          subst hc
          clear hq
          go_wp2_with first | (go_at_call 105; (with_reducible refine (writeByte_calls w.heap.size w.heap.size (Lib.byteCells (quoteN a0 x)) _ _ (used_is HA'.out) ?hlen HB'.out.size).mono ?_); (case hlen => have := HLEN.out; have := LM.out; have := HX.out; rw [byteCells_length]; (try simp only [List.length_append, List.length_cons, List.length_nil]); omega); rintro e w2 ⟨rfl, hb1, hb⟩; rw [byteCells_snoc _ 92 92 rfl] at hb1; have HA2 := Aside0.mk hb1; have HB2 := Aside0.mk (HB'.out.trans hb); clear hb1 hb) | (go_at_call 105; (with_reducible refine (writeByte_calls w.heap.size w.heap.size (Lib.byteCells (quoteN a0 x ++ [92])) _ _ (used_is HA2.out) ?hlen HB2.out.size).mono ?_); (case hlen => have := HLEN.out; have := LM.out; have := HX.out; rw [byteCells_length]; (try simp only [List.length_append, List.length_cons, List.length_nil]); omega); rintro e w3 ⟨rfl, hb1, hb⟩; rw [byteCells_snoc _ c8 _ HCB.out] at hb1; have HA3 := Aside0.mk hb1; have HB3 := Aside0.mk (HB2.out.trans hb); clear hb1 hb)
          go_roundw
          case rel => exact ⟨x + 1, congrArg (Value.int .i64) HW_.out, ⟨by omega⟩, ⟨by rw [HS2.out]; exact HA3.out⟩, HB3⟩
          case measure => exact meas_lt2 hlt HW_.out
        · have hc : c = 92 := by rw [← HCB.out, hq]; rfl
          subst hc
          clear hq
          go_wp2_with first | (go_at_call 105; (with_reducible refine (writeByte_calls w.heap.size w.heap.size (Lib.byteCells (quoteN a0 x)) _ _ (used_is HA'.out) ?hlen HB'.out.size).mono ?_); (case hlen => have := HLEN.out; have := LM.out; have := HX.out; rw [byteCells_length]; (try simp only [List.length_append, List.length_cons, List.length_nil]); omega); rintro e w2 ⟨rfl, hb1, hb⟩; rw [byteCells_snoc _ 92 92 rfl] at hb1; have HA2 := Aside0.mk hb1; have HB2 := Aside0.mk (HB'.out.trans hb); clear hb1 hb) | (go_at_call 105; (with_reducible refine (writeByte_calls w.heap.size w.heap.size (Lib.byteCells (quoteN a0 x ++ [92])) _ _ (used_is HA2.out) ?hlen HB2.out.size).mono ?_); (case hlen => have := HLEN.out; have := LM.out; have := HX.out; rw [byteCells_length]; (try simp only [List.length_append, List.length_cons, List.length_nil]); omega); rintro e w3 ⟨rfl, hb1, hb⟩; rw [byteCells_snoc _ c8 _ HCB.out] at hb1; have HA3 := Aside0.mk hb1; have HB3 := Aside0.mk (HB2.out.trans hb); clear hb1 hb)
          go_roundw
          case rel => exact ⟨x + 1, congrArg (Value.int .i64) HW_.out, ⟨by omega⟩, ⟨by rw [HS2.out]; exact HA3.out⟩, HB3⟩
          case measure => exact meas_lt2 hlt HW_.out
      · have hs2 : quoteN a0 (x + 1) = quoteN a0 x ++ [c8] := by
          rw [HS.out]
          unfold quoteC
          rw [if_neg hq]
        have HS2 := Aside0.mk hs2
        have hn1 : (c == 34) = false := beq_eq_false_iff_ne.2 (fun e => hq (.inl (by rw [e] at HCB; exact UInt8.toNat_inj.1 (by have := HCB.out; show c8.toNat = 34; omega))))
        have hn2 : (c == 92) = false := beq_eq_false_iff_ne.2 (fun e => hq (.inr (by rw [e] at HCB; exact UInt8.toNat_inj.1 (by have := HCB.out; show c8.toNat = 92; omega))))
        clear hs2 hq
        go_wp2_with (go_at_call 105; (with_reducible refine (writeByte_calls w.heap.size w.heap.size (Lib.byteCells (quoteN a0 x)) _ _ (used_is HA'.out) ?hlen HB'.out.size).mono ?_); (case hlen => have := HLEN.out; have := LM.out; have := HX.out; rw [byteCells_length]; (try simp only [List.length_append, List.length_cons, List.length_nil]); omega); rintro e w2 ⟨rfl, hb1, hb⟩; rw [byteCells_snoc _ c8 _ HCB.out] at hb1; have HA2 := Aside0.mk hb1; have HB2 := Aside0.mk (HB'.out.trans hb); clear hb1 hb)
        go_roundw
        case rel => exact ⟨x + 1, congrArg (Value.int .i64) HW_.out, ⟨by omega⟩, ⟨by rw [HS2.out]; exact HA2.out⟩, HB2⟩
        case measure => exact meas_lt2 hlt HW_.out
    · have hlb : decide ((x : Int) < (a0.size : Int)) = false := decide_eq_false (by omega)
      have hxe : x = a0.size := by have := HX.out; omega
      subst hxe
      have HLEN := Aside0.mk (quoteN_length a0 a0.size)
      go_wp2_with first | (go_at_call 105; (with_reducible refine (writeByte_calls w.heap.size w.heap.size (Lib.byteCells (quoteN a0 a0.size)) _ _ (used_is HA'.out) ?hlen HB'.out.size).mono ?_); (case hlen => have := HLEN.out; have := LM.out; have := HX.out; rw [byteCells_length]; (try simp only [List.length_append, List.length_cons, List.length_nil]); omega); rintro e w2 ⟨rfl, hb1, hb⟩; rw [byteCells_snoc _ 34 34 rfl] at hb1; have HA2 := Aside0.mk hb1; have HB2 := Aside0.mk (HB'.out.trans hb); clear hb1 hb) | (go_at_call 89; (with_reducible refine (Tryd.Builder_String_any w.heap.size w.heap.size (quoteN a0 a0.size ++ [34]) _ (used_is HA2.out) HB2.out.size).mono ?_); rintro e w3 ⟨he, hb⟩; rw [HH.out] at he; subst he; have HB3 := Aside0.mk (HB2.out.trans hb); clear hb)
      go_ret
      exact ⟨rfl, HB3.out⟩


end Go.Proofs.YtojiicbdbajljaaDoor.V
