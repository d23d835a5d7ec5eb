-- Printed by a program of this session (wip/myprint.py, over the kit's printer) out of the translation.
import Derived.Test.YtojiicbdbajljaaDoorVx0
namespace Go.Proofs.YtojiicbdbajljaaDoor.V
open Go.RowKit Go.Proofs.YtojiicbdbajljaaDoorW.PrintWords Go.Proofs.YtojiicbdbajljaaDoorW.PrintLast Go.Proofs.YtojiicbdbajljaaDoorW.PrintMore
attribute [local go_sem] max2_int min2_int max_two min_two max_three min_three max_four min_four   -- for this text's walks alone
set_option linter.unusedVariables false
set_option linter.unusedSimpArgs false

/-! ### value_of: function 47 -/
/-- What value.of makes. -/
def ofV (k n : Int) (s : ByteArray) : Value :=
  if k = 0 ∧ n = 0 ∧ s.toList = [] then .iface 132 (.agg #[])
  else if k = 1 ∧ s.toList = [] then .iface 139 (.int .i64 n)
  else if k = 2 ∧ n = 0 then .iface 134 (.string s)
  else if k = 3 ∧ s.toList = [] ∧ (n = 0 ∨ n = 1) then .iface 133 (.bool (n == 1))
  else .nilIface
set_option maxRecDepth 100000 in
theorem of_calls (k n : Int) (s : ByteArray) (w : World) :
    Calls Tryd.prog 47 #[.agg #[.int .i64 k, .int .i64 n, .string s]] w fun e w' => e = .returned (ofV k n s) ∧ Below w.heap.size w w' := by
  go_enter Tryd.func47, Tryd.ntmps47
  go_wp2
  all_goals
    go_ret
    refine ⟨?_, (Below.refl _ _).alloc (Nat.le_refl _) _⟩
    unfold ofV
    simp_all
def value_of.f (a0_0 : Int) (a0_1 : Int) (a0_2 : ByteArray) : Option (Value) := some (ofV a0_0 a0_1 a0_2)
theorem value_of.calls (a0_0 : Int) (a0_1 : Int) (a0_2 : ByteArray) (r : Value) (w : World) (h : value_of.f a0_0 a0_1 a0_2 = some r) :
    Calls Tryd.prog 47 #[.agg #[.int .i64 a0_0, .int .i64 a0_1, .string a0_2]] w fun e w' => e = .returned (r) ∧ Below w.heap.size w w' := by
  obtain rfl := Option.some.inj h
  exact of_calls a0_0 a0_1 a0_2 w


/-! ### value_Good: function 34 -/
/-! strings.HasPrefix, value.right, value.of, value.Good. -/
def hasPre (s p : ByteArray) : Bool := decide (p.size ≤ s.size) && ((s.extract 0 p.size).toList == p.toList)
theorem hasPre_calls (s p : ByteArray) (w : World) :
    Calls Tryd.prog 168 #[.string s, .string p] w fun e w' => e = .returned (.bool (hasPre s p)) ∧ w' = w := by
  go_enter Tryd.func168, Tryd.ntmps168
  go_wp2
  · rename_i h
    go_ret
    refine ⟨?_, rfl⟩
    show Ending.returned (Value.bool ((s.extract 0 p.size).toList == p.toList)) = _
    unfold hasPre
    simp [h]
  · rename_i h
    go_ret
    refine ⟨?_, rfl⟩
    show Ending.returned (Value.bool false) = _
    unfold hasPre
    simp [h]
def fffd : ByteArray := ⟨#[239, 191, 189]⟩
def rightAt (s : ByteArray) (pos : Nat) : Bool := !((Utf8.decode s pos).1 == 65533) || hasPre (s.extract pos s.size) fffd
def rightFrom (s : ByteArray) : Nat → Nat → Bool
  | 0, _ => true
  | k + 1, pos => if pos < s.size then rightAt s pos && rightFrom s k (pos + (Utf8.decode s pos).2) else true
def rightB (s : ByteArray) : Bool := rightFrom s (s.size + 1) 0
theorem decode_wide (s : ByteArray) (pos : Nat) (h : pos < s.size) : 1 ≤ (Utf8.decode s pos).2 := by
  by_cases ha : (s[pos]'h).toNat < 128
  · rw [decode_ascii s pos h ha]
    exact Nat.le_refl _
  · exact (decode_high s pos h (by omega)).2
def RightIn (s : ByteArray) (w w' : World) : Prop := ∃ pos k : Nat, w' = w.iter s pos ∧ rightFrom s k pos = rightB s ∧ s.size + 1 ≤ k + pos
set_option maxRecDepth 100000 in
theorem right_calls (a0 : ByteArray) (w : World) :
    Calls Tryd.prog 167 #[.string a0] w fun e w' => e = .returned (.bool (rightB a0)) ∧ Below w.heap.size w w' := by
  go_enter Tryd.func167, Tryd.ntmps167
  go_wp2
  go_loopw [2] (fun v2 w' => v2 = .bool false ∧ RightIn a0 w w') (fun _ w' => a0.size - w'.iterPos w.heap.size)
  case atStart => exact ⟨rfl, 0, a0.size + 1, rfl, rfl, by omega⟩
  case round =>
    obtain ⟨rfl, pos, k, rfl, hk, hf⟩ := hrel
    have HK := Aside0.mk hk
    clear hk
    by_cases hp : pos < a0.size
    · have hnx : ∀ ty, (Instr.next (.pointer (some ⟨w.heap.size, 0, none⟩)) true ty).run Tryd.prog (w.iter a0 pos) = _ := fun ty => run_next_any w a0 pos ty hp
      have hwd := decode_wide a0 pos hp
      obtain ⟨k', rfl⟩ : ∃ k', k = k' + 1 := ⟨k - 1, by omega⟩
      have hst : rightFrom a0 (k' + 1) pos = (rightAt a0 pos && rightFrom a0 k' (pos + (Utf8.decode a0 pos).2)) := by
        show (if pos < a0.size then _ else _) = _
        rw [if_pos hp]
      unfold rightAt at hst
      have hpi : (0 : Int) ≤ (pos : Int) := by omega
      have hpl : (pos : Int) ≤ (a0.size : Int) := by omega
      have HST := Aside0.mk hst
      clear hst
      generalize (Utf8.decode a0 pos).1 = c at *
      generalize (Utf8.decode a0 pos).2 = wd at *
      by_cases hc : c = 65533
      · subst hc
        cases hh : hasPre (a0.extract pos a0.size) { data := #[239, 191, 189] } with
        | true =>
          have HH := Aside0.mk hh
          clear hh
          go_wp2_with (go_at_call 168; (with_reducible refine (hasPre_calls _ _ _).mono ?_); rintro e w1 ⟨he, rfl⟩; rw [HH.out] at he; subst he)
          go_roundw
          case rel =>
            refine ⟨rfl, pos + wd, k', rfl, ?_, by omega⟩
            rw [← HK.out, HST.out, show hasPre (a0.extract pos a0.size) fffd = true from HH.out]
            simp
          case measure => simp only [World.iterPos_iter]; omega
        | false =>
          have HH := Aside0.mk hh
          clear hh
          go_wp2_with (go_at_call 168; (with_reducible refine (hasPre_calls _ _ _).mono ?_); rintro e w1 ⟨he, rfl⟩; rw [HH.out] at he; subst he)
          go_ret
          refine ⟨?_, (Below.refl _ _).alloc (Nat.le_refl _) _⟩
          rw [← HK.out, HST.out, show hasPre (a0.extract pos a0.size) fffd = false from HH.out]
          rfl
      · have hcb : ((c : Int) == 65533) = false := beq_eq_false_iff_ne.2 (by omega)
        have hcn : (c == 65533) = false := beq_eq_false_iff_ne.2 hc
        rw [hcn] at HST
        have HST' := HST
        clear HST hcn
        go_wp2
        go_roundw
        case rel =>
          refine ⟨rfl, pos + wd, k', rfl, ?_, by omega⟩
          rw [← HK.out, HST'.out]
          simp
        case measure => simp only [World.iterPos_iter]; omega
    · have hnx : ∀ ty, (Instr.next (.pointer (some ⟨w.heap.size, 0, none⟩)) true ty).run Tryd.prog (w.iter a0 pos) = _ := fun ty => run_next_end w a0 pos ty hp
      have hre : rightB a0 = true := by
        rw [← HK.out]
        cases k with
        | zero => rfl
        | succ k => show (if pos < a0.size then _ else _) = _; rw [if_neg hp]
      have HRE := Aside0.mk hre
      clear hre
      go_wp2
      go_ret
      exact ⟨by rw [HRE.out] <;> rfl, (Below.refl _ _).alloc (Nat.le_refl _) _⟩

/-- May a value be? -/
def goodV (k n : Int) (s : ByteArray) : Bool :=
  (decide (k = 0) && (decide (n = 0) && s.toList.isEmpty)) || ((decide (k = 1) && s.toList.isEmpty) || ((decide (k = 2) && (decide (n = 0) && (decide (s.size ≤ 200) && rightB s))) || (decide (k = 3) && (s.toList.isEmpty && (decide (n = 0) || decide (n = 1))))))
theorem ofV_cases (k n : Int) (s : ByteArray) :
    (ofV k n s = .iface 132 (.agg #[]) ∧ goodV k n s = true ∧ k = 0 ∧ n = 0 ∧ s.toList = []) ∨
    (ofV k n s = .iface 139 (.int .i64 n) ∧ goodV k n s = true ∧ k = 1 ∧ s.toList = []) ∨
    (ofV k n s = .iface 134 (.string s) ∧ goodV k n s = (decide (s.size ≤ 200) && rightB s) ∧ k = 2 ∧ n = 0) ∨
    (ofV k n s = .iface 133 (.bool (n == 1)) ∧ goodV k n s = true ∧ k = 3 ∧ s.toList = [] ∧ (n = 0 ∨ n = 1)) ∨
    (ofV k n s = .nilIface ∧ goodV k n s = false) := by
  unfold ofV goodV
  by_cases c0 : k = 0 ∧ n = 0 ∧ s.toList = []
  · exact .inl (by rw [if_pos c0]; obtain ⟨rfl, rfl, h⟩ := c0; simp [h])
  · rw [if_neg c0]
    by_cases c1 : k = 1 ∧ s.toList = []
    · exact .inr (.inl (by rw [if_pos c1]; obtain ⟨rfl, h⟩ := c1; simp [h]))
    · rw [if_neg c1]
      by_cases c2 : k = 2 ∧ n = 0
      · exact .inr (.inr (.inl (by rw [if_pos c2]; obtain ⟨rfl, rfl⟩ := c2; simp)))
      · rw [if_neg c2]
        by_cases c3 : k = 3 ∧ s.toList = [] ∧ (n = 0 ∨ n = 1)
        · exact .inr (.inr (.inr (.inl (by rw [if_pos c3]; obtain ⟨rfl, h, h2⟩ := c3; simp [h, h2]))))
        · rw [if_neg c3]
          refine .inr (.inr (.inr (.inr ⟨rfl, ?_⟩)))
          rw [Bool.eq_false_iff]
          intro e
          simp only [Bool.or_eq_true, Bool.and_eq_true, decide_eq_true_eq, List.isEmpty_iff] at e
          rcases e with e | e | e | e
          · exact c0 ⟨e.1, e.2.1, e.2.2⟩
          · exact c1 e
          · exact c2 ⟨e.1, e.2.1⟩
          · exact c3 e
theorem nothing_good (w : World) : Calls Tryd.prog 164 #[.agg #[]] w fun e w' => e = .returned (.bool true) ∧ Below w.heap.size w w' := by
  go_enter Tryd.func164, Tryd.ntmps164
  go_wp2
  go_ret
  exact ⟨rfl, (Below.refl _ _).alloc (Nat.le_refl _) _⟩
theorem number_good (n : Int) (w : World) : Calls Tryd.prog 170 #[.int .i64 n] w fun e w' => e = .returned (.bool true) ∧ Below w.heap.size w w' := by
  go_enter Tryd.func170, Tryd.ntmps170
  go_wp2
  go_ret
  exact ⟨rfl, Below.refl _ _⟩
theorem flag_good (b : Bool) (w : World) : Calls Tryd.prog 165 #[.bool b] w fun e w' => e = .returned (.bool true) ∧ Below w.heap.size w w' := by
  go_enter Tryd.func165, Tryd.ntmps165
  go_wp2
  go_ret
  exact ⟨rfl, Below.refl _ _⟩
theorem text_good (s : ByteArray) (w : World) : Calls Tryd.prog 166 #[.string s] w fun e w' => e = .returned (.bool (decide (s.size ≤ 200) && rightB s)) ∧ Below w.heap.size w w' := by
  go_enter Tryd.func166, Tryd.ntmps166
  have HB0 := Aside0.mk (Below.refl w.heap.size w)
  by_cases hs : s.size ≤ 200
  · have hb1 : decide ((s.size : Int) ≤ 200) = true := decide_eq_true (by omega)
    have hd : decide (s.size ≤ 200) = true := decide_eq_true hs
    have HD := Aside0.mk hd
    clear hd
    go_wp2_with (go_at_call 167; (with_reducible refine (right_calls _ _).mono ?_); rintro e w2 ⟨rfl, hb⟩; have HB2 := Aside0.mk hb; clear hb)
    go_ret
    exact ⟨by rw [HD.out, Bool.true_and] <;> rfl, HB2.out⟩
  · have hb1 : decide ((s.size : Int) ≤ 200) = false := decide_eq_false (by omega)
    have hd : decide (s.size ≤ 200) = false := decide_eq_false hs
    have HD := Aside0.mk hd
    clear hd
    go_wp2
    go_ret
    exact ⟨by rw [HD.out, Bool.false_and] <;> rfl, HB0.out⟩
theorem meth_nothing (v : Value) (w : World) : (method 323 132 v "hachure/value.good").run Tryd.prog w = .ok (164, v) w := by kernel_rfl
theorem meth_number (v : Value) (w : World) : (method 323 139 v "hachure/value.good").run Tryd.prog w = .ok (170, v) w := by kernel_rfl
theorem meth_text (v : Value) (w : World) : (method 323 134 v "hachure/value.good").run Tryd.prog w = .ok (166, v) w := by kernel_rfl
theorem meth_flag (v : Value) (w : World) : (method 323 133 v "hachure/value.good").run Tryd.prog w = .ok (165, v) w := by kernel_rfl
def value_Good.f (a0_0 : Int) (a0_1 : Int) (a0_2 : ByteArray) : Option (Bool) := some (goodV a0_0 a0_1 a0_2)
set_option maxRecDepth 100000 in
theorem value_Good.calls (a0_0 : Int) (a0_1 : Int) (a0_2 : ByteArray) (r : Bool) (w : World) (h : value_Good.f a0_0 a0_1 a0_2 = some r) :
    Calls Tryd.prog 34 #[.agg #[.int .i64 a0_0, .int .i64 a0_1, .string a0_2]] w fun e w' => e = .returned (.bool r) ∧ Below w.heap.size w w' := by
  have h := Option.some.inj h
  subst h
  obtain ⟨v, hv⟩ : ∃ v, ofV a0_0 a0_1 a0_2 = v := ⟨_, rfl⟩
  have HV := Aside0.mk hv
  rcases ofV_cases a0_0 a0_1 a0_2 with ⟨h1, h2, -⟩ | ⟨h1, h2, -⟩ | ⟨h1, h2, -⟩ | ⟨h1, h2, -⟩ | ⟨h1, h2⟩
  all_goals
    rw [hv] at h1
    subst h1
    clear hv
    have H2 := Aside0.mk h2
    clear h2
    have hm1 := meth_nothing (.agg #[])
    have hm2 := meth_number (.int .i64 a0_1)
    have hm3 := meth_text (.string a0_2)
    have hm4 := meth_flag (.bool (a0_1 == 1))
    go_enter Tryd.func34, Tryd.ntmps34
    go_wp2_with (first | (go_at_call 47; (with_reducible refine (of_calls _ _ _ _).mono ?_); rintro e w1 ⟨he, hb⟩; rw [HV.out] at he; subst he; have HB := Aside0.mk (((Below.refl w.heap.size w).alloc (Nat.le_refl _) _).trans (hb.mono (by simp))); clear hb) | (go_at_call 164; (with_reducible refine (nothing_good _).mono ?_); rintro e w2 ⟨rfl, hb⟩; have HB2 := Aside0.mk (HB.out.trans (hb.mono HB.out.size)); clear hb) | (go_at_call 170; (with_reducible refine (number_good _ _).mono ?_); rintro e w2 ⟨rfl, hb⟩; have HB2 := Aside0.mk (HB.out.trans (hb.mono HB.out.size)); clear hb) | (go_at_call 165; (with_reducible refine (flag_good _ _).mono ?_); rintro e w2 ⟨rfl, hb⟩; have HB2 := Aside0.mk (HB.out.trans (hb.mono HB.out.size)); clear hb) | (go_at_call 166; (with_reducible refine (text_good _ _).mono ?_); rintro e w2 ⟨he, hb⟩; rw [← H2.out] at he; subst he; have HB2 := Aside0.mk (HB.out.trans (hb.mono HB.out.size)); clear hb))
    go_ret
    exact ⟨by first | rfl | (rw [H2.out] <;> rfl), by first | exact HB2.out | exact HB.out⟩


/-! ### slices_Clone_byte_byte: function 90 -/
theorem eql_slice_nil_in {P : Program} (w : World) (d : Nat) (t e : TypeId) (a : Option Addr) (n c n' c' : Nat) (h : P.underlying t = some (.slice e)) :
    (Op.equalIn (d + 1) t (.slice a n c) (.slice none n' c')).run P w = .ok a.isNone w := by
  cases a <;> simp [Op.equalIn, run_underlying h]
theorem eql_slice_nil {P : Program} (w : World) (t e : TypeId) (a : Option Addr) (n c n' c' : Nat) (h : P.underlying t = some (.slice e)) :
    (binOp .eql t (.slice a n c) (.slice none n' c')).run P w = .ok (.bool a.isNone) w := by
  simp only [binOp]
  simp [Op.equal, Op.maxDepth, eql_slice_nil_in w 9999 t e a n c n' c' h]
def slices_Clone_byte_byte.f (l0 : List Int) : Option (List Int) := if l0.length < 140737488355328 then some l0 else none
theorem slices_Clone_byte_byte.calls (A0 : Option Addr) (c0 : Nat) (l0 : List Int) (r : List Int) (w : World) (hr0 : Kd.C (Kd.int .u8) w A0 l0.length l0) (hc0 : l0.length ≤ c0) (h : slices_Clone_byte_byte.f l0 = some r) :
    Calls Tryd.prog 90 #[.slice A0 l0.length c0] w fun e w' => ∃ v0_ : Value, e = .returned (v0_) ∧ Kd.R (Kd.int .u8) 5 w' w.heap.size (fun _ => True) v0_ r ∧ Below w.heap.size w w' := by
  unfold slices_Clone_byte_byte.f at h
  have HR0 := Aside0.mk hr0
  clear hr0
  have LM : Aside0 (l0.length < 140737488355328) := by
    by_cases c : l0.length < 140737488355328
    · exact ⟨c⟩
    · rw [if_neg c] at h; cases h
  rw [if_pos LM.out] at h
  obtain rfl := Option.some.inj h
  clear h
  have HB := Aside0.mk (Below.refl w.heap.size w)
  have hq : ∀ (w : World) (a : Option Addr) (n c n' c' : Nat), (binOp .eql 43 (.slice a n c) (.slice none n' c')).run Tryd.prog w = .ok (.bool a.isNone) w := fun w a n c n' c' => eql_slice_nil w _ _ a n c n' c' Tryd.underlying43
  go_enter Tryd.func90, Tryd.ntmps90
  cases A0 with
  | none =>
    have hn : l0 = [] := by
      by_cases hz : 0 < l0.length
      · obtain ⟨ad, e, _⟩ := HR0.out.2.2 hz
        cases e
      · exact List.eq_nil_of_length_eq_zero (by omega)
    subst hn
    go_wp2
    go_ret
    exact ⟨_, rfl, Kd.R_nil _ _ _ _ _, HB.out⟩
  | some ad =>
    go_wp2_with (first | ((with_reducible refine gate_dst (N := 5) rfl ?_); refine Kd.R_lit (Kd.int .u8) _ 5 ?hg (N := 5) ?hd (xs := ([] : List Int)) (inner := []) (ok := fun _ => True) (okp := fun _ => True) ?hr ?hp (fun _ hk => hk) trivial (Below.refl _ _) (Nat.le_refl _) (by simp) ?_; (case hd => rfl); (case hg => rfl); (case hr => first | (go_simp; done) | (go_simp; rfl)); (case hp => exact (Reps.none _ _)); intro v155 w8 ho9 hb hg_ hnew_; clear hg_ hnew_; have n0_ := Aside0.mk (Kd.R_lower ho9 (below_size HB.out)); have n1_ := Aside0.mk (below_step HB.out hb); clear HB; have HO156 := n0_; have HB := n1_; clear n0_ n1_; clear hb ho9) | ((with_reducible refine gate_builtin (b := .append) (xs := #[.tmp 5, .tmp 6]) rfl ?_); at_builtin; refine Kd.R_append_rows (Kd.int .u8) (w0 := w) w.heap.size rfl (.tmp 5) (.tmp 6) 43 5 (.int .u8 0) 1 rfl Tryd.underlying43 info5 rfl (by decide) (by omega) v155 [] l0 _ _ _ (fun _ => True) (fun _ => False) rfl rfl ?aO ?aR (fun _ _ h => h) (fun _ h => h.elim) ?aF ?aB ?aS ?aL ?_; (case aR => exact (Kd.C_below HR0.out HB.out)); (case aB => exact HB.out); (case aF => exact (fun _ _ => trivial)); (case aO => exact HO156.out); (case aS => exact (below_size HB.out)); (case aL => have := LM.out; simp only [List.length_nil]; omega); intro v158 w10 ho hb hg hat; have n0_ := Aside0.mk (hb); have n1_ := Aside0.mk (ho); clear HB; clear HO156; have HB := n0_; have HO159 := n1_; clear n0_ n1_; clear ho hb hg hat))
    go_ret
    exact ⟨_, rfl, HO159.out, HB.out⟩


end Go.Proofs.YtojiicbdbajljaaDoor.V
