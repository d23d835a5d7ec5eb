-- Printed by a program of this session (wip/myprint.py, over the kit's printer) out of the translation.
import Derived.Test.YtojiicbdbajljaaDoorVx0
import Derived.Test.YtojiicbdbajljaaDoorVx5
import Derived.Test.YtojiicbdbajljaaDoorVx6
namespace Go.Proofs.YtojiicbdbajljaaDoor.V
open Go.RowKit Go.Proofs.YtojiicbdbajljaaDoorW.PrintWords Go.Proofs.YtojiicbdbajljaaDoorW.PrintLast Go.Proofs.YtojiicbdbajljaaDoorW.PrintMore
attribute [local go_sem] max2_int min2_int max_two min_two max_three min_three max_four min_four   -- for this text's walks alone
set_option linter.unusedVariables false
set_option linter.unusedSimpArgs false

/-! ### value_content: function 46 -/
def value_content.f (k : Nat) (a0 : Value) : Option (List Int) :=
  match a0 with
  | .iface t v =>
    if t = 139 then (match v with | .int .i64 n => octet_Put.f [] (IntKind.u64.wrap n) 8 false | _ => none)
    else if t = 134 then (match v with | .string s => if s.size ≤ 9223372036854775807 then (octet_Var.f k [] (s.size : Int)).bind fun l => (if l.length + s.size ≤ 140737488355328 then some (l ++ bytesOf s) else none) else none | _ => none)
    else if t = 133 then (match v with | .bool b => some [if b = true then 1 else 0] | _ => none)
    else if t = 132 then some []
    else none
  | .nilIface => some []
  | _ => none
theorem value_content.mono : ∀ a0 k, LeO (value_content.f k a0) (value_content.f (k + 1) a0) := by
  intro a0 k r h
  unfold value_content.f at h ⊢
  split at h
  · split at h
    · rename_i c; rw [if_pos c]; exact h
    · rename_i c
      rw [if_neg c]
      split at h
      · rename_i c2
        rw [if_pos c2]
        split at h
        · split at h
          · rename_i c3
            show (if _ then _ else none) = _
            rw [if_pos c3]
            exact LeO.bind (octet_Var.mono _ _ k) (fun _ => LeO.refl _) _ h
          · cases h
        · cases h
      · rename_i c2; rw [if_neg c2]; exact h
  · exact h
  · cases h
theorem ta_number_nothing (v : Value) (w : World) : (Instr.typeAssert (.iface 132 v) 96 139 true).run Tryd.prog w = .ok (.tuple #[.int .i64 0, .bool false]) w := by kernel_rfl
theorem ta_number_number (v : Value) (w : World) : (Instr.typeAssert (.iface 139 v) 96 139 true).run Tryd.prog w = .ok (.tuple #[v, .bool true]) w := by kernel_rfl
theorem ta_number_text (v : Value) (w : World) : (Instr.typeAssert (.iface 134 v) 96 139 true).run Tryd.prog w = .ok (.tuple #[.int .i64 0, .bool false]) w := by kernel_rfl
theorem ta_number_flag (v : Value) (w : World) : (Instr.typeAssert (.iface 133 v) 96 139 true).run Tryd.prog w = .ok (.tuple #[.int .i64 0, .bool false]) w := by kernel_rfl
theorem ta_number_nil (w : World) : (Instr.typeAssert .nilIface 96 139 true).run Tryd.prog w = .ok (.tuple #[.int .i64 0, .bool false]) w := by kernel_rfl
theorem ta_text_nothing (v : Value) (w : World) : (Instr.typeAssert (.iface 132 v) 96 134 true).run Tryd.prog w = .ok (.tuple #[.string ⟨#[]⟩, .bool false]) w := by kernel_rfl
theorem ta_text_number (v : Value) (w : World) : (Instr.typeAssert (.iface 139 v) 96 134 true).run Tryd.prog w = .ok (.tuple #[.string ⟨#[]⟩, .bool false]) w := by kernel_rfl
theorem ta_text_text (v : Value) (w : World) : (Instr.typeAssert (.iface 134 v) 96 134 true).run Tryd.prog w = .ok (.tuple #[v, .bool true]) w := by kernel_rfl
theorem ta_text_flag (v : Value) (w : World) : (Instr.typeAssert (.iface 133 v) 96 134 true).run Tryd.prog w = .ok (.tuple #[.string ⟨#[]⟩, .bool false]) w := by kernel_rfl
theorem ta_text_nil (w : World) : (Instr.typeAssert .nilIface 96 134 true).run Tryd.prog w = .ok (.tuple #[.string ⟨#[]⟩, .bool false]) w := by kernel_rfl
theorem ta_flag_nothing (v : Value) (w : World) : (Instr.typeAssert (.iface 132 v) 96 133 true).run Tryd.prog w = .ok (.tuple #[.bool false, .bool false]) w := by kernel_rfl
theorem ta_flag_number (v : Value) (w : World) : (Instr.typeAssert (.iface 139 v) 96 133 true).run Tryd.prog w = .ok (.tuple #[.bool false, .bool false]) w := by kernel_rfl
theorem ta_flag_text (v : Value) (w : World) : (Instr.typeAssert (.iface 134 v) 96 133 true).run Tryd.prog w = .ok (.tuple #[.bool false, .bool false]) w := by kernel_rfl
theorem ta_flag_flag (v : Value) (w : World) : (Instr.typeAssert (.iface 133 v) 96 133 true).run Tryd.prog w = .ok (.tuple #[v, .bool true]) w := by kernel_rfl
theorem ta_flag_nil (w : World) : (Instr.typeAssert .nilIface 96 133 true).run Tryd.prog w = .ok (.tuple #[.bool false, .bool false]) w := by kernel_rfl
theorem C_empty (w : World) : Kd.C (Kd.int .u8) w none ([] : List Int).length [] := ⟨rfl, by simp, fun h => absurd h (by simp)⟩
set_option maxRecDepth 100000 in
set_option maxHeartbeats 1000000 in
theorem value_content.calls (k : Nat) (a0 : Value) (r : List Int) (w : World) (h : value_content.f k a0 = some r) :
    Calls Tryd.prog 46 #[a0] w fun e w' => ∃ v0_ : Value, e = .returned (v0_) ∧ Kd.R (Kd.int .u8) 5 w' w.heap.size (fun _ => True) v0_ r ∧ Below w.heap.size w w' := by
  have HB := Aside0.mk (Below.refl w.heap.size w)
  unfold value_content.f at h
  split at h
  · split at h
    · rename_i c
      subst c
      split at h
      · rename_i n
        have H := Aside0.mk h
        clear h
        have ht0 := ta_number_number (.int .i64 n)
        have ht1 := ta_text_number (.int .i64 n)
        have ht2 := ta_flag_number (.int .i64 n)
        go_enter Tryd.func46, Tryd.ntmps46
        go_wp2_with (go_at_call 92; (refine (octet_Put.calls none 0 [] (IntKind.u64.wrap n) 8 false r _ (C_empty _) (Nat.le_refl _) H.out).mono ?_); rintro e w1 ⟨v0, rfl, hr, hb⟩; have HR1 := Aside0.mk hr; have HB1 := Aside0.mk hb; clear hr hb)
        go_ret
        exact ⟨_, rfl, HR1.out, HB1.out⟩
      · cases h
    · rename_i c
      split at h
      · rename_i c2
        subst c2
        clear c
        split at h
        · rename_i s
          split at h
          · rename_i c3
            obtain ⟨l, hl, h⟩ := Option.bind_eq_some_iff.1 h
            split at h
            · rename_i c4
              obtain rfl := Option.some.inj h
              have H := Aside0.mk hl
              have C4 := Aside0.mk c4
              clear h hl c4
              have hw : IntKind.u64.wrap (s.size : Int) = (s.size : Int) := by
                show ((s.size : Int)) % 18446744073709551616 = _
                omega
              have ht0 := ta_number_text (.string s)
              have ht1 := ta_text_text (.string s)
              have ht2 := ta_flag_text (.string s)
              go_enter Tryd.func46, Tryd.ntmps46
              go_wp2_with (first | (go_at_call 45; (refine (octet_Var.calls k none 0 [] (s.size : Int) l _ (C_empty _) (Nat.le_refl _) H.out).mono ?_); rintro e w1 ⟨v0, rfl, hr, hb⟩; have HR1 := Aside0.mk hr; have HB1 := Aside0.mk hb; clear hr hb) | (at_builtin; refine print_append_str (w0 := w) w.heap.size rfl (.tmp 19) (.tmp 20) 43 134 5 rfl Tryd.underlying43 Tryd.underlying134 info5 _ l s rfl rfl ?aO ?aB ?aS ?aL ?_; (case aB => exact HB1.out); (case aO => exact (Kd.own_of_R HR1.out)); (case aS => exact (below_size HB1.out)); (case aL => exact C4.out); intro v2 w2 ho0 hb hg; have ho := Kd.R_of_own (h1 := fun _ => rfl) (ok := fun _ => True) ho0 (fun _ _ => trivial); clear ho0; have HR2 := Aside0.mk ho; have HB2 := Aside0.mk hb; clear ho hb hg))
              go_ret
              exact ⟨_, rfl, HR2.out, HB2.out⟩
            · cases h
          · cases h
        · cases h
      · rename_i c2
        split at h
        · rename_i c3
          subst c3
          clear c c2
          split at h
          · rename_i b
            obtain rfl := Option.some.inj h
            clear h
            have ht0 := ta_number_flag (.bool b)
            have ht1 := ta_text_flag (.bool b)
            have ht2 := ta_flag_flag (.bool b)
            cases b with
            | true =>
              go_enter Tryd.func46, Tryd.ntmps46
              go_wp2_with ((with_reducible refine gate_dst (N := 26) rfl ?_); refine Kd.R_lit (Kd.int .u8) _ 5 ?hg (N := 26) ?hd (xs := [(1 : Int)]) (inner := [.int .u8 1]) (ok := fun _ => True) (okp := fun _ => True) ?hr ?hp (fun _ hk => hk) trivial (Below.refl _ _) (Nat.le_refl _) (by simp) ?_; (case hd => rfl); (case hg => rfl); (case hr => first | (go_simp; done) | (go_simp; rfl)); (case hp => exact Reps.one rfl (Reps.none _ _)); intro v1 w1 ho hb hg_ hnew_; clear hg_ hnew_; have HR1 := Aside0.mk ho; have HB1 := Aside0.mk hb; clear ho hb)
              go_ret
              exact ⟨_, rfl, HR1.out, HB1.out⟩
            | false =>
              go_enter Tryd.func46, Tryd.ntmps46
              go_wp2_with ((with_reducible refine gate_dst (N := 27) rfl ?_); refine Kd.R_lit (Kd.int .u8) _ 5 ?hg (N := 27) ?hd (xs := [(0 : Int)]) (inner := [.int .u8 0]) (ok := fun _ => True) (okp := fun _ => True) ?hr ?hp (fun _ hk => hk) trivial (Below.refl _ _) (Nat.le_refl _) (by simp) ?_; (case hd => rfl); (case hg => rfl); (case hr => first | (go_simp; done) | (go_simp; rfl)); (case hp => exact Reps.one rfl (Reps.none _ _)); intro v1 w1 ho hb hg_ hnew_; clear hg_ hnew_; have HR1 := Aside0.mk ho; have HB1 := Aside0.mk hb; clear ho hb)
              go_ret
              exact ⟨_, rfl, HR1.out, HB1.out⟩
          · cases h
        · rename_i c3
          split at h
          · rename_i c4
            subst c4
            obtain rfl := Option.some.inj h
            clear h c c2 c3
            have ht0 := ta_number_nothing
            have ht1 := ta_text_nothing
            have ht2 := ta_flag_nothing
            go_enter Tryd.func46, Tryd.ntmps46
            go_wp2
            go_ret
            exact ⟨_, rfl, Kd.R_nil _ _ _ _ _, HB.out⟩
          · cases h
  · obtain rfl := Option.some.inj h
    clear h
    have ht0 := ta_number_nil
    have ht1 := ta_text_nil
    have ht2 := ta_flag_nil
    go_enter Tryd.func46, Tryd.ntmps46
    go_wp2
    go_ret
    exact ⟨_, rfl, Kd.R_nil _ _ _ _ _, HB.out⟩
  · cases h


end Go.Proofs.YtojiicbdbajljaaDoor.V
