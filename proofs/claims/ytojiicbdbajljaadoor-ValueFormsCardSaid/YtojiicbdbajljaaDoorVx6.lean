-- Printed by a program of this session (wip/myprint.py, over the kit's printer) out of the translation.
import Derived.Test.YtojiicbdbajljaaDoorVx0
import Derived.Test.YtojiicbdbajljaaDoorVx3
namespace Go.Proofs.YtojiicbdbajljaaDoor.V
open Go.RowKit Go.Proofs.YtojiicbdbajljaaDoorW.PrintWords Go.Proofs.YtojiicbdbajljaaDoorW.PrintLast Go.Proofs.YtojiicbdbajljaaDoorW.PrintMore
attribute [local go_sem] max2_int min2_int max_two min_two max_three min_three max_four min_four   -- for this text's walks alone
set_option linter.unusedVariables false
set_option linter.unusedSimpArgs false

/-! ### octet_Put: function 92 -/
/-! slices.Reverse at bytes, over the end of a row of the call's own. -/
theorem rev_step (o m i j : Nat) (l xs : List Int) (hl : l.length = o + m) (hx : xs.length = o + m) (hij : i + j + 1 = m) (hlt : i < j)
    (h : ∀ t, xs[t]? = if o ≤ t ∧ t < o + m ∧ (t < o + i ∨ o + j < t) then l[2 * o + m - 1 - t]? else l[t]?) :
    ∀ t, ((xs.set (o + i) (rdOf 0 xs ((o + j : Nat) : Int))).set (o + j) (rdOf 0 xs ((o + i : Nat) : Int)))[t]? = if o ≤ t ∧ t < o + m ∧ (t < o + (i + 1) ∨ o + (j - 1) < t) then l[2 * o + m - 1 - t]? else l[t]? := by
  intro t
  have rdj : ∀ q, q < o + m → xs[q]? = some (rdOf 0 xs ((q : Nat) : Int)) := by
    intro q hq
    unfold rdOf
    rw [Int.toNat_natCast, List.getD_eq_getElem?_getD, List.getElem?_eq_getElem (by omega)]
    rfl
  rw [List.getElem?_set, List.getElem?_set]
  simp only [List.length_set]
  by_cases e1 : o + j = t
  · subst e1
    rw [if_pos rfl, if_pos (by omega), if_pos (by omega), ← rdj _ (by omega), h, if_neg (by omega)]
    congr 1
    omega
  · rw [if_neg e1]
    by_cases e2 : o + i = t
    · subst e2
      rw [if_pos rfl, if_pos (by omega), if_pos (by omega), ← rdj _ (by omega), h, if_neg (by omega)]
      congr 1
      omega
    · rw [if_neg e2, h]
      by_cases c : o ≤ t ∧ t < o + m ∧ (t < o + i ∨ o + j < t)
      · rw [if_pos c, if_pos (by omega)]
      · rw [if_neg c, if_neg (by omega)]
theorem rev_done (o m i j : Nat) (l xs : List Int) (hl : l.length = o + m) (hx : xs.length = o + m) (hij : i + j + 1 = m ∨ (m = 0 ∧ i = 0)) (hlt : ¬ i < j ∨ m = 0)
    (h : ∀ t, xs[t]? = if o ≤ t ∧ t < o + m ∧ (t < o + i ∨ o + j < t) then l[2 * o + m - 1 - t]? else l[t]?) : xs = l.take o ++ (l.drop o).reverse := by
  apply List.ext_getElem?
  intro t
  rw [h]
  by_cases c1 : t < o
  · rw [if_neg (by omega), List.getElem?_append_left (by rw [List.length_take]; omega), List.getElem?_take_of_lt c1]
  · by_cases c2 : t < o + m
    · have e : (l.take o).length = o := by rw [List.length_take]; omega
      rw [List.getElem?_append_right (by omega), e, List.getElem?_reverse (by rw [List.length_drop]; omega), List.length_drop, List.getElem?_drop]
      by_cases c3 : t < o + i ∨ o + j < t
      · rw [if_pos (by omega)]
        congr 1
        omega
      · rw [if_neg (by omega)]
        congr 1
        omega
    · rw [if_neg (by omega), List.getElem?_eq_none (by omega), List.getElem?_eq_none (by rw [List.length_append, List.length_take, List.length_reverse, List.length_drop]; omega)]
set_option maxRecDepth 100000 in
theorem rev_at (g o m cap c' : Nat) (l : List Int) (w0 w : World) (ok : Nat → Prop) (hlen : l.length = o + m) (hB : Below w0.heap.size w0 w) (ho : Kd.R (Kd.int .u8) 5 w w0.heap.size ok (.slice (some ⟨g, 0, none⟩) (o + m) cap) l) (hbig : o + m ≤ 140737488355328) :
    Calls Tryd.prog 112 #[.slice (some ⟨g, o, none⟩) m c'] w fun e w' => e = .returned (.tuple #[]) ∧ Kd.R (Kd.int .u8) 5 w' w0.heap.size ok (.slice (some ⟨g, 0, none⟩) (o + m) cap) (l.take o ++ (l.drop o).reverse) ∧ Below w0.heap.size w0 w' := by
  have HO := Aside0.mk ho
  have HB := Aside0.mk hB
  clear ho hB
  have mixed : Tryd.prog.follows .mixedOrders = true := by kernel_rfl
  go_enter Tryd.func112, Tryd.ntmps112
  go_wp2
  go_loopw [2, 3] (fun v2 v3 wr => ∃ (i j : Nat) (jz : Int) (xs : List Int), v2 = .int .i64 i ∧ v3 = .int .i64 jz ∧ Aside0 (xs.length = o + m) ∧ Aside0 ((jz = j ∧ i + j + 1 = m) ∨ (jz = -1 ∧ m = 0 ∧ i = 0)) ∧ Aside0 (∀ t, xs[t]? = if o ≤ t ∧ t < o + m ∧ (t < o + i ∨ o + j < t) then l[2 * o + m - 1 - t]? else l[t]?) ∧ Aside0 (Kd.R (Kd.int .u8) 5 wr w0.heap.size ok (.slice (some ⟨g, 0, none⟩) (o + m) cap) xs) ∧ Aside0 (Below w0.heap.size w0 wr)) (fun v2 v3 _ => (intOf v3 - intOf v2 + 1).toNat)
  case atStart => exact ⟨0, m - 1, (m : Int) - 1, l, rfl, by first | rfl | (unfold wrap64; congr 1; omega), ⟨hlen⟩, ⟨by omega⟩, ⟨fun t => by
      split
      · omega
      · rfl⟩, HO, HB⟩
  case round =>
    obtain ⟨i, j, jz, xs, rfl, rfl, HL, HJ, HX, HR, HB'⟩ := hrel
    by_cases hlt : (i : Int) < jz
    · have hj : jz = j := by rcases HJ.out with h | h <;> omega
      subst hj
      have hij : i + j + 1 = m := by rcases HJ.out with h | h <;> omega
      have hi2 : i < j := by omega
      obtain ⟨ci, fi⟩ := Kd.R_celln (0 : Int) HR.out ((o + i : Nat) : Int) (by omega) (by omega)
      obtain ⟨cj, fj⟩ := Kd.R_celln (0 : Int) HR.out ((o + j : Nat) : Int) (by omega) (by omega)
      rw [Int.toNat_natCast] at ci fi cj fj
      have HIJ := Aside0.mk hij
      have HI2 := Aside0.mk hi2
      clear hij hi2
      obtain ⟨go8, co8, eo8, gb8, gl8⟩ := Kd.R_form HR.out (by have := HL.out; have := HIJ.out; omega)
      injection eo8 with ea _ _
      injection ea with ea
      injection ea with ea _ _
      subst ea
      have GB := Aside0.mk gb8
      clear gb8 gl8
      have hlb : decide ((i : Int) < (j : Int)) = true := decide_eq_true hlt
      have hA : (0 : Int) ≤ (i : Int) := by omega
      have hA2 : (i : Int) < (m : Int) := by have := HIJ.out; omega
      have hA3 : (0 : Int) ≤ (j : Int) := by omega
      have hA4 : (j : Int) < (m : Int) := by have := HIJ.out; omega
      go_wp2_with fail
      go_region_o
      go_wp2
      go_roundw
      case rel =>
        have h1 := Kd.R_putn (Kd.R_drew HR.out) ((o + i : Nat) : Int) (rdOf 0 xs ((o + j : Nat) : Int))
        have h2 := Kd.R_putn h1 ((o + j : Nat) : Int) (rdOf 0 xs ((o + i : Nat) : Int))
        rw [Int.toNat_natCast, Int.toNat_natCast] at h2
        have hm1 := HIJ.out
        have hm2 := HI2.out
        refine ⟨i + 1, j - 1, (j : Int) - 1, _, by congr 1, rfl, ⟨?_⟩, ⟨by omega⟩, ⟨rev_step o m i j l xs hlen HL.out HIJ.out HI2.out HX.out⟩, ⟨h2⟩, ⟨?_⟩⟩
        · rw [List.length_set, List.length_set, HL.out]
        · exact below_set (below_set (below_drew1 HB'.out) GB.out) GB.out
      case measure => simp [intOf]; omega
    · have hlb : decide ((i : Int) < jz) = false := decide_eq_false hlt
      have hd := rev_done o m i j l xs hlen HL.out (by rcases HJ.out with h | h <;> omega) (by rcases HJ.out with h | h <;> omega) HX.out
      subst hd
      go_wp2
      first | go_end0 | ((try simp only [Exit.inBlock, Exit.then]); refine bodyPost_ret (results_none rfl _ _ _) rfl ?_)
      exact ⟨rfl, HR.out, HB'.out⟩
set_option maxRecDepth 100000 in
theorem rev_empty (A : Option Addr) (c' : Nat) (w : World) :
    Calls Tryd.prog 112 #[.slice A 0 c'] w fun e w' => e = .returned (.tuple #[]) ∧ w' = w := by
  go_enter Tryd.func112, Tryd.ntmps112
  go_wp2
  go_loopw [2, 3] (fun v2 v3 wr => v2 = .int .i64 0 ∧ v3 = .int .i64 (-1) ∧ wr = w) (fun _ _ _ => 0)
  case atStart => exact ⟨rfl, rfl, rfl⟩
  case round =>
    obtain ⟨rfl, rfl, rfl⟩ := hrel
    go_wp2
    first | go_end0 | ((try simp only [Exit.inBlock, Exit.then]); refine bodyPost_ret (results_none rfl _ _ _) rfl ?_)
    exact ⟨rfl, rfl⟩
/-- The bytes of a number, the lowest first. -/
def lows (n : Int) (k : Nat) : List Int := (List.range k).map fun (i : Nat) => (shr .u64 n (wrap64 (8 * (i : Int)))) % 256
def octet_Put.f (l0 : List Int) (a1 : Int) (a2 : Int) (a3 : Bool) : Option (List Int) := if l0.length < 140737488355320 then some (l0 ++ (if a3 = true then lows a1 (max (min a2 8) 0).toNat else (lows a1 (max (min a2 8) 0).toNat).reverse)) else none
theorem lows_succ (n : Int) (k : Nat) : lows n (k + 1) = lows n k ++ [(shr .u64 n (wrap64 (8 * (k : Int)))) % 256] := by
  unfold lows
  rw [List.range_succ, List.map_append]
  rfl
theorem lows_length (n : Int) (k : Nat) : (lows n k).length = k := by simp [lows]
theorem intOf_int (k : IntKind) (x : Int) : intOf (.int k x) = x := rfl
theorem meas_lt {x K : Nat} {z : Int} (h : x < K) (hz : z = ((x + 1 : Nat) : Int)) : K - (intOf (Value.int .i64 z)).toNat < K - (intOf (Value.int .i64 (x : Int))).toNat := by
  rw [intOf_int, intOf_int, hz]
  omega
set_option maxRecDepth 1000000 in
set_option maxHeartbeats 4000000 in
theorem octet_Put.calls (A0 : Option Addr) (c0 : Nat) (l0 : List Int) (a1 : Int) (a2 : Int) (a3 : Bool) (r : List Int) (w : World) (hr0 : Kd.C (Kd.int .u8) w A0 l0.length l0) (hc0 : l0.length ≤ c0) (h : octet_Put.f l0 a1 a2 a3 = some r) :
    Calls Tryd.prog 92 #[.slice A0 l0.length c0, .int .u64 a1, .int .i64 a2, .bool a3] w fun e w' => ∃ v0_ : Value, e = .returned (v0_) ∧ Kd.R (Kd.int .u8) 5 w' w.heap.size (fun _ => True) v0_ r ∧ Below w.heap.size w w' := by
  unfold octet_Put.f at h
  have HR0 := Aside0.mk hr0
  have HC0 := Aside0.mk hc0
  clear hr0 hc0
  have LM : Aside0 (l0.length < 140737488355320) := by
    by_cases c : l0.length < 140737488355320
    · exact ⟨c⟩
    · rw [if_neg c] at h; cases h
  rw [if_pos LM.out] at h
  have h := Option.some.inj h
  have HH := Aside0.mk h
  clear h
  try clear h
  have hcl : slices_Clone_byte_byte.f l0 = some l0 := by unfold slices_Clone_byte_byte.f; rw [if_pos (by have := LM.out; omega)]
  have HCL := Aside0.mk hcl
  clear hcl
  generalize hK : (max (min a2 8) 0).toNat = K at *
  have hK8 : K ≤ 8 := by omega
  have hKi : (max (min a2 8) 0) = (K : Int) := by omega
  have HKi := Aside0.mk hKi
  have HK8 := Aside0.mk hK8
  clear hK hKi hK8
  go_enter Tryd.func92, Tryd.ntmps92
  go_wp2_with (go_at_call 90; (with_reducible refine (slices_Clone_byte_byte.calls A0 c0 l0 l0 _ HR0.out HC0.out HCL.out).mono ?_); rintro e w1 ⟨v0, rfl, hr, hb⟩; have HR := Aside0.mk hr; have HB := Aside0.mk hb; clear hr hb; obtain ⟨A1, c1, rfl⟩ := Kd.R_slice HR.out)
  all_goals
    go_loopw [9, 19] (fun v9 v19 wr => ∃ (x : Nat), v19 = .int .i64 x ∧ Aside0 (x ≤ K) ∧ Aside0 (Kd.R (Kd.int .u8) 5 wr w.heap.size (fun _ => True) v9 (l0 ++ lows a1 x)) ∧ Aside0 (Below w.heap.size w wr)) (fun _ v19 _ => K - (intOf v19).toNat)
    case atStart =>
      refine ⟨0, rfl, ⟨Nat.zero_le _⟩, ⟨?_⟩, HB⟩
      · have e : l0 ++ lows a1 0 = l0 := by simp [lows]
        rw [e]
        exact HR.out
    case round =>
      obtain ⟨x, rfl, HX, HO, HB'⟩ := hrel
      obtain ⟨A9, c9, rfl⟩ := Kd.R_slice HO.out
      by_cases hlt : x < K
      · have hki_ := HKi.out
        try have hlb1 : decide ((x : Int) < 8) = true := decide_eq_true (by omega)
        try have hlb2 : decide ((x : Int) < 0) = true := decide_eq_true (by omega)
        try have hlb3 : decide ((x : Int) < a2) = true := decide_eq_true (by omega)
        clear hki_
        obtain ⟨s, hs⟩ : ∃ s_ : Int, wrap64 (8 * (x : Int)) = s_ := ⟨_, rfl⟩
        have hsw : (IntKind.i64.wrap (8 * (x : Int))) = s := (i64_w _).trans hs
        have hs8 : s = 8 * x := by rw [← hs]; unfold wrap64; have := HK8.out; omega
        have hs0 : 0 ≤ s := by omega
        have hs64 : s ≤ 64 := by have := HK8.out; omega
        have c10b0 := eq_true hs0
        have c10b1 : decide (0 ≤ s) = true := decide_eq_true hs0
        obtain ⟨q, hq⟩ : ∃ j_ : Int, (shr .u64 a1 s) = j_ := ⟨_, rfl⟩
        have hqz : s ≤ 64 → (a1 / 2 ^ s.toNat) = q := shr_small hq
        have hls : l0 ++ lows a1 (x + 1) = (l0 ++ lows a1 x) ++ [q % 256] := by rw [lows_succ, hs, hq, List.append_assoc]
        have HLS := Aside0.mk hls
        have hlen : Aside0 ((l0 ++ lows a1 x).length < 140737488355328) := ⟨by rw [List.length_append, lows_length]; have := LM.out; have := HK8.out; omega⟩
        clear hls hs8
        have hw_ : wrap64 ((x : Int) + 1) = ((x + 1 : Nat) : Int) := by unfold wrap64; have := HK8.out; omega
        have HW_ := Aside0.mk hw_
        clear hw_
        generalize l0 ++ lows a1 x = xs at *
        go_wp2_with (first | ((with_reducible refine gate_builtin (b := .append) (xs := #[.tmp 22, .tmp 28]) rfl ?_); at_builtin; refine Kd.R_append (Kd.int .u8) (w0 := w) w.heap.size rfl (.tmp 22) (.tmp 28) 43 5 (.int .u8 0) 1 rfl Tryd.underlying43 info5 rfl (by decide) (by omega) _ xs (q % 256) [.int .u8 (q % 256)] (fun _ => True) (fun _ => False) rfl rfl ?aP (fun _ hk => hk.elim) ?aF ?aO ?aB ?aS ?aL ?_; (case aP => exact rfl); (case aB => exact HB'.out); (case aF => exact (fun _ _ => trivial)); (case aO => exact (by (with_reducible repeat (first | apply Kd.R_alloc | apply Kd.R_drewN | apply Kd.R_drew)); exact HO.out)); (case aS => exact (below_size HB'.out)); (case aL => have := hlen.out; omega); intro v110 w13 ho hb hg hat; have n0_ := Aside0.mk (hb); have n1_ := Aside0.mk (ho); clear HB'; clear HO; have HB' := n0_; have HO111 := n1_; clear n0_ n1_; clear ho hb hg hat))
        go_roundw
        case rel => exact ⟨x + 1, congrArg (Value.int .i64) HW_.out, ⟨by omega⟩, ⟨by rw [HLS.out]; exact HO111.out⟩, HB'⟩
        case measure =>
          exact meas_lt hlt HW_.out
      · have hki_ := HKi.out
        try have hlb1 : decide ((x : Int) < 8) = false := decide_eq_false (by omega)
        try have hlb2 : decide ((x : Int) < 0) = false := decide_eq_false (by omega)
        try have hlb3 : decide ((x : Int) < a2) = false := decide_eq_false (by omega)
        clear hki_
        have hxk : x = K := by have := HX.out; omega
        subst hxk
        obtain ⟨xs, hxs⟩ : ∃ xs_, xs_ = l0 ++ lows a1 x := ⟨_, rfl⟩
        rw [← hxs] at HO ⊢
        have hxl : xs.length = l0.length + x := by rw [hxs, List.length_append, lows_length]
        have HXL := Aside0.mk hxl
        have HXS := Aside0.mk hxs
        clear hxs hxl
        cases a3 with
        | true =>
          have h2 : xs = r := by rw [HXS.out]; simpa using HH.out
          subst h2
          go_wp2
          go_ret
          exact ⟨_, rfl, HO.out, HB'.out⟩
        | false =>
          have h2 : xs.take l0.length ++ (xs.drop l0.length).reverse = r := by rw [HXS.out, List.take_left, List.drop_left]; simpa using HH.out
          have H2 := Aside0.mk h2
          clear h2
          have hl1 : (l0.length : Int) ≤ (xs.length : Int) := by have := HXL.out; omega
          have hl2 : l0.length ≤ xs.length := by have := HXL.out; omega
          have hl3 : xs.length ≤ c9 := (Kd.R_reads' HO.out).2.1
          have hl4 : (xs.length : Int) ≤ (c9 : Int) := by omega
          have hdx : xs.length - l0.length = x := by have := HXL.out; omega
          by_cases hx0 : x = 0
          · have e9 : xs = r := by rw [← H2.out, List.take_of_length_le (by have := HXL.out; omega), List.drop_eq_nil_of_le (by have := HXL.out; omega)]; simp
            subst e9
            have HDX := Aside0.mk (hdx.trans hx0)
            clear hdx hx0
            go_wp2_with (go_at_call 112; rw [HDX.out]; (try generalize (if c9 = l0.length then A9 else Option.map (fun x => x.add l0.length) A9) = A9'_); (with_reducible refine (rev_empty _ _ _).mono ?_); rintro e w5 ⟨rfl, rfl⟩)
            all_goals
              go_ret
              exact ⟨_, rfl, HO.out, HB'.out⟩
          · obtain ⟨g, cap, eA, _⟩ := Kd.R_form HO.out (by have := HXL.out; omega)
            injection eA with eA el_ ec_
            subst eA
            clear el_ ec_
            have hne : ¬ c9 = l0.length := by have := HXL.out; omega
            have e1 : (⟨g, 0, none⟩ : Addr).add l0.length = ⟨g, l0.length, none⟩ := by
              unfold Addr.add
              split
              · rename_i hz'
                rw [hz']
              · simp
            have HDX := Aside0.mk hdx
            have HNE := Aside0.mk hne
            have E1 := Aside0.mk e1
            clear hdx hne e1
            go_wp2_with (go_at_call 112; rw [HDX.out]; (try simp only [if_neg HNE.out, Option.map_some, E1.out]); (with_reducible refine (rev_at g l0.length x c9 _ xs w _ (fun _ => True) HXL.out HB'.out ?hR ?hbig).mono ?_); (case hR => have := HO.out; rw [HXL.out] at this; exact this); (case hbig => have := HXL.out; have := HX.out; have := LM.out; have := HK8.out; omega); rintro e w5 ⟨rfl, hr, hb⟩; rw [H2.out] at hr; have HO5 := Aside0.mk hr; have HB5 := Aside0.mk hb; clear hr hb)
            all_goals
              go_ret
              exact ⟨_, rfl, (by have h5_ := HO5.out; rw [← HXL.out] at h5_; exact h5_), HB5.out⟩


end Go.Proofs.YtojiicbdbajljaaDoor.V
