/- The plain law of ValueForms: over numbers, texts and lists alone, the statement's function answers true. -/
import Derived.Test.YtojiicbdbajljaaDoorPureUtf
namespace Go.Proofs.YtojiicbdbajljaaDoor.V
open Go.RowKit Go.Proofs.YtojiicbdbajljaaDoorW.PrintWords Go.Proofs.YtojiicbdbajljaaDoorW.PrintLast Go.Proofs.YtojiicbdbajljaaDoorW.PrintMore

set_option linter.unusedVariables false
set_option linter.unusedSimpArgs false
abbrev Val := S73
theorem beq_nil {l : List UInt8} : (l == ([] : List UInt8)) = l.isEmpty := by cases l <;> rfl
/-! ### Good -/
theorem good_ev (k n : Int) (s : ByteArray) : Ev (fun m => hachureref21_Good.f m k n s) (goodV k n s) := by
  simp only [hachureref21_Good.f]
  unfold goodV
  by_cases c0 : k = 0
  · subst c0
    refine Ev.pos rfl ?_
    by_cases cn : n = 0
    · subst cn
      exact Ev.pos rfl (Ev.is (by rw [beq_nil]; simp))
    · exact Ev.neg cn (Ev.is (by simp [cn]))
  · refine Ev.neg c0 ?_
    by_cases c1 : k = 1
    · subst c1
      exact Ev.pos rfl (Ev.is (by rw [beq_nil]; simp))
    · refine Ev.neg c1 ?_
      by_cases c2 : k = 2
      · subst c2
        refine Ev.pos rfl ?_
        by_cases cn : n = 0
        · subst cn
          refine Ev.pos rfl ?_
          by_cases cs : (s.size : Int) ≤ 200
          · refine Ev.pos cs (Ev.bind (utf_ev s (by omega)) (Ev.is ?_))
            have : s.size ≤ 200 := by omega
            simp [this]
          · refine Ev.neg cs (Ev.is ?_)
            have : ¬ s.size ≤ 200 := by omega
            simp [this]
        · exact Ev.neg cn (Ev.is (by simp [cn]))
      · refine Ev.neg c2 ?_
        by_cases c3 : k = 3
        · subst c3
          refine Ev.pos rfl ?_
          by_cases cn : n = 0
          · subst cn
            exact Ev.pos rfl (Ev.is (by rw [beq_nil]; simp))
          · refine Ev.neg cn ?_
            by_cases cm : n = 1
            · subst cm
              exact Ev.pos rfl (Ev.is (by rw [beq_nil]; simp))
            · exact Ev.neg cm (Ev.is (by simp [cn, cm]))
        · exact Ev.neg c3 (Ev.is (by simp [c0, c1, c2, c3]))
/-! ### Put -/
theorem u64_in {x : Int} (h0 : 0 ≤ x) (h1 : x ≤ 18446744073709551615) : IntKind.u64.wrap x = x := by
  show x % 18446744073709551616 = x
  omega
theorem put_step {n : Int} {x9 : List Int} {i : Nat} {r : List Int} (hi : i < 8) (hl : x9.length < 140737488355328) (k : Ev (fun m => hachureref02_Put.l0 m n 8 false (x9 ++ [(shr .u64 n (wrap64 (8 * ((7 - i : Nat) : Int)))) % 256]) ((i + 1 : Nat) : Int)) r) :
    Ev (fun m => hachureref02_Put.l0 m n 8 false x9 (i : Int)) r := by
  refine Ev.succ ?_
  simp only [hachureref02_Put.l0]
  have h1 : wrap64 ((wrap64 ((8 : Int) - 1)) - (i : Int)) = ((7 - i : Nat) : Int) := by unfold wrap64; omega
  have h2 : IntKind.u64.wrap (wrap64 (8 * ((7 - i : Nat) : Int))) = wrap64 (8 * ((7 - i : Nat) : Int)) := u64_in (by unfold wrap64; omega) (by unfold wrap64; omega)
  have h3 : wrap64 ((i : Int) + 1) = ((i + 1 : Nat) : Int) := by unfold wrap64; omega
  refine Ev.pos (by omega) (Ev.neg (by decide) ?_)
  rw [h1, h2, h3]
  exact Ev.pos (by unfold wrap64; omega) (Ev.pos hl k)
theorem put_ev (l0 : List Int) (n : Int) (hl : l0.length < 140737488355000) : Ev (fun m => hachureref02_Put.f m l0 n 8 false) (l0 ++ (lows n 8).reverse) := by
  simp only [hachureref02_Put.f]
  refine Ev.neg (by decide) (Ev.succ ?_)
  simp only [hachureref02_Put.j0]
  refine Ev.bind1 rfl (Ev.pos (by simp only [List.length_nil]; omega) ?_)
  rw [List.nil_append]
  refine put_step (i := 0) (by omega) (by omega) ?_
  refine put_step (i := 1) (by omega) (by simp only [List.length_append, List.length_cons, List.length_nil]; omega) ?_
  refine put_step (i := 2) (by omega) (by simp only [List.length_append, List.length_cons, List.length_nil]; omega) ?_
  refine put_step (i := 3) (by omega) (by simp only [List.length_append, List.length_cons, List.length_nil]; omega) ?_
  refine put_step (i := 4) (by omega) (by simp only [List.length_append, List.length_cons, List.length_nil]; omega) ?_
  refine put_step (i := 5) (by omega) (by simp only [List.length_append, List.length_cons, List.length_nil]; omega) ?_
  refine put_step (i := 6) (by omega) (by simp only [List.length_append, List.length_cons, List.length_nil]; omega) ?_
  refine put_step (i := 7) (by omega) (by simp only [List.length_append, List.length_cons, List.length_nil]; omega) ?_
  refine Ev.succ ?_
  simp only [hachureref02_Put.l0]
  refine Ev.neg (by decide) (Ev.is ?_)
  unfold lows
  simp [List.range_succ]
/-! ### Var, of numbers up to 2^21 -/
theorem shr_div {n : Int} {s : Nat} (hs : s ≤ 64) : shr .u64 n (s : Int) = n / 2 ^ s := by
  have := shr_small (k := .u64) (x := n) (y := (s : Int)) rfl (by show (s : Int) ≤ 64; omega)
  rw [← this]
  rfl
theorem shr7 {n : Int} : shr .u64 n 7 = n / 128 := shr_div (s := 7) (by omega)
theorem shr14 {n : Int} : shr .u64 n 14 = n / 16384 := shr_div (s := 14) (by omega)
theorem shr21 {n : Int} : shr .u64 n 21 = n / 2097152 := shr_div (s := 21) (by omega)
/-- A byte that is not the last one. -/
def or8 (x : Int) : Int := Go.bits .or .u8 (x % 256) 128
set_option maxRecDepth 100000 in
theorem or8_mod {y : Int} (h0 : 0 ≤ y) (h1 : y < 256) : Go.bits .or .u8 (y % 128) 128 = Go.bits .or .u8 y 128 := by
  have key : ∀ n : Fin 256, Go.bits .or .u8 (((n.val : Nat) : Int) % 128) 128 = Go.bits .or .u8 ((n.val : Nat) : Int) 128 := by decide
  obtain ⟨n, rfl⟩ := Int.eq_ofNat_of_zero_le h0
  exact key ⟨n, by omega⟩
set_option maxRecDepth 100000 in
theorem andNot8 {y : Int} (h0 : 0 ≤ y) (h1 : y < 256) : Go.bits .andNot .u8 y 128 = y % 128 := by
  have key : ∀ n : Fin 256, Go.bits .andNot .u8 ((n.val : Nat) : Int) 128 = ((n.val : Nat) : Int) % 128 := by decide
  obtain ⟨n, rfl⟩ := Int.eq_ofNat_of_zero_le h0
  exact key ⟨n, by omega⟩
theorem and127 {x : Int} (h0 : 0 ≤ x) (h1 : x < 2 ^ 21) : Go.bits .and .u64 x 127 = x % 128 :=
  bits_mask .u64 21 (by decide) (fun n h0 h1 => u64_in h0 (by omega)) 7 (by decide) x h0 h1
theorem ref_hi {x : Int} (h0 : 0 ≤ x) (h1 : x < 2 ^ 21) : Go.bits .or .u8 ((Go.bits .and .u64 x 127) % 256) 128 = or8 x := by
  rw [and127 h0 h1]
  unfold or8
  rw [← or8_mod (y := x % 256) (by omega) (by omega)]
  congr 1
  omega
def varL (n : Int) : List Int := if n < 128 then [n % 128] else if n < 16384 then [or8 (n / 128), n % 128] else [or8 (n / 16384), or8 (n / 128), n % 128]
theorem varL_length (n : Int) : (varL n).length ≤ 3 := by unfold varL; split <;> (try split) <;> simp
theorem last_ref {n : Int} (h0 : 0 ≤ n) (h1 : n < 2 ^ 21) : (Go.bits .and .u64 n 127) % 256 = n % 128 := by rw [and127 h0 h1]; omega
theorem last_own {n : Int} (h0 : 0 ≤ n) : Go.bits .andNot .u8 (n % 256) 128 = n % 128 := by rw [andNot8 (by omega) (by omega)]; omega
theorem w71 : wrap64 (7 * 1) = 7 := by unfold wrap64; omega
theorem w72 : wrap64 (7 * 2) = 14 := by unfold wrap64; omega
theorem w73 : wrap64 (7 * 3) = 21 := by unfold wrap64; omega
theorem u7 : IntKind.u64.wrap 7 = 7 := u64_in (by omega) (by omega)
theorem u14 : IntKind.u64.wrap 14 = 14 := u64_in (by omega) (by omega)
theorem u21 : IntKind.u64.wrap 21 = 21 := u64_in (by omega) (by omega)
theorem w11 : wrap64 (1 + 1) = 2 := by unfold wrap64; omega
theorem w21 : wrap64 (2 + 1) = 3 := by unfold wrap64; omega
theorem w10 : wrap64 (1 - 1) = 0 := by unfold wrap64; omega
theorem w2m : wrap64 (2 - 1) = 1 := by unfold wrap64; omega
theorem w3m : wrap64 (3 - 1) = 2 := by unfold wrap64; omega
def varN (n : Int) : Int := if n < 128 then 1 else if n < 16384 then 2 else 3
theorem size_own {n : Int} (h0 : 0 ≤ n) (h1 : n < 2 ^ 21) : Ev (fun m => octet_Size.f m n) (varN n) := by
  simp only [octet_Size.f]
  refine Ev.succ ?_
  simp only [octet_Size.l0]
  rw [w71, shr7, w11]
  refine Ev.pos (by decide) (Ev.pos (by decide) ?_)
  unfold varN
  by_cases c1 : n < 128
  · rw [if_pos c1]
    exact Ev.pos (by omega) (Ev.now _)
  · rw [if_neg c1]
    refine Ev.neg (by omega) (Ev.succ ?_)
    simp only [octet_Size.l0]
    rw [w72, shr14, w21]
    refine Ev.pos (by decide) (Ev.pos (by decide) ?_)
    by_cases c2 : n < 16384
    · rw [if_pos c2]
      exact Ev.pos (by omega) (Ev.now _)
    · rw [if_neg c2]
      refine Ev.neg (by omega) (Ev.succ ?_)
      simp only [octet_Size.l0]
      rw [w73, shr21]
      exact Ev.pos (by decide) (Ev.pos (by decide) (Ev.pos (by omega) (Ev.now _)))
theorem size_ref {n : Int} (h0 : 0 ≤ n) (h1 : n < 2 ^ 21) : Ev (fun m => hachureref02_Size.f m n) (varN n) := by
  simp only [hachureref02_Size.f]
  refine Ev.succ ?_
  simp only [hachureref02_Size.l0]
  rw [w71, u7, shr7, w11]
  refine Ev.pos (by decide) (Ev.pos (by decide) (Ev.pos (by decide) ?_))
  unfold varN
  by_cases c1 : n < 128
  · rw [if_pos c1]
    exact Ev.neg (by omega) (Ev.neg (by decide) (Ev.now _))
  · rw [if_neg c1]
    refine Ev.pos (by omega) (Ev.succ ?_)
    simp only [hachureref02_Size.l0]
    rw [w72, u14, shr14, w21]
    refine Ev.pos (by decide) (Ev.pos (by decide) (Ev.pos (by decide) ?_))
    by_cases c2 : n < 16384
    · rw [if_pos c2]
      exact Ev.neg (by omega) (Ev.neg (by decide) (Ev.now _))
    · rw [if_neg c2]
      refine Ev.pos (by omega) (Ev.succ ?_)
      simp only [hachureref02_Size.l0]
      rw [w73, u21, shr21]
      exact Ev.pos (by decide) (Ev.pos (by decide) (Ev.pos (by decide) (Ev.neg (by omega) (Ev.neg (by decide) (Ev.now _)))))
theorem own_end {n : Int} {l : List Int} {c : Int} (hl : l.length < 140737488355000) : Ev (fun m => octet_Var.l0 m n l c 0) (l ++ [c]) := by
  refine Ev.succ ?_
  simp only [octet_Var.l0]
  exact Ev.neg (by decide) (Ev.pos (by omega) (Ev.now _))
theorem own_one {n : Int} {l : List Int} {c : Int} (hl : l.length < 140737488354000) : Ev (fun m => octet_Var.l0 m n l c 1) (l ++ [or8 (n / 128), c]) := by
  refine Ev.succ ?_
  simp only [octet_Var.l0]
  rw [w71, shr7, w10]
  refine Ev.pos (by decide) (Ev.pos (by decide) (Ev.pos (by omega) ?_))
  have := own_end (n := n) (l := l ++ [or8 (n / 128)]) (c := c) (by rw [List.length_append, List.length_singleton]; omega)
  rw [List.append_assoc] at this
  exact this
theorem own_two {n : Int} {l : List Int} {c : Int} (hl : l.length < 140737488353000) : Ev (fun m => octet_Var.l0 m n l c 2) (l ++ [or8 (n / 16384), or8 (n / 128), c]) := by
  refine Ev.succ ?_
  simp only [octet_Var.l0]
  rw [w72, shr14, w2m]
  refine Ev.pos (by decide) (Ev.pos (by decide) (Ev.pos (by omega) ?_))
  have := own_one (n := n) (l := l ++ [or8 (n / 16384)]) (c := c) (by rw [List.length_append, List.length_singleton]; omega)
  rw [List.append_assoc] at this
  exact this
theorem var_own (l : List Int) {n : Int} (h0 : 0 ≤ n) (h1 : n < 2 ^ 21) (hl : l.length < 140737488350000) : Ev (fun m => octet_Var.f m l n) (l ++ varL n) := by
  simp only [octet_Var.f]
  refine Ev.bind1 (a := l) (by unfold slices_Clone_byte_byte.f; rw [if_pos (by omega)]) (Ev.bind (size_own h0 h1) ?_)
  rw [last_own h0]
  unfold varN varL
  by_cases c1 : n < 128
  · simp only [if_pos c1]
    refine Ev.neg (by decide) (Ev.succ ?_)
    simp only [octet_Var.j0]
    rw [w10]
    exact own_end (by omega)
  · simp only [if_neg c1]
    by_cases c2 : n < 16384
    · simp only [if_pos c2]
      refine Ev.neg (by decide) (Ev.succ ?_)
      simp only [octet_Var.j0]
      rw [w2m]
      exact own_one (by omega)
    · simp only [if_neg c2]
      refine Ev.neg (by decide) (Ev.succ ?_)
      simp only [octet_Var.j0]
      rw [w3m]
      exact own_two (by omega)
theorem ref_end {n : Int} {l : List Int} (h0 : 0 ≤ n) (h1 : n < 2 ^ 21) (hl : l.length < 140737488355000) : Ev (fun m => hachureref02_Var.l1 m n l 0) (l ++ [n % 128]) := by
  refine Ev.succ ?_
  simp only [hachureref02_Var.l1]
  rw [last_ref h0 h1]
  exact Ev.neg (by decide) (Ev.pos (by omega) (Ev.now _))
theorem ref_one {n : Int} {l : List Int} (h0 : 0 ≤ n) (h1 : n < 2 ^ 21) (hl : l.length < 140737488354000) : Ev (fun m => hachureref02_Var.l1 m n l 1) (l ++ [or8 (n / 128), n % 128]) := by
  refine Ev.succ ?_
  simp only [hachureref02_Var.l1]
  rw [w71, u7, shr7, w10, ref_hi (by omega) (by omega)]
  refine Ev.pos (by decide) (Ev.pos (by decide) (Ev.pos (by omega) ?_))
  have := ref_end (n := n) (l := l ++ [or8 (n / 128)]) h0 h1 (by rw [List.length_append, List.length_singleton]; omega)
  rw [List.append_assoc] at this
  exact this
theorem ref_two {n : Int} {l : List Int} (h0 : 0 ≤ n) (h1 : n < 2 ^ 21) (hl : l.length < 140737488353000) : Ev (fun m => hachureref02_Var.l1 m n l 2) (l ++ [or8 (n / 16384), or8 (n / 128), n % 128]) := by
  refine Ev.succ ?_
  simp only [hachureref02_Var.l1]
  rw [w72, u14, shr14, w2m, ref_hi (by omega) (by omega)]
  refine Ev.pos (by decide) (Ev.pos (by decide) (Ev.pos (by omega) ?_))
  have := ref_one (n := n) (l := l ++ [or8 (n / 16384)]) h0 h1 (by rw [List.length_append, List.length_singleton]; omega)
  rw [List.append_assoc] at this
  exact this
theorem var_ref (l : List Int) {n : Int} (h0 : 0 ≤ n) (h1 : n < 2 ^ 21) (hl : l.length < 140737488350000) : Ev (fun m => hachureref02_Var.f m l n) (l ++ varL n) := by
  simp only [hachureref02_Var.f]
  refine Ev.bind1 rfl (Ev.pos (by simp only [List.length_nil]; omega) ?_)
  refine Ev.bind1 rfl (Ev.bind (size_ref h0 h1) ?_)
  rw [List.nil_append]
  unfold varN varL
  by_cases c1 : n < 128
  · simp only [if_pos c1]
    refine Ev.neg (by decide) ?_
    rw [w10]
    exact ref_end h0 h1 (by omega)
  · simp only [if_neg c1]
    by_cases c2 : n < 16384
    · simp only [if_pos c2]
      refine Ev.neg (by decide) ?_
      rw [w2m]
      exact ref_one h0 h1 (by omega)
    · simp only [if_neg c2]
      refine Ev.neg (by decide) ?_
      rw [w3m]
      exact ref_two h0 h1 (by omega)
/-! ### Bytes -/
def contB (k n : Int) (s : ByteArray) : List Int := if k = 1 then (lows (IntKind.u64.wrap n) 8).reverse else if k = 2 then varL (s.size : Int) ++ bytesOf s else if k = 3 then [n % 256] else []
theorem contB_length (k n : Int) (s : ByteArray) (hs : s.size ≤ 200 ∨ k ≠ 2) : (contB k n s).length ≤ 203 := by
  unfold contB
  split
  · rw [List.length_reverse, lows_length]; omega
  · split
    · have := varL_length (s.size : Int)
      rw [List.length_append, bytesOf_length]
      omega
    · split <;> simp
theorem cont_own (k n : Int) (s : ByteArray) (hg : goodV k n s = true) : Ev (fun m => value_content.f m (ofV k n s)) (contB k n s) := by
  rcases ofV_cases k n s with ⟨hv, _, rfl, rfl, hs⟩ | ⟨hv, _, rfl, hs⟩ | ⟨hv, hg2, rfl, rfl⟩ | ⟨hv, _, rfl, hs, hn⟩ | ⟨hv, hb⟩
  · rw [hv]
    exact Ev.all fun m => rfl
  · rw [hv]
    refine Ev.all fun m => ?_
    show octet_Put.f [] (IntKind.u64.wrap n) 8 false = _
    unfold octet_Put.f
    rw [if_pos (by simp)]
    rfl
  · rw [hv]
    rw [hg2] at hg
    have hs : s.size ≤ 200 := by
      simp only [Bool.and_eq_true, decide_eq_true_eq] at hg
      exact hg.1
    have h := var_own [] (n := (s.size : Int)) (by omega) (by omega) (by simp)
    show Ev (fun m => if s.size ≤ 9223372036854775807 then (octet_Var.f m [] (s.size : Int)).bind fun l => (if l.length + s.size ≤ 140737488355328 then some (l ++ bytesOf s) else none) else none) _
    refine Ev.pos (by omega) (Ev.bind h ?_)
    have := varL_length (s.size : Int)
    rw [List.nil_append]
    exact Ev.pos (by omega) (Ev.now _)
  · rw [hv]
    refine Ev.all fun m => ?_
    rcases hn with rfl | rfl <;> rfl
  · rw [hg] at hb
    cases hb
def elemsB : List Int → List Val → List Int
  | acc, [] => acc
  | acc, e :: es => if goodV e.f0 e.f1 e.f2 = true then elemsB ((acc ++ [e.f0 % 256]) ++ contB e.f0 e.f1 e.f2) es else []
theorem good_size {k n : Int} {s : ByteArray} (hg : goodV k n s = true) : s.size ≤ 200 ∨ k ≠ 2 := by
  by_cases c : k = 2
  · subst c
    unfold goodV at hg
    simp at hg
    exact .inl hg.2.1
  · exact .inr c
theorem rd_drop (l : List Val) (x : Nat) (h : x < l.length) : rd_T73 l (x : Int) = l[x] := by
  unfold rd_T73
  rw [Int.toNat_natCast, List.getD_eq_getElem?_getD, List.getElem?_eq_getElem h]
  rfl
theorem loop_ev (l : List Val) (hl : l.length ≤ 4) : ∀ (d x : Nat) (acc : List Int), x + d = l.length → acc.length ≤ 40000 + 400 * x →
    Ev (fun m => value_Bytes.l0 m acc l (l.length : Int) (x : Int)) (elemsB acc (l.drop x)) ∧ Ev (fun m => hachureref21_Bytes.l0 m acc l (l.length : Int) (x : Int)) (elemsB acc (l.drop x)) := by
  intro d
  induction d with
  | zero =>
    intro x acc hx _
    rw [List.drop_eq_nil_of_le (by omega)]
    refine ⟨Ev.succ ?_, Ev.succ ?_⟩
    · simp only [value_Bytes.l0]
      exact Ev.neg (by omega) (Ev.now _)
    · simp only [hachureref21_Bytes.l0]
      exact Ev.neg (by omega) (Ev.now _)
  | succ d ih =>
    intro x acc hx ha
    have hlt : x < l.length := by omega
    rw [List.drop_eq_getElem_cons hlt]
    have hrd := rd_drop l x hlt
    have hw : wrap64 ((x : Int) + 1) = ((x + 1 : Nat) : Int) := by unfold wrap64; omega
    generalize l[x] = e at *
    show Ev _ (if goodV e.f0 e.f1 e.f2 = true then elemsB ((acc ++ [e.f0 % 256]) ++ contB e.f0 e.f1 e.f2) (l.drop (x + 1)) else []) ∧ Ev _ (if goodV e.f0 e.f1 e.f2 = true then elemsB ((acc ++ [e.f0 % 256]) ++ contB e.f0 e.f1 e.f2) (l.drop (x + 1)) else [])
    by_cases hg : goodV e.f0 e.f1 e.f2 = true
    · rw [if_pos hg]
      have hcl := contB_length e.f0 e.f1 e.f2 (good_size hg)
      have hgs := good_size hg
      have hal : (acc ++ [e.f0 % 256]).length = acc.length + 1 := by rw [List.length_append, List.length_singleton]
      obtain ⟨i1, i2⟩ := ih (x + 1) ((acc ++ [e.f0 % 256]) ++ contB e.f0 e.f1 e.f2) (by omega) (by rw [List.length_append, hal]; omega)
      generalize elemsB ((acc ++ [e.f0 % 256]) ++ contB e.f0 e.f1 e.f2) (l.drop (x + 1)) = R at i1 i2 ⊢
      refine ⟨Ev.succ ?_, Ev.succ ?_⟩
      · simp only [value_Bytes.l0]
        rw [hrd, hw]
        refine Ev.pos (by omega) (Ev.pos (by omega) (Ev.pos (by omega) (Ev.bind1 (a := true) (congrArg some hg) (Ev.pos rfl (Ev.pos (by omega) (Ev.bind1 rfl (Ev.bind1 rfl (Ev.bind (cont_own _ _ _ hg) (Ev.pos (by rw [hal]; omega) i1)))))))))
      · simp only [hachureref21_Bytes.l0]
        rw [hrd, hw]
        refine Ev.pos (by omega) (Ev.pos (by omega) (Ev.pos (by omega) (Ev.bind (by have := good_ev e.f0 e.f1 e.f2; rw [hg] at this; exact this) (Ev.pos rfl (Ev.pos (by omega) (Ev.bind1 rfl ?_))))))
        unfold contB at i2
        by_cases c1 : e.f0 = 1
        · rw [if_pos c1] at i2
          exact Ev.pos c1 (Ev.bind (put_ev _ _ (by rw [hal]; omega)) i2)
        · rw [if_neg c1] at i2
          refine Ev.neg c1 ?_
          by_cases c2 : e.f0 = 2
          · rw [if_pos c2] at i2
            have hs : e.f2.size ≤ 200 := hgs.resolve_right (fun h => h c2)
            refine Ev.pos c2 (Ev.bind (by have := var_ref (acc ++ [e.f0 % 256]) (n := (e.f2.size : Int)) (by omega) (by omega) (by rw [hal]; omega); rw [← u64_in (x := (e.f2.size : Int)) (by omega) (by omega)] at this; exact this) ?_)
            have hu : IntKind.u64.wrap (e.f2.size : Int) = (e.f2.size : Int) := u64_in (by omega) (by omega)
            have hvl := varL_length (e.f2.size : Int)
            rw [hu]
            refine Ev.pos (by rw [List.length_append, hal]; omega) ?_
            rw [← List.append_assoc] at i2
            exact i2
          · rw [if_neg c2] at i2
            refine Ev.neg c2 ?_
            by_cases c3 : e.f0 = 3
            · rw [if_pos c3] at i2
              exact Ev.pos c3 (Ev.pos (by rw [hal]; omega) i2)
            · rw [if_neg c3, List.append_nil] at i2
              exact Ev.neg c3 i2
    · rw [if_neg hg]
      have hgf : goodV e.f0 e.f1 e.f2 = false := Bool.eq_false_iff.2 hg
      refine ⟨Ev.succ ?_, Ev.succ ?_⟩
      · simp only [value_Bytes.l0]
        rw [hrd]
        exact Ev.pos (by omega) (Ev.pos (by omega) (Ev.pos (by omega) (Ev.bind1 (a := false) (congrArg some hgf) (Ev.neg (by decide) (Ev.now _)))))
      · simp only [hachureref21_Bytes.l0]
        rw [hrd]
        exact Ev.pos (by omega) (Ev.pos (by omega) (Ev.pos (by omega) (Ev.bind (by have := good_ev e.f0 e.f1 e.f2; rw [hgf] at this; exact this) (Ev.neg (by decide) (Ev.now _)))))
def featB (l1 : List Int) (l2 : List Val) : List Int := if l2.length > 4 ∨ l1.length > 20000 then [] else elemsB ((varL (l1.length : Int) ++ l1) ++ [(l2.length : Int) % 256]) l2
theorem bytes_ev (a : Int) (l1 : List Int) (l2 : List Val) : Ev (fun m => value_Bytes.f m a l1 l2) (featB l1 l2) ∧ Ev (fun m => hachureref21_Bytes.f m a l1 l2) (featB l1 l2) := by
  simp only [value_Bytes.f, hachureref21_Bytes.f]
  unfold featB
  by_cases c1 : (l2.length : Int) > 4
  · rw [if_pos (.inl (by omega))]
    refine ⟨Ev.pos c1 (Ev.succ ?_), Ev.pos c1 (Ev.succ ?_)⟩
    · simp only [value_Bytes.j0]
      exact Ev.pos trivial (Ev.now _)
    · simp only [hachureref21_Bytes.j0]
      exact Ev.pos trivial (Ev.now _)
  · by_cases c2 : (l1.length : Int) > 20000
    · rw [if_pos (.inr (by omega))]
      refine ⟨Ev.neg c1 (Ev.succ ?_), Ev.neg c1 (Ev.succ ?_)⟩
      · simp only [value_Bytes.j0]
        exact Ev.pos (decide_eq_true c2) (Ev.now _)
      · simp only [hachureref21_Bytes.j0]
        exact Ev.pos (decide_eq_true c2) (Ev.now _)
    · rw [if_neg (by omega)]
      have hu : IntKind.u64.wrap (l1.length : Int) = (l1.length : Int) := u64_in (by omega) (by omega)
      have hv := varL_length (l1.length : Int)
      have h1 := var_own [] (n := (l1.length : Int)) (by omega) (by omega) (by simp)
      have h2 := var_ref [] (n := (l1.length : Int)) (by omega) (by omega) (by simp)
      rw [List.nil_append] at h1 h2
      obtain ⟨k1, k2⟩ := loop_ev l2 (by omega) l2.length 0 ((varL (l1.length : Int) ++ l1) ++ [(l2.length : Int) % 256]) (by omega) (by simp only [List.length_append, List.length_singleton]; omega)
      rw [List.drop_zero] at k1 k2
      refine ⟨Ev.neg c1 (Ev.succ ?_), Ev.neg c1 (Ev.succ ?_)⟩
      · simp only [value_Bytes.j0]
        rw [hu]
        refine Ev.neg (by rw [decide_eq_true_eq]; exact c2) (Ev.bind h1 (Ev.pos (by omega) (Ev.bind1 rfl (Ev.pos (by rw [List.length_append]; omega) k1))))
      · simp only [hachureref21_Bytes.j0]
        rw [hu]
        refine Ev.neg (by rw [decide_eq_true_eq]; exact c2) (Ev.bind h2 (Ev.pos (by omega) (Ev.bind1 rfl (Ev.pos (by rw [List.length_append]; omega) k2))))
/-! ### Same -/
theorem val_loop (l m : List Val) (hl : l.length ≤ 100) (hlm : l.length = m.length) (a1 a2 : Int) (b1 b2 : List Int) : ∀ (d x : Nat), x + d = l.length →
    ∃ r, Ev (fun k => api_Value.l0 k l m (l.length : Int) (x : Int)) r ∧ Ev (fun k => hachureref21_Same.l0 k (l.length : Int) (x : Int) a1 b1 l a2 b2 m) r := by
  intro d
  induction d with
  | zero =>
    intro x hx
    refine ⟨true, Ev.succ ?_, Ev.succ ?_⟩
    · simp only [api_Value.l0]
      exact Ev.neg (by omega) (Ev.now _)
    · simp only [hachureref21_Same.l0]
      exact Ev.neg (by omega) (Ev.now _)
  | succ d ih =>
    intro x hx
    have hw : wrap64 ((x : Int) + 1) = ((x + 1 : Nat) : Int) := by unfold wrap64; omega
    obtain ⟨r, h1, h2⟩ := ih (x + 1) (by omega)
    by_cases c : (!(((rd_T73 l x).f0) == ((rd_T73 m x).f0)) || (!(((rd_T73 l x).f1) == ((rd_T73 m x).f1)) || (!((((rd_T73 l x).f2).toList) == (((rd_T73 m x).f2).toList))))) = true
    · refine ⟨false, Ev.succ ?_, Ev.succ ?_⟩
      · simp only [api_Value.l0]
        exact Ev.pos (by omega) (Ev.pos (by omega) (Ev.pos (by omega) (Ev.pos (by omega) (Ev.pos c (Ev.now _)))))
      · simp only [hachureref21_Same.l0]
        exact Ev.pos (by omega) (Ev.pos (by omega) (Ev.pos (by omega) (Ev.pos (by omega) (Ev.pos c (Ev.now _)))))
    · refine ⟨r, Ev.succ ?_, Ev.succ ?_⟩
      · simp only [api_Value.l0]
        rw [hw]
        exact Ev.pos (by omega) (Ev.pos (by omega) (Ev.pos (by omega) (Ev.pos (by omega) (Ev.neg c h1))))
      · simp only [hachureref21_Same.l0]
        rw [hw]
        exact Ev.pos (by omega) (Ev.pos (by omega) (Ev.pos (by omega) (Ev.pos (by omega) (Ev.neg c h2))))
theorem same_ev (a1 : Int) (b1 : List Int) (l : List Val) (a2 : Int) (b2 : List Int) (m : List Val) (hl : l.length ≤ 100) :
    ∃ r, Ev (fun k => value_Same.f k a1 b1 l a2 b2 m) r ∧ Ev (fun k => hachureref21_Same.f k a1 b1 l a2 b2 m) r := by
  have hbad : Ev (fun k => hachureref21_Same.j0 k true a1 b1 l a2 b2 m) false := by
    refine Ev.succ ?_
    simp only [hachureref21_Same.j0]
    exact Ev.pos trivial (Ev.now _)
  simp only [value_Same.f, hachureref21_Same.f]
  by_cases c1 : a1 = a2
  · by_cases c2 : (strOfNums b1).toList = (strOfNums b2).toList
    · have he : bytes_Equal.f b1 b2 = some true := congrArg some (by rw [c2]; simp)
      by_cases c4 : l.length = m.length
      · obtain ⟨r, h1, h2⟩ := val_loop l m hl c4 a1 a2 b1 b2 l.length 0 (by omega)
        refine ⟨r, Ev.pos c1 (Ev.bind1 he (Ev.pos rfl (Ev.bind (a := r) ?_ (Ev.now _)))), Ev.pos c1 (Ev.pos c2 (Ev.succ ?_))⟩
        · simp only [api_Value.f]
          exact Ev.pos (by omega) h1
        · simp only [hachureref21_Same.j0]
          exact Ev.neg (by simp [c4]) h2
      · refine ⟨false, Ev.pos c1 (Ev.bind1 he (Ev.pos rfl (Ev.bind (a := false) ?_ (Ev.now _)))), Ev.pos c1 (Ev.pos c2 (Ev.succ ?_))⟩
        · simp only [api_Value.f]
          exact Ev.neg (by omega) (Ev.now _)
        · simp only [hachureref21_Same.j0]
          exact Ev.pos (by rw [bne_iff_ne]; omega) (Ev.now _)
    · have he : bytes_Equal.f b1 b2 = some false := congrArg some (beq_eq_false_iff_ne.2 c2)
      exact ⟨false, Ev.pos c1 (Ev.bind1 he (Ev.neg (by decide) (Ev.now _))), Ev.pos c1 (Ev.neg c2 hbad)⟩
  · exact ⟨false, Ev.neg c1 (Ev.now _), Ev.neg c1 hbad⟩
/-! ### light -/
theorem light_loop (l : List Val) (hl : l.length ≤ 20) : ∀ (d x : Nat) (n : Int), x + d = l.length → ∃ b, Ev (fun k => hachurelaw21_light.l0 k n l (l.length : Int) (x : Int)) b := by
  intro d
  induction d with
  | zero =>
    intro x n hx
    refine ⟨true, Ev.succ ?_⟩
    simp only [hachurelaw21_light.l0]
    exact Ev.neg (by omega) (Ev.now _)
  | succ d ih =>
    intro x n hx
    have hw : wrap64 ((x : Int) + 1) = ((x + 1 : Nat) : Int) := by unfold wrap64; omega
    by_cases c : wrap64 (n + ((rd_T73 l x).f2.size : Int)) > 30000
    · refine ⟨false, Ev.succ ?_⟩
      simp only [hachurelaw21_light.l0]
      exact Ev.pos (by omega) (Ev.pos (by omega) (Ev.pos (by omega) (Ev.pos c (Ev.now _))))
    · obtain ⟨b, hb⟩ := ih (x + 1) (wrap64 (n + ((rd_T73 l x).f2.size : Int))) (by omega)
      refine ⟨b, Ev.succ ?_⟩
      simp only [hachurelaw21_light.l0]
      rw [hw]
      exact Ev.pos (by omega) (Ev.pos (by omega) (Ev.pos (by omega) (Ev.neg c hb)))
theorem light_ev (a : Int) (l1 : List Int) (l2 : List Val) : ∃ b, Ev (fun k => hachurelaw21_light.f k a l1 l2) b ∧ (b = true → l2.length ≤ 20) := by
  simp only [hachurelaw21_light.f]
  by_cases c1 : (l2.length : Int) > 20
  · refine ⟨false, Ev.pos c1 (Ev.succ ?_), fun h => by cases h⟩
    simp only [hachurelaw21_light.j0]
    exact Ev.pos trivial (Ev.now _)
  · by_cases c2 : (l1.length : Int) > 25000
    · refine ⟨false, Ev.neg c1 (Ev.succ ?_), fun h => by cases h⟩
      simp only [hachurelaw21_light.j0]
      exact Ev.pos (decide_eq_true c2) (Ev.now _)
    · obtain ⟨b, hb⟩ := light_loop l2 (by omega) l2.length 0 (l1.length : Int) (by omega)
      refine ⟨b, Ev.neg c1 (Ev.succ ?_), fun _ => by omega⟩
      simp only [hachurelaw21_light.j0]
      exact Ev.neg (by rw [decide_eq_true_eq]; exact c2) hb
/-! ### lives -/
theorem lives_cont : contB 1 5 (⟨#[]⟩ : ByteArray) = [0, 0, 0, 0, 0, 0, 0, 5] := by
  unfold contB lows
  rw [if_pos rfl, u64_in (by omega) (by omega)]
  decide +kernel
theorem lives_good : goodV 1 5 (⟨#[]⟩ : ByteArray) = true := by
  unfold goodV
  rw [ByteArray.toList_eq]
  decide
theorem lives_bytes : featB [] [(⟨1, 5, (⟨#[]⟩ : ByteArray)⟩ : Val)] = [0, 1, 1, 0, 0, 0, 0, 0, 0, 0, 5] := by
  unfold featB
  rw [if_neg (by simp)]
  show (if goodV 1 5 (⟨#[]⟩ : ByteArray) = true then _ ++ contB 1 5 (⟨#[]⟩ : ByteArray) else []) = _
  rw [if_pos lives_good, lives_cont]
  decide +kernel
theorem lives_print : value_Print.f 2 0 (⟨#[97, 34, 98]⟩ : ByteArray) = some ⟨#[34, 97, 92, 34, 98, 34]⟩ := by decide
theorem lives_ev : Ev (fun k => hachurelaw21_lives.f k) true := by
  simp only [hachurelaw21_lives.f]
  have h := (bytes_ev 0 [] [(⟨1, 5, (⟨#[]⟩ : ByteArray)⟩ : Val)]).1
  rw [lives_bytes] at h
  refine Ev.bind h (Ev.pos ?_ (Ev.bind1 lives_print (Ev.is ?_)))
  · rw [ByteArray.toList_eq]; rfl
  · rw [ByteArray.toList_eq]; rfl
/-! ### the law -/
theorem law_ev (a1 : Int) (b1 : List Int) (l : List Val) (a2 : Int) (b2 : List Int) (m : List Val) : Ev (fun k => hachurelaw21_ValueForms.f k a1 b1 l a2 b2 m) true := by
  have hl : Ev (fun k => hachurelaw21_ValueForms.j0 k true a1 b1 l a2 b2 m) true := by
    refine Ev.succ ?_
    simp only [hachurelaw21_ValueForms.j0]
    exact Ev.pos trivial (Ev.bind lives_ev (Ev.now _))
  simp only [hachurelaw21_ValueForms.f]
  obtain ⟨r1, h1, k1⟩ := light_ev a1 b1 l
  obtain ⟨r2, h2, k2⟩ := light_ev a2 b2 m
  refine Ev.bind h1 ?_
  cases r1 with
  | false => exact Ev.neg (by decide) hl
  | true =>
    refine Ev.pos rfl (Ev.bind h2 ?_)
    cases r2 with
    | false => exact hl
    | true =>
      refine Ev.succ ?_
      simp only [hachurelaw21_ValueForms.j0]
      obtain ⟨g1, g2⟩ := bytes_ev a1 b1 l
      obtain ⟨r, s1, s2⟩ := same_ev a1 b1 l a2 b2 m (by have := k1 rfl; omega)
      exact Ev.neg (by decide) (Ev.bind g1 (Ev.bind g2 (Ev.pos rfl (Ev.bind s1 (Ev.bind s2 (Ev.pos (by simp) (Ev.bind lives_ev (Ev.now _))))))))
end Go.Proofs.YtojiicbdbajljaaDoor.V
