/- value.right and the document's utf answer alike. -/
import Derived.Test.YtojiicbdbajljaaDoorEvsP
import Derived.Test.YtojiicbdbajljaaDoorVx
import Derived.Laws.BitsLemmas
namespace Go.Proofs.YtojiicbdbajljaaDoor.V
open Go.RowKit Go.Proofs.YtojiicbdbajljaaDoorW.PrintWords Go.Proofs.YtojiicbdbajljaaDoorW.PrintLast Go.Proofs.YtojiicbdbajljaaDoorW.PrintMore

set_option maxRecDepth 100000 in
theorem and192 {b : Int} (h0 : 0 ≤ b) (h1 : b ≤ 255) : (bits .and .u8 b 192 = 128) ↔ b / 64 = 2 := by
  have key : ∀ n : Fin 256, (bits .and .u8 ((n.val : Nat) : Int) 192 = 128) ↔ ((n.val : Nat) : Int) / 64 = 2 := by decide
  obtain ⟨n, rfl⟩ := Int.eq_ofNat_of_zero_le h0
  exact key ⟨n, by omega⟩
/-- Byte number k behind i, as the decoder has it. -/
def nb (s : ByteArray) (j : Nat) : Nat := (s.get! j).toNat
theorem nb_lt (s : ByteArray) (j : Nat) : nb s j < 256 := (s.get! j).toNat_lt
theorem bt_nb (s : ByteArray) (j : Nat) (h : j < s.size) : bt s (j : Int) = (nb s j : Int) := by
  rw [← bt_at s (j : Int) (by simpa using h)]
  unfold nb
  have := Go.get_at s j h
  rw [Nat.add_zero] at this
  rw [this]
  rfl
/-- Is byte j a following one? -/
def cont (s : ByteArray) (j : Nat) : Prop := j < s.size ∧ nb s j / 64 = 2
instance (s : ByteArray) (j : Nat) : Decidable (cont s j) := by unfold cont; infer_instance
theorem get_data (s : ByteArray) (j : Nat) (h : j < s.size) : s.data.toList[j]? = some (s.get! j) := by
  have := Go.get_at s j h
  rw [Nat.add_zero] at this
  rw [this, List.getElem?_eq_getElem (by rw [data_length]; exact h)]
  rfl
theorem u8_of {c : UInt8} {n : Nat} (h : c.toNat = n) : c = UInt8.ofNat n := by
  rw [← h]
  simp
theorem hasPre_iff (s : ByteArray) (i : Nat) : hasPre (s.extract i s.size) fffd = true ↔ (i + 3 ≤ s.size ∧ nb s i = 239 ∧ nb s (i + 1) = 191 ∧ nb s (i + 2) = 189) := by
  unfold hasPre
  rw [Bool.and_eq_true, decide_eq_true_eq, beq_iff_eq]
  have hz : fffd.size = 3 := rfl
  have hfl : fffd.toList = [239, 191, 189] := by rw [ByteArray.toList_eq]; rfl
  rw [hz, hfl]
  have hsz : (s.extract i s.size).size = s.size - i := by simp [ByteArray.size_extract]
  rw [hsz]
  have hl : ((s.extract i s.size).extract 0 3).toList = ((s.data.toList.drop i).take (s.size - i)).take 3 := by
    rw [Lib.extract_toList, ← Lib.toList_data, Lib.extract_toList, List.drop_zero]
  rw [hl]
  have hg : ∀ j, j < 3 → i + 3 ≤ s.size → (((s.data.toList.drop i).take (s.size - i)).take 3)[j]? = some (s.get! (i + j)) := by
    intro j hj h3
    rw [List.getElem?_take_of_lt hj, List.getElem?_take_of_lt (by omega), List.getElem?_drop, get_data s _ (by omega)]
  constructor
  · rintro ⟨h3, he⟩
    have h3' : i + 3 ≤ s.size := by omega
    have g0 := hg 0 (by omega) h3'
    have g1 := hg 1 (by omega) h3'
    have g2 := hg 2 (by omega) h3'
    rw [he] at g0 g1 g2
    refine ⟨h3', ?_, ?_, ?_⟩
    · have := Option.some.inj g0; unfold nb; rw [Nat.add_zero] at this; rw [← this]; rfl
    · have := Option.some.inj g1; unfold nb; rw [← this]; rfl
    · have := Option.some.inj g2; unfold nb; rw [← this]; rfl
  · rintro ⟨h3, a, b, c⟩
    refine ⟨by omega, List.ext_getElem? fun j => ?_⟩
    match j with
    | 0 => rw [hg 0 (by omega) h3]; exact congrArg some (u8_of a)
    | 1 => rw [hg 1 (by omega) h3]; exact congrArg some (u8_of b)
    | 2 => rw [hg 2 (by omega) h3]; exact congrArg some (u8_of c)
    | j + 3 =>
      rw [List.getElem?_eq_none (by rw [List.length_take]; omega), List.getElem?_eq_none (by simp)]
/-- What the decoder answers. -/
theorem dec_eq (s : ByteArray) (i : Nat) : Utf8.decode s i =
    if nb s i < 128 then (nb s i, 1)
    else if nb s i / 32 = 6 ∧ cont s (i + 1) then (if (nb s i % 32) * 64 + nb s (i + 1) % 64 ≥ 128 then ((nb s i % 32) * 64 + nb s (i + 1) % 64, 2) else (65533, 1))
    else if nb s i / 16 = 14 ∧ cont s (i + 1) ∧ cont s (i + 2) then (if (nb s i % 16) * 4096 + (nb s (i + 1) % 64) * 64 + nb s (i + 2) % 64 ≥ 2048 ∧ Utf8.valid (((nb s i % 16) * 4096 + (nb s (i + 1) % 64) * 64 + nb s (i + 2) % 64 : Nat) : Int) = true then ((nb s i % 16) * 4096 + (nb s (i + 1) % 64) * 64 + nb s (i + 2) % 64, 3) else (65533, 1))
    else if nb s i / 8 = 30 ∧ cont s (i + 1) ∧ cont s (i + 2) ∧ cont s (i + 3) then (if (nb s i % 8) * 262144 + (nb s (i + 1) % 64) * 4096 + (nb s (i + 2) % 64) * 64 + nb s (i + 3) % 64 ≥ 65536 ∧ Utf8.valid (((nb s i % 8) * 262144 + (nb s (i + 1) % 64) * 4096 + (nb s (i + 2) % 64) * 64 + nb s (i + 3) % 64 : Nat) : Int) = true then ((nb s i % 8) * 262144 + (nb s (i + 1) % 64) * 4096 + (nb s (i + 2) % 64) * 64 + nb s (i + 3) % 64, 4) else (65533, 1))
    else (65533, 1) := by
  unfold Utf8.decode nb cont nb Utf8.runeError
  simp only [Nat.add_zero, Bool.and_eq_true, decide_eq_true_eq, beq_iff_eq, ge_iff_le, and_assoc]
theorem wrap32_in {x : Int} (h0 : 0 ≤ x) (h1 : x ≤ 2147483647) : wrap32 x = x := by unfold wrap32; omega
section
variable {s : ByteArray} {i : Nat} {x5 x6 x7 x8 : Int} {j : Nat}
theorem l1_bad (h : x8 ≤ x5) (hj : (i : Int) + x8 = j) (hb : j ≤ 1000000) (hc : ¬ cont s j) : Ev (fun k => hachureref21_utf.l1 k s (i : Int) x5 x6 x7 x8) false := by
  refine Ev.succ ?_
  simp only [hachureref21_utf.l1]
  refine Ev.pos h ?_
  rw [hj, wrap_in (x := (j : Int)) (by omega) (by omega)]
  by_cases c : (j : Int) ≥ (s.size : Int)
  · exact Ev.pos c (Ev.now _)
  · refine Ev.neg c (Ev.pos (by omega) (Ev.pos (by omega) (Ev.neg ?_ (Ev.now _))))
    rw [bt_nb s j (by omega), and192 (by omega) (by have := nb_lt s j; omega)]
    intro e
    exact hc ⟨by omega, by omega⟩
theorem l1_go {r : Bool} (h : x8 ≤ x5) (hj : (i : Int) + x8 = j) (hb : j ≤ 1000000) (h5 : x5 ≤ 3) (h8 : 0 ≤ x8) (hx0 : 0 ≤ x7) (hx1 : x7 < 30000000) (hc : cont s j) (k : Ev (fun k => hachureref21_utf.l1 k s (i : Int) x5 x6 (x7 * 64 + ((nb s j % 64 : Nat) : Int)) (x8 + 1)) r) :
    Ev (fun k => hachureref21_utf.l1 k s (i : Int) x5 x6 x7 x8) r := by
  obtain ⟨hc1, hc2⟩ := hc
  have hlt := nb_lt s j
  refine Ev.succ ?_
  simp only [hachureref21_utf.l1]
  refine Ev.pos h ?_
  rw [hj, wrap_in (x := (j : Int)) (by omega) (by omega), bt_nb s j hc1]
  refine Ev.neg (by omega) (Ev.pos (by omega) (Ev.pos (by omega) (Ev.pos ?_ ?_)))
  · rw [and192 (by omega) (by omega)]
    omega
  · have e1 : bits .and .u8 (nb s j : Int) 63 = (nb s j : Int) % 64 := u8_and63 _ (by omega) (by omega)
    rw [e1, wrap32_in (x := x7 * 64) (by omega) (by omega), wrap32_in (x := (nb s j : Int) % 64) (by omega) (by omega)]
    have e2 : bits .or .i32 (x7 * 64) ((nb s j : Int) % 64) = x7 * 64 + (nb s j : Int) % 64 := i32_or6 _ _ (by omega) (by omega) (by omega) (by omega) (by omega)
    rw [e2, wrap_in (x := x8 + 1) (by omega) (by omega)]
    exact k
theorem l1_ok {r : Bool} {m : Nat} (h : x5 < x8) (h6 : x6 ≤ x7) (h7 : x7 ≤ 1114111) (h9 : x7 < 55296 ∨ 57343 < x7) (hm : (i : Int) + (x5 + 1) = m) (hb : m ≤ 1000000) (h5 : 0 ≤ x5) (h3 : x5 ≤ 3) (k : Ev (fun k => hachureref21_utf.l0 k s (m : Int)) r) :
    Ev (fun k => hachureref21_utf.l1 k s (i : Int) x5 x6 x7 x8) r := by
  refine Ev.succ ?_
  simp only [hachureref21_utf.l1]
  refine Ev.neg (by omega) (Ev.neg (by omega) (Ev.neg (by omega) ?_))
  rw [wrap_in (x := x5 + 1) (by omega) (by omega), hm, wrap_in (x := (m : Int)) (by omega) (by omega)]
  by_cases c : x7 ≥ 55296
  · exact Ev.pos c (Ev.neg (by omega) k)
  · exact Ev.neg c k
theorem l1_not (h : x5 < x8) (hn : x7 < x6 ∨ x7 > 1114111 ∨ (55296 ≤ x7 ∧ x7 ≤ 57343)) : Ev (fun k => hachureref21_utf.l1 k s (i : Int) x5 x6 x7 x8) false := by
  refine Ev.succ ?_
  simp only [hachureref21_utf.l1]
  refine Ev.neg (by omega) ?_
  by_cases c1 : x7 < x6
  · exact Ev.pos c1 (Ev.now _)
  · refine Ev.neg c1 ?_
    by_cases c2 : x7 > 1114111
    · exact Ev.pos c2 (Ev.now _)
    · exact Ev.neg c2 (Ev.pos (by omega) (Ev.pos (by omega) (Ev.now _)))
end
theorem valid_iff (c : Nat) : Utf8.valid (c : Int) = true ↔ (c < 55296 ∨ (57344 ≤ c ∧ c ≤ 1114111)) := by
  unfold Utf8.valid
  simp only [Bool.or_eq_true, Bool.and_eq_true, decide_eq_true_eq]
  omega
theorem right_good {s : ByteArray} {i c w : Nat} (hd : Utf8.decode s i = (c, w)) (hc : c ≠ 65533 ∨ hasPre (s.extract i s.size) fffd = true) : rightAt s i = true := by
  unfold rightAt
  rw [hd]
  rcases hc with hc | hc
  · have : (c == 65533) = false := beq_eq_false_iff_ne.2 hc
    simp [this]
  · simp [hc]
theorem right_not {s : ByteArray} {i w : Nat} (hd : Utf8.decode s i = (65533, w)) (hc : ¬ (i + 3 ≤ s.size ∧ nb s i = 239 ∧ nb s (i + 1) = 191 ∧ nb s (i + 2) = 189)) : rightAt s i = false := by
  unfold rightAt
  rw [hd]
  have : hasPre (s.extract i s.size) fffd = false := Bool.eq_false_iff.2 (fun e => hc ((hasPre_iff s i).1 e))
  simp [this]
/-- One rune: the decoder and the document agree. -/
def Step (s : ByteArray) (i : Nat) : Prop :=
  (∃ w, 1 ≤ w ∧ (Utf8.decode s i).2 = w ∧ rightAt s i = true ∧ ∀ r, Ev (fun k => hachureref21_utf.l0 k s ((i + w : Nat) : Int)) r → Ev (fun k => hachureref21_utf.l0 k s (i : Int)) r) ∨
  (rightAt s i = false ∧ Ev (fun k => hachureref21_utf.l0 k s (i : Int)) false)
theorem step_ascii {s : ByteArray} {i : Nat} (hi : i < s.size) (hz : s.size ≤ 100000) (h0 : nb s i < 128) : Step s i := by
  have hd := dec_eq s i
  rw [if_pos h0] at hd
  refine .inl ⟨1, by omega, by rw [hd], right_good hd (.inl (by omega)), fun r k => Ev.succ ?_⟩
  simp only [hachureref21_utf.l0]
  refine Ev.pos (by omega) (Ev.pos (by omega) ?_)
  rw [bt_nb s i hi]
  refine Ev.pos (by omega) (Ev.succ ?_)
  simp only [hachureref21_utf.j3]
  rw [wrap32_in (by omega) (by omega)]
  exact l1_ok (m := i + 1) (by omega) (by omega) (by omega) (by omega) (by omega) (by omega) (by omega) (by omega) k
theorem step_low {s : ByteArray} {i : Nat} (hi : i < s.size) (h0 : 128 ≤ nb s i) (h1 : nb s i < 194) : Step s i := by
  have hd := dec_eq s i
  have hl := nb_lt s (i + 1)
  rw [if_neg (by omega)] at hd
  have hd2 : Utf8.decode s i = (65533, 1) := by
    rw [hd]
    by_cases c : nb s i / 32 = 6 ∧ cont s (i + 1)
    · rw [if_pos c, if_neg (by omega)]
    · rw [if_neg c, if_neg (by omega), if_neg (by omega)]
  refine .inr ⟨right_not hd2 (by omega), Ev.succ ?_⟩
  simp only [hachureref21_utf.l0]
  refine Ev.pos (by omega) (Ev.pos (by omega) ?_)
  rw [bt_nb s i hi]
  refine Ev.neg (by omega) (Ev.neg (by omega) (Ev.succ ?_))
  simp only [hachureref21_utf.j1]
  refine Ev.neg (by decide) (Ev.neg (by omega) (Ev.succ ?_))
  simp only [hachureref21_utf.j2]
  exact Ev.neg (by decide) (Ev.neg (by omega) (Ev.now _))
theorem step_two {s : ByteArray} {i : Nat} (hi : i < s.size) (hz : s.size ≤ 100000) (h0 : 194 ≤ nb s i) (h1 : nb s i < 224) : Step s i := by
  have hd := dec_eq s i
  have hl := nb_lt s (i + 1)
  rw [if_neg (by omega)] at hd
  have go : ∀ r, Ev (fun k => hachureref21_utf.l1 k s (i : Int) 1 128 ((nb s i % 32 : Nat) : Int) 1) r → Ev (fun k => hachureref21_utf.l0 k s (i : Int)) r := by
    intro r k
    refine Ev.succ ?_
    simp only [hachureref21_utf.l0]
    refine Ev.pos (by omega) (Ev.pos (by omega) ?_)
    rw [bt_nb s i hi]
    refine Ev.neg (by omega) (Ev.pos (by omega) (Ev.succ ?_))
    simp only [hachureref21_utf.j1]
    refine Ev.pos (decide_eq_true (by omega)) (Ev.succ ?_)
    simp only [hachureref21_utf.j3]
    have e1 : bits .and .u8 (nb s i : Int) 31 = (nb s i : Int) % 32 := u8_and31 _ (by omega) (by omega)
    rw [e1, wrap32_in (by omega) (by omega)]
    exact k
  by_cases c : cont s (i + 1)
  · rw [if_pos ⟨by omega, c⟩, if_pos (by omega)] at hd
    refine .inl ⟨2, by omega, by rw [hd], right_good hd (.inl (by omega)), fun r k => go r ?_⟩
    refine l1_go (j := i + 1) (by omega) (by omega) (by omega) (by omega) (by omega) (by omega) (by omega) c ?_
    exact l1_ok (m := i + 2) (by omega) (by omega) (by omega) (by omega) (by omega) (by omega) (by omega) (by omega) k
  · rw [if_neg (fun h => c h.2), if_neg (by omega), if_neg (by omega)] at hd
    exact .inr ⟨right_not hd (by omega), go _ (l1_bad (j := i + 1) (by omega) (by omega) (by omega) c)⟩
theorem step_three {s : ByteArray} {i : Nat} (hi : i < s.size) (hz : s.size ≤ 100000) (h0 : 224 ≤ nb s i) (h1 : nb s i < 240) : Step s i := by
  have hd := dec_eq s i
  have hl1 := nb_lt s (i + 1)
  have hl2 := nb_lt s (i + 2)
  rw [if_neg (by omega), if_neg (by omega)] at hd
  have go : ∀ r, Ev (fun k => hachureref21_utf.l1 k s (i : Int) 2 2048 ((nb s i % 16 : Nat) : Int) 1) r → Ev (fun k => hachureref21_utf.l0 k s (i : Int)) r := by
    intro r k
    refine Ev.succ ?_
    simp only [hachureref21_utf.l0]
    refine Ev.pos (by omega) (Ev.pos (by omega) ?_)
    rw [bt_nb s i hi]
    refine Ev.neg (by omega) (Ev.pos (by omega) (Ev.succ ?_))
    simp only [hachureref21_utf.j1]
    refine Ev.neg (by rw [decide_eq_true_eq]; omega) (Ev.pos (by omega) (Ev.succ ?_))
    simp only [hachureref21_utf.j2]
    refine Ev.pos (decide_eq_true (by omega)) (Ev.succ ?_)
    simp only [hachureref21_utf.j3]
    have e1 : bits .and .u8 (nb s i : Int) 15 = (nb s i : Int) % 16 := u8_and15 _ (by omega) (by omega)
    rw [e1, wrap32_in (by omega) (by omega)]
    exact k
  by_cases c : cont s (i + 1) ∧ cont s (i + 2)
  · obtain ⟨c1, c2⟩ := c
    have hm1 := c1.2
    have hm2 := c2.2
    have hsz := c2.1
    rw [if_pos ⟨by omega, c1, c2⟩] at hd
    by_cases v : (nb s i % 16) * 4096 + (nb s (i + 1) % 64) * 64 + nb s (i + 2) % 64 ≥ 2048 ∧ Utf8.valid (((nb s i % 16) * 4096 + (nb s (i + 1) % 64) * 64 + nb s (i + 2) % 64 : Nat) : Int) = true
    · rw [if_pos v] at hd
      have v2 := (valid_iff _).1 v.2
      have v1 := v.1
      refine .inl ⟨3, by omega, by rw [hd], right_good hd ?_, fun r k => go r ?_⟩
      · by_cases e : (nb s i % 16) * 4096 + (nb s (i + 1) % 64) * 64 + nb s (i + 2) % 64 = 65533
        · exact .inr ((hasPre_iff s i).2 ⟨by omega, by omega, by omega, by omega⟩)
        · exact .inl e
      · refine l1_go (j := i + 1) (by omega) (by omega) (by omega) (by omega) (by omega) (by omega) (by omega) c1 ?_
        refine l1_go (j := i + 2) (by omega) (by omega) (by omega) (by omega) (by omega) (by omega) (by omega) c2 ?_
        exact l1_ok (m := i + 3) (by omega) (by omega) (by omega) (by omega) (by omega) (by omega) (by omega) (by omega) k
    · rw [if_neg v] at hd
      have v2 : (nb s i % 16) * 4096 + (nb s (i + 1) % 64) * 64 + nb s (i + 2) % 64 < 2048 ∨ ¬ ((nb s i % 16) * 4096 + (nb s (i + 1) % 64) * 64 + nb s (i + 2) % 64 < 55296 ∨ (57344 ≤ (nb s i % 16) * 4096 + (nb s (i + 1) % 64) * 64 + nb s (i + 2) % 64 ∧ (nb s i % 16) * 4096 + (nb s (i + 1) % 64) * 64 + nb s (i + 2) % 64 ≤ 1114111)) := by
        rcases Classical.em ((nb s i % 16) * 4096 + (nb s (i + 1) % 64) * 64 + nb s (i + 2) % 64 ≥ 2048) with h | h
        · exact .inr (fun e => v ⟨h, (valid_iff _).2 e⟩)
        · exact .inl (by omega)
      refine .inr ⟨right_not hd (by omega), go _ ?_⟩
      refine l1_go (j := i + 1) (by omega) (by omega) (by omega) (by omega) (by omega) (by omega) (by omega) c1 ?_
      refine l1_go (j := i + 2) (by omega) (by omega) (by omega) (by omega) (by omega) (by omega) (by omega) c2 ?_
      exact l1_not (by omega) (by omega)
  · rw [if_neg (fun h => c h.2), if_neg (by omega)] at hd
    refine .inr ⟨right_not hd ?_, go _ ?_⟩
    · rintro ⟨q1, q2, q3, q4⟩
      exact c ⟨⟨by omega, by omega⟩, ⟨by omega, by omega⟩⟩
    · by_cases c1 : cont s (i + 1)
      · refine l1_go (j := i + 1) (by omega) (by omega) (by have := c1.1; omega) (by omega) (by omega) (by omega) (by omega) c1 ?_
        exact l1_bad (j := i + 2) (by omega) (by omega) (by have := c1.1; omega) (fun h => c ⟨c1, h⟩)
      · exact l1_bad (j := i + 1) (by omega) (by omega) (by omega) c1
theorem step_four {s : ByteArray} {i : Nat} (hi : i < s.size) (hz : s.size ≤ 100000) (h0 : 240 ≤ nb s i) (h1 : nb s i < 245) : Step s i := by
  have hd := dec_eq s i
  have hl1 := nb_lt s (i + 1)
  have hl2 := nb_lt s (i + 2)
  have hl3 := nb_lt s (i + 3)
  rw [if_neg (by omega), if_neg (by omega), if_neg (by omega)] at hd
  have go : ∀ r, Ev (fun k => hachureref21_utf.l1 k s (i : Int) 3 65536 ((nb s i % 8 : Nat) : Int) 1) r → Ev (fun k => hachureref21_utf.l0 k s (i : Int)) r := by
    intro r k
    refine Ev.succ ?_
    simp only [hachureref21_utf.l0]
    refine Ev.pos (by omega) (Ev.pos (by omega) ?_)
    rw [bt_nb s i hi]
    refine Ev.neg (by omega) (Ev.pos (by omega) (Ev.succ ?_))
    simp only [hachureref21_utf.j1]
    refine Ev.neg (by rw [decide_eq_true_eq]; omega) (Ev.pos (by omega) (Ev.succ ?_))
    simp only [hachureref21_utf.j2]
    refine Ev.neg (by rw [decide_eq_true_eq]; omega) (Ev.pos (by omega) (Ev.pos (by omega) (Ev.succ ?_)))
    simp only [hachureref21_utf.j3]
    have e1 : bits .and .u8 (nb s i : Int) 7 = (nb s i : Int) % 8 := u8_and7 _ (by omega) (by omega)
    rw [e1, wrap32_in (by omega) (by omega)]
    exact k
  by_cases c : cont s (i + 1) ∧ cont s (i + 2) ∧ cont s (i + 3)
  · obtain ⟨c1, c2, c3⟩ := c
    have hsz := c3.1
    rw [if_pos ⟨by omega, c1, c2, c3⟩] at hd
    by_cases v : (nb s i % 8) * 262144 + (nb s (i + 1) % 64) * 4096 + (nb s (i + 2) % 64) * 64 + nb s (i + 3) % 64 ≥ 65536 ∧ Utf8.valid (((nb s i % 8) * 262144 + (nb s (i + 1) % 64) * 4096 + (nb s (i + 2) % 64) * 64 + nb s (i + 3) % 64 : Nat) : Int) = true
    · rw [if_pos v] at hd
      have v2 := (valid_iff _).1 v.2
      have v1 := v.1
      refine .inl ⟨4, by omega, by rw [hd], right_good hd (.inl (by omega)), fun r k => go r ?_⟩
      refine l1_go (j := i + 1) (by omega) (by omega) (by omega) (by omega) (by omega) (by omega) (by omega) c1 ?_
      refine l1_go (j := i + 2) (by omega) (by omega) (by omega) (by omega) (by omega) (by omega) (by omega) c2 ?_
      refine l1_go (j := i + 3) (by omega) (by omega) (by omega) (by omega) (by omega) (by omega) (by omega) c3 ?_
      exact l1_ok (m := i + 4) (by omega) (by omega) (by omega) (by omega) (by omega) (by omega) (by omega) (by omega) k
    · rw [if_neg v] at hd
      have v2 : (nb s i % 8) * 262144 + (nb s (i + 1) % 64) * 4096 + (nb s (i + 2) % 64) * 64 + nb s (i + 3) % 64 < 65536 ∨ ¬ ((nb s i % 8) * 262144 + (nb s (i + 1) % 64) * 4096 + (nb s (i + 2) % 64) * 64 + nb s (i + 3) % 64 < 55296 ∨ (57344 ≤ (nb s i % 8) * 262144 + (nb s (i + 1) % 64) * 4096 + (nb s (i + 2) % 64) * 64 + nb s (i + 3) % 64 ∧ (nb s i % 8) * 262144 + (nb s (i + 1) % 64) * 4096 + (nb s (i + 2) % 64) * 64 + nb s (i + 3) % 64 ≤ 1114111)) := by
        rcases Classical.em ((nb s i % 8) * 262144 + (nb s (i + 1) % 64) * 4096 + (nb s (i + 2) % 64) * 64 + nb s (i + 3) % 64 ≥ 65536) with h | h
        · exact .inr (fun e => v ⟨h, (valid_iff _).2 e⟩)
        · exact .inl (by omega)
      refine .inr ⟨right_not hd (by omega), go _ ?_⟩
      refine l1_go (j := i + 1) (by omega) (by omega) (by omega) (by omega) (by omega) (by omega) (by omega) c1 ?_
      refine l1_go (j := i + 2) (by omega) (by omega) (by omega) (by omega) (by omega) (by omega) (by omega) c2 ?_
      refine l1_go (j := i + 3) (by omega) (by omega) (by omega) (by omega) (by omega) (by omega) (by omega) c3 ?_
      exact l1_not (by omega) (by omega)
  · rw [if_neg (fun h => c h.2)] at hd
    refine .inr ⟨right_not hd (by omega), go _ ?_⟩
    by_cases c1 : cont s (i + 1)
    · refine l1_go (j := i + 1) (by omega) (by omega) (by have := c1.1; omega) (by omega) (by omega) (by omega) (by omega) c1 ?_
      by_cases c2 : cont s (i + 2)
      · refine l1_go (j := i + 2) (by omega) (by omega) (by have := c1.1; omega) (by omega) (by omega) (by omega) (by omega) c2 ?_
        exact l1_bad (j := i + 3) (by omega) (by omega) (by have := c1.1; omega) (fun h => c ⟨c1, c2, h⟩)
      · exact l1_bad (j := i + 2) (by omega) (by omega) (by have := c1.1; omega) c2
    · exact l1_bad (j := i + 1) (by omega) (by omega) (by omega) c1
theorem step_high {s : ByteArray} {i : Nat} (hi : i < s.size) (h0 : 245 ≤ nb s i) : Step s i := by
  have hd := dec_eq s i
  rw [if_neg (by omega), if_neg (by omega), if_neg (by omega)] at hd
  have hd2 : Utf8.decode s i = (65533, 1) := by
    rw [hd]
    by_cases c : nb s i / 8 = 30 ∧ cont s (i + 1) ∧ cont s (i + 2) ∧ cont s (i + 3)
    · rw [if_pos c, if_neg (fun v => by have := (valid_iff _).1 v.2; omega)]
    · rw [if_neg c]
  have hl := nb_lt s i
  refine .inr ⟨right_not hd2 (by omega), Ev.succ ?_⟩
  simp only [hachureref21_utf.l0]
  refine Ev.pos (by omega) (Ev.pos (by omega) ?_)
  rw [bt_nb s i hi]
  refine Ev.neg (by omega) (Ev.pos (by omega) (Ev.succ ?_))
  simp only [hachureref21_utf.j1]
  refine Ev.neg (by rw [decide_eq_true_eq]; omega) (Ev.pos (by omega) (Ev.succ ?_))
  simp only [hachureref21_utf.j2]
  exact Ev.neg (by rw [decide_eq_true_eq]; omega) (Ev.pos (by omega) (Ev.neg (by omega) (Ev.now _)))
theorem step {s : ByteArray} {i : Nat} (hi : i < s.size) (hz : s.size ≤ 100000) : Step s i := by
  by_cases h1 : nb s i < 128
  · exact step_ascii hi hz h1
  · by_cases h2 : nb s i < 194
    · exact step_low hi (by omega) h2
    · by_cases h3 : nb s i < 224
      · exact step_two hi hz (by omega) h3
      · by_cases h4 : nb s i < 240
        · exact step_three hi hz (by omega) h4
        · by_cases h5 : nb s i < 245
          · exact step_four hi hz (by omega) h5
          · exact step_high hi (by omega)
theorem utf_from (s : ByteArray) (hz : s.size ≤ 100000) : ∀ (k i : Nat), s.size + 1 ≤ k + i → Ev (fun n => hachureref21_utf.l0 n s (i : Int)) (rightFrom s k i) := by
  intro k
  induction k with
  | zero =>
    intro i h
    refine Ev.succ ?_
    simp only [hachureref21_utf.l0]
    exact Ev.neg (by omega) (Ev.now _)
  | succ k ih =>
    intro i h
    show Ev _ (if i < s.size then rightAt s i && rightFrom s k (i + (Utf8.decode s i).2) else true)
    by_cases hi : i < s.size
    · rw [if_pos hi]
      rcases step hi hz with ⟨w, h1, h2, h3, h4⟩ | ⟨h1, h2⟩
      · rw [h3, h2, Bool.true_and]
        exact h4 _ (ih (i + w) (by omega))
      · rw [h1, Bool.false_and]
        exact h2
    · rw [if_neg hi]
      refine Ev.succ ?_
      simp only [hachureref21_utf.l0]
      exact Ev.neg (by omega) (Ev.now _)
theorem utf_ev (s : ByteArray) (hz : s.size ≤ 100000) : Ev (fun n => hachureref21_utf.f n s) (rightB s) := by
  simp only [hachureref21_utf.f]
  exact utf_from s hz (s.size + 1) 0 (by omega)
end Go.Proofs.YtojiicbdbajljaaDoor.V
