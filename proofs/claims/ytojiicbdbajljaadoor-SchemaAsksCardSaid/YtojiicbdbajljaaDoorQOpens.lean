/- Arguments opened, type by type (printed by wip/opens.py); no condition. -/
import Derived.Test.YtojiicbdbajljaaDoorOpens
import Derived.Test.YtojiicbdbajljaaDoorQx0
namespace Go.Proofs.YtojiicbdbajljaaDoor.Q
open Go.RowKit Go.Proofs.YtojiicbdbajljaaDoorW.PrintWords Go.Proofs.YtojiicbdbajljaaDoorW.PrintLast Go.Proofs.YtojiicbdbajljaaDoorW.PrintMore

abbrev G9 : (ByteArray) → Prop := (fun s : ByteArray => s.size ≤ 140737488351232)
abbrev G3 : (Int) → Prop := (fun n : Int => (Lit.int .i64 n).wf = true)
abbrev G4 : (Bool) → Prop := (fun _ : Bool => True)
abbrev G82 : (S82) → Prop := (fun x : S82 => G9 x.f0 ∧ G3 x.f1 ∧ G4 x.f2)
abbrev G22 : (List (S82)) → Prop := (fun l : List (S82) => (∀ a ∈ l, G82 a) ∧ l.length * Tryd.prog.bytesOf 82 ≤ 140737488351232 ∧ l.length ≤ 9223372036854775807)
abbrev G24 : (S24) → Prop := (fun x : S24 => G9 x.f0 ∧ G3 x.f1 ∧ G3 x.f2 ∧ G22 x.f3)
theorem opens_9 : Opens Tryd.prog 9 Kd.string G9 := Opens.string Tryd.underlying9 (by kernel_rfl)
theorem cells_9 : Tryd.prog.cellsOf 9 = 1 := by kernel_rfl
theorem opens_3 : Opens Tryd.prog 3 (Kd.int .i64) G3 := Opens.int Tryd.underlying3 (by kernel_rfl)
theorem cells_3 : Tryd.prog.cellsOf 3 = 1 := by kernel_rfl
theorem opens_4 : Opens Tryd.prog 4 Kd.bool G4 := Opens.bool Tryd.underlying4 (by kernel_rfl)
theorem cells_4 : Tryd.prog.cellsOf 4 = 1 := by kernel_rfl
theorem cells_82 : Tryd.prog.cellsOf 82 = 3 := by kernel_rfl
set_option maxRecDepth 100000 in
theorem opensP_82 : Opens Tryd.prog 82 (Kd.pair Kd.string (Kd.pair (Kd.int .i64) Kd.bool)) (fun x : (ByteArray) × (Int) × (Bool) => G9 x.1 ∧ G3 x.2.1 ∧ G4 x.2.2) :=
  ⟨by rw [cells_82]; rfl, fun {H enc w base sp held fuel cs x} hd hn => by
    obtain ⟨xs, n, rfl, rfl, hlen, hxl, hf⟩ := DataW.trod_struct Tryd.underlying82 hd
    rw [cells_82] at hlen
    have hw : ∀ (j : Nat) (t : TypeId) (d : DataW H), ([9, 3, 4] : List TypeId)[j]? = some t → (xs.map (·.1))[j]? = some d → Near Tryd.prog t d := fun j t d ht hd k hk => hn k (by simp only [DataW.weights, Tryd.underlying82]; exact DataW.weights_mem_each ht hd k hk)
    match cs, hlen, xs, hxl, hf, hw with
    | [c0, c1, c2], _, [x0, x1, x2], _, hf, hw =>
      have h0 : DataW.trod enc Tryd.prog w base sp held n 9 (([c0, c1, c2].drop 0).take (Tryd.prog.cellsOf 9)) = [x0, x1, x2][0]? := hf 0 _ rfl
      rw [cells_9] at h0
      obtain ⟨a0, k0, g0⟩ := opens_9.op (show DataW.trod enc Tryd.prog w base sp held n 9 [c0] = some x0 from h0) (hw 0 9 _ rfl rfl)
      have h1 : DataW.trod enc Tryd.prog w base sp held n 3 (([c0, c1, c2].drop 1).take (Tryd.prog.cellsOf 3)) = [x0, x1, x2][1]? := hf 1 _ rfl
      rw [cells_3] at h1
      obtain ⟨a1, k1, g1⟩ := opens_3.op (show DataW.trod enc Tryd.prog w base sp held n 3 [c1] = some x1 from h1) (hw 1 3 _ rfl rfl)
      have h2 : DataW.trod enc Tryd.prog w base sp held n 4 (([c0, c1, c2].drop 2).take (Tryd.prog.cellsOf 4)) = [x0, x1, x2][2]? := hf 2 _ rfl
      rw [cells_4] at h2
      obtain ⟨a2, k2, g2⟩ := opens_4.op (show DataW.trod enc Tryd.prog w base sp held n 4 [c2] = some x2 from h2) (hw 2 4 _ rfl rfl)
      exact ⟨(a0, a1, a2), ⟨[c0], [c1, c2], rfl, k0, ⟨[c1], [c2], rfl, k1, k2⟩⟩, ⟨g0, g1, g2⟩⟩⟩
theorem opens_82 : Opens Tryd.prog 82 k82 (fun x => G9 x.f0 ∧ G3 x.f1 ∧ G4 x.f2) :=
  ⟨by rw [cells_82]; rfl, fun hd hn => by
    obtain ⟨a, hK, hG⟩ := opensP_82.op hd hn
    exact ⟨⟨a.1, a.2.1, a.2.2⟩, hK, hG⟩⟩
theorem opens_22 : Opens Tryd.prog 22 (Kd.slice 82 k82) G22 := Opens.slice Tryd.underlying22 (by kernel_rfl) opens_82 z82
theorem cells_22 : Tryd.prog.cellsOf 22 = 1 := by kernel_rfl
theorem cells_24 : Tryd.prog.cellsOf 24 = 4 := by kernel_rfl
set_option maxRecDepth 100000 in
theorem opensP_24 : Opens Tryd.prog 24 (Kd.pair Kd.string (Kd.pair (Kd.int .i64) (Kd.pair (Kd.int .i64) (Kd.slice 82 k82)))) (fun x : (ByteArray) × (Int) × (Int) × (List (S82)) => G9 x.1 ∧ G3 x.2.1 ∧ G3 x.2.2.1 ∧ G22 x.2.2.2) :=
  ⟨by rw [cells_24]; rfl, fun {H enc w base sp held fuel cs x} hd hn => by
    obtain ⟨xs, n, rfl, rfl, hlen, hxl, hf⟩ := DataW.trod_struct Tryd.underlying24 hd
    rw [cells_24] at hlen
    have hw : ∀ (j : Nat) (t : TypeId) (d : DataW H), ([9, 3, 3, 22] : List TypeId)[j]? = some t → (xs.map (·.1))[j]? = some d → Near Tryd.prog t d := fun j t d ht hd k hk => hn k (by simp only [DataW.weights, Tryd.underlying24]; exact DataW.weights_mem_each ht hd k hk)
    match cs, hlen, xs, hxl, hf, hw with
    | [c0, c1, c2, c3], _, [x0, x1, x2, x3], _, hf, hw =>
      have h0 : DataW.trod enc Tryd.prog w base sp held n 9 (([c0, c1, c2, c3].drop 0).take (Tryd.prog.cellsOf 9)) = [x0, x1, x2, x3][0]? := hf 0 _ rfl
      rw [cells_9] at h0
      obtain ⟨a0, k0, g0⟩ := opens_9.op (show DataW.trod enc Tryd.prog w base sp held n 9 [c0] = some x0 from h0) (hw 0 9 _ rfl rfl)
      have h1 : DataW.trod enc Tryd.prog w base sp held n 3 (([c0, c1, c2, c3].drop 1).take (Tryd.prog.cellsOf 3)) = [x0, x1, x2, x3][1]? := hf 1 _ rfl
      rw [cells_3] at h1
      obtain ⟨a1, k1, g1⟩ := opens_3.op (show DataW.trod enc Tryd.prog w base sp held n 3 [c1] = some x1 from h1) (hw 1 3 _ rfl rfl)
      have h2 : DataW.trod enc Tryd.prog w base sp held n 3 (([c0, c1, c2, c3].drop 2).take (Tryd.prog.cellsOf 3)) = [x0, x1, x2, x3][2]? := hf 2 _ rfl
      rw [cells_3] at h2
      obtain ⟨a2, k2, g2⟩ := opens_3.op (show DataW.trod enc Tryd.prog w base sp held n 3 [c2] = some x2 from h2) (hw 2 3 _ rfl rfl)
      have h3 : DataW.trod enc Tryd.prog w base sp held n 22 (([c0, c1, c2, c3].drop 3).take (Tryd.prog.cellsOf 22)) = [x0, x1, x2, x3][3]? := hf 3 _ rfl
      rw [cells_22] at h3
      obtain ⟨a3, k3, g3⟩ := opens_22.op (show DataW.trod enc Tryd.prog w base sp held n 22 [c3] = some x3 from h3) (hw 3 22 _ rfl rfl)
      exact ⟨(a0, a1, a2, a3), ⟨[c0], [c1, c2, c3], rfl, k0, ⟨[c1], [c2, c3], rfl, k1, ⟨[c2], [c3], rfl, k2, k3⟩⟩⟩, ⟨g0, g1, g2, g3⟩⟩⟩
theorem opens_24 : Opens Tryd.prog 24 k24 (fun x => G9 x.f0 ∧ G3 x.f1 ∧ G3 x.f2 ∧ G22 x.f3) :=
  ⟨by rw [cells_24]; rfl, fun hd hn => by
    obtain ⟨a, hK, hG⟩ := opensP_24.op hd hn
    exact ⟨⟨a.1, a.2.1, a.2.2.1, a.2.2.2⟩, hK, hG⟩⟩
end Go.Proofs.YtojiicbdbajljaaDoor.Q
