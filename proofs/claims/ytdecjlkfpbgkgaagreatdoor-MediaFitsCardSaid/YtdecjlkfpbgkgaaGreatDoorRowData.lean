/- A row's structs, and slices of them, that a call is handed, read as the printed texts' values. -/
import Derived.Test.YtdecjlkfpbgkgaaGreatDoorPm0
import Derived.Deep.SlicePairs
import Derived.ChangeArms
import Derived.ChangeSame
import Derived.WideShapes
import Derived.SizedLaws
namespace Go.Proofs.YtdecjlkfpbgkgaaGreatDoor.RowData
open Go.RowKit Go.Deep Go.ChangeShapes Go.WideShapes Go.Proofs.YtdecjlkfpbgkgaaGreatDoorW.PrintWords Go.Proofs.YtdecjlkfpbgkgaaGreatDoor.Pm
set_option linter.unusedSimpArgs false
theorem weightsAll_mem {H : Type} {P : Program} {e : TypeId} : ∀ {ds : List (DataW H)} {d : DataW H} {n : Nat}, d ∈ ds → n ∈ d.weights P e → n ∈ DataW.weightsAll P e ds
  | a :: t, d, n, hd, hn => by
    rw [DataW.weightsAll, List.mem_append]
    rcases List.mem_cons.1 hd with rfl | hd
    · exact .inl hn
    · exact .inr (weightsAll_mem hd hn)
  | [], _, _, hd, _ => by simp at hd
set_option maxRecDepth 100000 in
theorem rows38_len {H : Type} {enc : TypeId × Value → H} {W : World} {fuel : Nat} {a : Option Addr} {len cap : Nat} {x : DataW H × List MemPlace} (h : DataW.trod enc Tryz.prog W 0 (fun _ => true) true fuel 23 [.slice a len cap] = some x) (hz : ∀ n ∈ x.1.weights Tryz.prog 23, n ≤ reachBytes) : len ≤ 140737488351232 := by
  rcases open_slice_pairs Tryz.underlying23 Tryz.underlying38 (by kernel_rfl) rfl rfl (by kernel_rfl) (by kernel_rfl) h with ⟨hcs, _⟩ | ⟨ad, len', cap', m, n, V0, V1, D0, D1, P0, P1, hcs, _, hl, hm, hmm, hxx, hx⟩
  · simp at hcs
    obtain ⟨rfl, rfl, rfl⟩ := hcs
    exact Nat.zero_le _
  · simp at hcs
    obtain ⟨rfl, rfl, rfl⟩ := hcs
    rw [hxx] at hz
    simp only [DataW.weights, Tryz.underlying23] at hz
    have := hz _ (List.mem_cons_self ..)
    have hb : Tryz.prog.bytesOf 38 = 32 := by kernel_rfl
    have hr : reachBytes = 140737488351232 := by decide
    simp only [List.length_append, List.length_map, List.length_range, hb, hr] at this
    omega
set_option maxRecDepth 100000 in
theorem rows38 {H : Type} {enc : TypeId × Value → H} {W : World} {fuel : Nat} {a : Option Addr} {len cap : Nat} {x : DataW H × List MemPlace} (h : DataW.trod enc Tryz.prog W 0 (fun _ => true) true fuel 23 [.slice a len cap] = some x) (hz : ∀ n ∈ x.1.weights Tryz.prog 23, n ≤ reachBytes) :
    len ≤ cap ∧ ∃ l : List S38, l.length = len ∧ Kd.C k38 W a l.length l ∧ ∀ y ∈ l, y.f0.size ≤ 140737488351232 ∧ y.f1.size ≤ 140737488351232 := by
  rcases open_slice_pairs Tryz.underlying23 Tryz.underlying38 (by kernel_rfl) rfl rfl (by kernel_rfl) (by kernel_rfl) h with ⟨hcs, _⟩ | ⟨ad, len', cap', m, n, V0, V1, D0, D1, P0, P1, hcs, _, hl, hm, hmm, hxx, hx⟩
  · simp at hcs
    obtain ⟨rfl, rfl, rfl⟩ := hcs
    exact ⟨Nat.le_refl _, [], rfl, ⟨rfl, by simp, fun h => absurd h (by simp)⟩, fun _ hy => absurd hy (by simp)⟩
  · simp at hcs
    obtain ⟨rfl, rfl, rfl⟩ := hcs
    have hlm : len ≤ m := by rw [hmm]; split <;> omega
    have hw : ∀ i, i < len → (∀ n ∈ (D0 i).weights Tryz.prog 9, n ≤ reachBytes) ∧ (∀ n ∈ (D1 i).weights Tryz.prog 9, n ≤ reachBytes) := by
      intro i hi
      have hm2 : ∀ n, n ∈ DataW.weights Tryz.prog 38 (DataW.agg [D0 i, D1 i]) → n ≤ reachBytes := by
        intro n hn
        refine hz n ?_
        rw [hxx]
        simp only [DataW.weights, Tryz.underlying23]
        refine List.mem_cons_of_mem _ (List.mem_append.2 (.inl (weightsAll_mem (d := .agg [D0 i, D1 i]) ?_ hn)))
        exact List.mem_map.2 ⟨i, List.mem_range.2 hi, rfl⟩
      simp only [DataW.weights, Tryz.underlying38, DataW.weightsEach, List.map_cons, List.map_nil, List.append_nil, List.mem_append] at hm2
      exact ⟨fun n hn => hm2 n (.inl hn), fun n hn => hm2 n (.inr hn)⟩
    have each : ∀ i, i < len → ∃ s : S38, (W.cell? (ad.add (i * 2)) = some (.string s.f0) ∧ W.cell? (ad.add (i * 2 + 1)) = some (.string s.f1)) ∧ s.f0.size ≤ 140737488351232 ∧ s.f1.size ≤ 140737488351232 := by
      intro i hi
      obtain ⟨c0, c1, t0, t1⟩ := hx i (by omega)
      obtain ⟨w0, w1⟩ := hw i hi
      obtain ⟨s0, e0, x0, _⟩ := DataW.trod_string Tryz.underlying9 t0
      obtain ⟨s1, e1, x1, _⟩ := DataW.trod_string Tryz.underlying9 t1
      simp only [List.cons.injEq, and_true] at e0 e1
      rw [e0] at c0
      rw [e1] at c1
      have b0 := w0 s0.data.toList.length (by rw [show D0 i = _ from (Prod.mk.inj x0).1, DataW.weights]; simp)
      have b1 := w1 s1.data.toList.length (by rw [show D1 i = _ from (Prod.mk.inj x1).1, DataW.weights]; simp)
      exact ⟨⟨s0, s1⟩, ⟨c0, c1⟩, b0, b1⟩
    obtain ⟨g, hg⟩ := @choose_lt S38 ⟨z38⟩ _ _ each
    refine ⟨hl, (List.range len).map g, by simp, ⟨by simp, ?_, fun _ => ⟨ad, rfl, ?_⟩⟩, ?_⟩
    · have : maxLen ≤ 9223372036854775807 := by decide
      simp only [List.length_map, List.length_range]
      omega
    · intro j p hp
      obtain ⟨hj, rfl⟩ : j < len ∧ g j = p := by
        rw [List.getElem?_map] at hp
        by_cases hj : j < len
        · rw [List.getElem?_range hj] at hp
          exact ⟨hj, Option.some.inj hp⟩
        · rw [List.getElem?_eq_none (by simp; omega)] at hp
          cases hp
      refine ⟨[.string (g j).f0, .string (g j).f1], rfl, k38_mk W (g j), ?_⟩
      intro i u hu
      match i, hu with
      | 0, hu => cases hu; exact (hg j hj).1.1
      | 1, hu => cases hu; exact (hg j hj).1.2
      | i + 2, hu => simp at hu
    · intro y hy
      obtain ⟨j, hj, rfl⟩ := List.mem_map.1 hy
      exact (hg j (List.mem_range.1 hj)).2
set_option maxRecDepth 100000 in
theorem one38 {H : Type} {enc : TypeId × Value → H} {W : World} {v : Value} {d : DataW H} {p : List MemPlace} {base : Nat} {r : Reach} (ho : Value.okWide Tryz.prog W r base 38 v) (h : DataW.Trod enc Tryz.prog W 0 (fun _ => true) true 38 v d p) :
    ∃ y : S38, v = .agg #[.string y.f0, .string y.f1] ∧ ((∀ n ∈ d.weights Tryz.prog 38, n ≤ reachBytes) → y.f0.size ≤ 140737488351232 ∧ y.f1.size ≤ 140737488351232) := by
  obtain ⟨cs, rfl, hcs⟩ := okWide_struct Tryz.underlying38 ho
  obtain ⟨fuel, hf⟩ := h
  have hce : Tryz.prog.cellsOf 38 = 2 := by kernel_rfl
  have h2 : cs.size = 2 := hcs.trans hce
  obtain ⟨c0, c1, rfl⟩ : ∃ c0 c1, cs = #[c0, c1] := by
    obtain ⟨l⟩ := cs
    match l, h2 with
    | [c0, c1], _ => exact ⟨c0, c1, rfl⟩
  obtain ⟨y0, y1, n, hxx, _, t0, t1⟩ := trod_struct2 Tryz.underlying38 hf
  have u0 : Tryz.prog.cellsOf 9 = 1 := by kernel_rfl
  have u1 : Tryz.prog.cellsOf 9 = 1 := by kernel_rfl
  simp only [u0, u1, Value.cells, List.drop_zero, List.drop_succ_cons, List.take_succ_cons, List.take_zero] at t0 t1
  obtain ⟨s0, e0, x0, _⟩ := DataW.trod_string Tryz.underlying9 t0
  obtain ⟨s1, e1, x1, _⟩ := DataW.trod_string Tryz.underlying9 t1
  simp only [List.cons.injEq, and_true] at e0 e1
  subst e0 e1
  refine ⟨⟨s0, s1⟩, rfl, fun hz => ?_⟩
  obtain rfl := (Prod.mk.inj hxx).1
  simp only [DataW.weights, Tryz.underlying38, DataW.weightsEach, List.map_cons, List.map_nil, List.append_nil, List.mem_append] at hz
  have b0 := hz s0.data.toList.length (.inl (by rw [x0]; simp [DataW.weights]))
  have b1 := hz s1.data.toList.length (.inr (by rw [x1]; simp [DataW.weights]))
  exact ⟨b0, b1⟩
/-- A media type as a call is handed it. -/
structure M25 where
  t : ByteArray
  u : ByteArray
  a : Option Addr
  c : Nat
  l : List S38
def M25.Fits (y : M25) : Prop := y.t.size ≤ 140737488351232 ∧ y.u.size ≤ 140737488351232 ∧ y.l.length ≤ 140737488351232 ∧ ∀ x ∈ y.l, x.f0.size ≤ 140737488351232 ∧ x.f1.size ≤ 140737488351232
set_option maxRecDepth 100000 in
theorem one25 {H : Type} {enc : TypeId × Value → H} {W : World} {v : Value} {d : DataW H} {p : List MemPlace} {base : Nat} {r : Reach} (ho : Value.okWide Tryz.prog W r base 25 v) (h : DataW.Trod enc Tryz.prog W 0 (fun _ => true) true 25 v d p) (hz : ∀ n ∈ d.weights Tryz.prog 25, n ≤ reachBytes) :
    ∃ y : M25, v = .agg #[.string y.t, .string y.u, .slice y.a y.l.length y.c] ∧ y.l.length ≤ y.c ∧ Kd.C k38 W y.a y.l.length y.l ∧ y.Fits := by
  obtain ⟨cs, rfl, hcs⟩ := okWide_struct Tryz.underlying25 ho
  obtain ⟨fuel, hf⟩ := h
  have hce : Tryz.prog.cellsOf 25 = 3 := by kernel_rfl
  have h2 : cs.size = 3 := hcs.trans hce
  obtain ⟨c0, c1, c2, rfl⟩ : ∃ c0 c1 c2, cs = #[c0, c1, c2] := by
    obtain ⟨l⟩ := cs
    match l, h2 with
    | [c0, c1, c2], _ => exact ⟨c0, c1, c2, rfl⟩
  obtain ⟨xs, n, _, hxx, _, hlen, hf⟩ := DataW.trod_struct Tryz.underlying25 hf
  obtain ⟨y0, y1, y2, rfl⟩ : ∃ y0 y1 y2, xs = [y0, y1, y2] := by
    match xs, hlen with
    | [y0, y1, y2], _ => exact ⟨y0, y1, y2, rfl⟩
  have t0 := hf 0 { name := "Type", type := 9, offset := 0, embedded := false, tag := "", pkgPath := "", byteOffset := 0 } rfl
  have t1 := hf 1 { name := "Sub", type := 9, offset := 1, embedded := false, tag := "", pkgPath := "", byteOffset := 16 } rfl
  have t2 := hf 2 { name := "Params", type := 23, offset := 2, embedded := false, tag := "", pkgPath := "", byteOffset := 32 } rfl
  have u9 : Tryz.prog.cellsOf 9 = 1 := by kernel_rfl
  have u23 : Tryz.prog.cellsOf 23 = 1 := by kernel_rfl
  simp only [u9, u23, Value.cells, List.drop_zero, List.drop_succ_cons, List.take_succ_cons, List.take_zero, List.getElem?_cons_zero, List.getElem?_cons_succ, Option.some.injEq] at t0 t1 t2
  obtain ⟨s0, e0, x0, _⟩ := DataW.trod_string Tryz.underlying9 t0
  obtain ⟨s1, e1, x1, _⟩ := DataW.trod_string Tryz.underlying9 t1
  simp only [List.cons.injEq, and_true] at e0 e1
  subst e0 e1
  obtain rfl := (Prod.mk.inj hxx).1
  have hs : ∃ (a : Option Addr) (len cap : Nat), c2 = .slice a len cap := by
    rcases open_slice_pairs Tryz.underlying23 Tryz.underlying38 (by kernel_rfl) rfl rfl (by kernel_rfl) (by kernel_rfl) t2 with ⟨hc, _⟩ | ⟨ad, len', cap', m, n, V0, V1, D0, D1, P0, P1, hc, _⟩
    · exact ⟨_, _, _, (List.cons.inj hc).1⟩
    · exact ⟨_, _, _, (List.cons.inj hc).1⟩
  obtain ⟨a, len, cap, rfl⟩ := hs
  simp only [DataW.weights, Tryz.underlying25, DataW.weightsEach, List.map_cons, List.map_nil, List.append_nil, List.mem_append] at hz
  obtain ⟨hle, l, rfl, hC, hv⟩ := rows38 t2 (fun n hn => hz n (.inr (.inr hn)))
  have b0 := hz s0.data.toList.length (.inl (by rw [x0]; simp [DataW.weights]))
  have b1 := hz s1.data.toList.length (.inr (.inl (by rw [x1]; simp [DataW.weights])))
  have hl := rows38_len t2 (fun n hn => hz n (.inr (.inr hn)))
  exact ⟨⟨s0, s1, a, cap, l⟩, rfl, hle, hC, b0, b1, hl, hv⟩
end Go.Proofs.YtdecjlkfpbgkgaaGreatDoor.RowData
