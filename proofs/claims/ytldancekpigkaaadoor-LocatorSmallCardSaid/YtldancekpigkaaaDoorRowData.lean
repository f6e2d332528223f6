/- A row's struct of nine fields (a reference's parts) that a call is handed. -/
import Derived.Test.YtldancekpigkaaaDoorWWords
import Derived.Test.YtldancekpigkaaaDoorProg
import Derived.ChangeArms
import Derived.ChangeSame
import Derived.WideShapes
import Derived.SizedLaws
import Derived.RowKit3
namespace Go.Proofs.YtldancekpigkaaaDoor.RowData
open Go.RowKit Go.ChangeShapes Go.WideShapes Go.Proofs.YtldancekpigkaaaDoorW.PrintWords
set_option linter.unusedSimpArgs false
structure U9 where
  f0 : ByteArray
  f1 : ByteArray
  f2 : ByteArray
  f3 : ByteArray
  f4 : ByteArray
  f5 : Bool
  f6 : Bool
  f7 : Bool
  f8 : Bool
/-- The sizes that a call may be handed. -/
def U9.Fits (y : U9) : Prop := y.f0.size ≤ 140737488351232 ∧ y.f1.size ≤ 140737488351232 ∧ y.f2.size ≤ 140737488351232 ∧ y.f3.size ≤ 140737488351232 ∧ y.f4.size ≤ 140737488351232
set_option maxRecDepth 100000 in
theorem one24 {H : Type} {enc : TypeId × Value → H} {W : World} {v : Value} {d : DataW H} {p : List MemPlace} {base : Nat} {r : Reach} (ho : Value.okWide Tryd.prog W r base 24 v) (h : DataW.Trod enc Tryd.prog W 0 (fun _ => true) true 24 v d p) :
    ∃ y : U9, v = .agg #[.string y.f0, .string y.f1, .string y.f2, .string y.f3, .string y.f4, .bool y.f5, .bool y.f6, .bool y.f7, .bool y.f8] ∧ ((∀ n ∈ d.weights Tryd.prog 24, n ≤ reachBytes) → y.Fits) := by
  obtain ⟨cs, rfl, hcs⟩ := okWide_struct Tryd.underlying24 ho
  obtain ⟨fuel, hf⟩ := h
  have hce : Tryd.prog.cellsOf 24 = 9 := by kernel_rfl
  have h2 : cs.size = 9 := hcs.trans hce
  obtain ⟨c0, c1, c2, c3, c4, c5, c6, c7, c8, rfl⟩ : ∃ c0 c1 c2 c3 c4 c5 c6 c7 c8, cs = #[c0, c1, c2, c3, c4, c5, c6, c7, c8] := by
    obtain ⟨l⟩ := cs
    match l, h2 with
    | [c0, c1, c2, c3, c4, c5, c6, c7, c8], _ => exact ⟨c0, c1, c2, c3, c4, c5, c6, c7, c8, rfl⟩
  obtain ⟨xs, n, _, hxx, _, hlen, hf⟩ := DataW.trod_struct Tryd.underlying24 hf
  obtain ⟨y0, y1, y2, y3, y4, y5, y6, y7, y8, rfl⟩ : ∃ y0 y1 y2 y3 y4 y5 y6 y7 y8, xs = [y0, y1, y2, y3, y4, y5, y6, y7, y8] := by
    match xs, hlen with
    | [y0, y1, y2, y3, y4, y5, y6, y7, y8], _ => exact ⟨y0, y1, y2, y3, y4, y5, y6, y7, y8, rfl⟩
  have t0 := hf 0 { name := "Scheme", type := 9, offset := 0, embedded := false, tag := "", pkgPath := "", byteOffset := 0 } rfl
  have t1 := hf 1 { name := "Host", type := 9, offset := 1, embedded := false, tag := "", pkgPath := "", byteOffset := 16 } rfl
  have t2 := hf 2 { name := "Path", type := 9, offset := 2, embedded := false, tag := "", pkgPath := "", byteOffset := 32 } rfl
  have t3 := hf 3 { name := "Query", type := 9, offset := 3, embedded := false, tag := "", pkgPath := "", byteOffset := 48 } rfl
  have t4 := hf 4 { name := "Frag", type := 9, offset := 4, embedded := false, tag := "", pkgPath := "", byteOffset := 64 } rfl
  have t5 := hf 5 { name := "HasScheme", type := 4, offset := 5, embedded := false, tag := "", pkgPath := "", byteOffset := 80 } rfl
  have t6 := hf 6 { name := "HasHost", type := 4, offset := 6, embedded := false, tag := "", pkgPath := "", byteOffset := 81 } rfl
  have t7 := hf 7 { name := "HasQuery", type := 4, offset := 7, embedded := false, tag := "", pkgPath := "", byteOffset := 82 } rfl
  have t8 := hf 8 { name := "HasFrag", type := 4, offset := 8, embedded := false, tag := "", pkgPath := "", byteOffset := 83 } rfl
  have u9 : Tryd.prog.cellsOf 9 = 1 := by kernel_rfl
  have u4 : Tryd.prog.cellsOf 4 = 1 := by kernel_rfl
  simp only [u9, u4, Value.cells, List.drop_zero, List.drop_succ_cons, List.take_succ_cons, List.take_zero, List.getElem?_cons_zero, List.getElem?_cons_succ, Option.some.injEq] at t0 t1 t2 t3 t4 t5 t6 t7 t8
  obtain ⟨s0, e0, x0, _⟩ := DataW.trod_string Tryd.underlying9 t0
  obtain ⟨s1, e1, x1, _⟩ := DataW.trod_string Tryd.underlying9 t1
  obtain ⟨s2, e2, x2, _⟩ := DataW.trod_string Tryd.underlying9 t2
  obtain ⟨s3, e3, x3, _⟩ := DataW.trod_string Tryd.underlying9 t3
  obtain ⟨s4, e4, x4, _⟩ := DataW.trod_string Tryd.underlying9 t4
  obtain ⟨s5, e5, x5⟩ := DataW.trod_bool Tryd.underlying4 t5
  obtain ⟨s6, e6, x6⟩ := DataW.trod_bool Tryd.underlying4 t6
  obtain ⟨s7, e7, x7⟩ := DataW.trod_bool Tryd.underlying4 t7
  obtain ⟨s8, e8, x8⟩ := DataW.trod_bool Tryd.underlying4 t8
  simp only [List.cons.injEq, and_true] at e0 e1 e2 e3 e4 e5 e6 e7 e8
  subst e0 e1 e2 e3 e4 e5 e6 e7 e8
  refine ⟨⟨s0, s1, s2, s3, s4, s5, s6, s7, s8⟩, rfl, fun hz => ?_⟩
  obtain rfl := (Prod.mk.inj hxx).1
  simp only [DataW.weights, Tryd.underlying24, DataW.weightsEach, List.map_cons, List.map_nil, List.append_nil, List.mem_append, x0, x1, x2, x3, x4, List.mem_cons, List.mem_nil_iff, List.mem_singleton, List.not_mem_nil, or_false] at hz
  refine ⟨?_, ?_, ?_, ?_, ?_⟩
  · exact hz s0.data.toList.length (by simp)
  · exact hz s1.data.toList.length (by simp)
  · exact hz s2.data.toList.length (by simp)
  · exact hz s3.data.toList.length (by simp)
  · exact hz s4.data.toList.length (by simp)
end Go.Proofs.YtldancekpigkaaaDoor.RowData
