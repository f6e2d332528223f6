/- 'awake' of the locators' laws, by hand: it answers true. -/
import Derived.Test.YtldancekpigkaaaDoorXParsG
import Derived.Test.YtldancekpigkaaaDoorXResF
namespace Go.Proofs.YtldancekpigkaaaDoor.X
open Go.RowKit Go.Shelf Go.Proofs.YtldancekpigkaaaDoorW.PrintWords Go.Proofs.YtldancekpigkaaaDoorW.PrintLast Go.Proofs.YtldancekpigkaaaDoorW.PrintMore Go.Proofs.YtldancekpigkaaaDoor.Pl

abbrev tA : ByteArray := ⟨#[104, 116, 116, 112, 58, 47, 47, 97, 47, 98, 47, 99, 47, 100, 59, 112, 63, 113]⟩
abbrev tB : ByteArray := ⟨#[46, 46, 47, 103]⟩
abbrev tC : ByteArray := ⟨#[97, 32, 98]⟩
abbrev tD : ByteArray := ⟨#[47, 97, 47, 98, 47, 46, 46, 47, 99, 47, 46, 47, 100]⟩
abbrev e_ : ByteArray := ⟨#[]⟩
abbrev uA : Array Value := uriC ⟨#[104, 116, 116, 112]⟩ ⟨#[97]⟩ ⟨#[47, 98, 47, 99, 47, 100, 59, 112]⟩ ⟨#[113]⟩ e_ true true true false
abbrev uB : Array Value := uriC e_ e_ tB e_ e_ false false false false
abbrev uR : Array Value := uriC ⟨#[104, 116, 116, 112]⟩ ⟨#[97]⟩ ⟨#[47, 98, 47, 103]⟩ e_ e_ true true false false
theorem isA : locator_Parse.f 60 tA = some (⟨#[104, 116, 116, 112]⟩, ⟨#[97]⟩, ⟨#[47, 98, 47, 99, 47, 100, 59, 112]⟩, ⟨#[113]⟩, e_, true, true, true, false, 0) := by kernel_rfl
theorem isB : locator_Parse.f 60 tB = some (e_, e_, tB, e_, e_, false, false, false, false, 0) := by kernel_rfl
theorem isC : locator_Parse.f 60 tC = some (e_, e_, e_, e_, e_, false, false, false, false, 120) := by kernel_rfl
theorem isR : locator_Resolve.f 60 ⟨#[104, 116, 116, 112]⟩ ⟨#[97]⟩ ⟨#[47, 98, 47, 99, 47, 100, 59, 112]⟩ ⟨#[113]⟩ e_ true true true false e_ e_ tB e_ e_ false false false false = some (⟨#[104, 116, 116, 112]⟩, ⟨#[97]⟩, ⟨#[47, 98, 47, 103]⟩, e_, e_, true, true, false, false) := by kernel_rfl
theorem isP : locator_Print.f ⟨#[104, 116, 116, 112]⟩ ⟨#[97]⟩ ⟨#[47, 98, 47, 103]⟩ e_ e_ true true false false = some ⟨#[104, 116, 116, 112, 58, 47, 47, 97, 47, 98, 47, 103]⟩ := by decide +kernel
theorem isD : locator_Dots.f 60 tD = some ⟨#[47, 97, 47, 99, 47, 100]⟩ := by decide +kernel
set_option maxHeartbeats 2000000 in
set_option maxRecDepth 100000 in
theorem awake_calls (w : World) (hG : Glob w) : Calls Tryd.prog 10 #[] w fun e w' => e = .returned (.bool true) ∧ Below w.heap.size w w' := by
  have HG := Lib.hid hG
  clear hG
  have hu24 := Tryd.underlying24
  go_enter Tryd.func10, Tryd.ntmps10
  go_wp2_with fail
  refine (locator_Parse.calls 60 tA _ _ _ _ _ _ _ _ _ _ w HG.out isA).mono ?_
  rintro x w1 ⟨rfl, h1⟩
  go_wp2_with fail
  have hb1 : Below w.heap.size w (w1.alloc (.cells uA 24)) := h1.alloc h1.size _
  have k1 := blk_new w1 (.cells uA 24)
  have hs1 : (w1.alloc (.cells uA 24)).heap.size = w1.heap.size + 1 := World.size_alloc _ _
  refine (locator_Parse.calls 60 tB _ _ _ _ _ _ _ _ _ _ (w1.alloc (.cells uA 24)) (HG.out.below hb1) isB).mono ?_
  rintro x w2 ⟨rfl, h2⟩
  have k1 := (h2.block w1.heap.size (by omega)).trans k1
  have hb2 : Below w.heap.size w w2 := hb1.trans (h2.mono hb1.size)
  generalize hg1 : w1.heap.size = g1 at *
  have K1 := Aside0.mk k1
  have HB2 := Aside0.mk hb2
  clear k1 hb1 hb2 h1 h2
  go_wp2_with fail
  have hb3 : Below w.heap.size w (w2.alloc (.cells uB 24)) := HB2.out.alloc HB2.out.size _
  have k2 := blk_new w2 (.cells uB 24)
  have k1 := (((Below.refl w2.heap.size w2).alloc (Nat.le_refl _) (.cells uB 24)).block g1 (Array.getElem?_eq_some_iff.1 K1.out).1).trans K1.out
  refine (locator_Parse.calls 60 tC _ _ _ _ _ _ _ _ _ _ (w2.alloc (.cells uB 24)) (HG.out.below hb3) isC).mono ?_
  rintro x w3 ⟨rfl, h3⟩
  have k1 := (h3.block g1 (Array.getElem?_eq_some_iff.1 k1).1).trans k1
  have k2 := (h3.block w2.heap.size (Array.getElem?_eq_some_iff.1 k2).1).trans k2
  have hb4 : Below w.heap.size w w3 := hb3.trans (h3.mono hb3.size)
  generalize hg2 : w2.heap.size = g2 at *
  have k1 := (((Below.refl w3.heap.size w3).alloc (Nat.le_refl _) (.cells zeroC 24)).block g1 (Array.getElem?_eq_some_iff.1 k1).1).trans k1
  have k2 := (((Below.refl w3.heap.size w3).alloc (Nat.le_refl _) (.cells zeroC 24)).block g2 (Array.getElem?_eq_some_iff.1 k2).1).trans k2
  have HB4 := Aside0.mk (hb4.alloc hb4.size (.cells zeroC 24))
  obtain ⟨⟨c0, c1, c2, c3, c4, c5, c6, c7, c8⟩, _⟩ := cells9 k1
  obtain ⟨⟨d0, d1, d2, d3, d4, d5, d6, d7, d8⟩, _⟩ := cells9 k2
  clear k1 k2 hb3 hb4 h3 K1 HB2
  go_wp2_with fail
  refine (locator_Resolve.calls 60 _ _ _ _ _ _ _ _ _ _ _ _ _ _ _ _ _ _ _ _ _ _ _ _ _ _ _ _ isR).mono ?_
  rintro x w5 ⟨rfl, h5⟩
  have HB5 := Aside0.mk (HB4.out.trans (h5.mono HB4.out.size))
  clear h5 HB4
  go_wp2_with fail
  refine (locator_Print.calls _ _ _ _ _ _ _ _ _ _ w5 isP).mono ?_
  rintro x w6 ⟨rfl, h6⟩
  have HB6 := Aside0.mk (HB5.out.trans (h6.mono HB5.out.size))
  clear h6 HB5
  go_wp2_with fail
  refine (locator_Dots.calls 60 tD _ w6 isD).mono ?_
  rintro x w7 ⟨rfl, h7⟩
  go_wp2
  go_ret
  exact ⟨rfl, HB6.out.trans (h7.mono HB6.out.size)⟩
def broadsheetlaw12_awake.f : Option Bool := some true
theorem broadsheetlaw12_awake.calls (r : Bool) (w : World) (hG : Glob w) (h : broadsheetlaw12_awake.f = some r) : Calls Tryd.prog 10 #[] w fun e w' => e = .returned (.bool r) ∧ Below w.heap.size w w' := by
  cases h
  exact awake_calls w hG
end Go.Proofs.YtldancekpigkaaaDoor.X
