/- locator.Print, by hand: its closure writes the parts that there are into a builder. -/
import Derived.Test.YtldancekpigkaaaDoorXScheme
import Derived.Test.YtldancekpigkaaaDoorShelfB
namespace Go.Proofs.YtldancekpigkaaaDoor.X
open Go.RowKit Go.Shelf Go.Proofs.YtldancekpigkaaaDoorW.PrintWords

theorem builderAtF_below {T e : TypeId} {B b : Nat} {p : Value} {bs : List Value} {w w' : World} (h : Lib.BuilderAtF T e B b p bs w) (hb : Below w.heap.size w w') : Lib.BuilderAtF T e B b p bs w' := by
  obtain ⟨hB, v, hk, hown, hne⟩ := h
  exact ⟨hB, v, (hb.block b (Array.getElem?_eq_some_iff.1 hk).1).trans hk, hown.kept (grown_of_below hb none) (by cases v.ownBlock <;> simp), hne⟩
/-- A builder that holds a text. -/
def Bl (B b : Nat) (l : List UInt8) (w : World) : Prop := Lib.IsBuilderF 43 5 B b (Lib.byteCells l) w
theorem Bl.below {B b : Nat} {l : List UInt8} {w w' : World} (h : Bl B b l w) (hb : Below w.heap.size w w') : Bl B b l w' :=
  h.elim (fun x => .inl (builderAtF_below x hb)) (fun x => .inr (builderAtF_below x hb))
theorem Bl.new (w : World) : Bl w.heap.size w.heap.size [] (w.alloc (.cells #[.pointer none, .slice none 0 0] 43)) := Lib.IsBuilderF.of (Lib.fresh_isBuilder 43 5 w)
theorem write_calls (B b : Nat) (l : List UInt8) (s : ByteArray) (w : World) (h : Bl B b l w) (hlen : l.length + s.size ≤ 140737488355328) (hBw : B ≤ w.heap.size) :
    Calls Tryd.prog 30 #[.pointer (some ⟨b, 0, none⟩), .string s] w fun e w' => e = .returned (.tuple #[.int .i64 s.size, .nilIface]) ∧ Bl B b (l ++ L s) w' ∧ Below B w w' := by
  refine (Tryd.Builder_WriteString_k B b (Lib.byteCells l) s w h (by rw [Lib.byteCells_length]; exact hlen) hBw).mono ?_
  rintro e w' ⟨rfl, h1, h2, _⟩
  refine ⟨rfl, .inr ?_, h2⟩
  have e1 : Lib.byteCells (l ++ L s) = Lib.byteCells l ++ Lib.strCells s := by simp [Lib.byteCells, Lib.strCells, L]
  rw [e1]
  exact h1
theorem string_calls (B b : Nat) (l : List UInt8) (w : World) (h : Bl B b l w) (hBw : B ≤ w.heap.size) :
    Calls Tryd.prog 32 #[.pointer (some ⟨b, 0, none⟩)] w fun e w' => e = .returned (.string (M l)) ∧ Below B w w' := by
  refine (Tryd.Builder_String_any_k B b l w h hBw).mono ?_
  rintro e w' ⟨rfl, _, h2, _⟩
  exact ⟨rfl, h2⟩

set_option maxHeartbeats 1000000 in
set_option maxRecDepth 100000 in
theorem part_calls (B b g : Nat) (is : Bool) (xs : List ByteArray) (n : Nat) (hn : xs.length = n) (l t : List UInt8) (w : World) (h0 : Bl B b l w) (hBw : B ≤ w.heap.size)
    (hx : ∀ (j : Nat) x, xs[j]? = some x → w.cell? ⟨g, j, none⟩ = some (.string x)) (hg : g < w.heap.size) (hj : Lib.join (xs.map (·.data.toList)) [] = t) (hlen : l.length + t.length ≤ 140737488355328) (h100 : n ≤ 100) :
    Calls Tryd.prog 29 #[.bool is, .slice (some ⟨g, 0, none⟩) n n, .pointer (some ⟨b, 0, none⟩)] w fun e w' => e = .returned (.tuple #[]) ∧ Bl B b (l ++ if is = true then t else []) w' ∧ Below B w w' := by
  subst hn
  cases is with
  | false =>
    go_enter Tryd.func29, Tryd.ntmps29
    go_wp2
    exact bodyPost_end (results_none rfl _ _ _) rfl ⟨rfl, by first | exact h0 | (rw [if_neg (by decide), List.append_nil]; exact h0), Below.refl _ _⟩
  | true =>
    have HJ := Tryd.strings_Join g 0 xs.length xs ⟨#[]⟩ w (fun j x hx' => by rw [Nat.zero_add]; exact hx j x hx') hg (by omega) (Nat.le_refl _) (by rw [show (⟨#[]⟩ : ByteArray).data.toList = [] from rfl, hj]; omega)
    rw [show (⟨#[]⟩ : ByteArray).data.toList = [] from rfl, hj] at HJ
    have HH := Lib.hid h0
    clear h0 hx
    go_enter Tryd.func29, Tryd.ntmps29
    go_wp2_with fail
    refine HJ.mono ?_
    rintro e w1 ⟨rfl, h1⟩
    clear HJ
    go_wp2_with fail
    refine (write_calls B b l (M t) w1 (HH.out.below h1) (by show l.length + t.length ≤ _; exact hlen) (Nat.le_trans hBw h1.size)).mono ?_
    rintro e w2 ⟨rfl, h2, h3⟩
    go_wp2
    exact bodyPost_end (results_none rfl _ _ _) rfl ⟨rfl, by first | exact h2 | (rw [if_pos rfl]; exact h2), (h1.mono hBw).trans h3⟩

/-- A reference's parts, as the walks spell them. -/
abbrev UriV (a b c d e : ByteArray) (p q r t : Bool) : Value := .agg #[.string a, .string b, .string c, .string d, .string e, .bool p, .bool q, .bool r, .bool t]
def uriL (a b c d e : List UInt8) (p q r t : Bool) : List UInt8 :=
  (if p = true then a ++ [58] else []) ++ (if q = true then 47 :: 47 :: b else []) ++ c ++ (if r = true then 63 :: d else []) ++ (if t = true then 35 :: e else [])
theorem cells_two (w : World) (x y : ByteArray) : ∀ (j : Nat) z, ([x, y] : List ByteArray)[j]? = some z → (w.alloc (.cells #[.string x, .string y] 9)).cell? ⟨w.heap.size, j, none⟩ = some (.string z) := by
  intro j z hz
  rw [World.cell?_alloc_at _ _ _ _ rfl]
  match j, hz with
  | 0, hz => cases hz; rfl
  | 1, hz => cases hz; rfl
  | j + 2, hz => simp at hz
theorem cells_one (w : World) (x : ByteArray) : ∀ (j : Nat) z, ([x] : List ByteArray)[j]? = some z → (w.alloc (.cells #[.string x] 9)).cell? ⟨w.heap.size, j, none⟩ = some (.string z) := by
  intro j z hz
  rw [World.cell?_alloc_at _ _ _ _ rfl]
  match j, hz with
  | 0, hz => cases hz; rfl
  | j + 1, hz => simp at hz
theorem if_len (p : Bool) (x : List UInt8) : (if p = true then x else []).length ≤ x.length := by cases p <;> simp
theorem two_calls (B b g : Nat) (is : Bool) (x y : ByteArray) (l : List UInt8) (w : World) (h0 : Bl B b l w) (hBw : B ≤ w.heap.size) (hlen : l.length + (x.size + y.size) ≤ 140737488355328) (hgw : w.heap.size = g) :
    Calls Tryd.prog 29 #[.bool is, .slice (some ⟨g, 0, none⟩) 2 2, .pointer (some ⟨b, 0, none⟩)] (w.alloc (.cells #[.string x, .string y] 9)) fun e w' => e = .returned (.tuple #[]) ∧ Bl B b (l ++ if is = true then L x ++ L y else []) w' ∧ Below B w w' := by
  subst hgw
  refine (part_calls B b w.heap.size is [x, y] 2 rfl l (L x ++ L y) (w.alloc (.cells #[.string x, .string y] 9)) (h0.below ((Below.refl _ w).alloc (Nat.le_refl _) _)) (by rw [World.size_alloc]; omega) (cells_two w x y) (by rw [World.size_alloc]; omega) (by simp [Lib.join, List.intercalate]) (by rw [List.length_append]; exact hlen) (by omega)).mono ?_
  rintro e w' ⟨rfl, h1, h2⟩
  exact ⟨rfl, h1, ((Below.refl B w).alloc hBw _).trans h2⟩
theorem one_calls (B b g : Nat) (is : Bool) (x : ByteArray) (l : List UInt8) (w : World) (h0 : Bl B b l w) (hBw : B ≤ w.heap.size) (hlen : l.length + x.size ≤ 140737488355328) (hgw : w.heap.size = g) :
    Calls Tryd.prog 29 #[.bool is, .slice (some ⟨g, 0, none⟩) 1 1, .pointer (some ⟨b, 0, none⟩)] (w.alloc (.cells #[.string x] 9)) fun e w' => e = .returned (.tuple #[]) ∧ Bl B b (l ++ if is = true then L x else []) w' ∧ Below B w w' := by
  subst hgw
  refine (part_calls B b w.heap.size is [x] 1 rfl l (L x) (w.alloc (.cells #[.string x] 9)) (h0.below ((Below.refl _ w).alloc (Nat.le_refl _) _)) (by rw [World.size_alloc]; omega) (cells_one w x) (by rw [World.size_alloc]; omega) (by simp [Lib.join, List.intercalate]) hlen (by omega)).mono ?_
  rintro e w' ⟨rfl, h1, h2⟩
  exact ⟨rfl, h1, ((Below.refl B w).alloc hBw _).trans h2⟩
set_option maxHeartbeats 2000000 in
set_option maxRecDepth 100000 in
theorem print_calls (a b c d e : ByteArray) (p q r t : Bool) (w : World) (hs : a.size + b.size + c.size + d.size + e.size ≤ 140737488350000) :
    Calls Tryd.prog 14 #[UriV a b c d e p q r t] w fun x w' => x = .returned (.string (M (uriL (L a) (L b) (L c) (L d) (L e) p q r t))) ∧ Below w.heap.size w w' := by
  have hmf : ∀ (fn : Fn) (first cap : Array Value) (w : World), (Instr.makeFunc fn first cap).run Tryd.prog w = .ok (.func fn first cap) w := fun _ _ _ _ => rfl
  go_enter Tryd.func14, Tryd.ntmps14
  go_wp2_with fail
  have hu0 : (w.alloc (.cells #[.string a, .string b, .string c, .string d, .string e, .bool p, .bool q, .bool r, .bool t] 24)).heap[w.heap.size]? = some (.cells #[.string a, .string b, .string c, .string d, .string e, .bool p, .bool q, .bool r, .bool t] 24 (0, 0)) := blk_new w _
  have hbw0 : Below w.heap.size w (w.alloc (.cells #[.string a, .string b, .string c, .string d, .string e, .bool p, .bool q, .bool r, .bool t] 24)) := (Below.refl _ w).alloc (Nat.le_refl _) _
  have hsz0 : (w.alloc (.cells #[.string a, .string b, .string c, .string d, .string e, .bool p, .bool q, .bool r, .bool t] 24)).heap.size = w.heap.size + 1 := World.size_alloc _ _
  generalize w.alloc (.cells #[.string a, .string b, .string c, .string d, .string e, .bool p, .bool q, .bool r, .bool t] 24) = wu at hu0 hbw0 hsz0 ⊢
  have hB0 := Bl.new wu
  have hb0 : Below (w.heap.size + 1) wu (wu.alloc (.cells #[.pointer none, .slice none 0 0] 43)) := (Below.refl _ wu).alloc (by omega) _
  have hs0 : (wu.alloc (.cells #[.pointer none, .slice none 0 0] 43)).heap.size = w.heap.size + 1 + 1 := by rw [World.size_alloc, hsz0]
  rw [hsz0] at hB0
  generalize wu.alloc (.cells #[.pointer none, .slice none 0 0] 43) = W0 at hB0 hb0 hs0 ⊢
  have lx : ∀ x : ByteArray, (L x).length = x.size := fun _ => rfl
  have cellu : ∀ (W : World), W.heap[w.heap.size]? = some (.cells #[.string a, .string b, .string c, .string d, .string e, .bool p, .bool q, .bool r, .bool t] 24 (0, 0)) → ∀ (j : Nat) v, #[Value.string a, .string b, .string c, .string d, .string e, .bool p, .bool q, .bool r, .bool t][j]? = some v → W.cell? ⟨w.heap.size, j, none⟩ = some v := by
    intro W hW j v hv
    simp only [World.cell?, hW]
    exact hv
  have keep : ∀ {W W' : World}, W.heap[w.heap.size]? = some (.cells #[.string a, .string b, .string c, .string d, .string e, .bool p, .bool q, .bool r, .bool t] 24 (0, 0)) → Below (w.heap.size + 1) W W' → W'.heap[w.heap.size]? = some (.cells #[.string a, .string b, .string c, .string d, .string e, .bool p, .bool q, .bool r, .bool t] 24 (0, 0)) := fun h hb => (hb.block _ (by omega)).trans h
  have hk0 := keep hu0 hb0
  refine (two_calls (w.heap.size + 1) (w.heap.size + 1) _ p a ⟨#[58]⟩ [] W0 hB0 (by omega) (by show 0 + (a.size + 1) ≤ _; omega) hs0).mono ?_
  rintro x w1 ⟨rfl, h1, hb1⟩
  obtain ⟨l1, e1⟩ : ∃ z, [] ++ (if p = true then L a ++ L ⟨#[58]⟩ else []) = z := ⟨_, rfl⟩
  have hl1 : l1.length ≤ (a.size + 1) := by
    rw [← e1, List.length_append]
    have := if_len p (L a ++ L ⟨#[58]⟩)
    have h3 : (L a ++ L ⟨#[58]⟩).length = a.size + 1 := by rw [List.length_append]; rfl
    have h0 : ([] : List UInt8).length = 0 := rfl
    omega
  have E1 := Lib.hid e1
  rw [show ([] ++ if p = true then L a ++ L ⟨#[58]⟩ else []) = l1 from e1] at h1
  clear e1
  have hk1 := keep hk0 hb1
  have n1 := cellu w1 hk1 6 _ rfl
  have n2 := cellu w1 hk1 1 _ rfl
  have hs1 : w.heap.size + 1 ≤ w1.heap.size := Nat.le_trans (by omega) hb1.size
  go_wp2_with fail
  clear n1 n2
  refine (two_calls (w.heap.size + 1) (w.heap.size + 1) _ q ⟨#[47, 47]⟩ b _ w1 h1 (by omega) (by show _ + (2 + b.size) ≤ _; omega) rfl).mono ?_
  rintro x w2 ⟨rfl, h2, hb2⟩
  obtain ⟨l2, e2⟩ : ∃ z, l1 ++ (if q = true then L ⟨#[47, 47]⟩ ++ L b else []) = z := ⟨_, rfl⟩
  have hl2 : l2.length ≤ (a.size + 1) + (2 + b.size) := by
    rw [← e2, List.length_append]
    have := if_len q (L ⟨#[47, 47]⟩ ++ L b)
    have h3 : (L ⟨#[47, 47]⟩ ++ L b).length = 2 + b.size := by rw [List.length_append]; rfl
    have h0 : ([] : List UInt8).length = 0 := rfl
    omega
  have E2 := Lib.hid e2
  rw [show (l1 ++ if q = true then L ⟨#[47, 47]⟩ ++ L b else []) = l2 from e2] at h2
  clear e2
  have hk2 := keep hk1 hb2
  have n1 := cellu w2 hk2 2 _ rfl
  have hs2 : w.heap.size + 1 ≤ w2.heap.size := Nat.le_trans (by omega) hb2.size
  go_wp2_with fail
  clear n1
  refine (one_calls (w.heap.size + 1) (w.heap.size + 1) _ true c _ w2 h2 (by omega) (by omega) rfl).mono ?_
  rintro x w3 ⟨rfl, h3, hb3⟩
  obtain ⟨l3, e3⟩ : ∃ z, l2 ++ (if true = true then L c else []) = z := ⟨_, rfl⟩
  have hl3 : l3.length ≤ (a.size + 1) + (2 + b.size) + (c.size) := by
    rw [← e3, List.length_append]
    have := if_len true (L c)
    have h3 : (L c).length = c.size := lx c
    have h0 : ([] : List UInt8).length = 0 := rfl
    omega
  have E3 := Lib.hid e3
  rw [show (l2 ++ if true = true then L c else []) = l3 from e3] at h3
  clear e3
  have hk3 := keep hk2 hb3
  have n1 := cellu w3 hk3 7 _ rfl
  have n2 := cellu w3 hk3 3 _ rfl
  have hs3 : w.heap.size + 1 ≤ w3.heap.size := Nat.le_trans (by omega) hb3.size
  go_wp2_with fail
  clear n1 n2
  refine (two_calls (w.heap.size + 1) (w.heap.size + 1) _ r ⟨#[63]⟩ d _ w3 h3 (by omega) (by show _ + (1 + d.size) ≤ _; omega) rfl).mono ?_
  rintro x w4 ⟨rfl, h4, hb4⟩
  obtain ⟨l4, e4⟩ : ∃ z, l3 ++ (if r = true then L ⟨#[63]⟩ ++ L d else []) = z := ⟨_, rfl⟩
  have hl4 : l4.length ≤ (a.size + 1) + (2 + b.size) + (c.size) + (1 + d.size) := by
    rw [← e4, List.length_append]
    have := if_len r (L ⟨#[63]⟩ ++ L d)
    have h3 : (L ⟨#[63]⟩ ++ L d).length = 1 + d.size := by rw [List.length_append]; rfl
    have h0 : ([] : List UInt8).length = 0 := rfl
    omega
  have E4 := Lib.hid e4
  rw [show (l3 ++ if r = true then L ⟨#[63]⟩ ++ L d else []) = l4 from e4] at h4
  clear e4
  have hk4 := keep hk3 hb4
  have n1 := cellu w4 hk4 8 _ rfl
  have n2 := cellu w4 hk4 4 _ rfl
  have hs4 : w.heap.size + 1 ≤ w4.heap.size := Nat.le_trans (by omega) hb4.size
  go_wp2_with fail
  clear n1 n2
  refine (two_calls (w.heap.size + 1) (w.heap.size + 1) _ t ⟨#[35]⟩ e _ w4 h4 (by omega) (by show _ + (1 + e.size) ≤ _; omega) rfl).mono ?_
  rintro x w5 ⟨rfl, h5, hb5⟩
  obtain ⟨l5, e5⟩ : ∃ z, l4 ++ (if t = true then L ⟨#[35]⟩ ++ L e else []) = z := ⟨_, rfl⟩
  have E5 := Lib.hid e5
  rw [show (l4 ++ if t = true then L ⟨#[35]⟩ ++ L e else []) = l5 from e5] at h5
  clear e5
  have hs5 : w.heap.size + 1 ≤ w5.heap.size := Nat.le_trans (by omega) hb5.size
  go_wp2_with fail
  refine (string_calls (w.heap.size + 1) (w.heap.size + 1) l5 w5 h5 hs5).mono ?_
  rintro x w6 ⟨rfl, hb6⟩
  go_wp2
  go_ret
  have el : l5 = uriL (L a) (L b) (L c) (L d) (L e) p q r t := by
    rw [← E5.out, ← E4.out, ← E3.out, ← E2.out, ← E1.out]
    unfold uriL
    cases p <;> cases q <;> cases r <;> cases t <;> simp [L]
  refine ⟨by rw [el]; rfl, ?_⟩
  have hall : Below (w.heap.size + 1) wu w6 := ((((hb0.trans hb1).trans hb2).trans hb3).trans hb4).trans (hb5.trans hb6)
  exact hbw0.trans (hall.mono (by omega))
def locator_Print.f (a b c d e : ByteArray) (p q r t : Bool) : Option ByteArray := if a.size + b.size + c.size + d.size + e.size ≤ 140737488350000 then some (M (uriL (L a) (L b) (L c) (L d) (L e) p q r t)) else none
theorem locator_Print.calls (a b c d e : ByteArray) (p q r t : Bool) (x : ByteArray) (w : World) (h : locator_Print.f a b c d e p q r t = some x) :
    Calls Tryd.prog 14 #[.agg #[.string a, .string b, .string c, .string d, .string e, .bool p, .bool q, .bool r, .bool t]] w fun z w' => z = .returned (.string x) ∧ Below w.heap.size w w' := by
  unfold locator_Print.f at h
  split at h
  · rename_i hs
    cases h
    exact print_calls a b c d e p q r t w hs
  · cases h
end Go.Proofs.YtldancekpigkaaaDoor.X
