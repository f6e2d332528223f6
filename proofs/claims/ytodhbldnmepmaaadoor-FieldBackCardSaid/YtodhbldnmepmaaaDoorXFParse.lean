/- field.Parse, by hand: the fields at a text's head. -/
import Derived.Test.YtodhbldnmepmaaaDoorXLines
import Derived.Test.YtodhbldnmepmaaaDoorPf0
namespace Go.Proofs.YtodhbldnmepmaaaDoor.X
open Go.RowKit Go.Shelf Go.Proofs.YtodhbldnmepmaaaDoorW.PrintWords Go.Proofs.YtodhbldnmepmaaaDoor.Pf
open Go.Proofs.YtodhbldnmepmaaaDoor.F (pairV)
attribute [local go_sem] Oper.semAt_some
def pairS (l : Bs) : S49 := ⟨M (pairV l).1, M (pairV l).2.1⟩
def cells49 (l : List S49) : List Value := l.flatMap fun x => [.string x.f0, .string x.f1]
theorem cells49_snoc (l : List S49) (x : S49) : cells49 (l ++ [x]) = cells49 l ++ [.string x.f0, .string x.f1] := by simp [cells49]
abbrev PR := List S49 × ByteArray × Int
def endP (n : Nat) : PR := if n > 8000 then ([], ⟨#[]⟩, 2) else ([], ⟨#[]⟩, 180)
def parseG (n : Nat) : List (Bs × Bs) → List S49 → PR
  | [], _ => endP n
  | x :: r, acc => if n - x.2.length > 8000 then endP n else if x.1 = [] then (acc, M x.2, 0) else if (pairV x.1).2.2 = false then ([], ⟨#[]⟩, 180) else parseG n r (acc ++ [pairS x.1])
def parseV (s : Bs) : PR := parseG s.length (linesL s) []
def goesOn (n : Nat) (x : Bs × Bs) : Prop := ¬ n - x.2.length > 8000 ∧ x.1 ≠ [] ∧ (pairV x.1).2.2 = true
def accL (pre : List (Bs × Bs)) : List S49 := pre.map fun x => pairS x.1
theorem parseG_on {n : Nat} {x : Bs × Bs} (h : goesOn n x) (r : List (Bs × Bs)) (acc : List S49) : parseG n (x :: r) acc = parseG n r (acc ++ [pairS x.1]) := by
  obtain ⟨h1, h2, h3⟩ := h
  conv => lhs; unfold parseG
  rw [if_neg h1, if_neg h2, if_neg (by rw [h3]; decide)]
theorem parseG_run (n : Nat) : ∀ (pre r : List (Bs × Bs)) (acc : List S49), (∀ x ∈ pre, goesOn n x) → parseG n (pre ++ r) acc = parseG n r (acc ++ accL pre)
  | [], r, acc, _ => by simp [accL]
  | x :: pre, r, acc, h => by
    rw [List.cons_append, parseG_on (h x (by simp)), parseG_run n pre r _ (fun y hy => h y (by simp [hy]))]
    simp [accL]
/-- What lies in the variables of Parse: the text, the fields so far, what stands behind, the error. -/
def St (b : Nat) (s : ByteArray) (W : World) (l : List S49) (t : ByteArray) (k : Int) : Prop :=
  Boxed W b 9 (.string s) ∧ Boxed W (b + 1 + 1) 9 (.string t) ∧ Boxed W (b + 1 + 1 + 1) 32 (.int .i64 k) ∧ ∃ v, Boxed W (b + 1) 42 v ∧ W.ownsRow (b + 5) 49 2 v l.length (cells49 l)
theorem St.own {b : Nat} {s : ByteArray} {X Y : World} {l : List S49} {t : ByteArray} {k : Int} {row : Option Nat} (h : St b s X l t k) (hg : X.grownBy Y row) (hr : ∀ r, row = some r → ∃ o : Obj, X.heap[r]? = some o ∧ o.isCells = false) : St b s Y l t k := by
  obtain ⟨h1, h2, h3, v, h4, h5⟩ := h
  obtain ⟨v', h6, h7, _⟩ := holdsRow_own (b + 5) (b + 1) 42 49 2 (fun _ : Unit => l.length) (fun _ : Unit => cells49 l) (fun _ _ => True) () X Y row ⟨v, h4, h5, trivial⟩ hg hr
  exact ⟨boxed_own _ _ (fun _ : Unit => .string s) () X Y row h1 hg hr, boxed_own _ _ (fun _ : Unit => .string t) () X Y row h2 hg hr, boxed_own _ _ (fun _ : Unit => .int .i64 k) () X Y row h3 hg hr, v', h6, h7⟩
theorem row_below {W W' : World} {base : Nat} {v : Value} {k : Nat} {xs : List Value} (h : W.ownsRow base 49 2 v k xs) (hb : Below W.heap.size W W') : W'.ownsRow base 49 2 v k xs := h.kept (grown_of_below hb none) (by cases v.ownBlock <;> simp)
theorem St.below {b : Nat} {s : ByteArray} {X Y : World} {l : List S49} {t : ByteArray} {k : Int} (h : St b s X l t k) (hb : Below X.heap.size X Y) : St b s Y l t k := by
  obtain ⟨h1, h2, h3, v, h4, h5⟩ := h
  exact ⟨(hb.block _ h1.lt).trans h1, (hb.block _ h2.lt).trans h2, (hb.block _ h3.lt).trans h3, v, (hb.block _ h4.lt).trans h4, row_below h5 hb⟩
theorem row_far {W : World} {b g : Nat} {v : Value} {k : Nat} {xs : List Value} (h : W.ownsRow (b + 5) 49 2 v k xs) (hg : g < b + 5) (u : Value) : (W.setCell ⟨g, 0, none⟩ u).ownsRow (b + 5) 49 2 v k xs := by
  refine h.kept (grownBy_setCell' W g u) ?_
  rcases h.2 with ⟨rfl, _⟩ | ⟨g', cap, cur, rfl, hb, _, _⟩
  · exact .inl rfl
  · exact .inr (by simp [Value.ownBlock]; omega)
theorem St.far {b : Nat} {s : ByteArray} {W : World} {l : List S49} {t : ByteArray} {k : Int} (h : St b s W l t k) (u : Value) : St b s (W.setCell ⟨b + 1 + 1 + 1 + 1, 0, none⟩ u) l t k := by
  obtain ⟨h1, h2, h3, v, h4, h5⟩ := h
  exact ⟨h1.other (by omega) u, h2.other (by omega) u, h3.other (by omega) u, v, h4.other (by omega) u, row_far h5 (by omega) u⟩
/-- Between two rounds; and where a round has left. -/
def InvP (b : Nat) (s : ByteArray) (w : World) (pre : List (Bs × Bs)) (W : World) : Prop := (∀ x ∈ pre, goesOn s.size x) ∧ St b s W (accL pre) ⟨#[]⟩ 0 ∧ Below w.heap.size w W ∧ b + 5 ≤ W.heap.size
def InvX (b : Nat) (s : ByteArray) (w : World) (c : Code) (pre : List (Bs × Bs)) (W : World) : Prop :=
  (∃ pre' x, pre = pre' ++ [x] ∧ (∀ y ∈ pre', goesOn s.size y) ∧ ((c = .exit 0 ∧ (∀ r, parseG s.size (x :: r) (accL pre') = endP s.size) ∧ St b s W (accL pre') ⟨#[]⟩ 0) ∨ (c = .ret ∧ ∃ res : PR, (∀ r, parseG s.size (x :: r) (accL pre') = res) ∧ St b s W res.1 res.2.1 res.2.2))) ∧ Below w.heap.size w W
theorem InvP.own (b : Nat) (s : ByteArray) (w : World) (B : Nat) (hB : w.heap.size ≤ B) : OwnFrom B (InvP b s w) := by
  intro pre X Y row hs hg hr
  exact ⟨hs.1, hs.2.1.own hg (fun r e => (hr r e).2), ownFrom_below (Nat.le_refl _) hB pre X Y row hs.2.2.1 hg hr, Nat.le_trans hs.2.2.2 hg.size⟩
theorem InvX.own (b : Nat) (s : ByteArray) (w : World) (B : Nat) (hB : w.heap.size ≤ B) (c : Code) : OwnFrom B (InvX b s w c) := by
  intro pre X Y row hs hg hr
  obtain ⟨⟨pre', x, h1, h2, h3⟩, h4⟩ := hs
  refine ⟨⟨pre', x, h1, h2, ?_⟩, ownFrom_below (Nat.le_refl _) hB pre X Y row h4 hg hr⟩
  rcases h3 with ⟨e1, e2, e3⟩ | ⟨e1, res, e2, e3⟩
  · exact .inl ⟨e1, e2, e3.own hg (fun r e => (hr r e).2)⟩
  · exact .inr ⟨e1, res, e2, e3.own hg (fun r e => (hr r e).2)⟩
/-- The five variables, made. -/
theorem five_new (w : World) (s : ByteArray) : ∃ W0, W0 = ((((w.alloc (.cells #[.string s] 9)).alloc (.cells #[.slice none 0 0] 42)).alloc (.cells #[.string ⟨#[]⟩] 9)).alloc (.cells #[.int .i64 0] 32)).alloc (.cells #[.string s] 9) ∧ W0.heap.size = w.heap.size + 5 ∧ St w.heap.size s W0 [] ⟨#[]⟩ 0 ∧ Boxed W0 (w.heap.size + 1 + 1 + 1 + 1) 9 (.string s) ∧ Below w.heap.size w W0 := by
  refine ⟨_, rfl, by simp, ?_, ?_, ?_⟩
  · have h1 := (Boxed.new w 9 (.string s)).alloc (.cells #[.slice none 0 0] 42)
    have h2 := Boxed.new (w.alloc (.cells #[.string s] 9)) 42 (.slice none 0 0)
    have h3 := Boxed.new ((w.alloc (.cells #[.string s] 9)).alloc (.cells #[.slice none 0 0] 42)) 9 (.string ⟨#[]⟩)
    have h4 := Boxed.new (((w.alloc (.cells #[.string s] 9)).alloc (.cells #[.slice none 0 0] 42)).alloc (.cells #[.string ⟨#[]⟩] 9)) 32 (.int .i64 0)
    simp only [World.size_alloc] at h2 h3 h4
    exact ⟨((h1.alloc _).alloc _).alloc _, (h3.alloc _).alloc _, h4.alloc _, _, ((h2.alloc _).alloc _).alloc _, World.ownsRow_nil _ _ _ _⟩
  · have h5 := Boxed.new ((((w.alloc (.cells #[.string s] 9)).alloc (.cells #[.slice none 0 0] 42)).alloc (.cells #[.string ⟨#[]⟩] 9)).alloc (.cells #[.int .i64 0] 32)) 9 (.string s)
    simp only [World.size_alloc] at h5
    exact h5
  · exact (((((Below.refl _ w).alloc (Nat.le_refl _) _).alloc (by simp) _).alloc (by simp; omega) _).alloc (by simp; omega) _).alloc (by simp; omega) _
theorem own_low {W : World} {b b' : Nat} {v : Value} {k : Nat} {xs : List Value} (h : W.ownsRow b 49 2 v k xs) (hb : b' ≤ b) : W.ownsRow b' 49 2 v k xs := by
  obtain ⟨h1, h2 | ⟨g, cap, cur, e1, e2, e3⟩⟩ := h
  · exact ⟨h1, .inl h2⟩
  · exact ⟨h1, .inr ⟨g, cap, cur, e1, Nat.le_trans hb e2, e3⟩⟩
theorem reps49' (W : World) (b : Nat) (ok : Nat → Prop) : ∀ (l acc : List S49) (cs : List Value), Reps (k49.M W b ok) 2 acc cs → Reps (k49.M W b ok) 2 (acc ++ l) (cs ++ cells49 l)
  | [], acc, cs, h => by simpa [cells49] using h
  | x :: l, acc, cs, h => by
    have := reps49' W b ok l _ _ (Reps.snoc h (k49_mkM W b ok x) rfl)
    simpa [cells49] using this
theorem reps49 (W : World) (b : Nat) (ok : Nat → Prop) (l : List S49) : Reps (k49.M W b ok) 2 l (cells49 l) := by
  have := reps49' W b ok l [] [] (Reps.none _ _)
  simpa using this
theorem row_R {W : World} {b b' : Nat} {v : Value} {l : List S49} (h : W.ownsRow b 49 2 v l.length (cells49 l)) (hb : b' ≤ b) : Kd.R k49 49 W b' (fun _ => True) v l :=
  ⟨fun _ _ => trivial, cells49 l, own_low h hb, reps49 _ _ _ l⟩
/-- What lies in memory behind the three results' stores. -/
theorem St.fin {b D : Nat} {s : ByteArray} {W w : World} {l : List S49} {t : ByteArray} {k : Int} (h : St b s W l t k) (hK : W.heap[D]? = some (.deferred (some []))) (hB : Below w.heap.size w W) (hb : w.heap.size = b) (t' : ByteArray) (k' : Int) :
    (((W.setCell ⟨b + 1, 0, none⟩ (.slice none 0 0)).setCell ⟨b + 1 + 1, 0, none⟩ (.string t')).setCell ⟨b + 1 + 1 + 1, 0, none⟩ (.int .i64 k')).heap[D]? = some (.deferred (some [])) ∧ St b s (((W.setCell ⟨b + 1, 0, none⟩ (.slice none 0 0)).setCell ⟨b + 1 + 1, 0, none⟩ (.string t')).setCell ⟨b + 1 + 1 + 1, 0, none⟩ (.int .i64 k')) [] t' k' ∧ Below w.heap.size w (((W.setCell ⟨b + 1, 0, none⟩ (.slice none 0 0)).setCell ⟨b + 1 + 1, 0, none⟩ (.string t')).setCell ⟨b + 1 + 1 + 1, 0, none⟩ (.int .i64 k')) := by
  subst hb
  obtain ⟨h1, h2, h3, v, h4, h5⟩ := h
  refine ⟨(((KeepsOthers.setCell _ _ _).trans (KeepsOthers.setCell _ _ _)).trans (KeepsOthers.setCell _ _ _)).same D _ hK rfl, ⟨((h1.other (by omega) _).other (by omega) _).other (by omega) _, ((h2.other (by omega) _).set _).other (by omega) _, ((h3.other (by omega) _).other (by omega) _).set _, .slice none 0 0, ((h4.set _).other (by omega) _).other (by omega) _, World.ownsRow_nil _ _ _ _⟩, ?_⟩
  exact ((hB.setCell (p := ⟨w.heap.size + 1, 0, none⟩) (by show w.heap.size ≤ w.heap.size + 1; omega) _).setCell (p := ⟨w.heap.size + 1 + 1, 0, none⟩) (by show w.heap.size ≤ w.heap.size + 1 + 1; omega) _).setCell (p := ⟨w.heap.size + 1 + 1 + 1, 0, none⟩) (by show w.heap.size ≤ w.heap.size + 1 + 1 + 1; omega) _
/-- The results' stores within a round that leaves. -/
theorem St.put {b B : Nat} {s : ByteArray} {W w : World} {v : Value} (h1 : Boxed W b 9 (.string s)) {t0 : ByteArray} {k0 : Int} {v0 : Value} (h2 : Boxed W (b + 1 + 1) 9 (.string t0)) (h3 : Boxed W (b + 1 + 1 + 1) 32 (.int .i64 k0)) (h4 : Boxed W (b + 1) 42 v0) {l : List S49} (h5 : W.ownsRow (b + 5) 49 2 v l.length (cells49 l)) (hB : Below w.heap.size w W) (hb : w.heap.size = b) (t' : ByteArray) (k' : Int) :
    KeepsFrom B W (((W.setCell ⟨b + 1, 0, none⟩ v).setCell ⟨b + 1 + 1, 0, none⟩ (.string t')).setCell ⟨b + 1 + 1 + 1, 0, none⟩ (.int .i64 k')) ∧ St b s (((W.setCell ⟨b + 1, 0, none⟩ v).setCell ⟨b + 1 + 1, 0, none⟩ (.string t')).setCell ⟨b + 1 + 1 + 1, 0, none⟩ (.int .i64 k')) l t' k' ∧ Below w.heap.size w (((W.setCell ⟨b + 1, 0, none⟩ v).setCell ⟨b + 1 + 1, 0, none⟩ (.string t')).setCell ⟨b + 1 + 1 + 1, 0, none⟩ (.int .i64 k')) := by
  subst hb
  refine ⟨(((KeepsOthers.setCell _ _ _).trans (KeepsOthers.setCell _ _ _)).trans (KeepsOthers.setCell _ _ _)).from _, ⟨((h1.other (by omega) _).other (by omega) _).other (by omega) _, ((h2.other (by omega) _).set _).other (by omega) _, ((h3.other (by omega) _).other (by omega) _).set _, v, ((h4.set _).other (by omega) _).other (by omega) _, row_far (row_far (row_far h5 (by omega) _) (by omega) _) (by omega) _⟩, ?_⟩
  exact ((hB.setCell (p := ⟨w.heap.size + 1, 0, none⟩) (by show w.heap.size ≤ w.heap.size + 1; omega) _).setCell (p := ⟨w.heap.size + 1 + 1, 0, none⟩) (by show w.heap.size ≤ w.heap.size + 1 + 1; omega) _).setCell (p := ⟨w.heap.size + 1 + 1 + 1, 0, none⟩) (by show w.heap.size ≤ w.heap.size + 1 + 1 + 1; omega) _
theorem two_cells (W : World) (g : Nat) (hg : W.heap.size = g) (t : TypeId) (a b : Value) : ∀ (j : Nat) u, [a, b][j]? = some u → (W.alloc (.cells #[a, b] t)).cell? ((⟨g, 0, none⟩ : Addr).add j) = some u := by
  intro j u hj
  subst hg
  have e : (⟨W.heap.size, 0, none⟩ : Addr).add j = ⟨W.heap.size, j, none⟩ := by unfold Addr.add; split <;> simp_all
  rw [e, World.cell?_alloc_at _ _ _ _ rfl]
  match j, hj with
  | 0, hj => cases hj; rfl
  | 1, hj => cases hj; rfl
  | j + 2, hj => simp at hj
theorem keeps_of_below {W W' : World} (h : Below W.heap.size W W') : KeepsOthers W W' := ⟨h.size, fun k _ hk _ => (h.block k (Array.getElem?_eq_some_iff.1 hk).1).trans hk⟩
theorem row_ne {W : World} {b k n : Nat} {v : Value} {xs : List Value} (h : W.ownsRow (b + 5) 49 2 v n xs) (hk : k < b + 5) : some k ≠ v.ownBlock := by
  intro e
  have := own_base h k e.symm
  omega
/-- A field more, within a round that goes on. -/
theorem St.more {b : Nat} {s : ByteArray} {W w1 w3 w : World} {v v' : Value} {l : List S49} {f : S49} {o1 o2 : Obj} (h2 : 2 < b) (hS : b + 5 ≤ W.heap.size) (hb1 : Below W.heap.size W w1)
    (q1 : Boxed w1 b 9 (.string s)) (q2 : Boxed w1 (b + 1 + 1) 9 (.string ⟨#[]⟩)) (q3 : Boxed w1 (b + 1 + 1 + 1) 32 (.int .i64 0)) (q4 : Boxed w1 (b + 1) 42 v) (q5 : w1.ownsRow (b + 5) 49 2 v l.length (cells49 l))
    (hown : w3.ownsRow (b + 5) 49 2 v' (l.length + 1) (cells49 l ++ [.string f.f0, .string f.f1])) (hg : ((w1.alloc o1).alloc o2).grownBy w3 v.ownBlock) (hB : Below w.heap.size w W) (hb : w.heap.size = b) (B : Nat) :
    Boxed w3 (b + 1) 42 v ∧ KeepsFrom B W (w3.setCell ⟨b + 1, 0, none⟩ v') ∧ KpL (b + 1 + 1 + 1 + 1) W (w3.setCell ⟨b + 1, 0, none⟩ v') ∧ St b s (w3.setCell ⟨b + 1, 0, none⟩ v') (l ++ [f]) ⟨#[]⟩ 0 ∧ Below w.heap.size w (w3.setCell ⟨b + 1, 0, none⟩ v') ∧ b + 5 ≤ (w3.setCell ⟨b + 1, 0, none⟩ v').heap.size := by
  subst hb
  have hz1 := hb1.size
  have hz3 := hg.size
  rw [World.size_alloc, World.size_alloc] at hz3
  have r := fun k hk => row_ne (k := k) q5 hk
  have k1 := ((q1.alloc o1).alloc o2).kept hg (r _ (by omega))
  have k2 := ((q2.alloc o1).alloc o2).kept hg (r _ (by omega))
  have k3 := ((q3.alloc o1).alloc o2).kept hg (r _ (by omega))
  have k4 := ((q4.alloc o1).alloc o2).kept hg (r _ (by omega))
  have hblk : ∀ k, k < w.heap.size + 5 → k ≠ w.heap.size + 1 → (w3.setCell ⟨w.heap.size + 1, 0, none⟩ v').heap[k]? = W.heap[k]? := fun k hk hne => by
    rw [Below.heap_setCell _ _ _ _ (by exact hne), hg.block k (by rw [World.size_alloc, World.size_alloc]; omega) (r k hk), Below.heap_alloc _ _ _ (by rw [World.size_alloc]; omega), Below.heap_alloc _ _ _ (by omega), hb1.block k (by omega)]
  refine ⟨k4, ?_, ⟨hblk _ (by omega) (by omega), hblk 2 (by omega) (by omega)⟩, ⟨k1.other (by omega) _, k2.other (by omega) _, k3.other (by omega) _, v', k4.set v', ?_⟩, ?_, Nat.le_trans (by omega) (KeepsWalks.setCell w3 _ v').size⟩
  · refine (((((keeps_of_below hb1).trans (KeepsOthers.alloc _ _)).trans (KeepsOthers.alloc _ _)).trans (KeepsOthers.of_grownBy hg fun j o ej hj => ?_)).trans (KeepsOthers.setCell _ _ _)).from _
    rcases q5.2 with ⟨rfl, _⟩ | ⟨g, cap, cur, rfl, _, hgb, _⟩
    · simp [Value.ownBlock] at ej
    · obtain rfl : g = j := by simpa [Value.ownBlock] using ej
      have hgl := (Array.getElem?_eq_some_iff.1 hgb).1
      rw [Below.heap_alloc _ _ _ (by rw [World.size_alloc]; omega), Below.heap_alloc _ _ _ hgl, hgb] at hj
      cases hj; rfl
  · rw [List.length_append, List.length_singleton, cells49_snoc]
    exact row_far hown (by omega) _
  · refine Below.setCell (p := ⟨w.heap.size + 1, 0, none⟩) ?_ (by show w.heap.size ≤ w.heap.size + 1; omega) _
    refine (((hB.trans (hb1.mono hB.size)).alloc (by omega) o1).alloc (by rw [World.size_alloc]; omega) o2).grown hg (by rw [World.size_alloc, World.size_alloc]; omega) (fun k ek => ?_)
    have := own_base q5 k ek
    omega
/-- The function's end, out of what lies in its variables. -/
theorem St.out {b D : Nat} {s : ByteArray} {W w : World} {res : PR} (h : St b s W res.1 res.2.1 res.2.2) (hK : W.heap[D]? = some (.deferred (some []))) (hB : Below w.heap.size w W) (hb : w.heap.size = b) (hD : w.heap.size ≤ D) :
    ∃ v, (W.putObj D (.deferred none)).cell? ⟨b + 1, 0, none⟩ = some v ∧ (W.putObj D (.deferred none)).cell? ⟨b + 1 + 1, 0, none⟩ = some (.string res.2.1) ∧ (W.putObj D (.deferred none)).cell? ⟨b + 1 + 1 + 1, 0, none⟩ = some (.int .i64 res.2.2) ∧ (∃ A n c, v = .slice A n c) ∧ Kd.R k49 49 (W.putObj D (.deferred none)) w.heap.size (fun _ => True) v res.1 ∧ Below w.heap.size w (W.putObj D (.deferred none)) := by
  subst hb
  obtain ⟨h1, h2, h3, v, h4, h5⟩ := h
  have hg := grownBy_putObj' W D (.deferred none)
  have hr : ∀ r, some D = some r → ∃ o : Obj, W.heap[r]? = some o ∧ o.isCells = false := fun r e => by cases e; exact ⟨_, hK, rfl⟩
  refine ⟨v, cell_kept h4.cell hg hr, cell_kept h2.cell hg hr, cell_kept h3.cell hg hr, ?_, row_R (ownsRow_putObj h5 _ hK rfl) (by omega), hB.trans (belowK_b (w := w) (Nat.le_refl _) W D _ _ hD hK rfl rfl)⟩
  rcases h5.2 with ⟨rfl, _⟩ | ⟨g, cap, cur, rfl, _⟩
  · exact ⟨_, _, _, rfl⟩
  · exact ⟨_, _, _, rfl⟩
set_option maxRecDepth 100000 in
set_option maxHeartbeats 4000000 in
theorem fparse_in (s : ByteArray) (w : World) (hG : Glob w) (hs : s.size < 4294967281) :
    CallsIn Fence.wide 3 Tryd.prog 26 #[.string s] w fun e w' => ∃ v : Value, e = .returned (.tuple #[v, .string (parseV (L s)).2.1, .int .i64 (parseV (L s)).2.2]) ∧ Kd.R k49 49 w' w.heap.size (fun _ => True) v (parseV (L s)).1 ∧ Below w.heap.size w w' := by
  have HG := Lib.hid hG
  clear hG
  refine callsIn_of_wp_marks Tryd.func26 rfl trivial ?_ rfl
  simp only [Tryd.ntmps26, List.size_toArray, List.length_cons, List.length_nil, Nat.reduceAdd, Nat.reduceSub, Array.replicate_succ, Array.replicate_zero, List.push_toArray, List.append_toArray, List.nil_append, List.cons_append]
  gi_wp2_with fail
  refine ⟨trivial, (callsIn_wide.2 (lines_calls s _)).mono ?_⟩
  rintro e w' ⟨rfl, rfl⟩
  gi_wp2_with fail
  obtain ⟨W0, hW0, hsz, hSt, hBs, hB0⟩ := five_new w s
  rw [← hW0]
  have hGlob : ∀ W, Below w.heap.size w W → Glob W := fun W hb => HG.out.below hb
  obtain ⟨m0, hm0⟩ := HG.out.max
  have h2 : 2 < w.heap.size := World.block_lt_of_cell? w _ hm0
  clear hm0
  have HGL := Aside0.mk hGlob
  have HSEQ := lines_seq (3 - 1) (w.heap.size + 1 + 1 + 1 + 1) (by decide) s hs W0 (hGlob W0 hB0) hBs (by omega)
  clear hGlob hW0
  refine wpIn_rangeFunc_box rfl (by decide) (gf := 71) (lb := #[.pointer (some ⟨w.heap.size + 1 + 1 + 1 + 1, 0, none⟩)]) rfl trivial (enters_of Tryd.func71 (by kernel_rfl) rfl) hBs.lt HSEQ (fun h k => KpL.t h k)
    (fun W l o' hl => ⟨World.putObj_heap_other (by omega), World.putObj_heap_other (by omega)⟩) (fun _ => rfl)
    (InvP w.heap.size s w) (InvX w.heap.size s w) (InvP.own _ _ _ _ (by omega)) (InvX.own _ _ _ _ (by omega)) (fun pre W v h => ⟨h.1, h.2.1.far v, h.2.2.1.setCell (p := ⟨w.heap.size + 1 + 1 + 1 + 1, 0, none⟩) (by show w.heap.size ≤ w.heap.size + 1 + 1 + 1 + 1; omega) v, Nat.le_trans h.2.2.2 (KeepsWalks.setCell W _ v).size⟩)
    (fun pre W h => ⟨h.1, h.2.1.below ((Below.refl _ _).drew), h.2.2.1.drew, h.2.2.2⟩) ⟨fun _ h => (by cases h), hSt, hB0, Nat.le_of_eq hsz.symm⟩
    (fun x => { tmps := #[.string s, .pointer (some ⟨w.heap.size, 0, none⟩), .pointer (some ⟨w.heap.size + 1, 0, none⟩), .pointer (some ⟨w.heap.size + 1 + 1, 0, none⟩), .pointer (some ⟨w.heap.size + 1 + 1 + 1, 0, none⟩), .string (M x.1), .string (M x.2), undef, undef, .string s, .func (.func 71) #[] #[.pointer (some ⟨w.heap.size + 1 + 1 + 1 + 1, 0, none⟩)], .string (M x.1), .string (M x.2), undef, undef, undef, undef, undef, undef, undef, undef, undef, undef, undef, undef, undef, undef, undef, undef, undef, undef, undef, undef, undef, undef, undef, undef], defers := [] }) ?assign ?body ?done ?stop
  case assign =>
    intro l x W K hK
    gi_wp2
    exact hK
  case body =>
    rintro l pre x W ⟨hgo, hst, hB, hS5⟩ hlt hsp
    have hmem : x.1.length + x.2.length ≤ s.size := by
      obtain ⟨k, hk, e⟩ := hsp
      have hm : x ∈ linesL (L s) := List.mem_of_mem_take (show x ∈ (linesL (L s)).take k from by rw [← e]; simp)
      exact lines_mem _ _ x hm
    have hmany : (linesL (L s)).length ≤ s.size := lines_many _ _
    clear hsp HSEQ
    obtain ⟨q1, q2, q3, v, q4, q5⟩ := id hst
    have c1 := q1.cell
    have c2 := q2.cell
    have c3 := q3.cell
    have c4 := q4.cell
    have f2 := q2.frozen
    have f3 := q3.frozen
    have f4 := q4.frozen
    have Q := Aside0.mk (And.intro q1 (And.intro q2 (And.intro q3 (And.intro q4 q5))))
    clear q1 q2 q3
    obtain ⟨A, nl, cl, rfl⟩ : ∃ A nl cl, v = .slice A nl cl := by
      rcases q5.2 with ⟨rfl, _⟩ | ⟨g, cap, cur, rfl, _⟩
      · exact ⟨_, _, _, rfl⟩
      · exact ⟨_, _, _, rfl⟩
    obtain ⟨t, hT⟩ : ∃ t, M x.2 = t := ⟨_, rfl⟩
    obtain ⟨a, hA⟩ : ∃ a, M x.1 = a := ⟨_, rfl⟩
    have ht : t.size = x.2.length := by rw [← hT]; rfl
    have ha : L a = x.1 := by rw [← hA]
    obtain ⟨m1, m2, m3⟩ := M_empty x.1
    rw [hT, hA]
    rw [hA] at m1 m2 m3
    have HT := Lib.hid hT
    have HA := Lib.hid ha
    clear hT hA ha
    have hw : wrap64 ((s.size : Int) - (t.size : Int)) = (s.size : Int) - (t.size : Int) := by unfold wrap64; omega
    by_cases h8 : s.size - x.2.length > 8000
    · have g0 : decide ((8000 : Int) < (s.size : Int) - (t.size : Int)) = true := decide_eq_true (by omega)
      have g1 := eq_true (show (8000 : Int) < (s.size : Int) - (t.size : Int) by omega)
      have HR := Aside0.mk (show ∀ r, parseG s.size (x :: r) (accL pre) = endP s.size from fun r => by unfold parseG; rw [if_pos h8])
      clear ht hmem m1 m2 m3 h8 q5 c2 c3 c4 f2 f3 f4
      gi_wp2
      exact ⟨KeepsFrom.refl _ _, ⟨pre, x, rfl, hgo, .inl ⟨rfl, HR.out, hst⟩⟩, hB⟩
    · have g0 : decide ((8000 : Int) < (s.size : Int) - (t.size : Int)) = false := decide_eq_false (by omega)
      have g1 := eq_false (show ¬ (8000 : Int) < (s.size : Int) - (t.size : Int) by omega)
      have h89 : x.1 ≠ [] ∧ (pairV x.1).2.2 = true → goesOn s.size x := fun h => ⟨h8, h⟩
      by_cases hx : x.1 = []
      · have HR := Aside0.mk (show ∀ r, parseG s.size (x :: r) (accL pre) = (accL pre, M x.2, 0) from fun r => by unfold parseG; rw [if_neg h8, if_pos hx])
        rw [hx] at m1 m2 m3
        clear ht hmem h8 hx
        gi_wp2
        obtain ⟨p1, p2, p3, p4, p5⟩ := Q.out
        obtain ⟨k1, k2, k3⟩ := St.put (B := W0.heap.size) p1 p2 p3 p4 p5 hB rfl t 0
        exact ⟨k1, ⟨pre, x, rfl, hgo, .inr ⟨rfl, (accL pre, M x.2, 0), HR.out, by rw [HT.out]; exact k2⟩⟩, k3⟩
      · have hne : x.1.isEmpty = false := by cases hc : x.1 with | nil => exact absurd hc hx | cons _ _ => rfl
        rw [hne] at m1 m2 m3
        have hsa : a.size < 4294967281 := by
          have : (L a).length = a.size := rfl
          rw [HA.out] at this
          omega
        clear ht hne
        gi_wp2_with fail
        refine ⟨trivial, (CallsIn.inRound l (callsIn_wide.2 (pair_calls a W (HG.out.below hB) hsa))).mono ?_⟩
        rintro e w1 ⟨rfl, h1⟩
        rw [HA.out]
        obtain ⟨q, hq⟩ : ∃ q, (pairV x.1).2.2 = q := ⟨_, rfl⟩
        have HQ := Lib.hid hq
        rw [hq]
        have hst1 := hst.below h1
        have hB1 := hB.trans (h1.mono hB.size)
        have hsz1 := h1.size
        clear hq c1 c2 c3 c4 f2 f3 f4 m1 m2 m3 q5
        have hst2 := hst1.below ((Below.refl _ w1).alloc (Nat.le_refl _) (.cells #[.string (M (pairV x.1).1), .string (M (pairV x.1).2.1)] 49))
        have hB2 := hB1.alloc hB1.size (.cells #[.string (M (pairV x.1).1), .string (M (pairV x.1).2.1)] 49)
        cases q with
        | false =>
          have HR := Aside0.mk (show ∀ r, parseG s.size (x :: r) (accL pre) = ([], ⟨#[]⟩, 180) from fun r => by unfold parseG; rw [if_neg h8, if_neg hx, if_pos HQ.out])
          obtain ⟨q1, q2, q3, v, q4, q5⟩ := hst2
          have c2 := q2.cell
          have c3 := q3.cell
          have c4 := q4.cell
          have f2 := q2.frozen
          have f3 := q3.frozen
          have f4 := q4.frozen
          have Q2 := Aside0.mk (And.intro q1 (And.intro q2 (And.intro q3 q4)))
          clear q1 q2 q3 q4 q5
          gi_wp2
          obtain ⟨p1, p2, p3, p4⟩ := Q2.out
          obtain ⟨k1, k2, k3⟩ := St.put (B := W0.heap.size) (l := []) (v := .slice none 0 0) p1 p2 p3 p4 (World.ownsRow_nil _ _ _ _) hB2 rfl ⟨#[]⟩ 180
          exact ⟨(((keeps_of_below h1).trans (KeepsOthers.alloc _ _)).from _).trans k1, ⟨pre, x, rfl, hgo, .inr ⟨rfl, ([], ⟨#[]⟩, 180), HR.out, k2⟩⟩, k3⟩
        | true =>
          obtain ⟨p1, p2, p3, v0, p4, p5⟩ := hst1
          obtain ⟨A1, nl1, cl1, rfl⟩ : ∃ A nl cl, v0 = .slice A nl cl := by
            rcases p5.2 with ⟨rfl, _⟩ | ⟨g, cap, cur, rfl, _⟩
            · exact ⟨_, _, _, rfl⟩
            · exact ⟨_, _, _, rfl⟩
          have q4 := p4.alloc (.cells #[.string (M (pairV x.1).1), .string (M (pairV x.1).2.1)] 49)
          have q5 := row_below p5 ((Below.refl _ w1).alloc (Nat.le_refl _) (.cells #[.string (M (pairV x.1).1), .string (M (pairV x.1).2.1)] 49))
          have hpl : (accL pre).length = pre.length := by unfold accL; rw [List.length_map]
          have c4 := q4.cell
          have f4 := q4.frozen
          have Q4 := Aside0.mk q4
          have hlen : (accL pre).length + 1 ≤ 4294967281 := by omega
          clear q4 hst2 hw g0 g1 h8
          have HPL := Lib.hid hpl
          clear hpl
          obtain ⟨i0, hi, e0⟩ := Option.map_eq_some_iff.1 info49
          obtain ⟨hz0, e1⟩ := Prod.mk.inj e0
          obtain ⟨hz1, hz2⟩ := Prod.mk.inj e1
          clear e0 e1
          have hgo2 : ∀ y ∈ pre ++ [x], goesOn s.size y := by
            intro y hy
            rcases List.mem_append.1 hy with hy | hy
            · exact hgo y hy
            · cases List.mem_singleton.1 hy
              exact h89 ⟨hx, HQ.out⟩
          gi_wp2_with (gi_at_builtin; refine wpListIn_append_own _ rfl _ _ 42 rfl (w.heap.size + 5) 49 i0 (.agg #[.string ⟨#[]⟩, .string ⟨#[]⟩]) 2 32 Tryd.underlying42 hi hz0 hz1 hz2 rfl (by decide) _ (accL pre).length _ ?hs (row_below q5 ((Below.refl _ _).alloc (Nat.le_refl _) _)) ⟨w1.heap.size + 1, 0, none⟩ 1 1 [.string (M (pairV x.1).1), .string (M (pairV x.1).2.1)] ?hx rfl ?hc (by simp [Value.oneCell']) (by unfold maxLen; omega) (by omega) ?hb ?_; (case hs => rfl); (case hx => rfl); (case hc => exact two_cells _ _ (World.size_alloc _ _) _ _ _); (case hb => rw [World.size_alloc, World.size_alloc]; omega); intro v' w3 hown' hgrow hnil; clear hnil; obtain ⟨g', cap', rfl⟩ := ownsRow_succ hown'; have K := St.more (f := pairS x.1) (by omega) hS5 h1 p1 p2 p3 p4 p5 hown' hgrow hB rfl W0.heap.size; have c9 := K.1.cell; have f9 := K.1.frozen)
          exact ⟨K.2.1, K.2.2.1, hgo2, by unfold accL; rw [List.map_append]; exact K.2.2.2.1, K.2.2.2.2⟩
  case done =>
    rintro D ys W hD rfl ⟨hgo, hst, hB, _⟩ hK
    have HV := Aside0.mk (show parseV (L s) = endP s.size from by
      have := parseG_run s.size (linesL (L s)) [] [] hgo
      rw [List.append_nil] at this
      exact this)
    clear hgo HSEQ
    obtain ⟨q1, q2, q3, v, q4, q5⟩ := id hst
    have c1 := q1.cell
    have c2 := q2.cell
    have c3 := q3.cell
    have c4 := q4.cell
    have f2 := q2.frozen
    have f3 := q3.frozen
    have f4 := q4.frozen
    by_cases h8 : s.size > 8000
    · have HE := Aside0.mk (show endP s.size = ([], ⟨#[]⟩, 2) from by unfold endP; rw [if_pos h8])
      have g0 : decide ((8000 : Int) < (s.size : Int)) = true := decide_eq_true (by omega)
      have g1 : decide (8000 < s.size) = true := decide_eq_true h8
      clear q1 q2 q3 q4 q5
      gi_wp2
      obtain ⟨hK', hst', hB'⟩ := hst.fin hK hB rfl ⟨#[]⟩ 2
      obtain ⟨v', d1, d2, d3, ⟨A, n', c', rfl⟩, hR, hB2⟩ := St.out (res := ([], ⟨#[]⟩, 2)) hst' hK' hB' rfl (by omega)
      refine ⟨by simp, .inl ⟨_, _, rfl, run_takeDeferred hK', ?_⟩⟩
      refine ⟨.tuple #[.slice A n' c', .string ⟨#[]⟩, .int .i64 2], ?_, .slice A n' c', by rw [HV.out, HE.out], by rw [HV.out, HE.out]; exact hR, hB2⟩
      simp [results, Tryd.f26, go_sem, d1, d2, d3]
    · have HE := Aside0.mk (show endP s.size = ([], ⟨#[]⟩, 180) from by unfold endP; rw [if_neg h8])
      have g0 : decide ((8000 : Int) < (s.size : Int)) = false := decide_eq_false (by omega)
      have g1 : decide (8000 < s.size) = false := decide_eq_false h8
      clear q1 q2 q3 q4 q5
      gi_wp2
      obtain ⟨hK', hst', hB'⟩ := hst.fin hK hB rfl ⟨#[]⟩ 180
      obtain ⟨v', d1, d2, d3, ⟨A, n', c', rfl⟩, hR, hB2⟩ := St.out (res := ([], ⟨#[]⟩, 180)) hst' hK' hB' rfl (by omega)
      refine ⟨by simp, .inl ⟨_, _, rfl, run_takeDeferred hK', ?_⟩⟩
      refine ⟨.tuple #[.slice A n' c', .string ⟨#[]⟩, .int .i64 180], ?_, .slice A n' c', by rw [HV.out, HE.out], by rw [HV.out, HE.out]; exact hR, hB2⟩
      simp [results, Tryd.f26, go_sem, d1, d2, d3]
  case stop =>
    rintro D c pre W hD ⟨k, hk, hpre⟩ ⟨⟨pre', x, e1, hgo, h3⟩, hB⟩ hK
    have hL : linesL (L s) = pre' ++ x :: (linesL (L s)).drop k := by
      conv => lhs; rw [← List.take_append_drop k (linesL (L s)), ← hpre, e1]
      simp
    have hrun := parseG_run s.size pre' (x :: (linesL (L s)).drop k) [] hgo
    rw [← hL, List.nil_append] at hrun
    clear hL hgo HSEQ e1 hpre hk
    rcases h3 with ⟨rfl, hend, hst⟩ | ⟨rfl, res, hres, hst⟩
    · have HV := Aside0.mk (show parseV (L s) = endP s.size from hrun.trans (hend _))
      clear hrun hend
      obtain ⟨q1, q2, q3, v, q4, q5⟩ := id hst
      have c1 := q1.cell
      have c2 := q2.cell
      have c3 := q3.cell
      have c4 := q4.cell
      have f2 := q2.frozen
      have f3 := q3.frozen
      have f4 := q4.frozen
      by_cases h8 : s.size > 8000
      · have HE := Aside0.mk (show endP s.size = ([], ⟨#[]⟩, 2) from by unfold endP; rw [if_pos h8])
        have g0 : decide ((8000 : Int) < (s.size : Int)) = true := decide_eq_true (by omega)
        have g1 : decide (8000 < s.size) = true := decide_eq_true h8
        clear q1 q2 q3 q4 q5
        gi_wp2
        obtain ⟨hK', hst', hB'⟩ := hst.fin hK hB rfl ⟨#[]⟩ 2
        obtain ⟨v', d1, d2, d3, ⟨A, n', c', rfl⟩, hR, hB2⟩ := St.out (res := ([], ⟨#[]⟩, 2)) hst' hK' hB' rfl (by omega)
        refine ⟨by simp, .inl ⟨_, _, rfl, run_takeDeferred hK', ?_⟩⟩
        refine ⟨.tuple #[.slice A n' c', .string ⟨#[]⟩, .int .i64 2], ?_, .slice A n' c', by rw [HV.out, HE.out], by rw [HV.out, HE.out]; exact hR, hB2⟩
        simp [results, Tryd.f26, go_sem, d1, d2, d3]
      · have HE := Aside0.mk (show endP s.size = ([], ⟨#[]⟩, 180) from by unfold endP; rw [if_neg h8])
        have g0 : decide ((8000 : Int) < (s.size : Int)) = false := decide_eq_false (by omega)
        have g1 : decide (8000 < s.size) = false := decide_eq_false h8
        clear q1 q2 q3 q4 q5
        gi_wp2
        obtain ⟨hK', hst', hB'⟩ := hst.fin hK hB rfl ⟨#[]⟩ 180
        obtain ⟨v', d1, d2, d3, ⟨A, n', c', rfl⟩, hR, hB2⟩ := St.out (res := ([], ⟨#[]⟩, 180)) hst' hK' hB' rfl (by omega)
        refine ⟨by simp, .inl ⟨_, _, rfl, run_takeDeferred hK', ?_⟩⟩
        refine ⟨.tuple #[.slice A n' c', .string ⟨#[]⟩, .int .i64 180], ?_, .slice A n' c', by rw [HV.out, HE.out], by rw [HV.out, HE.out]; exact hR, hB2⟩
        simp [results, Tryd.f26, go_sem, d1, d2, d3]
    · have HV := Aside0.mk (show parseV (L s) = res from hrun.trans (hres _))
      clear hrun hres
      obtain ⟨v', d1, d2, d3, ⟨A, n', c', rfl⟩, hR, hB2⟩ := St.out (res := res) hst hK hB rfl (by omega)
      gi_wp2
      refine ⟨by simp, .inl ⟨_, _, rfl, run_takeDeferred hK, ?_⟩⟩
      refine ⟨.tuple #[.slice A n' c', .string res.2.1, .int .i64 res.2.2], ?_, .slice A n' c', by rw [HV.out], by rw [HV.out]; exact hR, hB2⟩
      simp [results, Tryd.f26, go_sem, d1, d2, d3]
end Go.Proofs.YtodhbldnmepmaaaDoor.X
