/- Two fields that are copied from one reference's parts to another's: a region of mixed order, walked once for all. -/
import Derived.Test.YtldancekpigkaaaDoorXParse
import Derived.Test.YtldancekpigkaaaDoorWTab
import Derived.Test.YtldancekpigkaaaDoorWEqStruct
namespace Go.Proofs.YtldancekpigkaaaDoor.X
open Go.RowKit Go.Shelf Go.Proofs.YtldancekpigkaaaDoorW.PrintWords Go.Proofs.YtldancekpigkaaaDoorW.PrintLast Go.Proofs.YtldancekpigkaaaDoorW.PrintMore
set_option linter.unusedVariables false

/-- The region's operations. -/
abbrev cpOps (t1 t2 t3 t4 t5 t6 s d i j : Nat) (p : String) : Array Oper :=
  #[{ dst := some t1, op := .fieldAddr 24 (.tmp s) i, type := 0, pos := p, after := #[], guard := none },
    { dst := some t2, op := .load 9 (.tmp t1), type := 9, pos := p, after := #[{ on := 0, ground := .data }], guard := none },
    { dst := some t3, op := .fieldAddr 24 (.tmp s) j, type := 0, pos := p, after := #[{ on := 5, ground := .gcOnly .lateStores }], guard := none },
    { dst := some t4, op := .load 4 (.tmp t3), type := 4, pos := p, after := #[{ on := 2, ground := .data }, { on := 5, ground := .gcOnly .lateStores }], guard := none },
    { dst := some t5, op := .fieldAddr 24 (.tmp d) i, type := 0, pos := p, after := #[{ on := 0, ground := .phase }, { on := 1, ground := .phase }, { on := 2, ground := .textOnly .lateStores }, { on := 3, ground := .textOnly .lateStores }], guard := none },
    { dst := none, op := .store 9 (.tmp t5) (.tmp t2), type := 0, pos := p, after := #[{ on := 4, ground := .data }, { on := 1, ground := .data }, { on := 0, ground := .phase }, { on := 1, ground := .phase }, { on := 2, ground := .textOnly .lateStores }, { on := 3, ground := .textOnly .lateStores }], guard := none },
    { dst := some t6, op := .fieldAddr 24 (.tmp d) j, type := 0, pos := p, after := #[{ on := 0, ground := .phase }, { on := 1, ground := .phase }, { on := 2, ground := .phase }, { on := 3, ground := .phase }, { on := 4, ground := .phase }, { on := 5, ground := .phase }], guard := none },
    { dst := none, op := .store 4 (.tmp t6) (.tmp t4), type := 0, pos := p, after := #[{ on := 6, ground := .data }, { on := 3, ground := .data }, { on := 5, ground := .chain }, { on := 0, ground := .phase }, { on := 1, ground := .phase }, { on := 2, ground := .phase }, { on := 3, ground := .phase }, { on := 4, ground := .phase }, { on := 5, ground := .phase }], guard := none }]
def cpT : Bool × List (List Nat × List Nat) := (true, [([], []), ([0], [0]), ([], []), ([2], [2]), ([0, 1], []), ([4, 1, 0, 1], [1, 4]), ([0, 1, 2, 3, 4, 5], []), ([6, 3, 5, 0, 1, 2, 3, 4, 5], [3, 6])])
def cpB : List Nat := [0, 1, 0, 4, 3, 19, 63, 127]
theorem cp_bits : waitsOk cpT.2 cpB = true := by decide +kernel
theorem put_ne (a : Act) {t s : Nat} (v : Value) (h : t ≠ s) : (a.put (some t) v).eval (.tmp s) = a.eval (.tmp s) := by
  show (a.tmps.setIfInBounds t v).getD s undef = a.tmps.getD s undef
  simp [Array.getD_eq_getD_getElem?, Array.getElem?_setIfInBounds_ne h]
theorem put_eq (a : Act) {t : Nat} (v : Value) (h : t < a.tmps.size) : (a.put (some t) v).eval (.tmp t) = v := by
  show (a.tmps.setIfInBounds t v).getD t undef = v
  simp [Array.getD_eq_getD_getElem?, Array.getElem?_setIfInBounds_self_of_lt h]
theorem put_size (a : Act) (t : Nat) (v : Value) : (a.put (some t) v).tmps.size = a.tmps.size := Array.size_setIfInBounds
theorem addr_ok (ev : Operand → Value) (w : World) (g : Nat) (i : Nat) (x : Operand) (t : Option Tmp) (p : String) (af : Array Edge) (hi : i < 9) (h : ev x = .pointer (some ⟨g, 0, none⟩)) :
    (execOp ev { dst := t, op := .fieldAddr 24 x i, type := 0, pos := p, after := af, guard := none }).run Tryd.prog w = .ok (.value (.pointer (some ⟨g, i, none⟩))) w := by
  have hu24 := Tryd.underlying24
  match i, hi with
  | 0, _ => go_simp
  | 1, _ => go_simp
  | 2, _ => go_simp
  | 3, _ => go_simp
  | 4, _ => go_simp
  | 5, _ => go_simp
  | 6, _ => go_simp
  | 7, _ => go_simp
  | 8, _ => go_simp
theorem load_str (ev : Operand → Value) (w : World) (g : Nat) (i : Nat) (x : Operand) (t : Option Tmp) (p : String) (af : Array Edge) (v : ByteArray) (h : ev x = .pointer (some ⟨g, i, none⟩)) (hc : w.cell? ⟨g, i, none⟩ = some (.string v)) :
    (execOp ev { dst := t, op := .load 9 x, type := 9, pos := p, after := af, guard := none }).run Tryd.prog w = .ok (.value (.string v)) w := by
  go_simp
theorem load_bool (ev : Operand → Value) (w : World) (g : Nat) (i : Nat) (x : Operand) (t : Option Tmp) (p : String) (af : Array Edge) (v : Bool) (h : ev x = .pointer (some ⟨g, i, none⟩)) (hc : w.cell? ⟨g, i, none⟩ = some (.bool v)) :
    (execOp ev { dst := t, op := .load 4 x, type := 4, pos := p, after := af, guard := none }).run Tryd.prog w = .ok (.value (.bool v)) w := by
  go_simp
theorem store_str (ev : Operand → Value) (w : World) (g : Nat) (i : Nat) (x y : Operand) (p : String) (af : Array Edge) (v : ByteArray) (u : Value) (h : ev x = .pointer (some ⟨g, i, none⟩)) (hy : ev y = .string v) (hc : w.cell? ⟨g, i, none⟩ = some u) (hf : w.frozen? ⟨g, i, none⟩ = false) :
    (execOp ev { dst := none, op := .store 9 x y, type := 0, pos := p, after := af, guard := none }).run Tryd.prog w = .ok .skip (w.setCell ⟨g, i, none⟩ (.string v)) := by
  go_simp
theorem store_bool (ev : Operand → Value) (w : World) (g : Nat) (i : Nat) (x y : Operand) (p : String) (af : Array Edge) (v : Bool) (u : Value) (h : ev x = .pointer (some ⟨g, i, none⟩)) (hy : ev y = .bool v) (hc : w.cell? ⟨g, i, none⟩ = some u) (hf : w.frozen? ⟨g, i, none⟩ = false) :
    (execOp ev { dst := none, op := .store 4 x y, type := 0, pos := p, after := af, guard := none }).run Tryd.prog w = .ok .skip (w.setCell ⟨g, i, none⟩ (.bool v)) := by
  go_simp
/-- A store that alone may come up. -/
theorem one_store {P : Program} {md : Region.Mode} {ops : Array Oper} {Q : Exit → Act → World → Prop} {S : World → Prop} {ds : List Nat} {i : Nat} {oi : Oper} {fuel : Nat} {l : Array Bool} {a : Act} {w w1 : World} (l' : Array Bool) (hi : ops[i]? = some oi) (hN : oi.dst = none) (hc : readyB md ops l l' i = true) (hd : i ∉ ds)
    (hw : ∀ y, Region.wanted oi y = true) (hrun : (execOp a.eval oi).run P w = .ok .skip w1) (hS : S w1) (h : S w1 → wpAnyLast P md ops Q S ds fuel l' a w1) : wpAnyLast P md ops Q S ds (fuel + 1) l a w := by
  refine one_ (N := none) l' hi hN hc hd (fun K hK => ?_)
  refine skip_ (hw _) hN hrun ?_
  exact hK.out _ _ hS h
/-- The act behind the region. -/
abbrev cpAct (a : Act) (t1 t2 t3 t4 t5 t6 i j gs gd : Nat) (v1 : ByteArray) (v2 : Bool) : Act :=
  ((((((a.put (some t1) (.pointer (some ⟨gs, i, none⟩))).put (some t3) (.pointer (some ⟨gs, j, none⟩))).put (some t2) (.string v1)).put (some t5) (.pointer (some ⟨gd, i, none⟩))).put (some t4) (.bool v2)).put (some t6) (.pointer (some ⟨gd, j, none⟩)))
set_option maxHeartbeats 600000 in
set_option maxRecDepth 100000 in
theorem copy2 {id : Nat} {a : Act} {w : World} {Q : Exit → Act → World → Prop} {t1 t2 t3 t4 t5 t6 s d i j : Nat} {p : String} {gs gd : Nat} {v1 : ByteArray} {v2 : Bool} {ss cs : Array Value}
    (hT : rtab .any (cpOps t1 t2 t3 t4 t5 t6 s d i j p) = cpT)
    (hQ : ∀ c (a : Act) w (t : Nat) v, Q (.panic c) (a.put (some t) v) w → Q (.panic c) a w)
    (hi : i < 9) (hj : j < 9) (hij : i ≠ j) (hsz : [t1, t2, t3, t4, t5, t6].all (· < a.tmps.size) = true)
    (hn : ([t1, t2, t3, t4, t5, t6].all (fun t => t != s && t != d) && (t3 != t1 && t2 != t3 && t5 != t3 && t4 != t5 && t5 != t2 && t4 != t2 && t6 != t4)) = true)
    (es : a.eval (.tmp s) = .pointer (some ⟨gs, 0, none⟩)) (ed : a.eval (.tmp d) = .pointer (some ⟨gd, 0, none⟩)) (hne : gs ≠ gd)
    (hs : w.heap[gs]? = some (.cells ss 24 (0, 0))) (hd : w.heap[gd]? = some (.cells cs 24 (0, 0))) (hcs : cs.size = 9)
    (c1 : ss[i]? = some (.string v1)) (c2 : ss[j]? = some (.bool v2))
    (h : Q .normal (cpAct a t1 t2 t3 t4 t5 t6 i j gs gd v1 v2) ((w.drew.setCell ⟨gd, i, none⟩ (.string v1)).setCell ⟨gd, j, none⟩ (.bool v2))) :
    (Code.region id (cpOps t1 t2 t3 t4 t5 t6 s d i j p) true).wp Tryd.prog Q a w := by
  simp only [List.all_cons, List.all_nil, Bool.and_true, Bool.and_eq_true, bne_iff_ne, ne_eq, decide_eq_true_eq] at hsz hn
  obtain ⟨z1, z2, z3, z4, z5, z6⟩ := hsz
  obtain ⟨⟨⟨s1, d1⟩, ⟨s2, d2⟩, ⟨s3, d3⟩, ⟨s4, d4⟩, ⟨s5, d5⟩, ⟨s6, d6⟩⟩, ⟨⟨⟨⟨⟨⟨n31, n23⟩, n53⟩, n45⟩, n52⟩, n42⟩, n64⟩⟩ := hn
  refine start_ (n := 8) (S := fun w' => w'.cell? ⟨gs, i, none⟩ = some (.string v1) ∧ w'.cell? ⟨gs, j, none⟩ = some (.bool v2)) (ds := []) #[false, false, false, false, false, false, false, false] (by kernel_rfl) rfl rfl ⟨(blk_cell hs i).trans c1, (blk_cell hs j).trans c2⟩ (fun hHeld => ?_)
  refine with_tabW hT cp_bits (fun HT_ HW_ => ?_)
  have hs0 : w.drew.heap[gs]? = some (.cells ss 24 (0, 0)) := hs
  have hd0 : w.drew.heap[gd]? = some (.cells cs 24 (0, 0)) := hd
  generalize w.drew = w0 at hs0 hd0 hHeld h ⊢
  refine pure_ (i := 0) (N := some t1) (v := .pointer (some ⟨gs, i, none⟩)) #[true, false, false, false, false, false, false, false] rfl rfl (any_of HT_.out (by decide +kernel)) (fun c a w h => hQ c a w _ _ h) (Or.inl ⟨by rfl, fun w' => addr_ok _ w' gs i _ _ _ _ hi es⟩) rfl ?_
  refine pure_ (i := 2) (N := some t3) (v := .pointer (some ⟨gs, j, none⟩)) #[true, false, true, false, false, false, false, false] rfl rfl (any_of HT_.out (by decide +kernel)) (fun c a w h => hQ c a w _ _ h) (Or.inl ⟨by rfl, fun w' => addr_ok _ w' gs j _ _ _ _ hj (by rw [put_ne _ _ s1]; exact es)⟩) rfl ?_
  refine take_ (i := 1) (N := some t2) (v := .string v1) #[true, true, true, false, false, false, false, false] rfl rfl (take_ofW HT_.out HW_.out (by decide +kernel)) (fun c a w h => hQ c a w _ _ h) (Or.inl ⟨by rfl, fun w' hS => load_str _ w' gs i _ _ _ _ v1 (by rw [put_ne _ _ n31]; exact put_eq a _ z1) hS.1⟩) hHeld rfl ?_
  refine pure_ (i := 4) (N := some t5) (v := .pointer (some ⟨gd, i, none⟩)) #[true, true, true, false, true, false, false, false] rfl rfl (any_of HT_.out (by decide +kernel)) (fun c a w h => hQ c a w _ _ h) (Or.inl ⟨by rfl, fun w' => addr_ok _ w' gd i _ _ _ _ hi (by rw [put_ne _ _ d2, put_ne _ _ d3, put_ne _ _ d1]; exact ed)⟩) rfl ?_
  refine take_ (i := 3) (N := some t4) (v := .bool v2) #[true, true, true, true, true, false, false, false] rfl rfl (take_ofW HT_.out HW_.out (by decide +kernel)) (fun c a w h => hQ c a w _ _ h) (Or.inl ⟨by rfl, fun w' hS => load_bool _ w' gs j _ _ _ _ v2 (by rw [put_ne _ _ n53, put_ne _ _ n23]; exact put_eq _ _ (by rw [put_size]; exact z3)) hS.2⟩) hHeld rfl ?_
  obtain ⟨u1, hu1⟩ : ∃ u, cs[i]? = some u := ⟨_, Array.getElem?_eq_getElem (by omega)⟩
  have hs1 : (w0.setCell ⟨gd, i, none⟩ (.string v1)).heap[gs]? = some (.cells ss 24 (0, 0)) := blk_far hs0 hne _
  have hd1 : (w0.setCell ⟨gd, i, none⟩ (.string v1)).heap[gd]? = some (.cells (cs.setIfInBounds i (.string v1)) 24 (0, 0)) := blk_set hd0 i _
  refine one_store (i := 5) (w1 := w0.setCell ⟨gd, i, none⟩ (.string v1)) #[true, true, true, true, true, true, false, false] rfl rfl (one_of HT_.out (by decide +kernel)) (by decide) (fun _ => rfl) (store_str _ w0 gd i _ _ _ _ v1 u1 (by rw [put_ne _ _ n45]; exact put_eq _ _ (by simp only [put_size]; exact z5)) (by rw [put_ne _ _ n42, put_ne _ _ n52]; exact put_eq _ _ (by simp only [put_size]; exact z2)) ((blk_cell hd0 i).trans hu1) (blk_frozen hd0 i)) ⟨(blk_cell hs1 i).trans c1, (blk_cell hs1 j).trans c2⟩ ?_
  intro hHeld
  refine pure_ (i := 6) (N := some t6) (v := .pointer (some ⟨gd, j, none⟩)) #[true, true, true, true, true, true, true, false] rfl rfl (any_of HT_.out (by decide +kernel)) (fun c a w h => hQ c a w _ _ h) (Or.inl ⟨by rfl, fun w' => addr_ok _ w' gd j _ _ _ _ hj (by rw [put_ne _ _ d4, put_ne _ _ d5, put_ne _ _ d2, put_ne _ _ d3, put_ne _ _ d1]; exact ed)⟩) rfl ?_
  obtain ⟨u2, hu2⟩ : ∃ u, (cs.setIfInBounds i (.string v1))[j]? = some u := ⟨_, Array.getElem?_eq_getElem (by rw [Array.size_setIfInBounds]; omega)⟩
  have hs2 : ((w0.setCell ⟨gd, i, none⟩ (.string v1)).setCell ⟨gd, j, none⟩ (.bool v2)).heap[gs]? = some (.cells ss 24 (0, 0)) := blk_far hs1 hne _
  refine one_store (i := 7) (w1 := (w0.setCell ⟨gd, i, none⟩ (.string v1)).setCell ⟨gd, j, none⟩ (.bool v2)) #[true, true, true, true, true, true, true, true] rfl rfl (one_of HT_.out (by decide +kernel)) (by decide) (fun _ => rfl) (store_bool _ _ gd j _ _ _ _ v2 u2 (put_eq _ _ (by simp only [put_size]; exact z6)) ((put_ne _ _ n64).trans (put_eq _ _ (by simp only [put_size]; exact z4))) ((blk_cell hd1 j).trans hu2) (blk_frozen hd1 j)) ⟨(blk_cell hs2 i).trans c1, (blk_cell hs2 j).trans c2⟩ ?_
  intro hHeld
  exact done_ (done_of HT_.out (by decide +kernel)) h
/-- Two references' parts, compared. -/
theorem eqU (n : Nat) (w : World) (a b c d e a' b' c' d' e' : ByteArray) (p q r t p' q' r' t' : Bool) :
    (Op.equalIn (n + 2) 24 (.agg (uriC a b c d e p q r t)) (.agg (uriC a' b' c' d' e' p' q' r' t'))).run Tryd.prog w = .ok (a.toList == a'.toList && (b.toList == b'.toList && (c.toList == c'.toList && (d.toList == d'.toList && (e.toList == e'.toList && (p == p' && (q == q' && (r == r' && t == t')))))))) w := by
  refine eqA_of Tryd.underlying24 (by kernel_rfl) ?_
  refine eqf_cons (by rfl) (by go_simp; rfl) (by go_simp; rfl) (by go_simp) ?_
  refine eqf_cons (by rfl) (by go_simp; rfl) (by go_simp; rfl) (by go_simp) ?_
  refine eqf_cons (by rfl) (by go_simp; rfl) (by go_simp; rfl) (by go_simp) ?_
  refine eqf_cons (by rfl) (by go_simp; rfl) (by go_simp; rfl) (by go_simp) ?_
  refine eqf_cons (by rfl) (by go_simp; rfl) (by go_simp; rfl) (by go_simp) ?_
  refine eqf_cons (by rfl) (by go_simp; rfl) (by go_simp; rfl) (by go_simp) ?_
  refine eqf_cons (by rfl) (by go_simp; rfl) (by go_simp; rfl) (by go_simp) ?_
  refine eqf_cons (by rfl) (by go_simp; rfl) (by go_simp; rfl) (by go_simp) ?_
  exact eqf_last (by rfl) (by go_simp; rfl) (by go_simp; rfl) (by go_simp)
end Go.Proofs.YtldancekpigkaaaDoor.X
