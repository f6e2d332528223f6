/- Plain law for the prefixes, fourth part, the code's side alone: Split, may, space, Resolve, Declare as plain functions. -/
import Derived.Test.YtidjihhklmfaiaaDoorV0
import Derived.Test.YtidjihhklmfaiaaDoorV6
import Derived.Test.YtidjihhklmfaiaaDoorPx3
namespace Go.Proofs.YtidjihhklmfaiaaDoor.V
set_option linter.unusedSimpArgs false
open Go.RowKit Go.Lib Go.Proofs.YtidjihhklmfaiaaDoorW.PrintWords Go.Proofs.YtidjihhklmfaiaaDoor.X Go.Proofs.YtidjihhklmfaiaaDoor.Px Go.Proofs.YtidjihhklmfaiaaDoor.U

abbrev R3 := ByteArray × ByteArray × Int
def bad80 : R3 := ((⟨#[]⟩ : ByteArray), (⟨#[]⟩ : ByteArray), 80)
def splitV (l : Bs) : R3 :=
  if postC l = [] then (if plainB l = true then ((⟨#[]⟩ : ByteArray), B l, 0) else bad80)
  else if plainB (preC l) = true then (if plainB (postC l).tail = true then (B (preC l), B (postC l).tail, 0) else bad80) else bad80

theorem pre_len (l : Bs) : (preC l).length + (postC l).length = l.length := by rw [← List.length_append, pre_post]
theorem gsplit_ev (l : Bs) (hl : l.length < 4294967281) : Ev (fun k => prefix_Split.f k (B l)) (splitV l) := by
  have hlen := pre_len l
  have hcut : strings_Cut.f (B l) (⟨#[58]⟩ : ByteArray) = some (if postC l = [] then (B l, B [], false) else (B (preC l), B (postC l).tail, true)) := by
    unfold strings_Cut.f
    rw [B_size, if_pos hl, B_data, show (⟨#[58]⟩ : ByteArray).data.toList = [58] from rfl, cut58]
    by_cases h : postC l = []
    · rw [if_pos h, if_pos h]; rfl
    · rw [if_neg h, if_neg h]; rfl
  unfold prefix_Split.f splitV
  rw [hcut]
  by_cases h : postC l = []
  · simp only [if_pos h, Option.bind_some, Bool.false_eq_true, if_false]
    refine Ev.bind (gplain_ev l (by omega)) ?_
    refine Ev.step (fun k => (show prefix_Split.j0 (k + 1) (B l) (B l) (B []) false (plainB l) = _ from by rw [prefix_Split.j0])) ?_
    by_cases hp : plainB l = true
    · simp only [if_pos hp]; exact Ev.now _
    · simp only [if_neg hp, Bool.false_eq_true, if_false]; exact Ev.now _
  · simp only [if_neg h, Option.bind_some, if_true]
    refine Ev.step (fun k => (show prefix_Split.j0 (k + 1) (B l) (B (preC l)) (B (postC l).tail) true false = _ from by rw [prefix_Split.j0])) ?_
    simp only [Bool.false_eq_true, if_false, if_true]
    refine Ev.bind (gplain_ev _ (by omega)) ?_
    by_cases hp : plainB (preC l) = true
    · simp only [if_pos hp]
      refine Ev.bind (gplain_ev _ (by rw [List.length_tail]; omega)) ?_
      by_cases hq : plainB (postC l).tail = true
      · simp only [if_pos hq]; exact Ev.now _
      · simp only [if_neg hq]; exact Ev.now _
    · simp only [if_neg hp]; exact Ev.now _
/-! ### May a prefix be bound? -/
def tXML : Bs := [104, 116, 116, 112, 58, 47, 47, 119, 119, 119, 46, 119, 51, 46, 111, 114, 103, 47, 88, 77, 76, 47, 49, 57, 57, 56, 47, 110, 97, 109, 101, 115, 112, 97, 99, 101]
def tNS : Bs := [104, 116, 116, 112, 58, 47, 47, 119, 119, 119, 46, 119, 51, 46, 111, 114, 103, 47, 50, 48, 48, 48, 47, 120, 109, 108, 110, 115, 47]
def xml : Bs := [120, 109, 108]
def xmlns : Bs := [120, 109, 108, 110, 115]
def mayV (p v : Bs) : Bool := if p = xml then v == tXML else if p = xmlns then false else if v = tXML then false else if v = tNS then false else if p = [] then true else v != []
theorem gmay (p v : ByteArray) : prefix_may.f p v = some (mayV p.toList v.toList) := by
  unfold prefix_may.f mayV xml xmlns tXML tNS
  generalize p.toList = p
  generalize v.toList = v
  by_cases h1 : p = [120, 109, 108]
  · simp only [if_pos h1]
  · by_cases h2 : p = [120, 109, 108, 110, 115]
    · simp only [if_neg h1, if_pos h2]
    · simp only [if_neg h1, if_neg h2]
      repeat (split; rfl)
      rfl
/-! ### What a scope binds a prefix to -/
def hitV (p : Bs) (x : S30) : Bool := x.f0.toList == p
def spaceV (l : List S30) (p : Bs) : ByteArray × Bool :=
  match l.reverse.find? (hitV p) with
  | some x => (x.f1, p.isEmpty || !x.f1.toList.isEmpty)
  | none => (⟨#[]⟩, p.isEmpty)
theorem upto_back (l : List S30) : (upto (backAt l) l.length).map Prod.snd = l.reverse := by
  unfold upto
  rw [List.map_map]
  refine List.ext_getElem (by simp) (fun i h1 h2 => ?_)
  simp only [List.length_map, List.length_range] at h1
  rw [List.getElem_map, List.getElem_range, List.getElem_reverse]
  show rd_T30 l ((l.length : Int) - 1 - i) = _
  unfold rd_T30
  rw [show ((l.length : Int) - 1 - i).toNat = l.length - 1 - i by omega, List.getD_eq_getElem?_getD, List.getElem?_eq_getElem (by omega)]
  rfl
theorem find_snd (a : ByteArray) : ∀ (q : List (Int × S30)), (q.find? (hitB a)).map Prod.snd = (q.map Prod.snd).find? (hitV a.toList) := by
  intro q
  induction q with
  | nil => rfl
  | cons x t ih =>
    rw [List.map_cons, List.find?_cons, List.find?_cons, show hitV a.toList x.2 = hitB a x from rfl]
    cases hitB a x with
    | true => rfl
    | false => exact ih
theorem spaceR_eq (l : List S30) (a : ByteArray) : spaceR (upto (backAt l) l.length) a = spaceV l a.toList := by
  have h := find_snd a (upto (backAt l) l.length)
  rw [upto_back] at h
  unfold spaceR spaceV
  rw [← h]
  cases (upto (backAt l) l.length).find? (hitB a) with
  | none => rfl
  | some x => rfl
theorem gspace (l : List S30) (hl : l.length ≤ 4611686018427387904) (a : ByteArray) : prefix_space.f l a = some (spaceV l a.toList) := by
  unfold prefix_space.f
  rw [if_pos hl, spaceR_eq]

/-! ### A name's space -/
def endV (u : ByteArray × Bool) (n : ByteArray) : R3 := if u.2 = true then (u.1, n, 0) else bad80
def resolveV (l : List S30) (s : Bs) (attr : Bool) : R3 :=
  if (splitV s).2.2 = 0 then
    (if (splitV s).1.toList = xml then (B tXML, (splitV s).2.1, 0)
     else if (splitV s).1.toList = xmlns then bad80
     else if (splitV s).1.toList = [] ∧ attr = true then ((⟨#[]⟩ : ByteArray), (splitV s).2.1, 0)
     else endV (spaceV l (splitV s).1.toList) (splitV s).2.1)
  else ((⟨#[]⟩ : ByteArray), (⟨#[]⟩ : ByteArray), (splitV s).2.2)
theorem gresolve_ev (l : List S30) (hl : l.length ≤ 4611686018427387904) (s : Bs) (hs : s.length < 4294967281) (attr : Bool) : Ev (fun k => prefix_Resolve.f k l (B s) attr) (resolveV l s attr) := by
  unfold prefix_Resolve.f resolveV
  refine Ev.bind (gsplit_ev s hs) ?_
  generalize splitV s = q
  obtain ⟨p, n, e⟩ := q
  simp only
  by_cases h0 : e = 0
  · simp only [if_pos h0]
    by_cases h1 : p.toList = xml
    · simp only [if_pos h1, if_pos (show p.toList = [120, 109, 108] from h1)]; exact Ev.now _
    · simp only [if_neg h1, if_neg (show ¬ p.toList = [120, 109, 108] from h1)]
      by_cases h2 : p.toList = xmlns
      · simp only [if_pos h2, if_pos (show p.toList = [120, 109, 108, 110, 115] from h2)]; exact Ev.now _
      · simp only [if_neg h2, if_neg (show ¬ p.toList = [120, 109, 108, 110, 115] from h2)]
        have main : ∀ b : Bool, Ev (fun k => prefix_Resolve.j0 k l p n b) (if b = true then ((⟨#[]⟩ : ByteArray), n, 0) else endV (spaceV l p.toList) n) := by
          intro b
          refine Ev.step (fun k => (show prefix_Resolve.j0 (k + 1) l p n b = _ from by rw [prefix_Resolve.j0])) ?_
          cases b with
          | true => simp only [if_true]; exact Ev.now _
          | false =>
            simp only [Bool.false_eq_true, if_false, gspace l hl p, Option.bind_some]
            unfold endV
            by_cases hb : (spaceV l p.toList).2 = true
            · simp only [if_pos hb]; exact Ev.now _
            · simp only [if_neg hb]; exact Ev.now _
        by_cases h3 : p.toList = []
        · simp only [if_pos h3, h3, true_and]
          have := main attr
          rw [h3] at this
          exact this
        · simp only [if_neg h3, h3, false_and, if_false]
          exact main false
  · simp only [if_neg h0]; exact Ev.now _
theorem space_succ (l : List S30) (i : Nat) (h : i < l.length) (p : Bs) : spaceV (l.take (i + 1)) p = if hitV p l[i] = true then (l[i].f1, p.isEmpty || !l[i].f1.toList.isEmpty) else spaceV (l.take i) p := by
  unfold spaceV
  rw [List.take_add_one, List.getElem?_eq_getElem h, Option.toList_some, List.reverse_append, List.reverse_singleton, List.singleton_append, List.find?_cons]
  cases hitV p l[i] with
  | true => rfl
  | false => rfl
/-! ### What attributes declare -/
abbrev D3 := List S30 × List S30 × Int
def declV (sc re : List S30) : List S30 → D3
  | [] => (sc, re, 0)
  | x :: t =>
    if (splitV x.f0.toList).2.2 = 0 then
      (if (splitV x.f0.toList).1.toList = [] ∧ (splitV x.f0.toList).2.1.toList = xmlns then (if mayV [] x.f1.toList = true then declV (sc ++ [⟨⟨#[]⟩, x.f1⟩]) re t else ([], [], 80))
       else if (splitV x.f0.toList).1.toList = xmlns then (if mayV (splitV x.f0.toList).2.1.toList x.f1.toList = true then declV (sc ++ [⟨(splitV x.f0.toList).2.1, x.f1⟩]) re t else ([], [], 80))
       else declV sc (re ++ [x]) t)
    else ([], [], (splitV x.f0.toList).2.2)
theorem rd30 (l : List S30) (i : Nat) (h : i < l.length) : rd_T30 l (i : Int) = l[i] := by
  unfold rd_T30
  rw [Int.toNat_natCast, List.getD_eq_getElem?_getD, List.getElem?_eq_getElem h]
  rfl
theorem B_self (a : ByteArray) : B a.toList = a := by
  obtain ⟨l, rfl⟩ := B_eta a
  rw [B_toList]
theorem size_toList (a : ByteArray) : a.toList.length = a.size := by
  obtain ⟨l, rfl⟩ := B_eta a
  rw [B_toList, B_size]
theorem gdecl_l0 (l : List S30) (hl : l.length < 100000) (hn : ∀ x ∈ l, x.f0.size < 4294967281) : ∀ (d i : Nat) (sc re : List S30), l.length - i ≤ d → i ≤ l.length → sc.length ≤ i → re.length ≤ i → Ev (fun k => prefix_Declare.l0 k sc re l (l.length : Int) (i : Int)) (declV sc re (l.drop i)) := by
  have fin : ∀ (i : Nat) (sc re : List S30), ¬ i < l.length → Ev (fun k => prefix_Declare.l0 k sc re l (l.length : Int) (i : Int)) (declV sc re (l.drop i)) := by
    intro i sc re h
    refine Ev.step (fun k => (show prefix_Declare.l0 (k + 1) sc re l (l.length : Int) i = _ from by rw [prefix_Declare.l0])) ?_
    rw [List.drop_eq_nil_of_le (by omega)]
    simp only [if_neg (show ¬ (i : Int) < (l.length : Int) by omega)]
    exact Ev.now _
  intro d
  induction d with
  | zero => intro i sc re hd hi _ _; exact fin i sc re (by omega)
  | succ d ih =>
    intro i sc re hd hi hsc hre
    by_cases h : i < l.length
    · have e1 : wrap64 ((i : Int) + 1) = ((i + 1 : Nat) : Int) := by rw [w64 (by omega) (by omega)]; rfl
      have hx := hn l[i] (List.getElem_mem h)
      refine Ev.step (fun k => (show prefix_Declare.l0 (k + 1) sc re l (l.length : Int) i = _ from by rw [prefix_Declare.l0])) ?_
      rw [List.drop_eq_getElem_cons h]
      simp only [if_pos (show (i : Int) < (l.length : Int) by omega), if_pos (show (0 : Int) ≤ (i : Int) by omega), rd30 l i h]
      have hs := gsplit_ev l[i].f0.toList (by rw [size_toList]; exact hx)
      rw [B_self] at hs
      refine Ev.bind hs ?_
      unfold declV
      have isc := fun y => ih (i + 1) (sc ++ [y]) re (by omega) (by omega) (by simp; omega) (by omega)
      have ire := ih (i + 1) sc (re ++ [l[i]]) (by omega) (by omega) (by omega) (by simp; omega)
      generalize splitV l[i].f0.toList = q
      obtain ⟨p, n, e⟩ := q
      simp only
      by_cases h0 : e = 0
      · simp only [if_pos h0]
        by_cases h1 : p.toList = []
        · simp only [if_pos h1]
          refine Ev.step (fun k => (show prefix_Declare.j1 (k + 1) sc re p n l (l.length : Int) i (n.toList == ([120, 109, 108, 110, 115] : List UInt8)) l[i].f0 l[i].f1 = _ from by rw [prefix_Declare.j1])) ?_
          by_cases h2 : n.toList = xmlns
          · have hb : (n.toList == ([120, 109, 108, 110, 115] : List UInt8)) = true := beq_iff_eq.2 h2
            simp only [hb, if_true, gmay, Option.bind_some, h1, h2, and_self, e1, if_pos (show sc.length < 4398046511104 by omega), B_toList, show (⟨#[]⟩ : ByteArray).toList = [] from B_toList []]
            by_cases h3 : mayV [] l[i].f1.toList = true
            · simp only [if_pos h3]; exact isc _
            · simp only [if_neg h3]; exact Ev.now _
          · have hb : (n.toList == ([120, 109, 108, 110, 115] : List UInt8)) = false := beq_eq_false_iff_ne.2 h2
            have h4 : ¬ ([] : Bs) = xmlns := by decide
            simp only [hb, Bool.false_eq_true, if_false, h1, h2, and_false, if_neg (show ¬ ([] : Bs) = [120, 109, 108, 110, 115] by decide), if_neg h4, e1, if_pos (show re.length < 4398046511104 by omega)]
            exact ire
        · simp only [if_neg h1]
          refine Ev.step (fun k => (show prefix_Declare.j1 (k + 1) sc re p n l (l.length : Int) i false l[i].f0 l[i].f1 = _ from by rw [prefix_Declare.j1])) ?_
          simp only [Bool.false_eq_true, if_false, h1, false_and]
          by_cases h2 : p.toList = xmlns
          · simp only [if_pos h2, if_pos (show p.toList = [120, 109, 108, 110, 115] from h2), gmay, Option.bind_some, e1, if_pos (show sc.length < 4398046511104 by omega)]
            by_cases h3 : mayV n.toList l[i].f1.toList = true
            · simp only [if_pos h3]; exact isc _
            · simp only [if_neg h3]; exact Ev.now _
          · simp only [if_neg h2, if_neg (show ¬ p.toList = [120, 109, 108, 110, 115] from h2), e1, if_pos (show re.length < 4398046511104 by omega)]
            exact ire
      · simp only [if_neg h0]; exact Ev.now _
    · exact fin i sc re h
theorem gdecl_ev (l : List S30) (hl : l.length < 100000) (hn : ∀ x ∈ l, x.f0.size < 4294967281) : Ev (fun k => prefix_Declare.f k l) (declV [] [] l) := by
  have := gdecl_l0 l hl hn l.length 0 [] [] (by omega) (by omega) (by simp) (by simp)
  unfold prefix_Declare.f
  exact this
theorem declV_len : ∀ (l sc re : List S30), (declV sc re l).1.length ≤ sc.length + l.length ∧ (declV sc re l).2.1.length ≤ re.length + l.length := by
  intro l
  induction l with
  | nil => intro sc re; exact ⟨Nat.le_refl _, Nat.le_refl _⟩
  | cons x t ih =>
    intro sc re
    unfold declV
    have a := fun y => ih (sc ++ [y]) re
    have b := ih sc (re ++ [x])
    simp only [List.length_append, List.length_cons, List.length_nil] at a b ⊢
    have z : (([], [], (80 : Int)) : D3).1.length ≤ sc.length + (t.length + 1) ∧ (([], [], (80 : Int)) : D3).2.1.length ≤ re.length + (t.length + 1) := ⟨by simp, by simp⟩
    split
    · split
      · split
        · have := a ⟨⟨#[]⟩, x.f1⟩; omega
        · exact z
      · split
        · split
          · have := a ⟨(splitV x.f0.toList).2.1, x.f1⟩; omega
          · exact z
        · omega
    · exact ⟨by simp, by simp⟩

theorem awake08 : Ev (fun k => broadsheetlaw08_awake.f k) true :=
  Ev.of (fun k => broadsheetlaw08_awake.mono k) (k := 20) (by decide +kernel)
end Go.Proofs.YtidjihhklmfaiaaDoor.V
