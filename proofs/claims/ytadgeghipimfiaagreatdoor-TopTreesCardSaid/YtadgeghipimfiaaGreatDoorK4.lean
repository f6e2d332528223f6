/- Part of the proof of topTrees_card, merged out of smaller texts. Conditions: the listed variables of the library hold what the program's text lays. -/
import Derived.Test.YtadgeghipimfiaaGreatDoorK3
import Derived.Deep.DeepCutAuto
import Derived.Laws.IdiomCopy
import Derived.LoopNIn
import Derived.LoopN
import Derived.WideKeyRuns
import Derived.WideKeyEntry
import Derived.WalkSmall
import Derived.ArgAppend
import Derived.Deep.AppendSrc
import Derived.Deep.Upon
import Derived.Deep.RegionWith
import Derived.BigQuiet
section
namespace Go.Proofs.YtadgeghipimfiaaGreatDoor.X
open Go.RowKit Go.Shelf Go.Proofs.YtadgeghipimfiaaGreatDoorW.PrintWords Go.Proofs.YtadgeghipimfiaaGreatDoorW.PrintLast Go.Proofs.YtadgeghipimfiaaGreatDoorW.PrintMore Go.Proofs.YtadgeghipimfiaaGreatDoor.F Go.Proofs.YtadgeghipimfiaaGreatDoor.Pg Go.Proofs.YtadgeghipimfiaaGreatDoor.Z
set_option linter.unusedVariables false
set_option linter.unusedSimpArgs false
theorem ne73 (a : Addr) (m c : Nat) (W : World) : (binOp .neq 42 (.slice (some a) m c) (.slice none 0 0)).run Tryz.prog W = .ok (.bool true) W := by kernel_rfl
theorem nn73 (W : World) : (binOp .neq 42 (.slice none 0 0) (.slice none 0 0)).run Tryz.prog W = .ok (.bool false) W := by kernel_rfl
def BufAt (W : World) (G N : Nat) (l : Bs) : Prop := ∃ cs : Array Value, W.heap[G]? = some (.cells cs 5 (0, 0)) ∧ cs.size = N ∧ ∀ (j : Nat) (hj : j < l.length), cs[j]? = some (.int .u8 (l[j].toNat : Int))
theorem BufAt.new {W : World} {G N base : Nat} {xs : List Value} (h : W.ownsRow base 5 1 (.slice (some ⟨G, 0, none⟩) N N) N xs) : BufAt W G N [] := by
 rcases h.2 with ⟨h1, _⟩ | ⟨g, cap, cur, h1, _, h3, _, _, h6, _⟩
 ·cases h1
 ·injection h1 with h1 h2 h4
  injection h1 with h1
  injection h1 with h1
  subst h1
  subst h4
  exact ⟨cur, h3, by rw [h6, Nat.mul_one], fun j hj => absurd hj (by simp)⟩
theorem BufAt.lt {W : World} {G N : Nat} {l : Bs} (h : BufAt W G N l) : G < W.heap.size := by
 obtain ⟨cs, h1, _⟩ := h
 exact (Array.getElem?_eq_some_iff.1 h1).1
theorem BufAt.move {W W' : World} {G N : Nat} {l : Bs} (h : BufAt W G N l) (e : W'.heap[G]? = W.heap[G]?) : BufAt W' G N l := by
 obtain ⟨cs, h1, h2⟩ := h
 exact ⟨cs, e.trans h1, h2⟩
theorem BufAt.val {W : World} {G N : Nat} {l : Bs} (h : BufAt W G N l) (j : Nat) (hj : j < N) : ∃ v, W.cell? ⟨G, j, none⟩ = some v := by
 obtain ⟨cs, h1, h2, _⟩ := h
 refine ⟨cs[j]'(by omega), ?_⟩
 simp only [World.cell?, h1]
 exact Array.getElem?_eq_getElem _
theorem BufAt.frozen {W : World} {G N : Nat} {l : Bs} (h : BufAt W G N l) (j : Nat) : W.frozen? ⟨G, j, none⟩ = false := by
 obtain ⟨cs, h1, h2, _⟩ := h
 simp [World.frozen?, h1]
theorem BufAt.put {W : World} {G N : Nat} {l : Bs} (h : BufAt W G N l) (c : UInt8) (hl : l.length < N) : BufAt (W.setCell ⟨G, l.length, none⟩ (.int .u8 (c.toNat : Int))) G N (l ++ [c]) := by
 obtain ⟨cs, h1, h2, h3⟩ := h
 refine ⟨_, cells_set h1 l.length _, by rw [Array.size_setIfInBounds, h2], fun j hj => ?_⟩
 rw [List.length_append, List.length_singleton] at hj
 by_cases e : j = l.length
 ·subst e
  rw [Array.getElem?_setIfInBounds_self, if_pos (by omega)]
  simp
 ·rw [Array.getElem?_setIfInBounds_ne (fun h => e h.symm), List.getElem_append_left (by omega)]
  exact h3 j (by omega)
abbrev bytesV (v : Bs) : List Value := v.map fun c => .int .u8 (c.toNat : Int)
theorem BufAt.puts : ∀ (v : Bs) {W : World} {G N : Nat} {l : Bs}, BufAt W G N l → l.length + v.length ≤ N → BufAt (W.setCells G l.length (bytesV v)) G N (l ++ v)
 | [], W, G, N, l, h, _ => by
   show BufAt W G N (l ++ [])
   rw [List.append_nil]
   exact h
 | c :: v, W, G, N, l, h, hl => by
   rw [List.length_cons] at hl
   have h1 := h.put c (by omega)
   have h2 := BufAt.puts v h1 (by rw [List.length_append, List.length_singleton]; omega)
   rw [List.length_append, List.length_singleton, List.append_assoc] at h2
   exact h2
theorem setCells_below : ∀ (vs : List Value) (o : Nat) {B : Nat} {U W : World} {G : Nat}, Below B U W → B ≤ G → Below B U (W.setCells G o vs)
 | [], _, _, _, _, _, h, _ => h
 | v :: vs, o, B, U, W, G, h, hG => setCells_below vs (o + 1) (h.setCell (p := ⟨G, o, none⟩) hG v) hG
theorem BufAt.text {W : World} {G N : Nat} {l : Bs} (h : BufAt W G N l) (n : Nat) (hn : l.length = n) : (convert 42 9 (.slice (some ⟨G, 0, none⟩) n n)).run Tryz.prog W = .ok (.string (M l)) W := by
 subst hn
 obtain ⟨cs, h1, h2, h3⟩ := h
 exact Lib.run_convert_whole W 42 5 9 Tryz.underlying42 Tryz.underlying5 Tryz.underlying9 G 0 (M l) (fun i hi => by
  rw [Nat.zero_add]
  simp only [World.cell?, h1]
  exact h3 i hi) l.length
theorem below_of_grown {w w' : World} (h : w.grownBy w' none) : Below w.heap.size w w' := ⟨h.os, h.tape, h.output, h.size, fun k hk => h.block k hk (by simp)⟩
theorem copy_ {P : Program} {o : Oper} {a : Act} {w : World} {K : Act → World → Prop} {Q : Exit → Act → World → Prop} (s x : Operand) (t t' : TypeId) (ho : o.op = .call { callee := .builtin .copy, args := #[s, x], argTypes := #[t, t'] }) (vs vx : Value) (hs : a.eval s = vs) (hx : a.eval x = vx) (v : Value) (w' : World)
  (hr : (Builtin.copy_ #[t, t'] o.type #[vs, vx]).run P w = .ok v w') (h : K (a.put o.dst v) w') : o.wp P a w K Q := by
 unfold Oper.wp execOp
 simp only [ho, resolve, invoke, builtin, Sem.run_bind, Sem.run_pure, Result.andThen_ok, List.map_toArray, List.map_cons, List.map_nil, hs, hx, hr]
 exact h
theorem copySrc {W : World} {g : Nat} {l : Bs} (h : BytesAt W g l) : ∀ j v, (bytesV l)[j]? = some v → W.cell? ((⟨g, 0, none⟩ : Addr).add j) = some v := by
 intro j v hv
 have hadd : (⟨g, 0, none⟩ : Addr).add j = ⟨g, j, none⟩ := by unfold Addr.add; split <;> simp_all
 rw [hadd]
 have hj : j < l.length := by
  have := (List.getElem?_eq_some_iff.1 hv).1
  simpa using this
 rw [h.cell j hj]
 rw [List.getElem?_map, List.getElem?_eq_getElem hj] at hv
 exact hv
def replT28 : Bool × List (List Nat × List Nat) := (true, [([], []), ([], []), ([], []), ([1, 2], [1, 2]), ([], []), ([], []), ([4], [4]), ([6], [6]), ([7, 5], [5, 7]), ([8], [8]), ([3, 9], [3, 9]), ([0, 10], [0, 10]), ([11, 10, 0, 1, 2, 3, 4, 5, 6, 7, 8, 9, 10, 11], [0, 2, 11])])
def replB28 : List Nat := [0, 0, 0, 6, 0, 0, 16, 80, 240, 496, 1022, 2047, 4095]
theorem repl_tab28 : rtab .any (opsOf Tryz.f247 28) = replT28 := by kernel_rfl
theorem repl_bits28 : waitsOk replT28.2 replB28 = true := by kernel_rfl
set_option maxRecDepth 100000 in
theorem count_calls (s : Bs) (c : UInt8) (w : World) :
  Calls Tryz.prog 124 #[.string (M s), .string (M [c])] w fun e w' => e = .returned (.int .i64 (s.count c : Nat)) ∧ w = w' := by
 have y0 : ((M [c])[0]'(by show 0 < 1; decide)).toNat = c.toNat := rfl
 go_enter Tryz.func124, Tryz.ntmps124
 go_wp2
 rw [run_callFunc_extern Tryz.func159 (by kernel_rfl) (by kernel_rfl) (by kernel_rfl) (e := Extern.BytealgCount.count) (by kernel_rfl), Lib.run_countString]
 simp only [Result.andThen]
 rw [Oper.upon_value]
 go_wp2
 go_ret
 exact ⟨rfl, rfl⟩
theorem more_snoc : ∀ (d : Tb) (x : UInt8 × Bs) (s : Bs), Tb.more (d ++ [x]) s = Tb.more d s + s.count x.1 * (x.2.length - 1)
 | [], (k, v), s => by simp [Tb.more]
 | (k', v') :: d, x, s => by
   simp only [List.cons_append, Tb.more, more_snoc d x s]
   omega
theorem more_take (d : Tb) (i : Nat) (h : i < d.length) (s : Bs) : Tb.more (d.take (i + 1)) s = Tb.more (d.take i) s + s.count d[i].1 * (d[i].2.length - 1) := by
 rw [List.take_add_one, List.getElem?_eq_getElem h, Option.toList_some, more_snoc]
def hasAny (d : Tb) (s : Bs) : Bool := List.any d fun x => !(s.count x.1 == 0)
theorem hasAny_take (d : Tb) (i : Nat) (h : i < d.length) (s : Bs) : hasAny (d.take (i + 1)) s = (hasAny (d.take i) s || !(s.count d[i].1 == 0)) := by
 unfold hasAny
 rw [List.take_add_one, List.getElem?_eq_getElem h, Option.toList_some, List.any_append]
 simp
theorem hasAny_eq {d : Tb} (hn : (d.map (·.1)).Nodup) (s : Bs) : hasAny d s = Tb.any d s := by
 rw [Bool.eq_iff_iff]
 unfold hasAny Tb.any
 simp only [List.any_eq_true, Bool.not_eq_true', beq_eq_false_iff_ne]
 constructor
 ·rintro ⟨x, hx, hc⟩
  have hm : x.1 ∈ s := List.count_pos_iff.1 (by omega)
  exact ⟨x.1, hm, by rw [lookup_of_mem d x.1 x.2 hn hx]; rfl⟩
 ·rintro ⟨c, hc, hl⟩
  cases hv : d.lookup c with
  | none => rw [hv] at hl; cases hl
  | some v =>
    have := List.count_pos_iff.2 hc
    exact ⟨(c, v), lookup_mem d c v hv, by show ¬ s.count c = 0; omega⟩
theorem more_le10 : ∀ (d : Tb), (∀ p ∈ d, p.2.length ≤ 10) → ∀ s : Bs, Tb.more d s ≤ 10 * d.length * s.length
 | [], _, _ => by simp [Tb.more]
 | (k, v) :: d, h, s => by
   have ih := more_le10 d (fun p hp => h p (List.mem_cons_of_mem _ hp)) s
   have hv : v.length ≤ 10 := h (k, v) List.mem_cons_self
   have hc : s.count k ≤ s.length := List.count_le_length
   have hm : s.count k * (v.length - 1) ≤ s.length * 10 := Nat.mul_le_mul hc (by omega)
   unfold Tb.more
   rw [List.length_cons, Nat.mul_add, Nat.add_mul]
   omega
theorem more_le {d : Tb} (h : d.Ok) (s : Bs) : Tb.more d s ≤ 100 * s.length := by
 have h1 := more_le10 d (fun p hp => (h.some p hp).2) s
 have h2 : 10 * d.length * s.length ≤ 100 * s.length := Nat.mul_le_mul_right _ (by have := h.few; omega)
 omega
theorem any_take (d : Tb) (s : Bs) (i : Nat) (h : i < s.length) : Tb.any d (s.take (i + 1)) = (Tb.any d (s.take i) || (d.lookup s[i]).isSome) := by
 unfold Tb.any
 rw [List.take_add_one, List.getElem?_eq_getElem h, Option.toList_some, List.any_append]
 simp
theorem moreS_take {d : Tb} (hn : (d.map (·.1)).Nodup) (h1 : ∀ p ∈ d, 1 ≤ p.2.length) (s : Bs) (i : Nat) (h : i < s.length) : Tb.more d (s.take (i + 1)) = Tb.more d (s.take i) + ((d.byte s[i]).length - 1) := by
 rw [List.take_add_one, List.getElem?_eq_getElem h, Option.toList_some, Tb.more_append, Tb.more_one d _ hn h1]
 omega
theorem more_join : ∀ (a b : Tb) (s : Bs), Tb.more (a ++ b) s = Tb.more a s + Tb.more b s
 | [], b, s => by simp [Tb.more]
 | (k, v) :: a, b, s => by
   simp only [List.cons_append, Tb.more, more_join a b s]
   omega
theorem more_empty : ∀ d : Tb, Tb.more d [] = 0
 | [] => rfl
 | (k, v) :: d => by unfold Tb.more; rw [more_empty d]; simp
set_option maxRecDepth 100000 in
set_option maxHeartbeats 8000000 in
theorem treplace_calls {d : Tb} (hok : d.Ok) (h4 : 2 ≤ d.length) {p base : Nat} {s : Bs} {w : World} (hT : TbAt w base p d) (hs : s.length ≤ 1000000) :
  Calls Tryz.prog 247 #[.pointer (some ⟨p, 0, none⟩), .string (M s)] w fun e w' => e = .returned (.string (M (d.text s))) ∧ Below w.heap.size w w' := by
 obtain ⟨v, cs, hp, hsz, h256, hown, hent⟩ := hT.at_
 obtain ⟨rg, vc, rfl, _, _⟩ := hown.form (by omega)
 have t1 : w.cell? ⟨p, 256, none⟩ = some (.slice (some ⟨rg, 0, none⟩) d.length vc) := (hp.cell _).trans h256
 have hz : (M s).size = s.length := rfl
 have h10 := hok.few
 have hrow : ∀ i (h : i < d.length), w.cell? ⟨rg, i, none⟩ = some (.string (M [d[i].1])) := fun i h => by
  have := hown.cellAt i (by simpa using h)
  rw [List.getElem?_map, List.getElem?_eq_getElem h] at this
  exact this
 have hrl : rg < w.heap.size := by
  obtain ⟨cs', hc'⟩ := own_typed hown rg rfl
  exact (Array.getElem?_eq_some_iff.1 hc').1
 have HT := Lib.hid (And.intro hp (And.intro hent (And.intro hrow hrl)))
 have HO := Lib.hid hok
 clear hT hp hent hown hrow hok h256 hsz
 go_enter Tryz.func247, Tryz.ntmps247
 go_upto_if 26 with (fail)
 go_cut [5, 6] (fun v5 v6 wc => v5 = .int .i64 ((s.length + Tb.more d s : Nat) : Int) ∧ v6 = .bool (Tb.any d s) ∧ Aside0 (Below w.heap.size w wc))
 case first =>
  obtain ⟨big, hbig⟩ : ∃ big, decide ((d.length : Int) * 8 ≤ (s.length : Int)) = big := ⟨_, rfl⟩
  rw [hbig]
  clear hbig
  cases big with
  | true =>
    go_wp2_with fail
    go_loopw [32, 5, 6] (fun v32 v5 v6 wr => ∃ (i a : Nat) (b : Bool), v32 = .int .i64 i ∧ v5 = .int .i64 a ∧ v6 = .bool b ∧ i ≤ d.length ∧ Aside0 (a = s.length + Tb.more (d.take i) s ∧ b = hasAny (d.take i) s) ∧ Aside0 (Below w.heap.size w wr)) (fun v32 _ _ _ => d.length - (intOf v32).toNat)
    case atStart => exact ⟨0, s.length, false, rfl, rfl, rfl, by omega, ⟨rfl, rfl⟩, ⟨Below.refl _ _⟩⟩
    case round =>
     obtain ⟨i, a, b, rfl, rfl, rfl, hi, HA, HB⟩ := hrel
     by_cases hlt : i < d.length
     ·have hT := HT.out.1.below HB.out HT.out.1.lt
      have hrw := HT.out.2.2.1 i hlt
      have u0 : wr.cell? ⟨rg, i, none⟩ = some (.string (M [d[i].1])) := (HB.out.cell (World.block_lt_of_cell? _ _ hrw)).trans hrw
      have hlk : d.lookup d[i].1 = some d[i].2 := lookup_of_mem d _ _ HO.out.keys (List.getElem_mem hlt)
      have hent := HT.out.2.1 d[i].1
      rw [hlk] at hent
      obtain ⟨q, cp, h1, _⟩ := hent
      have hv := HO.out.some d[i] (List.getElem_mem hlt)
      obtain ⟨vl, hvl⟩ : ∃ vl, d[i].2.length = vl + 1 := ⟨d[i].2.length - 1, by omega⟩
      rw [hvl] at h1
      obtain ⟨ch, hch⟩ : ∃ ch, ch = d[i].1 := ⟨_, rfl⟩
      rw [← hch] at h1 u0
      have u5 : wr.cell? ⟨p, ch.toNat, none⟩ = some (.slice (some ⟨q, 0, none⟩) (vl + 1) cp) := (hT.cell _).trans h1
      have hvl9 : vl ≤ 10 := by omega
      have y0 : ((M [ch])[0]'(by show 0 < 1; decide)).toNat = ch.toNat := rfl
      have hch256 : (ch.toNat : Int) < 256 := by have := ch.toNat_lt; omega
      have hlt' : (i : Int) < (d.length : Int) := by omega
      have hmt := more_take d i hlt s
      have hat := hasAny_take d i hlt s
      rw [← hch, hvl] at hmt
      rw [← hch] at hat
      obtain ⟨k, hk⟩ : ∃ k, k = s.count ch := ⟨_, rfl⟩
      have hkb : k ≤ 1000000 := by rw [hk]; exact Nat.le_trans List.count_le_length hs
      have HC := Lib.hid (count_calls s ch wr)
      rw [← hk] at HC hmt hat
      have hle : Tb.more (d.take i) s ≤ 100000000 := by
       have hsum : Tb.more d s = Tb.more (d.take i) s + Tb.more (d.drop i) s := by
        conv => lhs; rw [← List.take_append_drop i d, more_join]
       have := more_le HO.out s
       omega
      have ha : a ≤ 200000000 := by rw [HA.out.1]; omega
      have HN := Lib.hid (And.intro hmt hat)
      clear hmt hat hk hch hvl h1 hlk hv hT hrw hle
      go_wp2_with fail
      refine HC.out.mono ?_
      rintro e w9 ⟨rfl, rfl⟩
      by_cases h0 : k = 0
      ·subst h0
       have HN2 := Aside0.mk (show a = s.length + Tb.more (d.take (i + 1)) s ∧ b = hasAny (d.take (i + 1)) s by
        rw [HN.out.1, HN.out.2]
        exact ⟨by rw [HA.out.1]; simp, by rw [HA.out.2]; simp⟩)
       go_wp2_with fail
       go_roundw
       case rel => exact ⟨i + 1, a, b, by go_num, rfl, rfl, by omega, HN2, HB⟩
       case measure => simp [intOf]; omega
      ·have hne : ((k : Int) != 0) = true := by rw [bne_iff_ne]; omega
       have hkv : k * vl ≤ 10000000 := Nat.le_trans (Nat.mul_le_mul hkb hvl9) (by decide)
       obtain ⟨kv_, hkv_⟩ : ∃ kv_ : Nat, (kv_ : Int) = (k : Int) * (vl : Int) := ⟨k * vl, by simp⟩
       have hkvn : kv_ = k * vl := by have : ((k * vl : Nat) : Int) = (kv_ : Int) := by rw [hkv_]; simp
                                      omega
       have HN2 := Aside0.mk (show a + kv_ = s.length + Tb.more (d.take (i + 1)) s ∧ true = hasAny (d.take (i + 1)) s by
        rw [HN.out.1, HN.out.2]
        refine ⟨by rw [HA.out.1, hkvn]; simp; omega, ?_⟩
        rw [(beq_eq_false_iff_ne).2 h0]
        simp)
       have hkb2 : kv_ ≤ 10000000 := by rw [hkvn]; exact hkv
       have hmul2 : wrap64 ((k : Int) * (vl : Int)) = (kv_ : Int) := by
        rw [← hkv_]
        clear hkv_ hkvn hkv HN2
        unfold wrap64
        omega
       have hw2 : wrap64 ((a : Int) + (kv_ : Int)) = ((a + kv_ : Nat) : Int) := by
        clear hkv_ hkvn hkv HN2 hmul2
        unfold wrap64
        omega
       have HW2 := Lib.hid (And.intro hmul2 hw2)
       clear hkvn hkv hkv_ hkb hmul2 hw2
       go_wp2_with fail
       go_quiet (fail)
       rw [HW2.out.1, HW2.out.2]
       have HBn := Aside0.mk (HB.out.trans ((below_drewN wr nq).mono HB.out.size))
       clear u5 u0 HC
       go_wp2_with fail
       go_roundw
       case rel => exact ⟨i + 1, a + kv_, true, by go_num, by go_num, rfl, by omega, HN2, HBn⟩
       case measure => simp [intOf]; omega
     ·have hall : d.take i = d := List.take_of_length_le (by omega)
      have hlt' : ¬ (i : Int) < (d.length : Int) := by omega
      have HA1 := HA.out
      rw [hall, hasAny_eq HO.out.keys] at HA1
      have HA2 := Lib.hid HA1
      clear HA1 hall HA
      go_wp2_with fail
      go_meet
      case rel => exact ⟨congrArg (fun z : Nat => Value.int IntKind.i64 (z : Int)) HA2.out.1, congrArg Value.bool HA2.out.2, HB⟩
  | false =>
    go_wp2_with fail
    go_loopw [10, 5, 6] (fun v10 v5 v6 wr => ∃ (i a : Nat) (b : Bool), v10 = .int .i64 i ∧ v5 = .int .i64 a ∧ v6 = .bool b ∧ i ≤ s.length ∧ Aside0 (a = s.length + Tb.more d (s.take i) ∧ b = Tb.any d (s.take i)) ∧ Aside0 (Below w.heap.size w wr)) (fun v10 _ _ _ => s.length - (intOf v10).toNat)
    case atStart => exact ⟨0, s.length, false, rfl, rfl, rfl, by omega, ⟨by rw [List.take_zero, show Tb.more d [] = 0 from more_empty d]; rfl, rfl⟩, ⟨Below.refl _ _⟩⟩
    case round =>
     obtain ⟨i, a, b, rfl, rfl, rfl, hi, HA, HB⟩ := hrel
     by_cases hlt : i < s.length
     ·have hlt1 : i < (M s).size := hlt
      have hT := HT.out.1.below HB.out HT.out.1.lt
      have hx : ((M s)[i]'hlt1).toNat < 256 := UInt8.toNat_lt _
      have hx1 : (((M s)[i]'hlt1).toNat : Int) < 256 := by omega
      have hle : Tb.more d (s.take i) ≤ 100 * s.length := Nat.le_trans (more_le HO.out _) (Nat.mul_le_mul_left _ (by rw [List.length_take]; omega))
      have ha : a ≤ 200000000 := by rw [HA.out.1]; omega
      have hent := HT.out.2.1 ((M s)[i]'hlt1)
      have hmt := moreS_take HO.out.keys (fun p hp => (HO.out.some p hp).1) s i hlt
      have hat := any_take d s i hlt
      have hsi : (M s)[i]'hlt1 = s[i] := rfl
      have hne := ne73
      have hnn := nn73
      have hlt' : (i : Int) < (s.length : Int) := by omega
      unfold Tb.byte at hmt
      cases hl : d.lookup s[i] with
      | none =>
        rw [hsi, hl] at hent
        rw [hl] at hmt hat
        have u5 : wr.cell? ⟨p, ((M s)[i]'hlt1).toNat, none⟩ = some (.slice none 0 0) := (hT.cell _).trans hent
        have HN := Aside0.mk (show a = s.length + Tb.more d (s.take (i + 1)) ∧ b = Tb.any d (s.take (i + 1)) by
         rw [hmt, hat]
         exact ⟨by rw [HA.out.1]; simp, by rw [HA.out.2]; simp⟩)
        clear hmt hat hent hl hT hle hsi
        go_wp2_with fail
        go_roundw
        case rel => exact ⟨i + 1, a, b, by go_num, rfl, rfl, by omega, HN, HB⟩
        case measure => simp [intOf]; omega
      | some v =>
        rw [hsi, hl] at hent
        rw [hl] at hmt hat
        obtain ⟨q, cp, h1, _⟩ := hent
        have hv1 := (HO.out.some _ (lookup_mem d s[i] v hl)).1
        have hv10 := (HO.out.some _ (lookup_mem d s[i] v hl)).2
        obtain ⟨vl, hvl⟩ : ∃ vl, v.length = vl + 1 := ⟨v.length - 1, by have h1 : 1 ≤ v.length := hv1; omega⟩
        rw [hvl] at h1
        have u5 : wr.cell? ⟨p, ((M s)[i]'hlt1).toNat, none⟩ = some (.slice (some ⟨q, 0, none⟩) (vl + 1) cp) := (hT.cell _).trans h1
        have hvl9 : vl ≤ 10 := by have h1 : v.length ≤ 10 := hv10; omega
        have HN := Aside0.mk (show a + vl = s.length + Tb.more d (s.take (i + 1)) ∧ true = Tb.any d (s.take (i + 1)) by
         rw [hmt, hat]
         refine ⟨?_, by simp⟩
         show a + vl = s.length + (Tb.more d (s.take i) + (v.length - 1))
         rw [HA.out.1, hvl]
         omega)
        clear hmt hat h1 hl hT hle hsi hv1 hv10 hvl
        go_wp2_with fail
        go_roundw
        case rel => exact ⟨i + 1, a + vl, true, by go_num, by go_num, rfl, by omega, HN, HB⟩
        case measure => simp [intOf]; omega
     ·have hall : s.take i = s := List.take_of_length_le (by omega)
      have hlt' : ¬ (i : Int) < (s.length : Int) := by omega
      have HA1 := HA.out
      rw [hall] at HA1
      have HA2 := Lib.hid HA1
      clear HA1 hall HA
      go_wp2_with fail
      go_meet
      case rel => exact ⟨congrArg (fun z : Nat => Value.int IntKind.i64 (z : Int)) HA2.out.1, congrArg Value.bool HA2.out.2, HB⟩
 case rest =>
  obtain ⟨rfl, rfl, HB⟩ := hcut
  obtain ⟨bb, hbb⟩ : ∃ bb, Tb.any d s = bb := ⟨_, rfl⟩
  rw [hbb]
  have HA := Lib.hid hbb
  clear hbb
  have HLN := Lib.hid (Tb.text_len HO.out s)
  have HML := Lib.hid (more_le HO.out s)
  cases bb with
  | false =>
    have htx := Tb.text_none HA.out
    have HTX := Lib.hid htx
    clear htx
    go_wp2_with fail
    go_ret
    rw [HTX.out]
    exact ⟨rfl, HB.out⟩
  | true =>
    obtain ⟨N, hN⟩ : ∃ N, s.length + Tb.more d s = N := ⟨_, rfl⟩
    rw [hN]
    have HN := Lib.hid (show (d.text s).length = N by rw [HLN.out, hN])
    have hNb : N ≤ 200000000 := by have := HML.out; omega
    clear hN HLN HML
    obtain ⟨i5, e1, e2, e3, e4⟩ := info5
    obtain ⟨W1, hmk, hown, hgr⟩ := run_make_full (P := Tryz.prog) wc wc.heap.size 42 5 i5 (.int .u8 0) 1 Tryz.underlying42 e1 e2 e3 .i64 .i64 N (by rw [e4]; omega) (by unfold maxLen; omega) (Nat.le_refl _)
    have HBu0 := Aside0.mk (BufAt.new hown)
    have HBW1 := Aside0.mk (HB.out.trans ((below_of_grown hgr).mono HB.out.size))
    obtain ⟨Gb, hGb⟩ : ∃ Gb, wc.heap.size = Gb := ⟨_, rfl⟩
    have hlG : w.heap.size ≤ wc.heap.size := HB.out.size
    rw [hGb] at hmk HBu0 hlG
    have HPG := Aside0.mk hlG
    clear hlG hGb hown hgr
    go_wp2_with fail
    clear hmk e1 e2 e3 e4
    go_loopw [13, 14] (fun v13 v14 wr => ∃ (i j : Nat), v13 = .int .i64 j ∧ v14 = .int .i64 i ∧ i ≤ s.length ∧ Aside0 (j = (d.text (s.take i)).length) ∧ Aside0 (BufAt wr Gb N (d.text (s.take i))) ∧ Aside0 (Below w.heap.size w wr)) (fun _ v14 _ => s.length - (intOf v14).toNat)
    case atStart => exact ⟨0, 0, rfl, rfl, by omega, ⟨rfl⟩, ⟨HBu0.out⟩, HBW1⟩
    case round =>
     obtain ⟨i, j, rfl, rfl, hi, HJ, HBu, HB2⟩ := hrel
     by_cases hlt : i < s.length
     ·have hlt1 : i < (M s).size := hlt
      have hlt' : (i : Int) < (s.length : Int) := by omega
      have hT := HT.out.1.below HB2.out HT.out.1.lt
      have htk : d.text (s.take (i + 1)) = d.text (s.take i) ++ d.byte s[i] := by
       rw [List.take_add_one, List.getElem?_eq_getElem hlt, Option.toList_some, Tb.text_append, Tb.text_one]
      have hle : (d.text (s.take (i + 1))).length ≤ N := by
       rw [← HN.out]
       conv => rhs; rw [← List.take_append_drop (i + 1) s, Tb.text_append, List.length_append]
       omega
      have hent := HT.out.2.1 ((M s)[i]'hlt1)
      have hsi : (M s)[i]'hlt1 = s[i] := rfl
      have hne := ne73
      have hnn := nn73
      have hx : ((M s)[i]'hlt1).toNat < 256 := UInt8.toNat_lt _
      have hx1 : (((M s)[i]'hlt1).toNat : Int) < 256 := by omega
      rw [htk, List.length_append, ← HJ.out] at hle
      unfold Tb.byte at htk hle
      cases hl : d.lookup s[i] with
      | none =>
        rw [hsi, hl] at hent
        rw [hl] at htk hle
        have htk : d.text (s.take (i + 1)) = d.text (s.take i) ++ [s[i]] := htk
        have hle : j + 1 ≤ N := hle
        have u5 : wr.cell? ⟨p, ((M s)[i]'hlt1).toNat, none⟩ = some (.slice none 0 0) := (hT.cell _).trans hent
        obtain ⟨vv, hvv⟩ := HBu.out.val j (by omega)
        have hfz := HBu.out.frozen j
        have hput := HBu.out.put s[i] (by rw [← HJ.out]; omega)
        rw [← HJ.out, ← htk] at hput
        have HPU := Aside0.mk hput
        have hb1 : (0 : Int) ≤ (j : Int) := by omega
        have hb2 : (j : Int) < (N : Int) := by omega
        have HBn := Aside0.mk (HB2.out.setCell (p := ⟨Gb, j, none⟩) HPG.out (.int .u8 (s[i].toNat : Int)))
        have HJ2 := Aside0.mk (show j + 1 = (d.text (s.take (i + 1))).length by rw [htk, List.length_append, ← HJ.out]; rfl)
        clear hput htk hent hl hT hle hsi
        go_wp2_with fail
        go_roundw
        case rel => exact ⟨i + 1, j + 1, by go_num, by go_num, by omega, HJ2, HPU, HBn⟩
        case measure => simp [intOf]; omega
      | some v =>
        rw [hsi, hl] at hent
        rw [hl] at htk hle
        obtain ⟨q, cp, h1, hq⟩ := hent
        have htk : d.text (s.take (i + 1)) = d.text (s.take i) ++ v := htk
        have hle : j + v.length ≤ N := hle
        obtain ⟨ch, hch⟩ : ∃ ch, ch = (M s)[i]'hlt1 := ⟨_, rfl⟩
        have h1 : cs[ch.toNat]? = some (.slice (some ⟨q, 0, none⟩) v.length cp) := by rw [hch, hsi]; exact h1
        have u6 : wr.cell? ⟨p, ch.toNat, none⟩ = some (.slice (some ⟨q, 0, none⟩) v.length cp) := (hT.cell _).trans h1
        have u6' : wr.cell? ⟨p, ((M s)[i]'hlt1).toNat, none⟩ = some (.slice (some ⟨q, 0, none⟩) v.length cp) := by rw [← hch]; exact u6
        have hq2 : BytesAt wr q v := by
         obtain ⟨ds, z, k1, k2, k3⟩ := hq
         exact ⟨ds, z, (HB2.out.block q (Array.getElem?_eq_some_iff.1 k1).1).trans k1, k2, k3⟩
        have hql : q < wr.heap.size := by
         obtain ⟨ds, z, k1, k2, k3⟩ := hq2
         exact (Array.getElem?_eq_some_iff.1 k1).1
        have HE2 := Aside0.mk htk
        have HQ := Aside0.mk hq2
        have hv1 := (HO.out.some _ (lookup_mem d s[i] v hl)).2
        have hvl : v.length ≤ 10 := hv1
        have hvl1 : 1 ≤ v.length := (HO.out.some _ (lookup_mem d s[i] v hl)).1
        have hyc : ((M s)[i]'hlt1).toNat = ch.toNat := by rw [hch]
        have hx2 : (ch.toNat : Int) < 256 := by rw [hch]; exact hx1
        have hpw := HT.out.1.lt
        clear htk hl hT hsi h1 hq hq2 hv1 hch hx hx1
        go_upto_region 28 with (fail)
        have hb1 : (0 : Int) ≤ (j : Int) := by omega
        have hNj : (N = j) = False := eq_false (by omega)
        have hb2 : (j : Int) ≤ (N : Int) := by omega
        refine start_ (n := 13) (S := fun w' => w'.cell? ⟨p, ch.toNat, none⟩ = some (.slice (some ⟨q, 0, none⟩) v.length cp)) (ds := []) #[false, false, false, false, false, false, false, false, false, false, false, false, false] (by kernel_rfl) rfl rfl u6 (fun hHeld => ?_)
        refine with_tabW repl_tab28 repl_bits28 (fun HT_ HW_ => ?_)
        have hd : Below wr.heap.size wr wr.drew := (Below.refl _ _).drew
        have KB := Aside0.mk (HBu.out.move (hd.block Gb HBu.out.lt))
        have KW := Aside0.mk (HB2.out.trans (hd.mono HB2.out.size))
        have KQ := Aside0.mk (show BytesAt wr.drew q v from HQ.out)
        clear hd
        generalize World.drew _ = v0 at KB KW KQ hHeld ⊢
        refine pure_ (i := 0) (N := some 102) (v := .int .i64 j) #[true, false, false, false, false, false, false, false, false, false, false, false, false] rfl rfl (any_of HT_.out (by kernel_rfl)) (fun _ _ _ h => h) (Or.inl ⟨by rfl, fun w' => by go_simp⟩) rfl ?_
        simp only [Act.put, List.setIfInBounds_toArray, List.set_cons_zero, List.set_cons_succ]
        refine pure_ (i := 1) (N := some 103) (v := .slice (some ⟨Gb, 0, none⟩) N N) #[true, true, false, false, false, false, false, false, false, false, false, false, false] rfl rfl (any_of HT_.out (by kernel_rfl)) (fun _ _ _ h => h) (Or.inl ⟨by rfl, fun w' => by go_simp⟩) rfl ?_
        simp only [Act.put, List.setIfInBounds_toArray, List.set_cons_zero, List.set_cons_succ]
        refine pure_ (i := 2) (N := some 104) (v := .int .i64 j) #[true, true, true, false, false, false, false, false, false, false, false, false, false] rfl rfl (any_of HT_.out (by kernel_rfl)) (fun _ _ _ h => h) (Or.inl ⟨by rfl, fun w' => by go_simp⟩) rfl ?_
        simp only [Act.put, List.setIfInBounds_toArray, List.set_cons_zero, List.set_cons_succ]
        refine pure_ (i := 3) (N := some 105) (v := .slice (some ⟨Gb, j, none⟩) (N - j) (N - j)) #[true, true, true, true, false, false, false, false, false, false, false, false, false] rfl rfl (any_of HT_.out (by kernel_rfl)) (fun _ _ _ h => h) (Or.inl ⟨by rfl, fun w' => by go_simp⟩) rfl ?_
        simp only [Act.put, List.setIfInBounds_toArray, List.set_cons_zero, List.set_cons_succ]
        refine pure_ (i := 4) (N := some 106) (v := .pointer (some ⟨p, 0, none⟩)) #[true, true, true, true, true, false, false, false, false, false, false, false, false] rfl rfl (any_of HT_.out (by kernel_rfl)) (fun _ _ _ h => h) (Or.inl ⟨by rfl, fun w' => by go_simp⟩) rfl ?_
        simp only [Act.put, List.setIfInBounds_toArray, List.set_cons_zero, List.set_cons_succ]
        refine pure_ (i := 5) (N := some 107) (v := .int .u8 (ch.toNat : Int)) #[true, true, true, true, true, true, false, false, false, false, false, false, false] rfl rfl (any_of HT_.out (by kernel_rfl)) (fun _ _ _ h => h) (Or.inl ⟨by rfl, fun w' => by go_simp⟩) rfl ?_
        simp only [Act.put, List.setIfInBounds_toArray, List.set_cons_zero, List.set_cons_succ]
        refine pure_ (i := 6) (N := some 108) (v := .pointer (some ⟨p, 0, none⟩)) #[true, true, true, true, true, true, true, false, false, false, false, false, false] rfl rfl (any_of HT_.out (by kernel_rfl)) (fun _ _ _ h => h) (Or.inl ⟨by rfl, fun w' => by go_simp⟩) rfl ?_
        simp only [Act.put, List.setIfInBounds_toArray, List.set_cons_zero, List.set_cons_succ]
        refine pure_ (i := 7) (N := some 109) (v := .pointer (some ⟨p, 0, none⟩)) #[true, true, true, true, true, true, true, true, false, false, false, false, false] rfl rfl (any_of HT_.out (by kernel_rfl)) (fun _ _ _ h => h) (Or.inl ⟨by rfl, fun w' => by go_simp⟩) rfl ?_
        simp only [Act.put, List.setIfInBounds_toArray, List.set_cons_zero, List.set_cons_succ]
        refine pure_ (i := 8) (N := some 110) (v := .pointer (some ⟨p, ch.toNat, none⟩)) #[true, true, true, true, true, true, true, true, true, false, false, false, false] rfl rfl (any_of HT_.out (by kernel_rfl)) (fun _ _ _ h => h) (Or.inl ⟨by rfl, fun w' => by go_simp⟩) rfl ?_
        simp only [Act.put, List.setIfInBounds_toArray, List.set_cons_zero, List.set_cons_succ]
        refine take_ (i := 9) (N := some 111) (v := .slice (some ⟨q, 0, none⟩) v.length cp) #[true, true, true, true, true, true, true, true, true, true, false, false, false] rfl rfl (take_ofW HT_.out HW_.out (by kernel_rfl)) (fun _ _ _ h => h) (Or.inl ⟨by rfl, fun w' hS => by go_simp⟩) hHeld rfl ?_
        simp only [Act.put, List.setIfInBounds_toArray, List.set_cons_zero, List.set_cons_succ]
        refine one_ (i := 10) (N := some 112) #[true, true, true, true, true, true, true, true, true, true, true, false, false] rfl rfl (one_of HT_.out (by kernel_rfl)) (by decide) (fun K hK => ?_)
        rw [if_pos (by rfl)]
        have cp_ : (Builtin.copy_ #[42, 42] 3 #[.slice (some ⟨Gb, j, none⟩) (N - j) (N - j), .slice (some ⟨q, 0, none⟩) v.length cp]).run Tryz.prog v0 = .ok (.int .i64 (v.length : Int)) (v0.setCells Gb j (bytesV v)) := by
         have := run_copy_cells (P := Tryz.prog) v0 42 42 3 5 Gb j (N - j) (N - j) ⟨q, 0, none⟩ v.length cp (bytesV v) Tryz.underlying42 (by kernel_rfl) (by rw [List.length_map]; show v.length = min v.length (N - j); omega) (copySrc KQ.out) (fun t ht => by
          rw [List.length_map] at ht
          obtain ⟨x, hx⟩ := KB.out.val (j + t) (by omega)
          rw [hx]; rfl) (fun t _ => KB.out.frozen (j + t)) (fun x hx => by
          obtain ⟨y, _, rfl⟩ := List.mem_map.1 hx
          rfl)
         rw [List.length_map] at this
         exact this
        refine copy_ (.tmp 105) (.tmp 111) 42 42 rfl (.slice (some ⟨Gb, j, none⟩) (N - j) (N - j)) (.slice (some ⟨q, 0, none⟩) v.length cp) (by rfl) (by rfl) _ _ cp_ ?_
        have hwr : IntKind.i64.wrap ((j : Int) + (v.length : Int)) = ((j + v.length : Nat) : Int) := (IntWalk.i64_in _ (by omega)).trans (by omega)
        have hne1 : p ≠ Gb := by have := HPG.out; omega
        have k2_ := BufAt.puts v KB.out (by rw [← HJ.out]; omega)
        rw [← HJ.out, ← HE2.out] at k2_
        have w2_ := setCells_below (bytesV v) j KW.out HPG.out
        have s2_ : (v0.setCells Gb j (bytesV v)).cell? ⟨p, ch.toNat, none⟩ = some (.slice (some ⟨q, 0, none⟩) v.length cp) := by
         rw [World.cell?_setCells_out Gb (bytesV v) j v0 ⟨p, ch.toNat, none⟩ (fun h => absurd h hne1)]
         exact hHeld
        have KB5 := Aside0.mk k2_
        have KW5 := Aside0.mk w2_
        clear k2_ w2_ cp_ KB KW KQ hHeld
        generalize (v0.setCells Gb j (bytesV v)) = W5 at KB5 KW5 s2_ ⊢
        refine hK.out _ _ s2_ (fun hHeld => ?_)
        clear hK K
        simp only [Act.put, List.setIfInBounds_toArray, List.set_cons_zero, List.set_cons_succ]
        refine pure_ (i := 11) (N := some 113) (v := .int .i64 ((j + v.length : Nat) : Int)) #[true, true, true, true, true, true, true, true, true, true, true, true, false] rfl rfl (any_of HT_.out (by kernel_rfl)) (fun _ _ _ h => h) (Or.inl ⟨by rfl, fun w' => by go_simp⟩) rfl ?_
        simp only [Act.put, List.setIfInBounds_toArray, List.set_cons_zero, List.set_cons_succ]
        refine pure_ (i := 12) (N := some 13) (v := .int .i64 ((j + v.length : Nat) : Int)) #[true, true, true, true, true, true, true, true, true, true, true, true, true] rfl rfl (any_of HT_.out (by kernel_rfl)) (fun _ _ _ h => h) (Or.inl ⟨by rfl, fun w' => by go_simp⟩) rfl ?_
        simp only [Act.put, List.setIfInBounds_toArray, List.set_cons_zero, List.set_cons_succ]
        refine done_ (done_of HT_.out (by kernel_rfl)) ?_
        clear hHeld s2_ hNj hb1 hb2 hwr
        have HL2 := Aside0.mk (show j + v.length = (d.text (s.take (i + 1))).length by rw [HE2.out, List.length_append, ← HJ.out])
        go_wp2_with fail
        go_roundw
        case rel => exact ⟨i + 1, j + v.length, rfl, by go_num, by omega, HL2, KB5, KW5⟩
        case measure => simp [intOf]; omega
     ·have hall : s.take i = s := List.take_of_length_le (by omega)
      have hlt' : ¬ (i : Int) < (s.length : Int) := by omega
      have HBu1 := HBu.out
      rw [hall] at HBu1
      have kc := HBu1.text N HN.out
      clear HBu1
      go_wp2_with fail
      go_ret
      exact ⟨rfl, HB2.out⟩
end Go.Proofs.YtadgeghipimfiaaGreatDoor.X
end
section
namespace Go.Proofs.YtadgeghipimfiaaGreatDoor.X
open Go.RowKit Go.Shelf Go.Proofs.YtadgeghipimfiaaGreatDoorW.PrintWords Go.Proofs.YtadgeghipimfiaaGreatDoor.F Go.Proofs.YtadgeghipimfiaaGreatDoor.Pg
set_option linter.unusedVariables false
set_option linter.unusedSimpArgs false
theorem flat_take (l : List Bs) (k : Nat) (h : k < l.length) : (l.take (k + 1)).flatten = (l.take k).flatten ++ l[k] := by
 rw [List.take_add_one, List.getElem?_eq_getElem h, Option.toList_some, List.flatten_append]
 simp
theorem flat_le (l : List Bs) (k : Nat) : (l.take k).flatten.length ≤ l.flatten.length := by
 have : l.flatten = (l.take k).flatten ++ (l.drop k).flatten := by rw [← List.flatten_append, List.take_append_drop]
 rw [this, List.length_append]
 omega
set_option maxRecDepth 100000 in
set_option maxHeartbeats 2000000 in
theorem wput_calls {base b g c : Nat} {acc : Bs} {l : List Bs} {cs : Array Value} {w : World} (h : Wr w base b acc) (hr : StrRow w g l) (hk : Blk w g cs 9) (hl : l.length ≤ 100) (hlen : acc.length + l.flatten.length ≤ 140737488355328) :
  Calls Tryz.prog 25 #[.pointer (some ⟨b, 0, none⟩), .slice (some ⟨g, 0, none⟩) l.length c] w fun e w' => e = .returned (.tuple #[]) ∧ Wr w' base b (acc ++ l.flatten) ∧ Wk base b w w' := by
 have HR := Lib.hid hr
 have HK := Lib.hid hk
 have HN := Lib.hid (h.ne hk (by decide))
 have HLE := Lib.hid h.le
 have H0 := Lib.hid h
 have HL := Lib.hid hlen
 clear hr hk h hlen
 go_enter Tryz.func25, Tryz.ntmps25
 go_wp2
 go_loopw [8] (fun v8 wr => ∃ (k : Nat), v8 = .int .i64 k ∧ k ≤ l.length ∧ Aside0 (Wr wr base b (acc ++ (l.take k).flatten) ∧ Wk base b w wr)) (fun v8 _ => l.length - (intOf v8).toNat)
 case atStart => exact ⟨0, rfl, by omega, ⟨by simpa using H0.out, Wk.refl _ _ _⟩⟩
 case round =>
  obtain ⟨k, rfl, hk, HB⟩ := hrel
  by_cases hlt : k < l.length
  ·have c0 := (HB.out.2.row HR.out HK.out HN.out) k hlt
   have hw : (acc ++ (l.take k).flatten).length + l[k].length ≤ 140737488355328 := by
    have := flat_take l k hlt
    have h2 := congrArg List.length this
    rw [List.length_append] at h2
    have h3 := flat_le l (k + 1)
    have := HL.out
    rw [List.length_append]
    omega
   have HW := Lib.hid hw
   clear hw
   go_wp2_with fail
   refine (wwrite_calls HB.out.1 HW.out).mono ?_
   rintro e w1 ⟨rfl, h1, h2⟩
   have H1 := Aside0.mk (And.intro (show Wr w1 base b (acc ++ (l.take (k + 1)).flatten) by rw [flat_take l k hlt, ← List.append_assoc]; exact h1) (HB.out.2.trans h2))
   clear h1 h2
   go_wp2
   go_roundw
   case rel => exact ⟨k + 1, by go_num, by omega, H1⟩
   case measure => simp [intOf]; omega
  ·have H1 := HB.out
   rw [List.take_of_length_le (by omega)] at H1
   have HF := Lib.hid H1
   clear H1 HB
   go_wp2
   go_end0
   exact ⟨rfl, HF.out⟩
end Go.Proofs.YtadgeghipimfiaaGreatDoor.X
end
section
namespace Go.Proofs.YtadgeghipimfiaaGreatDoor.X
open Go.RowKit Go.Shelf Go.Proofs.YtadgeghipimfiaaGreatDoorW.PrintWords Go.Proofs.YtadgeghipimfiaaGreatDoor.F Go.Proofs.YtadgeghipimfiaaGreatDoor.Pg Go.Proofs.YtadgeghipimfiaaGreatDoor.Z
set_option linter.unusedVariables false
set_option linter.unusedSimpArgs false
def EscOk : Prop := ∀ (l : Bs) (a : Bool) (w : World), l.length ≤ 1000000 → Calls Tryz.prog 26 #[.string (M l), .bool a] w fun e w' => e = .returned (.string (M (esc a l))) ∧ Below w.heap.size w w'
theorem row_new (W : World) (l : List Bs) {cs : Array Value} (h : cs.toList = l.map fun s => .string (M s)) : StrRow (W.alloc (.cells cs 9)) W.heap.size l := fun j hj => by
 rw [(Blk.new W cs 9).cell j, ← Array.getElem?_toList, h, List.getElem?_map, List.getElem?_eq_getElem hj]
 rfl
set_option maxRecDepth 100000 in
set_option maxHeartbeats 2000000 in
theorem value_wcalls (hE : EscOk) {base b : Nat} {acc name v : Bs} {w : World} (h : Wr w base b acc) (hv : v.length ≤ 1000000) (hlen : acc.length + (valueL name v).length ≤ 140737488355328) :
  Calls Tryz.prog 48 #[.pointer (some ⟨b, 0, none⟩), .string (M name), .string (M v)] w fun e w' => e = .returned (.tuple #[]) ∧ Wr w' base b (acc ++ valueL name v) ∧ Wk base b w w' := by
 have H := Lib.hid h
 have HE := Lib.hid (hE v true w hv)
 have HL := Lib.hid hlen
 clear h hE hlen
 go_enter Tryz.func48, Tryz.ntmps48
 go_wp2_with fail
 refine HE.out.mono ?_
 rintro e w1 ⟨rfl, h1⟩
 have hw1 := H.out.below h1
 have hb2 : Below w1.heap.size w1 (w1.alloc (.cells #[.string ⟨#[32]⟩, .string (M name), .string ⟨#[61, 34]⟩, .string (M (esc true v)), .string ⟨#[34]⟩] 9)) := (Below.refl _ _).alloc (Nat.le_refl _) _
 have hw2 := hw1.below hb2
 have hrow := row_new w1 [[32], name, [61, 34], esc true v, [34]] (cs := #[.string ⟨#[32]⟩, .string (M name), .string ⟨#[61, 34]⟩, .string (M (esc true v)), .string ⟨#[34]⟩]) rfl
 have hblk := Blk.new w1 #[.string ⟨#[32]⟩, .string (M name), .string ⟨#[61, 34]⟩, .string (M (esc true v)), .string ⟨#[34]⟩] 9
 have hfl : [[32], name, [61, 34], esc true v, [34]].flatten = valueL name v := by unfold valueL; simp
 have hk := (Wk.of h1 H.out.le (b := b)).trans (Wk.of hb2 hw1.le)
 have HC := Lib.hid (wput_calls (c := 5) hw2 hrow hblk (by show 5 ≤ 100; omega) (by rw [hfl]; exact HL.out))
 rw [hfl] at HC
 have HK := Lib.hid hk
 clear hw1 hb2 hw2 hrow hblk hfl hk h1 H HE HL
 go_wp2_with fail
 refine HC.out.mono ?_
 rintro e w3 ⟨rfl, h3, h4⟩
 have HF := Lib.hid (And.intro h3 (HK.out.trans h4))
 clear h3 h4 HC HK
 go_wp2
 go_end0
 exact ⟨rfl, HF.out⟩
theorem itoa_calls (i : Nat) (hi : i < 100) (w : World) : Calls Tryz.prog 82 #[.int .i64 i] w fun e w' => e = .returned (.string (M (Lib.itoa (i : Int)))) ∧ w = w' := by
 refine (Tryz.strconv_Itoa_small i hi w).mono ?_
 rintro e w' ⟨rfl, rfl⟩
 exact ⟨by rw [Z.itoa_nat], rfl⟩
theorem M_cat (a b : Bs) : M a ++ M b = M (a ++ b) := by
 apply ByteArray.ext
 simp [M]
abbrev atC (a : At) : Array Value := #[.string (M a.1), .string (M a.2.1), .string (M a.2.2)]
set_option maxRecDepth 100000 in
set_option maxHeartbeats 2000000 in
theorem attr_wcalls (hE : EscOk) {base b : Nat} {acc : Bs} {w : World} (i : Nat) (a : At) (hi : i < 100) (h : Wr w base b acc) (hs : a.1.length ≤ 1000000) (hnm : a.2.1.length ≤ 1000000) (hv : a.2.2.length ≤ 1000000) (hlen : acc.length + (tellPairs (pairsOf i a)).length ≤ 140737488355328) :
  Calls Tryz.prog 49 #[.pointer (some ⟨b, 0, none⟩), .int .i64 i, .agg (atC a)] w fun e w' => e = .returned (.tuple #[]) ∧ Wr w' base b (acc ++ tellPairs (pairsOf i a)) ∧ Wk base b w w' := by
 obtain ⟨sp, nm, v⟩ := a
 have hb0 : Below w.heap.size w (w.alloc (.cells (atC (sp, nm, v)) 38)) := (Below.refl _ _).alloc (Nat.le_refl _) _
 have hbx : Blk (w.alloc (.cells (atC (sp, nm, v)) 38)) w.heap.size (atC (sp, nm, v)) 38 := Blk.new _ _ _
 have H := Lib.hid (h.below hb0)
 have HK := Lib.hid (Wk.of hb0 h.le (b := b))
 have HX := Lib.hid (And.intro hbx ((h.below hb0).ne hbx (by decide)))
 have HL := Lib.hid (And.intro hlen (And.intro hs hv))
 have HE := Lib.hid hE
 have x0 : (w.alloc (.cells (atC (sp, nm, v)) 38)).cell? ⟨w.heap.size, 0, none⟩ = some (.string (M sp)) := hbx.cell 0
 have x1 : (w.alloc (.cells (atC (sp, nm, v)) 38)).cell? ⟨w.heap.size, 1, none⟩ = some (.string (M nm)) := hbx.cell 1
 have x2 : (w.alloc (.cells (atC (sp, nm, v)) 38)).cell? ⟨w.heap.size, 2, none⟩ = some (.string (M v)) := hbx.cell 2
 have hnm1 : nm.length ≤ 1000000 := hnm
 clear h hbx hb0 hlen hs hv hE hnm
 have hcat1 : (⟨#[120, 109, 108, 58]⟩ : ByteArray) ++ M nm = M (tXml ++ 58 :: nm) := M_cat [120, 109, 108, 58] nm
 have hcat2 : (⟨#[110]⟩ : ByteArray) ++ M (Lib.itoa (i : Int)) = M (pre i) := M_cat [110] _
 have hcat3 : (⟨#[120, 109, 108, 110, 115, 58]⟩ : ByteArray) ++ M (pre i) = M (tXmlns ++ 58 :: pre i) := M_cat [120, 109, 108, 110, 115, 58] _
 have hcat4 : M (pre i) ++ (⟨#[58]⟩ : ByteArray) = M (pre i ++ [58]) := M_cat _ [58]
 have hcat5 : M (pre i ++ [58]) ++ M nm = M (pre i ++ 58 :: nm) := by rw [M_cat]; simp
 by_cases e1 : sp = []
 ·subst e1
  have hp : tellPairs (pairsOf i ([], nm, v)) = valueL nm v := by unfold pairsOf tellPairs; simp
  have HC := Lib.hid (value_wcalls HE.out H.out (name := nm) HL.out.2.2 (by rw [← hp]; exact HL.out.1))
  rw [hp]
  clear hp HL
  go_enter Tryz.func49, Tryz.ntmps49
  go_wp2_with fail
  refine HC.out.mono ?_
  rintro e w3 ⟨rfl, h3, h4⟩
  have HF := Lib.hid (And.intro h3 (HK.out.trans h4))
  clear h3 h4
  go_wp2
  go_end0
  exact ⟨rfl, HF.out⟩
 ·have f1 : List.isEmpty sp = false := List.isEmpty_eq_false_iff.2 e1
  by_cases e2 : sp = V.tXML
  ·have f2 : (sp == ([104, 116, 116, 112, 58, 47, 47, 119, 119, 119, 46, 119, 51, 46, 111, 114, 103, 47, 88, 77, 76, 47, 49, 57, 57, 56, 47, 110, 97, 109, 101, 115, 112, 97, 99, 101] : List UInt8)) = true := beq_iff_eq.2 e2
   have hp : tellPairs (pairsOf i (sp, nm, v)) = valueL (tXml ++ 58 :: nm) v := by unfold pairsOf tellPairs; simp only [if_neg e1, if_pos e2]; simp
   have HC := Lib.hid (value_wcalls HE.out H.out (name := tXml ++ 58 :: nm) HL.out.2.2 (by rw [← hp]; exact HL.out.1))
   rw [hp]
   clear hp HL e1 e2
   go_enter Tryz.func49, Tryz.ntmps49
   go_wp2_with fail
   refine HC.out.mono ?_
   rintro e w3 ⟨rfl, h3, h4⟩
   have HF := Lib.hid (And.intro h3 (HK.out.trans h4))
   clear h3 h4
   go_wp2
   go_end0
   exact ⟨rfl, HF.out⟩
  ·have f2 : (sp == ([104, 116, 116, 112, 58, 47, 47, 119, 119, 119, 46, 119, 51, 46, 111, 114, 103, 47, 88, 77, 76, 47, 49, 57, 57, 56, 47, 110, 97, 109, 101, 115, 112, 97, 99, 101] : List UInt8)) = false := beq_eq_false_iff_ne.2 e2
   have hp : tellPairs (pairsOf i (sp, nm, v)) = valueL (tXmlns ++ 58 :: pre i) sp ++ valueL (pre i ++ 58 :: nm) v := by unfold pairsOf tellPairs; simp only [if_neg e1, if_neg e2]; simp
   have hL := HL.out.1
   rw [hp, List.length_append] at hL
   have HC := Lib.hid (value_wcalls HE.out H.out (name := tXmlns ++ 58 :: pre i) (v := sp) HL.out.2.1 (by omega))
   have hpl : (pre i).length ≤ 100 := by
    unfold pre
    rw [Z.itoa_nat]
    have : i < 10 ∨ 10 ≤ i := by omega
    rcases this with h | h
    ·rw [Lib.decDigits_one h]; simp
    ·rw [Lib.decDigits_two (by omega) hi]; simp
   have hil : (Lib.itoa (i : Int)).length ≤ 100 := by
    have : (pre i).length = (Lib.itoa (i : Int)).length + 1 := rfl
    omega
   have hLL := Lib.hid hL
   have hva := Lib.hid HL.out.2.2
   rw [hp]
   clear hp hL e1 e2
   go_enter Tryz.func49, Tryz.ntmps49
   go_wp2_with fail
   refine (itoa_calls i hi _).mono ?_
   rintro e w1 ⟨rfl, rfl⟩
   go_wp2_with fail
   refine HC.out.mono ?_
   rintro e w2 ⟨rfl, h2, h3⟩
   have hb2 := h3.blk HX.out.1 HX.out.2 (by decide)
   have z2 : w2.cell? ⟨w.heap.size, 2, none⟩ = some (.string (M v)) := hb2.cell 2
   have HD := Lib.hid (value_wcalls HE.out h2 (name := pre i ++ 58 :: nm) hva.out (by have := hLL.out; rw [List.length_append]; omega))
   have HK2 := Lib.hid (HK.out.trans h3)
   clear h2 h3 hb2 HC HK
   go_wp2_with fail
   refine HD.out.mono ?_
   rintro e w3 ⟨rfl, h3, h4⟩
   rw [List.append_assoc] at h3
   have HF := Lib.hid (And.intro h3 (HK2.out.trans h4))
   clear h3 h4
   go_wp2
   go_end0
   exact ⟨rfl, HF.out⟩
theorem TbAt.move {W W' : World} {base p : Nat} {d : Tb} (h : TbAt W base p d) (hm : ∀ (k : Nat) (cs : Array Value) (t : TypeId) (z : Nat × Nat), W.heap[k]? = some (Obj.cells cs t z) → t ≠ 131 → W'.heap[k]? = some (Obj.cells cs t z)) : TbAt W' base p d := by
 obtain ⟨v, cs, hp, hsz, h256, hown, hent⟩ := h.at_
 refine ⟨h.ge, v, cs, hm p cs 197 _ hp (by decide), hsz, h256, own_move hown fun k hk => ?_, fun c => (hent c).move (fun _ _ => rfl) fun k ds z hk => hm k ds 5 z hk (by decide)⟩
 obtain ⟨cs', hc'⟩ := own_typed hown k hk
 rw [hc']
 exact hm k cs' 9 _ hc' (by decide)
def TT (tb : Tb) (W : World) (p : Nat) : Prop := ∃ base, TbAt W base p tb.reverse
theorem ok_rev {tb : Tb} (h : tb.Ok) : Tb.Ok tb.reverse := ⟨by rw [List.map_reverse]; exact List.pairwise_reverse.2 (h.keys.imp fun h => h.symm), fun p hp => h.some p (List.mem_reverse.1 hp), by rw [List.length_reverse]; exact h.few⟩
theorem text_rev {tb : Tb} (h : tb.Ok) (l : Bs) : Tb.text tb.reverse l = tb.text l := by
 have : Tb.byte tb.reverse = tb.byte := by
  funext c
  unfold Tb.byte
  have hl : tb.reverse.lookup c = tb.lookup c := by
   cases hx : tb.lookup c with
   | some v => exact lookup_of_mem _ _ _ (ok_rev h).keys (List.mem_reverse.2 (lookup_mem _ _ _ hx))
   | none =>
     cases hy : tb.reverse.lookup c with
     | none => rfl
     | some v =>
       rw [lookup_of_mem tb c v h.keys (List.mem_reverse.1 (lookup_mem _ _ _ hy))] at hx
       cases hx
  rw [hl]
 unfold Tb.text
 rw [this]
theorem tabs_tb {tb : Tb} (hok : tb.Ok) (h2 : ∀ p ∈ tb, 2 ≤ p.2.length) (hmk : ∀ W, (Instr.makeSlice 86 (.int .i64 0) (.int .i64 (tb.length : Int))).run Tryz.prog W = .ok (.slice (some ⟨W.heap.size, 0, none⟩) 0 tb.length) (W.alloc (.cells (Array.replicate tb.length (.string ⟨#[]⟩)) 9))) (h4 : 2 ≤ tb.length) : Tabs 198 (tbFlat tb) (TT tb) where
 set := by
  rintro W p b v0 v1 v2 v3 v4 i y ⟨base, h⟩ h5
  refine ⟨base, h.move fun k cs t z hk ht => (Below.heap_setCell _ _ _ _ ?_).trans hk⟩
  rintro rfl
  have := hk.symm.trans h5
  injection this with this
  injection this with _ ht' _
  exact ht ht'
 drew := fun ⟨base, h⟩ => ⟨base, h.move fun _ _ _ _ hk _ => hk⟩
 below := fun ⟨base, h⟩ hb => ⟨base, h.move fun k cs t z hk _ => (hb.block k (Array.getElem?_eq_some_iff.1 hk).1).trans hk⟩
 build := by
  intro b g c v0 v1 v2 v3 w h5 hr hg
  refine (tbuild_calls tb hok h2 hmk h4 b g c v0 v1 v2 v3 w h5 hr hg).mono ?_
  rintro e w' ⟨p, he, hb, hp, ht⟩
  exact ⟨p, he, hb, hp, _, ht⟩
set_option maxRecDepth 100000 in
set_option maxHeartbeats 2000000 in
theorem replT_calls {tb : Tb} (hok : tb.Ok) (h2 : ∀ p ∈ tb, 2 ≤ p.2.length) (hmk : ∀ W, (Instr.makeSlice 86 (.int .i64 0) (.int .i64 (tb.length : Int))).run Tryz.prog W = .ok (.slice (some ⟨W.heap.size, 0, none⟩) 0 tb.length) (W.alloc (.cells (Array.replicate tb.length (.string ⟨#[]⟩)) 9))) (h4 : 2 ≤ tb.length)
  (b : Nat) (s : Bs) (w : World) (h : Rep 198 (tbFlat tb) (TT tb) w b) (hs : s.length ≤ 1000000) :
  Calls Tryz.prog 47 #[.pointer (some ⟨b, 0, none⟩), .string (M s)] w fun e w' => e = .returned (.string (M (tb.text s))) ∧ Off (fun k => k = b) w w' := by
 have hmf : ∀ (fn : Fn) (first cap : Array Value) (w : World), (Instr.makeFunc fn first cap).run Tryz.prog w = .ok (.func fn first cap) w := fun _ _ _ _ => rfl
 have H := Lib.hid h
 have HT := Lib.hid (tabs_tb hok h2 hmk h4)
 have HO := Lib.hid hok
 clear h hok h2 hmk
 go_enter Tryz.func47, Tryz.ntmps47
 go_wp2_with fail
 refine (do_rep HT.out b w H.out).mono ?_
 rintro e w1 ⟨rfl, ⟨p, v4, h5, base, hp⟩, ho⟩
 have c3 : w1.cell? ⟨b, 3, none⟩ = some (.iface 198 (.pointer (some ⟨p, 0, none⟩))) := (h5.cell 3).trans rfl
 have HB := Lib.hid (And.intro hp ho)
 clear h5 hp ho
 go_wp2_with fail
 refine (treplace_calls (ok_rev HO.out) (by rw [List.length_reverse]; exact h4) HB.out.1 hs).mono ?_
 rintro e w2 ⟨rfl, h2⟩
 rw [text_rev HO.out]
 have HF := Lib.hid (HB.out.2.trans (Off.of_below h2))
 clear h2
 go_wp2_with fail
 go_ret
 exact ⟨rfl, HF.out⟩
theorem off_below {w w' : World} {b B : Nat} (h : Off (fun k => k = b) w w') (hb : B ≤ b) (hB : B ≤ w.heap.size) : Below B w w' := ⟨h.os, h.tape, h.output, h.size, fun k hk => h.block k (by omega) (by omega)⟩
theorem mk4 (W : World) : (Instr.makeSlice 86 (.int .i64 0) (.int .i64 ((tbText.length : Nat) : Int))).run Tryz.prog W = .ok (.slice (some ⟨W.heap.size, 0, none⟩) 0 tbText.length) (W.alloc (.cells (Array.replicate tbText.length (.string ⟨#[]⟩)) 9)) := by kernel_rfl
theorem mk7 (W : World) : (Instr.makeSlice 86 (.int .i64 0) (.int .i64 ((tbValue.length : Nat) : Int))).run Tryz.prog W = .ok (.slice (some ⟨W.heap.size, 0, none⟩) 0 tbValue.length) (W.alloc (.cells (Array.replicate tbValue.length (.string ⟨#[]⟩)) 9)) := by kernel_rfl
set_option maxRecDepth 100000 in
set_option maxHeartbeats 4000000 in
theorem escape_text (l : Bs) (w : World) (hl : l.length ≤ 1000000) : Calls Tryz.prog 26 #[.string (M l), .bool false] w fun e w' => e = .returned (.string (M (esc false l))) ∧ Below w.heap.size w w' := by
 have hb0 : Below w.heap.size w (w.alloc (.cells #[.string ⟨#[38]⟩, .string ⟨#[38, 97, 109, 112, 59]⟩, .string ⟨#[60]⟩, .string ⟨#[38, 108, 116, 59]⟩, .string ⟨#[62]⟩, .string ⟨#[38, 103, 116, 59]⟩, .string ⟨#[13]⟩, .string ⟨#[38, 35, 120, 68, 59]⟩] 9)) := (Below.refl _ _).alloc (Nat.le_refl _) _
 have hr := row_new w (tbFlat tbText) (cs := #[.string ⟨#[38]⟩, .string ⟨#[38, 97, 109, 112, 59]⟩, .string ⟨#[60]⟩, .string ⟨#[38, 108, 116, 59]⟩, .string ⟨#[62]⟩, .string ⟨#[38, 103, 116, 59]⟩, .string ⟨#[13]⟩, .string ⟨#[38, 35, 120, 68, 59]⟩]) rfl
 have HN := Lib.hid (newrep_calls w.heap.size 8 (tbFlat tbText) _ hr (by decide) (by decide) (by decide))
 have HB := Lib.hid hb0
 clear hr hb0
 go_enter Tryz.func26, Tryz.ntmps26
 go_wp2_with fail
 refine HN.out.mono ?_
 rintro e w1 ⟨b, rfl, h1, hb, hf⟩
 have HR := Lib.hid (replT_calls tbText_ok (by decide) mk4 (by decide) b l w1 (.inl hf) hl)
 have H1 := Lib.hid (And.intro (HB.out.trans (h1.mono HB.out.size)) (Nat.le_trans HB.out.size hb))
 clear h1 hb hf HN
 go_wp2_with fail
 refine HR.out.mono ?_
 rintro e w2 ⟨rfl, h2⟩
 have HF := Lib.hid (H1.out.1.trans (off_below h2 H1.out.2 H1.out.1.size))
 rw [tb_text]
 clear h2
 go_wp2
 go_ret
 exact ⟨rfl, HF.out⟩
set_option maxRecDepth 100000 in
set_option maxHeartbeats 4000000 in
theorem escape_value (l : Bs) (w : World) (hl : l.length ≤ 1000000) : Calls Tryz.prog 26 #[.string (M l), .bool true] w fun e w' => e = .returned (.string (M (esc true l))) ∧ Below w.heap.size w w' := by
 have HR0 : Hid (∀ Z : Array Value, StrRow ((((w.alloc (.cells #[.string ⟨#[38]⟩, .string ⟨#[38, 97, 109, 112, 59]⟩, .string ⟨#[60]⟩, .string ⟨#[38, 108, 116, 59]⟩, .string ⟨#[62]⟩, .string ⟨#[38, 103, 116, 59]⟩, .string ⟨#[13]⟩, .string ⟨#[38, 35, 120, 68, 59]⟩] 9)).alloc (.cells #[.string ⟨#[34]⟩, .string ⟨#[38, 113, 117, 111, 116, 59]⟩, .string ⟨#[9]⟩, .string ⟨#[38, 35, 120, 57, 59]⟩, .string ⟨#[10]⟩, .string ⟨#[38, 35, 120, 65, 59]⟩] 9)).alloc (.cells (#[.string ⟨#[38]⟩, .string ⟨#[38, 97, 109, 112, 59]⟩, .string ⟨#[60]⟩, .string ⟨#[38, 108, 116, 59]⟩, .string ⟨#[62]⟩, .string ⟨#[38, 103, 116, 59]⟩, .string ⟨#[13]⟩, .string ⟨#[38, 35, 120, 68, 59]⟩] ++ (#[.string ⟨#[34]⟩, .string ⟨#[38, 113, 117, 111, 116, 59]⟩, .string ⟨#[9]⟩, .string ⟨#[38, 35, 120, 57, 59]⟩, .string ⟨#[10]⟩, .string ⟨#[38, 35, 120, 65, 59]⟩] ++ Z)) 9)).drew) (w.heap.size + 1 + 1) (tbFlat tbValue) ∧ Below w.heap.size w ((((w.alloc (.cells #[.string ⟨#[38]⟩, .string ⟨#[38, 97, 109, 112, 59]⟩, .string ⟨#[60]⟩, .string ⟨#[38, 108, 116, 59]⟩, .string ⟨#[62]⟩, .string ⟨#[38, 103, 116, 59]⟩, .string ⟨#[13]⟩, .string ⟨#[38, 35, 120, 68, 59]⟩] 9)).alloc (.cells #[.string ⟨#[34]⟩, .string ⟨#[38, 113, 117, 111, 116, 59]⟩, .string ⟨#[9]⟩, .string ⟨#[38, 35, 120, 57, 59]⟩, .string ⟨#[10]⟩, .string ⟨#[38, 35, 120, 65, 59]⟩] 9)).alloc (.cells (#[.string ⟨#[38]⟩, .string ⟨#[38, 97, 109, 112, 59]⟩, .string ⟨#[60]⟩, .string ⟨#[38, 108, 116, 59]⟩, .string ⟨#[62]⟩, .string ⟨#[38, 103, 116, 59]⟩, .string ⟨#[13]⟩, .string ⟨#[38, 35, 120, 68, 59]⟩] ++ (#[.string ⟨#[34]⟩, .string ⟨#[38, 113, 117, 111, 116, 59]⟩, .string ⟨#[9]⟩, .string ⟨#[38, 35, 120, 57, 59]⟩, .string ⟨#[10]⟩, .string ⟨#[38, 35, 120, 65, 59]⟩] ++ Z)) 9)).drew)) := Lib.hid fun Z => by
  refine ⟨fun j hj => ?_, ((((Below.refl _ _).alloc (Nat.le_refl _) _).alloc (by rw [World.size_alloc]; omega) _).alloc (by rw [World.size_alloc, World.size_alloc]; omega) _).drew⟩
  have hb := World.alloc_heap_new ((w.alloc (.cells #[.string ⟨#[38]⟩, .string ⟨#[38, 97, 109, 112, 59]⟩, .string ⟨#[60]⟩, .string ⟨#[38, 108, 116, 59]⟩, .string ⟨#[62]⟩, .string ⟨#[38, 103, 116, 59]⟩, .string ⟨#[13]⟩, .string ⟨#[38, 35, 120, 68, 59]⟩] 9)).alloc (.cells #[.string ⟨#[34]⟩, .string ⟨#[38, 113, 117, 111, 116, 59]⟩, .string ⟨#[9]⟩, .string ⟨#[38, 35, 120, 57, 59]⟩, .string ⟨#[10]⟩, .string ⟨#[38, 35, 120, 65, 59]⟩] 9)) (.cells (#[.string ⟨#[38]⟩, .string ⟨#[38, 97, 109, 112, 59]⟩, .string ⟨#[60]⟩, .string ⟨#[38, 108, 116, 59]⟩, .string ⟨#[62]⟩, .string ⟨#[38, 103, 116, 59]⟩, .string ⟨#[13]⟩, .string ⟨#[38, 35, 120, 68, 59]⟩] ++ (#[.string ⟨#[34]⟩, .string ⟨#[38, 113, 117, 111, 116, 59]⟩, .string ⟨#[9]⟩, .string ⟨#[38, 35, 120, 57, 59]⟩, .string ⟨#[10]⟩, .string ⟨#[38, 35, 120, 65, 59]⟩] ++ Z)) 9)
  rw [World.size_alloc, World.size_alloc] at hb
  have hj14 : j < 14 := hj
  show (((w.alloc (.cells #[.string ⟨#[38]⟩, .string ⟨#[38, 97, 109, 112, 59]⟩, .string ⟨#[60]⟩, .string ⟨#[38, 108, 116, 59]⟩, .string ⟨#[62]⟩, .string ⟨#[38, 103, 116, 59]⟩, .string ⟨#[13]⟩, .string ⟨#[38, 35, 120, 68, 59]⟩] 9)).alloc (.cells #[.string ⟨#[34]⟩, .string ⟨#[38, 113, 117, 111, 116, 59]⟩, .string ⟨#[9]⟩, .string ⟨#[38, 35, 120, 57, 59]⟩, .string ⟨#[10]⟩, .string ⟨#[38, 35, 120, 65, 59]⟩] 9)).alloc (.cells (#[.string ⟨#[38]⟩, .string ⟨#[38, 97, 109, 112, 59]⟩, .string ⟨#[60]⟩, .string ⟨#[38, 108, 116, 59]⟩, .string ⟨#[62]⟩, .string ⟨#[38, 103, 116, 59]⟩, .string ⟨#[13]⟩, .string ⟨#[38, 35, 120, 68, 59]⟩] ++ (#[.string ⟨#[34]⟩, .string ⟨#[38, 113, 117, 111, 116, 59]⟩, .string ⟨#[9]⟩, .string ⟨#[38, 35, 120, 57, 59]⟩, .string ⟨#[10]⟩, .string ⟨#[38, 35, 120, 65, 59]⟩] ++ Z)) 9)).cell? ⟨w.heap.size + 1 + 1, j, none⟩ = _
  unfold World.cell?
  rw [hb]
  show (#[.string ⟨#[38]⟩, .string ⟨#[38, 97, 109, 112, 59]⟩, .string ⟨#[60]⟩, .string ⟨#[38, 108, 116, 59]⟩, .string ⟨#[62]⟩, .string ⟨#[38, 103, 116, 59]⟩, .string ⟨#[13]⟩, .string ⟨#[38, 35, 120, 68, 59]⟩] ++ (#[.string ⟨#[34]⟩, .string ⟨#[38, 113, 117, 111, 116, 59]⟩, .string ⟨#[9]⟩, .string ⟨#[38, 35, 120, 57, 59]⟩, .string ⟨#[10]⟩, .string ⟨#[38, 35, 120, 65, 59]⟩] ++ Z) : Array Value)[j]? = _
  rw [← Array.append_assoc, Array.getElem?_append_left (show j < (#[.string ⟨#[38]⟩, .string ⟨#[38, 97, 109, 112, 59]⟩, .string ⟨#[60]⟩, .string ⟨#[38, 108, 116, 59]⟩, .string ⟨#[62]⟩, .string ⟨#[38, 103, 116, 59]⟩, .string ⟨#[13]⟩, .string ⟨#[38, 35, 120, 68, 59]⟩] ++ #[.string ⟨#[34]⟩, .string ⟨#[38, 113, 117, 111, 116, 59]⟩, .string ⟨#[9]⟩, .string ⟨#[38, 35, 120, 57, 59]⟩, .string ⟨#[10]⟩, .string ⟨#[38, 35, 120, 65, 59]⟩] : Array Value).size from hj14)]
  have : j = 0 ∨ j = 1 ∨ j = 2 ∨ j = 3 ∨ j = 4 ∨ j = 5 ∨ j = 6 ∨ j = 7 ∨ j = 8 ∨ j = 9 ∨ j = 10 ∨ j = 11 ∨ j = 12 ∨ j = 13 := by omega
  rcases this with rfl | rfl | rfl | rfl | rfl | rfl | rfl | rfl | rfl | rfl | rfl | rfl | rfl | rfl <;> rfl
 go_enter Tryz.func26, Tryz.ntmps26
 go_wp2_with fail
 refine (newrep_calls (w.heap.size + 1 + 1) _ (tbFlat tbValue) _ (HR0.out _).1 (by decide) (by decide) (by decide)).mono ?_
 rintro e w1 ⟨b, rfl, h1, hb, hf⟩
 have hB1 := (HR0.out _).2.trans (h1.mono (HR0.out _).2.size)
 have HR := Lib.hid (replT_calls tbValue_ok (by decide) mk7 (by decide) b l w1 (.inl hf) hl)
 have H1 := Lib.hid (And.intro hB1 (Nat.le_trans (HR0.out _).2.size hb))
 clear h1 hb hf hB1 HR0
 go_wp2_with fail
 refine HR.out.mono ?_
 rintro e w2 ⟨rfl, h2⟩
 have HF := Lib.hid (H1.out.1.trans (off_below h2 H1.out.2 H1.out.1.size))
 rw [tb_value]
 clear h2
 go_wp2
 go_ret
 exact ⟨rfl, HF.out⟩
theorem escape_ok : EscOk := fun l a w hl => by
 cases a with
 | false => exact escape_text l w hl
 | true => exact escape_value l w hl
end Go.Proofs.YtadgeghipimfiaaGreatDoor.X
end
section
namespace Go.Proofs.YtadgeghipimfiaaGreatDoor.X
open Go.RowKit Go.Shelf Go.Proofs.YtadgeghipimfiaaGreatDoorW.PrintWords Go.Proofs.YtadgeghipimfiaaGreatDoor.F
set_option linter.unusedVariables false
set_option linter.unusedSimpArgs false
abbrev kv (p : Bs × Bs) : Value := .agg #[.string (M p.1), .string (M p.2)]
theorem eq_str9 (d : Nat) (a b : ByteArray) (W : World) : (Op.equalIn (d + 1) 9 (.string a) (.string b)).run Tryz.prog W = .ok (a == b) W := by
 simp [Op.equalIn, run_underlying Tryz.underlying9]
theorem M_beq (a b : Bs) : (M a == M b) = (a == b) := by
 rw [Bool.eq_iff_iff, MapKept.bytes_beq, beq_iff_eq]
 refine ⟨fun e => ?_, fun e => by rw [e]⟩
 have := congrArg (fun x : ByteArray => x.data.toList) e
 simpa using this
theorem eq182 (p q : Bs × Bs) (W : World) : (Op.equal 88 (kv p) (kv q)).run Tryz.prog W = .ok (p == q) W := by
 have h1 := eq_str9 9998 (M p.1) (M q.1) W
 have h2 := eq_str9 9998 (M p.2) (M q.2) W
 have h3 := eqA_of (P := Tryz.prog) (d := 9999) (xs := #[.string (M p.1), .string (M p.2)]) (ys := #[.string (M q.1), .string (M q.2)]) (w := W) Tryz.underlying88 (by kernel_rfl) (eqf_cons rfl (by kernel_rfl) (by kernel_rfl) h1 (eqf_last rfl (by kernel_rfl) (by kernel_rfl) h2))
 rw [M_beq, M_beq] at h3
 exact h3
theorem check182 (em : Bool) (p : Bs × Bs) (W : World) : (Instr.checkKey em 10000 88 (kv p)).run Tryz.prog W = .ok () W := by kernel_rfl
def ents : Nat → List (Bs × Bs) → List MapEntry
 | _, [] => []
 | i, p :: l => ⟨kv p, .int .i64 1, i⟩ :: ents (i + 1) l
theorem ents_len : ∀ (l : List (Bs × Bs)) (i : Nat), (ents i l).length = l.length
 | [], _ => rfl
 | _ :: l, i => by simp [ents, ents_len l]
theorem ents_append : ∀ (l : List (Bs × Bs)) (q : Bs × Bs) (i : Nat), ents i (l ++ [q]) = ents i l ++ [⟨kv q, .int .i64 1, i + l.length⟩]
 | [], q, i => by simp [ents]
 | p :: l, q, i => by
   simp only [List.cons_append, ents, ents_append l q (i + 1), List.length_cons]
   rw [show i + 1 + l.length = i + (l.length + 1) by omega]
theorem ents_at : ∀ (l : List (Bs × Bs)) (i k : Nat), (ents i l)[k]? = (l[k]?).map fun q => ⟨kv q, .int .i64 1, i + k⟩
 | [], _, _ => rfl
 | p :: l, i, 0 => rfl
 | p :: l, i, k + 1 => by
   simp only [ents, List.getElem?_cons_succ, ents_at l (i + 1) k]
   rw [show i + 1 + k = i + (k + 1) by omega]
theorem born_ge : ∀ (l : List (Bs × Bs)) (i : Nat), ∀ b ∈ (ents i l).map (·.born), i ≤ b ∧ b < i + l.length
 | [], _, b, h => by cases h
 | p :: l, i, b, h => by
   simp only [ents, List.map_cons, List.mem_cons] at h
   rcases h with rfl | h
   ·simp
   ·have := born_ge l (i + 1) b h
    rw [List.length_cons]
    omega
theorem born_nd : ∀ (l : List (Bs × Bs)) (i : Nat), ((ents i l).map (·.born)).Nodup
 | [], _ => List.nodup_nil
 | p :: l, i => by
   simp only [ents, List.map_cons]
   refine List.nodup_cons.2 ⟨fun h => ?_, born_nd l (i + 1)⟩
   have := born_ge l (i + 1) i h
   omega
theorem born_nodup (l : List (Bs × Bs)) (q : Bs × Bs) : ((ents 0 l).toArray.toList.map (·.born) ++ [l.length]).Nodup := by
 refine List.nodup_append.2 ⟨born_nd l 0, by simp, fun a ha b hb e => ?_⟩
 rw [List.mem_singleton] at hb
 have := born_ge l 0 a ha
 omega
theorem modify_same {α : Type} (f : α → α) : ∀ (l : List α) (k : Nat) (a : α), l[k]? = some a → f a = a → l.modify k f = l
 | [], _, _, h, _ => by cases h
 | b :: l, 0, a, h, hf => by
   have e : b = a := Option.some.inj h
   subst e
   rw [List.modify_zero_cons, hf]
 | b :: l, k + 1, a, h, hf => by rw [List.modify_succ_cons, modify_same f l k a h hf]
theorem asking_miss (W : World) (q : Bs × Bs) : ∀ (l : List (Bs × Bs)) (i j : Nat), q ∉ l → (Instr.findAsking 88 (kv q) (ents i l) j).run Tryz.prog W = .ok none W
 | [], _, _, _ => rfl
 | p :: l, i, j, h => by
   have hne : (q == p) = false := beq_eq_false_iff_ne.2 fun e => h (by rw [e]; exact List.mem_cons_self)
   simp only [ents, Instr.findAsking, Sem.run_bind, eq182, hne, Result.andThen_ok, Bool.false_eq_true, if_false]
   exact asking_miss W q l (i + 1) (j + 1) fun hc => h (List.mem_cons_of_mem _ hc)
theorem asking_hit (W : World) (q : Bs × Bs) : ∀ (l : List (Bs × Bs)) (i j : Nat), q ∈ l → ∃ m, l[m]? = some q ∧ (∀ k, k < m → l[k]? ≠ some q) ∧ (Instr.findAsking 88 (kv q) (ents i l) j).run Tryz.prog W = .ok (some (j + m, .int .i64 1)) W
 | [], _, _, h => by cases h
 | p :: l, i, j, h => by
   by_cases e : q = p
   ·subst e
    refine ⟨0, rfl, fun k hk => absurd hk (by omega), ?_⟩
    simp only [ents, Instr.findAsking, Sem.run_bind, eq182, Result.andThen_ok, beq_self_eq_true, if_true]
    rfl
   ·have hne : (q == p) = false := beq_eq_false_iff_ne.2 e
    obtain ⟨m, hm, hfst, hr⟩ := asking_hit W q l (i + 1) (j + 1) (by
     rcases List.mem_cons.1 h with h | h
     ·exact absurd h e
     ·exact h)
    refine ⟨m + 1, hm, fun k hk => ?_, ?_⟩
    ·cases k with
     | zero =>
       intro h
       exact e (Option.some.inj h).symm
     | succ k => exact hfst k (by omega)
    simp only [ents, Instr.findAsking, Sem.run_bind, eq182, hne, Result.andThen_ok, Bool.false_eq_true, if_false]
    rw [hr, show j + 1 + m = j + (m + 1) by omega]
theorem asking_last (W : World) (q : Bs × Bs) (v : Value) (n : Nat) : ∀ (l : List (Bs × Bs)) (i j : Nat), q ∉ l → (Instr.findAsking 88 (kv q) (ents i l ++ [⟨kv q, v, n⟩]) j).run Tryz.prog W = .ok (some (j + l.length, v)) W
 | [], _, j, _ => by
   simp only [ents, List.nil_append, Instr.findAsking, Sem.run_bind, eq182, Result.andThen_ok, beq_self_eq_true, if_true]
   rfl
 | p :: l, i, j, h => by
   have hne : (q == p) = false := beq_eq_false_iff_ne.2 fun e => h (by rw [e]; exact List.mem_cons_self)
   simp only [ents, List.cons_append, Instr.findAsking, Sem.run_bind, eq182, hne, Result.andThen_ok, Bool.false_eq_true, if_false]
   rw [asking_last W q v n l (i + 1) (j + 1) fun hc => h (List.mem_cons_of_mem _ hc), List.length_cons, show j + 1 + l.length = j + (l.length + 1) by omega]
def two (e : MapEntry) : MapEntry := { e with val := .int .i64 2 }
theorem asking_two (W : World) (q : Bs × Bs) : ∀ (l : List (Bs × Bs)) (i j m : Nat), l[m]? = some q → (∀ k, k < m → l[k]? ≠ some q) → (Instr.findAsking 88 (kv q) ((ents i l).modify m two) j).run Tryz.prog W = .ok (some (j + m, .int .i64 2)) W
 | [], _, _, _, h, _ => by cases h
 | p :: l, i, j, 0, h, _ => by
   have e : p = q := Option.some.inj h
   subst e
   simp only [ents, List.modify_zero_cons, two, Instr.findAsking, Sem.run_bind, eq182, Result.andThen_ok, beq_self_eq_true, if_true]
   rfl
 | p :: l, i, j, m + 1, h, hf => by
   have hne : (q == p) = false := beq_eq_false_iff_ne.2 fun e => hf 0 (by omega) (by rw [e]; rfl)
   simp only [ents, List.modify_succ_cons, Instr.findAsking, Sem.run_bind, eq182, hne, Result.andThen_ok, Bool.false_eq_true, if_false]
   rw [asking_two W q l (i + 1) (j + 1) m h fun k hk => hf (k + 1) (by omega), show j + 1 + m = j + (m + 1) by omega]
theorem same_kv (q : Bs × Bs) : Instr.sameBits 10000 (kv q) (kv q) = true := by
 have h1 : (M q.1 == M q.1) = true := (MapKept.bytes_beq _ _).2 rfl
 have h2 : (M q.2 == M q.2) = true := (MapKept.bytes_beq _ _).2 rfl
 simp [Instr.sameBits, h1, h2]
theorem find_eq (W : World) (q : Bs × Bs) (es : List MapEntry) : (Instr.findKey 88 (kv q) es).run Tryz.prog W = (Instr.findAsking 88 (kv q) es 0).run Tryz.prog W := by
 exact Go.run_findKey_eq W (by rw [Tryz.underlying88]) (kv q) es
def MapAt (W : World) (m : Nat) (l : List (Bs × Bs)) : Prop := W.heap[m]? = some (.map (ents 0 l).toArray l.length)
theorem MapAt.lt {W : World} {m : Nat} {l : List (Bs × Bs)} (h : MapAt W m l) : m < W.heap.size := (Array.getElem?_eq_some_iff.1 h).1
theorem MapAt.below {W W' : World} {m : Nat} {l : List (Bs × Bs)} (h : MapAt W m l) (hb : Below W.heap.size W W') : MapAt W' m l := (hb.block m h.lt).trans h
section
variable {W : World} {m : Nat} {l : List (Bs × Bs)} (h : MapAt W m l) (q : Bs × Bs)
include h
theorem look_miss (hq : q ∉ l) : (Instr.lookup 89 (.map (some m)) (kv q) false).run Tryz.prog W = .ok (.int .i64 0) W := by
 have hz : (zeroValue 3).run Tryz.prog W = .ok (.int .i64 0) W := by kernel_rfl
 have hf := find_eq W q (ents 0 l)
 rw [asking_miss W q l 0 0 hq] at hf
 simp [Instr.lookup, run_underlying Tryz.underlying89, MapKept.run_getObj_map h, check182, hf, hz, Result.andThen]
theorem look_hit (hq : q ∈ l) : (Instr.lookup 89 (.map (some m)) (kv q) false).run Tryz.prog W = .ok (.int .i64 1) W := by
 obtain ⟨k, hk, _, hr⟩ := asking_hit W q l 0 0 hq
 have hf := find_eq W q (ents 0 l)
 rw [hr] at hf
 simp [Instr.lookup, run_underlying Tryz.underlying89, MapKept.run_getObj_map h, check182, hf, Result.andThen]
theorem entry_miss (hq : q ∉ l) : (Instr.mapEntry 89 (.map (some m)) (kv q)).run Tryz.prog W = .ok (.tuple #[.int .i64 0, goInt l.length]) { W with heap := W.heap.setIfInBounds m (.map ((ents 0 l).toArray.push ⟨kv q, .int .i64 0, l.length⟩) (l.length + 1)) } := by
 have hz : ∀ W, (zeroValue 3).run Tryz.prog W = .ok (.int .i64 0) W := fun W => by kernel_rfl
 have hf := find_eq W q (ents 0 l)
 rw [asking_miss W q l 0 0 hq] at hf
 simp [Instr.mapEntry, run_underlying Tryz.underlying89, MapKept.run_getObj_map h, check182, hf, hz, MapKept.run_setObj_map _ h, Result.andThen]
theorem entry_hit (hq : q ∈ l) : ∃ k : Nat, l[k]? = some q ∧ (∀ j : Nat, j < k → l[j]? ≠ some q) ∧ (Instr.mapEntry 89 (.map (some m)) (kv q)).run Tryz.prog W = .ok (.tuple #[.int .i64 1, goInt k]) { W with heap := W.heap.setIfInBounds m (.map (ents 0 l).toArray l.length) } := by
 obtain ⟨k, hk, hfst, hr⟩ := asking_hit W q l 0 0 hq
 have hf := find_eq W q (ents 0 l)
 rw [hr] at hf
 rw [Nat.zero_add] at hf
 have hek : (ents 0 l)[k]? = some ⟨kv q, .int .i64 1, k⟩ := by rw [ents_at l 0 k, hk]; simp
 have hmod : (ents 0 l).toArray.modify k (fun e => { e with key := kv q }) = (ents 0 l).toArray := by
  apply Array.ext'
  rw [Array.toList_modify]
  exact modify_same _ _ _ _ hek rfl
 refine ⟨k, hk, hfst, ?_⟩
 have hst : ∀ W, (Instr.keyThatStays (kv q) (kv q)).run Tryz.prog W = .ok (kv q) W := fun W => by
  unfold Instr.keyThatStays
  rw [if_pos (same_kv q)]
  rfl
 have hek2 : (ents 0 l).toArray[k]? = some ⟨kv q, .int .i64 1, k⟩ := by simpa using hek
 simp only [Instr.mapEntry, Sem.run_bind, run_underlying Tryz.underlying89, MapKept.run_getObj_map h, check182, hf, Result.andThen_ok, hek2, Option.map_some, Option.getD_some, hst, hmod, MapKept.run_setObj_map _ h]
 rfl
end
theorem store_new {W : World} {m : Nat} (l : List (Bs × Bs)) (q : Bs × Bs) (v : Value) (h : W.heap[m]? = some (.map ((ents 0 l).toArray.push ⟨kv q, .int .i64 0, l.length⟩) (l.length + 1))) :
  (Instr.entryStore 89 (.map (some m)) (goInt l.length) (.int .i64 1)).run Tryz.prog W = .ok () { W with heap := W.heap.setIfInBounds m (.map (ents 0 (l ++ [q])).toArray (l.length + 1)) } := by
 have hidx : ((ents 0 l).toArray.push ⟨kv q, .int .i64 0, l.length⟩).findIdx? (fun e => ((e.born : Nat) : Int) == ((l.length : Nat) : Int)) = some l.length := by
  rw [Go.WideElems.findIdx_arr]
  refine Go.WideElems.findIdx_born (l := ((ents 0 l).toArray.push ⟨kv q, .int .i64 0, l.length⟩).toList) (j := l.length) (e0 := ⟨kv q, .int .i64 0, l.length⟩) ?_ ?_
  ·rw [Array.toList_push, List.map_append, List.map_singleton]
   exact born_nodup l q
  ·rw [Array.toList_push, List.getElem?_append_right (by simp [ents_len])]
   simp [ents_len]
 have hmod : ((ents 0 l).toArray.push ⟨kv q, .int .i64 0, l.length⟩).modify l.length (fun e => { e with val := .int .i64 1 }) = (ents 0 (l ++ [q])).toArray := by
  apply Array.ext'
  rw [Array.toList_modify, Array.toList_push, ents_append, Nat.zero_add]
  have := Go.WideElems.modify_last (fun e : MapEntry => { e with val := .int .i64 1 }) ⟨kv q, .int .i64 0, l.length⟩ (ents 0 l)
  rw [ents_len] at this
  exact this
 generalize (ents 0 l).toArray.push ⟨kv q, .int .i64 0, l.length⟩ = es at *
 simp [Instr.entryStore, MapKept.run_getObj_map h, asInt, asIntOf, goInt, hidx, hmod, MapKept.run_setObj_map _ h, Result.andThen]
theorem store_two {W : World} {m k : Nat} {l : List (Bs × Bs)} {q : Bs × Bs} (hk : l[k]? = some q) (h : MapAt W m l) :
  (Instr.entryStore 89 (.map (some m)) (goInt k) (.int .i64 2)).run Tryz.prog W = .ok () { W with heap := W.heap.setIfInBounds m (.map ((ents 0 l).modify k two).toArray l.length) } := by
 have hek : (ents 0 l)[k]? = some ⟨kv q, .int .i64 1, k⟩ := by rw [ents_at l 0 k, hk]; simp
 have hidx : (ents 0 l).toArray.findIdx? (fun e => ((e.born : Nat) : Int) == ((k : Nat) : Int)) = some k := by
  rw [Go.WideElems.findIdx_arr]
  exact Go.WideElems.findIdx_born (l := ents 0 l) (j := k) (e0 := ⟨kv q, .int .i64 1, k⟩) (born_nd l 0) hek
 have hmod : (ents 0 l).toArray.modify k (fun e => { e with val := .int .i64 2 }) = ((ents 0 l).modify k two).toArray := by
  apply Array.ext'
  rw [Array.toList_modify]
  rfl
 simp [Instr.entryStore, MapKept.run_getObj_map h, asInt, asIntOf, goInt, hidx, hmod, MapKept.run_setObj_map _ h, Result.andThen]
theorem look_two {W : World} {m k : Nat} {l : List (Bs × Bs)} {q : Bs × Bs} (hk : l[k]? = some q) (hf : ∀ j, j < k → l[j]? ≠ some q) (h : W.heap[m]? = some (.map ((ents 0 l).modify k two).toArray l.length)) :
  (Instr.lookup 89 (.map (some m)) (kv q) false).run Tryz.prog W = .ok (.int .i64 2) W := by
 have hr := asking_two W q l 0 0 k hk hf
 have hf := find_eq W q ((ents 0 l).modify k two)
 rw [hr] at hf
 simp [Instr.lookup, run_underlying Tryz.underlying89, MapKept.run_getObj_map h, check182, hf, Result.andThen]
def entA (l : List (Bs × Bs)) : Array MapEntry := (ents 0 l).toArray
def entN (l : List (Bs × Bs)) (q : Bs × Bs) : Array MapEntry := (ents 0 l).toArray.push ⟨kv q, .int .i64 0, l.length⟩
def entT (l : List (Bs × Bs)) (k : Nat) : Array MapEntry := ((ents 0 l).modify k two).toArray
def setM (W : World) (m : Nat) (es : Array MapEntry) (c : Nat) : World := { W with heap := W.heap.setIfInBounds m (.map es c) }
theorem setM_heap {W : World} {m : Nat} (h : m < W.heap.size) (es : Array MapEntry) (c : Nat) : (setM W m es c).heap[m]? = some (.map es c) := by
 unfold setM
 simp [h]
theorem setM_other {W : World} {m k : Nat} (h : k ≠ m) (es : Array MapEntry) (c : Nat) : (setM W m es c).heap[k]? = W.heap[k]? := by
 unfold setM
 rw [Array.getElem?_setIfInBounds_ne (fun e => h e.symm)]
theorem setM_set (W : World) (m : Nat) (es es' : Array MapEntry) (c c' : Nat) : setM (setM W m es c) m es' c' = setM W m es' c' := by
 unfold setM
 simp
theorem setM_below {W : World} {m B : Nat} (h : B ≤ m) (es : Array MapEntry) (c : Nat) : Below B W (setM W m es c) :=
 ⟨rfl, rfl, rfl, by unfold setM; simp, fun k hk => setM_other (by omega) es c⟩
section
variable {W : World} {m : Nat} {l : List (Bs × Bs)} (h : MapAt W m l) (q : Bs × Bs)
include h
theorem mis_entry (hq : q ∉ l) : (Instr.mapEntry 89 (.map (some m)) (kv q)).run Tryz.prog W = .ok (.tuple #[.int .i64 0, .int .i64 (l.length : Int)]) (setM W m (entN l q) (l.length + 1)) := entry_miss h q hq
theorem mis_look (hq : q ∉ l) : (Instr.lookup 89 (.map (some m)) (kv q) false).run Tryz.prog (setM W m (entN l q) (l.length + 1)) = .ok (.int .i64 0) (setM W m (entN l q) (l.length + 1)) := by
 have hr : (Instr.findAsking 88 (kv q) (ents 0 l ++ [⟨kv q, .int .i64 0, l.length⟩]) 0).run Tryz.prog (setM W m (entN l q) (l.length + 1)) = .ok (some (0 + l.length, .int .i64 0)) (setM W m (entN l q) (l.length + 1)) := asking_last _ q (.int .i64 0) _ l 0 0 hq
 have hf := find_eq (setM W m (entN l q) (l.length + 1)) q (ents 0 l ++ [⟨kv q, .int .i64 0, l.length⟩])
 rw [hr] at hf
 have hh := setM_heap h.lt (entN l q) (l.length + 1)
 have he : (entN l q).toList = ents 0 l ++ [⟨kv q, .int .i64 0, l.length⟩] := by unfold entN; simp
 generalize entN l q = es at *
 simp [Instr.lookup, run_underlying Tryz.underlying89, MapKept.run_getObj_map hh, check182, he, hf, Result.andThen]
theorem mis_store (hq : q ∉ l) : (Instr.entryStore 89 (.map (some m)) (.int .i64 (l.length : Int)) (.int .i64 1)).run Tryz.prog (setM W m (entN l q) (l.length + 1)) = .ok () (setM W m (entA (l ++ [q])) (l ++ [q]).length) := by
 have := store_new (W := setM W m (entN l q) (l.length + 1)) (m := m) l q (.int .i64 1) (setM_heap h.lt _ _)
 rw [show ({ setM W m (entN l q) (l.length + 1) with heap := (setM W m (entN l q) (l.length + 1)).heap.setIfInBounds m (.map (ents 0 (l ++ [q])).toArray (l.length + 1)) } : World) = setM (setM W m (entN l q) (l.length + 1)) m (entA (l ++ [q])) (l.length + 1) from rfl, setM_set] at this
 rw [List.length_append, List.length_singleton]
 unfold goInt at this
 exact this
theorem mis_map : MapAt (setM W m (entA (l ++ [q])) (l ++ [q]).length) m (l ++ [q]) := by
 unfold MapAt
 exact setM_heap h.lt (entA (l ++ [q])) (l ++ [q]).length
theorem hit_entry (hq : q ∈ l) : ∃ k : Nat, l[k]? = some q ∧ (∀ j : Nat, j < k → l[j]? ≠ some q) ∧ (Instr.mapEntry 89 (.map (some m)) (kv q)).run Tryz.prog W = .ok (.tuple #[.int .i64 1, .int .i64 (k : Int)]) (setM W m (entA l) l.length) := entry_hit h q hq
theorem hit_map : MapAt (setM W m (entA l) l.length) m l := by
 unfold MapAt
 exact setM_heap h.lt (entA l) l.length
theorem hit_store {k : Nat} (hk : l[k]? = some q) : (Instr.entryStore 89 (.map (some m)) (.int .i64 (k : Int)) (.int .i64 2)).run Tryz.prog (setM W m (entA l) l.length) = .ok () (setM W m (entT l k) l.length) := by
 have := store_two hk (hit_map h)
 rw [show ({ setM W m (entA l) l.length with heap := (setM W m (entA l) l.length).heap.setIfInBounds m (.map ((ents 0 l).modify k two).toArray l.length) } : World) = setM (setM W m (entA l) l.length) m (entT l k) l.length from rfl, setM_set] at this
 exact this
theorem hit_look {k : Nat} (hk : l[k]? = some q) (hf : ∀ j, j < k → l[j]? ≠ some q) : (Instr.lookup 89 (.map (some m)) (kv q) false).run Tryz.prog (setM W m (entT l k) l.length) = .ok (.int .i64 2) (setM W m (entT l k) l.length) := look_two hk hf (setM_heap h.lt _ _)
end
end Go.Proofs.YtadgeghipimfiaaGreatDoor.X
end
section
namespace Go.Proofs.YtadgeghipimfiaaGreatDoor.X
open Go.RowKit Go.Shelf Go.Proofs.YtadgeghipimfiaaGreatDoorW.PrintWords Go.Proofs.YtadgeghipimfiaaGreatDoor.F Go.Proofs.YtadgeghipimfiaaGreatDoor.Pg Go.Proofs.YtadgeghipimfiaaGreatDoor.Z
set_option linter.unusedVariables false
set_option linter.unusedSimpArgs false
theorem checkM (l : Bs) (w : World) (hG : Glob w) (hs : l.length ≤ 9223372036854775807) : Calls Tryz.prog 9 #[.string (M l)] w fun e w' => e = .returned (.int .i64 (U.checkL l.length l)) ∧ Below w.heap.size w w' := by
 have := check_calls (M l) w hG hs
 rw [show checkR (M l) = U.checkL l.length l from U.checkR_eq l] at this
 exact this
set_option maxRecDepth 100000 in
set_option maxHeartbeats 2000000 in
theorem text_calls (g c : Nat) (l : List Bs) (w : World) (hG : Glob w) (hr : StrRow w g l) (hg : g < w.heap.size) (hl : l.length ≤ 1000) (hs : ∀ s ∈ l, s.length ≤ 9223372036854775807) :
  Calls Tryz.prog 23 #[.slice (some ⟨g, 0, none⟩) l.length c] w fun e w' => e = .returned (.bool (l.all textOk)) ∧ Below w.heap.size w w' := by
 have HR := Lib.hid hr
 have HG := Lib.hid hG
 have HS := Lib.hid hs
 obtain ⟨bb, hbb⟩ : ∃ bb, bb = l.all textOk := ⟨_, rfl⟩
 have HB0 := Lib.hid hbb
 rw [← hbb]
 clear hr hG hs hbb
 go_enter Tryz.func23, Tryz.ntmps23
 go_wp2
 go_loopw [7] (fun v7 wr => ∃ (k : Nat), v7 = .int .i64 k ∧ k ≤ l.length ∧ Aside0 (Below w.heap.size w wr ∧ (l.take k).all textOk = true)) (fun v7 _ => l.length - (intOf v7).toNat)
 case atStart => exact ⟨0, rfl, by omega, ⟨Below.refl _ _, rfl⟩⟩
 case round =>
  obtain ⟨k, rfl, hk, HB⟩ := hrel
  by_cases hlt : k < l.length
  ·have c0 := (HR.out.below HB.out.1 hg) k hlt
   have hGr := HG.out.below HB.out.1
   have hsk := HS.out l[k] (List.getElem_mem hlt)
   have hstep : ∀ x : Bool, textOk l[k] = x → (l.take (k + 1)).all textOk = x := fun x hx => by
    rw [List.take_add_one, List.getElem?_eq_getElem hlt, Option.toList_some, List.all_append, HB.out.2]
    simpa using hx
   obtain ⟨z, hz⟩ : ∃ z, z = U.checkL l[k].length l[k] := ⟨_, rfl⟩
   have hzt : textOk l[k] = (z == 0) := by rw [hz]; rfl
   have hall : textOk l[k] = false → l.all textOk = false := fun h => by
    rw [List.all_eq_false]
    exact ⟨l[k], List.getElem_mem hlt, by rw [h]; simp⟩
   have HC := Lib.hid (checkM l[k] wr hGr hsk)
   rw [← hz] at HC
   have HK := Lib.hid (And.intro hstep (And.intro hzt hall))
   clear hGr hsk hstep hzt hall hz
   go_wp2_with fail
   refine HC.out.mono ?_
   rintro e w1 ⟨rfl, h1⟩
   have H1 := Lib.hid (HB.out.1.trans (h1.mono HB.out.1.size))
   clear h1 HC
   by_cases hz0 : z = 0
   ·subst hz0
    have H2 := Aside0.mk (And.intro H1.out (HK.out.1 true (by rw [HK.out.2.1]; rfl)))
    clear H1
    go_wp2
    go_roundw
    case rel => exact ⟨k + 1, by go_num, by omega, H2⟩
    case measure => simp [intOf]; omega
   ·have hne : (z == 0) = false := beq_eq_false_iff_ne.2 hz0
    have hb0 : bb = false := by rw [HB0.out]; exact HK.out.2.2 (by rw [HK.out.2.1]; exact hne)
    subst hb0
    go_wp2
    go_ret
    exact ⟨rfl, H1.out⟩
  ·have hb1 : bb = true := by
    rw [HB0.out]
    have := HB.out.2
    rw [List.take_of_length_le (by omega)] at this
    exact this
   subst hb1
   go_wp2
   go_ret
   exact ⟨rfl, HB.out.1⟩
abbrev opC (f : Fr) (va vk vs : Value) : Array Value := #[.string (M f.tag), .int .i64 0, .string (M f.sp), .string (M f.nm), va, vk, .string ⟨#[]⟩, vs]
def ScAt (W : World) (base : Nat) (vs : Value) (l : List (Bs × Bs)) : Prop := ∃ A c c', vs = .slice A l.length c' ∧ l.length ≤ c' ∧ kPair.R 144 W base (fun _ => True) (.slice A l.length c) l
theorem ScAt.imp {W W' : World} {base base' : Nat} {vs : Value} {l : List (Bs × Bs)} (h : ScAt W base vs l) (hi : ∀ v, kPair.R 144 W base (fun _ => True) v l → kPair.R 144 W' base' (fun _ => True) v l) : ScAt W' base' vs l := by
 obtain ⟨A, c, c', e, hle, hr⟩ := h
 exact ⟨A, c, c', e, hle, hi _ hr⟩
structure FrAt (W : World) (base : Nat) (f : Fr) (eb : Nat) (vk : Value) (ex : List (Option Nat)) : Prop where
 blk : ∃ va vs, Blk W eb (opC f va vk vs) 105 ∧ kAttr.R 38 W base (fun _ => True) va f.attrs ∧ ScAt W base vs f.scope
 kids : kTr.R 25 W base (fun k => ∀ o ∈ ex, some k ≠ o) vk f.kids
 ge : base ≤ eb
theorem FrAt.less {W : World} {base : Nat} {f : Fr} {eb : Nat} {vk : Value} {ex ex' : List (Option Nat)} (h : FrAt W base f eb vk ex) (he : ∀ o ∈ ex', o = none ∨ o ∈ ex) : FrAt W base f eb vk ex' :=
 ⟨h.blk, Kd.R_mono h.kids fun k hk o ho => (he o ho).elim (fun e => by rw [e]; simp) (fun e => hk o e), h.ge⟩
theorem FrAt.own {W : World} {base : Nat} {f : Fr} {eb : Nat} {vk : Value} {ex : List (Option Nat)} (h : FrAt W base f eb vk ex) : ∀ k, vk.ownBlock = some k → base ≤ k ∧ k < W.heap.size ∧ (∃ cs, W.heap[k]? = some (.cells cs 25 (0, 0))) ∧ ∀ o ∈ ex, some k ≠ o := fun k hk => by
 obtain ⟨xs, hx⟩ := Kd.R_own h.kids
 exact ⟨(hx.lt k hk).1, (hx.lt k hk).2, own_typed hx k hk, h.kids.1 k hk⟩
theorem FrAt.below {W W' : World} {base : Nat} {f : Fr} {eb : Nat} {vk : Value} {ex : List (Option Nat)} (h : FrAt W base f eb vk ex) (hb : Below W.heap.size W W') : FrAt W' base f eb vk ex := by
 obtain ⟨va, vs, hk, ha, hs⟩ := h.blk
 exact ⟨⟨va, vs, hk.below hb hk.lt, Kd.R_below ha hb, hs.imp fun _ h => Kd.R_below h hb⟩, Kd.R_below h.kids hb, h.ge⟩
theorem FrAt.far {W : World} {base : Nat} {f : Fr} {eb : Nat} {vk : Value} {ex : List (Option Nat)} (h : FrAt W base f eb vk ex) {p : Nat} {cs : Array Value} {t : TypeId} (hp : W.heap[p]? = some (.cells cs t (0, 0))) (hne : eb ≠ p) (h1 : t ≠ 25) (h2 : t ≠ 38) (h3 : t ≠ 144) (i : Nat) (u : Value) : FrAt (W.setCell ⟨p, i, none⟩ u) base f eb vk ex := by
 obtain ⟨va, vs, hk, ha, hs⟩ := h.blk
 refine ⟨⟨va, vs, (Below.heap_setCell _ _ _ _ (show eb ≠ p from hne)).trans hk, Kd.R_set ha hp (fun q hq => ?_) i u, hs.imp fun _ h => Kd.R_set h hp (fun q hq => ?_) i u⟩, Kd.R_set h.kids hp (fun q hq => ?_) i u, h.ge⟩
 ·have : q = 38 := by simpa [kAttr, Kd.iso, Kd.pair, Kd.string, Kd.scalar] using hq
  rw [this]; exact fun e => h2 e.symm
 ·have : q = 144 := by simpa [kPair, k144, Kd.iso, Kd.pair, Kd.string, Kd.scalar] using hq
  rw [this]; exact fun e => h3 e.symm
 ·have : q = 25 ∨ q = 38 ∨ q = 25 := by simpa [kTr_E] using hq
  rcases this with e | e | e
  ·rw [e]; exact fun e => h1 e.symm
  ·rw [e]; exact fun e => h2 e.symm
  ·rw [e]; exact fun e => h1 e.symm
theorem FrAt.grown {W W' : World} {base : Nat} {f : Fr} {eb : Nat} {vk v0 v1 : Value} {ex : List (Option Nat)} (h : FrAt W base f eb vk (v0.ownBlock :: ex)) (hg : W.grownBy W' v0.ownBlock) (h0 : ∀ k, v0.ownBlock = some k → ∃ cs, W.heap[k]? = some (.cells cs 25 (0, 0)))
  (h1 : v1.ownBlock = v0.ownBlock ∨ ∃ b, v1.ownBlock = some b ∧ W.heap.size ≤ b) : FrAt W' base f eb vk (v1.ownBlock :: ex) := by
 obtain ⟨va, vs, hk, ha, hs⟩ := h.blk
 have hty : ∀ {α : Type} {d : Kd α} {e : Nat} {v : Value} {xs : List α}, d.R e W base (fun _ => True) v xs → (∀ q ∈ e :: d.E, q ≠ 25) → d.R e W' base (fun _ => True) v xs := by
  intro α d e v xs hr hq
  cases hv : v0.ownBlock with
  | none =>
    rw [hv] at hg
    exact Kd.R_grown hr hg (fun k _ => by simp)
  | some g =>
    obtain ⟨cs, hcs⟩ := h0 g hv
    rw [hv] at hg
    exact Kd.R_mono (Kd.R_grown (Kd.R_types hr hcs hq) hg (fun k hk e => hk.2 (Option.some.inj e))) (fun _ _ => trivial)
 have hkids : kTr.R 25 W' base (fun k => (∀ o ∈ v0.ownBlock :: ex, some k ≠ o) ∧ k < W.heap.size) vk f.kids :=
  Kd.R_grown (Kd.R_mono (Kd.R_bound h.kids) (fun k hk => ⟨hk.1, hk.2.2.1⟩)) hg (fun k hk => hk.1 _ List.mem_cons_self)
 refine ⟨⟨va, vs, (hg.block eb hk.lt (fun e => ?_)).trans hk, hty ha (by decide), hs.imp fun _ h => hty h (by decide)⟩, Kd.R_mono hkids (fun k hk o ho => ?_), h.ge⟩
 ·obtain ⟨cs, hcs⟩ := h0 eb e.symm
  exact ne_of_type hk hcs (by decide) rfl
 ·rcases List.mem_cons.1 ho with rfl | ho
  ·rcases h1 with h1 | ⟨b, hb, hbl⟩
   ·rw [h1]; exact hk.1 _ List.mem_cons_self
   ·rw [hb]
    intro e
    have := Option.some.inj e
    omega
  ·exact hk.1 o (List.mem_cons_of_mem _ ho)
abbrev owns (es : List (Nat × Value)) : List (Option Nat) := es.map fun e => e.2.ownBlock
def Frs (W : World) (base : Nat) : List Fr → List (Nat × Value) → List (Option Nat) → Prop
 | [], [], _ => True
 | f :: fs, e :: es, ex => FrAt W base f e.1 e.2 (owns es ++ ex) ∧ (∀ e' ∈ es, e'.1 ≠ e.1) ∧ Frs W base fs es (e.2.ownBlock :: ex)
 | _, _, _ => False
theorem Frs.len {W : World} {base : Nat} : ∀ {fs : List Fr} {es : List (Nat × Value)} {ex : List (Option Nat)}, Frs W base fs es ex → fs.length = es.length
 | [], [], _, _ => rfl
 | _ :: _, _ :: _, _, h => by rw [List.length_cons, List.length_cons, h.2.2.len]
 | [], _ :: _, _, h => h.elim
 | _ :: _, [], _, h => h.elim
theorem Frs.less {W : World} {base : Nat} : ∀ {fs : List Fr} {es : List (Nat × Value)} {ex ex' : List (Option Nat)}, Frs W base fs es ex → (∀ o ∈ ex', o = none ∨ o ∈ ex) → Frs W base fs es ex'
 | [], [], _, _, _, _ => trivial
 | _ :: _, _ :: _, ex, ex', h, he => ⟨h.1.less fun o ho => by
    rcases List.mem_append.1 ho with ho | ho
    ·exact .inr (List.mem_append_left _ ho)
    ·exact (he o ho).imp id (fun h => List.mem_append_right _ h), h.2.1, h.2.2.less fun o ho => by
    rcases List.mem_cons.1 ho with rfl | ho
    ·exact .inr List.mem_cons_self
    ·exact (he o ho).imp id (fun h => List.mem_cons_of_mem _ h)⟩
 | [], _ :: _, _, _, h, _ => h.elim
 | _ :: _, [], _, _, h, _ => h.elim
theorem Frs.map {W W' : World} {base : Nat} (P : Nat → Prop) (hP : ∀ {f : Fr} {eb : Nat} {vk : Value} {ex : List (Option Nat)}, FrAt W base f eb vk ex → P eb → FrAt W' base f eb vk ex) : ∀ {fs : List Fr} {es : List (Nat × Value)} {ex : List (Option Nat)}, Frs W base fs es ex → (∀ e ∈ es, P e.1) → Frs W' base fs es ex
 | [], [], _, _, _ => trivial
 | _ :: _, e :: _, _, h, hp => ⟨hP h.1 (hp e List.mem_cons_self), h.2.1, Frs.map P hP h.2.2 fun e' he => hp e' (List.mem_cons_of_mem _ he)⟩
 | [], _ :: _, _, h, _ => h.elim
 | _ :: _, [], _, h, _ => h.elim
theorem Frs.below {W W' : World} {base : Nat} {fs : List Fr} {es : List (Nat × Value)} {ex : List (Option Nat)} (h : Frs W base fs es ex) (hb : Below W.heap.size W W') : Frs W' base fs es ex := h.map (fun _ => True) (fun hf _ => hf.below hb) fun _ _ => trivial
theorem Frs.far {W : World} {base : Nat} {fs : List Fr} {es : List (Nat × Value)} {ex : List (Option Nat)} (h : Frs W base fs es ex) {p : Nat} {cs : Array Value} {t : TypeId} (hp : W.heap[p]? = some (.cells cs t (0, 0))) (hne : ∀ e ∈ es, e.1 ≠ p) (h1 : t ≠ 25) (h2 : t ≠ 38) (h3 : t ≠ 144) (i : Nat) (u : Value) : Frs (W.setCell ⟨p, i, none⟩ u) base fs es ex :=
 h.map (fun k => k ≠ p) (fun hf hn => hf.far hp hn h1 h2 h3 i u) hne
theorem Frs.ofType {W : World} {base : Nat} : ∀ {fs : List Fr} {es : List (Nat × Value)} {ex : List (Option Nat)}, Frs W base fs es ex → ∀ e ∈ es, ∃ cs, W.heap[e.1]? = some (.cells cs 105 (0, 0))
 | [], [], _, _, _, he => by cases he
 | _ :: _, e :: _, _, h, e', he => by
   rcases List.mem_cons.1 he with rfl | he
   ·obtain ⟨va, vs, hb, _⟩ := h.1.blk
    exact ⟨_, hb⟩
   ·exact h.2.2.ofType e' he
 | [], _ :: _, _, h, _, _ => h.elim
 | _ :: _, [], _, h, _, _ => h.elim
theorem Frs.grown {W W' : World} {base : Nat} {v0 v1 : Value} : ∀ {fs : List Fr} {es : List (Nat × Value)} {ex : List (Option Nat)}, Frs W base fs es (v0.ownBlock :: ex) → W.grownBy W' v0.ownBlock → (∀ k, v0.ownBlock = some k → ∃ cs, W.heap[k]? = some (.cells cs 25 (0, 0))) →
  (v1.ownBlock = v0.ownBlock ∨ ∃ b, v1.ownBlock = some b ∧ W.heap.size ≤ b) → Frs W' base fs es (v1.ownBlock :: ex)
 | [], [], _, _, _, _, _ => trivial
 | f :: fs, e :: es, ex, h, hg, h0, h1 => by
   have ha := (h.1.less (ex' := v0.ownBlock :: (owns es ++ ex)) fun o ho => .inr (by
    rcases List.mem_cons.1 ho with rfl | ho
    ·exact List.mem_append_right _ List.mem_cons_self
    ·rcases List.mem_append.1 ho with ho | ho
     ·exact List.mem_append_left _ ho
     ·exact List.mem_append_right _ (List.mem_cons_of_mem _ ho))).grown hg h0 h1
   have hb := (h.2.2.less (ex' := v0.ownBlock :: e.2.ownBlock :: ex) fun o ho => .inr (by
    simp only [List.mem_cons] at ho ⊢
    rcases ho with h | h | h
    ·exact .inr (.inl h)
    ·exact .inl h
    ·exact .inr (.inr h))).grown hg h0 h1
   refine ⟨ha.less fun o ho => .inr ?_, h.2.1, hb.less fun o ho => .inr ?_⟩
   ·rcases List.mem_append.1 ho with ho | ho
    ·exact List.mem_cons_of_mem _ (List.mem_append_left _ ho)
    ·rcases List.mem_cons.1 ho with rfl | ho
     ·exact List.mem_cons_self
     ·exact List.mem_cons_of_mem _ (List.mem_append_right _ ho)
   ·simp only [List.mem_cons] at ho ⊢
    rcases ho with h | h | h
    ·exact .inr (.inl h)
    ·exact .inl h
    ·exact .inr (.inr h)
 | [], _ :: _, _, h, _, _, _ => h.elim
 | _ :: _, [], _, h, _, _, _ => h.elim
abbrev ptrs (es : List (Nat × Value)) : List Value := es.reverse.map fun e => .pointer (some ⟨e.1, 0, none⟩)
def RootAt (W : World) (base : Nat) (rv : Value) : Option Tr → Prop
 | none => rv = .pointer none
 | some t => ∃ rb cs, rv = .pointer (some ⟨rb, 0, none⟩) ∧ Blk W rb cs 25 ∧ kTr.M W base (fun _ => True) t cs.toList
theorem RootAt.below {W W' : World} {base : Nat} {rv : Value} {r : Option Tr} (h : RootAt W base rv r) (hb : Below W.heap.size W W') : RootAt W' base rv r := by
 cases r with
 | none => exact h
 | some t =>
   obtain ⟨rb, cs, e, hk, hM⟩ := h
   exact ⟨rb, cs, e, hk.below hb hk.lt, Kd.M_below (d := kTr) hM hb⟩
theorem RootAt.far {W : World} {base : Nat} {rv : Value} {r : Option Tr} (h : RootAt W base rv r) {p : Nat} {cs : Array Value} {t : TypeId} (hp : W.heap[p]? = some (.cells cs t (0, 0))) (h1 : t ≠ 25) (h2 : t ≠ 38) (i : Nat) (u : Value) : RootAt (W.setCell ⟨p, i, none⟩ u) base rv r := by
 cases r with
 | none => exact h
 | some x =>
   obtain ⟨rb, cs', e, hk, hM⟩ := h
   refine ⟨rb, cs', e, (Below.heap_setCell _ _ _ _ (show rb ≠ p from ne_of_type hk hp (fun e => h1 e.symm))).trans hk, ?_⟩
   have := Kd.M_types (d := kTr) hM hp (fun q hq => by
    have : q = 38 ∨ q = 25 := by simpa [kTr_E] using hq
    rcases this with e | e
    ·rw [e]; exact fun e => h2 e.symm
    ·rw [e]; exact fun e => h1 e.symm)
   exact kTr.M_mono (fun _ _ => trivial) (Kd.M_far (p := ⟨p, i, none⟩) this (fun _ hk => hk.2) u)
structure GrAt (W : World) (base gb : Nat) (g : Gr) (es : List (Nat × Value)) (sv rv : Value) : Prop where
 blk : Blk W gb #[sv, rv] 57
 stk : W.ownsRow base 100 1 sv es.length (ptrs es)
 root : RootAt W base rv g.root
 frs : Frs W base g.stack es []
 le : base ≤ gb
 single : g.stack ≠ [] → g.root = none
theorem GrAt.len {W : World} {base gb : Nat} {g : Gr} {es : List (Nat × Value)} {sv rv : Value} (h : GrAt W base gb g es sv rv) : g.stack.length = es.length := h.frs.len
theorem GrAt.below {W W' : World} {base gb : Nat} {g : Gr} {es : List (Nat × Value)} {sv rv : Value} (h : GrAt W base gb g es sv rv) (hb : Below W.heap.size W W') : GrAt W' base gb g es sv rv :=
 ⟨h.blk.below hb h.blk.lt, h.stk.kept (grown_of_below hb none) (by cases sv.ownBlock <;> simp), h.root.below hb, h.frs.below hb, h.le, h.single⟩
def topV : List (Nat × Value) → Value
 | [] => .pointer none
 | e :: _ => .pointer (some ⟨e.1, 0, none⟩)
set_option maxRecDepth 100000 in
set_option maxHeartbeats 1000000 in
theorem top_calls {W : World} {base gb : Nat} {g : Gr} {es : List (Nat × Value)} {sv rv : Value} (h : GrAt W base gb g es sv rv) (h30 : es.length ≤ 1000) :
  Calls Tryz.prog 68 #[.pointer (some ⟨gb, 0, none⟩)] W fun e w' => e = .returned (topV es) ∧ Below W.heap.size W w' := by
 have hc : W.cell? ⟨gb, 0, none⟩ = some sv := h.blk.cell 0
 have hst := h.stk
 clear h
 cases es with
 | nil =>
   rcases hst.2 with ⟨rfl, _⟩ | ⟨sg, cap, cur, rfl, _⟩
   ·go_enter Tryz.func68, Tryz.ntmps68
    go_wp2
    go_ret
    exact ⟨rfl, Below.refl _ _⟩
   ·go_enter Tryz.func68, Tryz.ntmps68
    go_wp2
    go_ret
    exact ⟨rfl, Below.refl _ _⟩
 | cons e es =>
   obtain ⟨sg, cap, rfl, _, _⟩ := hst.form (by simp)
   have hcell := hst.cellAt es.length (by simp)
   have hlast : (ptrs (e :: es))[es.length]? = some (.pointer (some ⟨e.1, 0, none⟩)) := by
    unfold ptrs
    rw [List.reverse_cons, List.map_append, List.getElem?_append_right (by simp)]
    simp
   rw [hlast] at hcell
   have hlen : (e :: es).length = es.length + 1 := rfl
   rw [hlen] at hc h30
   have hw : IntKind.i64.wrap (((es.length + 1 : Nat) : Int) - 1) = ((es.length : Nat) : Int) := by
    rw [show (((es.length + 1 : Nat) : Int) - 1) = ((es.length : Nat) : Int) by omega]
    exact IntWalk.i64_in _ (by omega)
   have hx0 : (((es.length : Nat) : Int)).toNat = es.length := Int.toNat_natCast _
   have hx1 : ((es.length : Nat) : Int) < ((es.length + 1 : Nat) : Int) := by omega
   clear hst hlast hlen
   go_enter Tryz.func68, Tryz.ntmps68
   go_wp2
   go_quiet (fail)
   go_wp2
   go_ret
   exact ⟨rfl, below_drewN _ _⟩
def Grown (W : World) (base gb : Nat) (g : Gr) (e : Ending) (W' : World) : Prop := ∃ es sv rv, e = .returned (.tuple #[]) ∧ GrAt W' base gb g es sv rv ∧ Below base W W'
abbrev nodZ : Value := .agg #[.int .i64 0, .string ⟨#[]⟩, .string ⟨#[]⟩, .slice none 0 0, .slice none 0 0, .string ⟨#[]⟩]
theorem info25 : ∃ i, Tryz.prog.info? 25 = some i ∧ i.zero = some nodZ ∧ i.size = 6 ∧ i.bytes = 104 := by
 have h : (Tryz.prog.info? 25).map (fun i => (i.zero, i.size, i.bytes)) = some (some nodZ, 6, 104) := by kernel_rfl
 cases hi : Tryz.prog.info? 25 with
 | none => rw [hi] at h; cases h
 | some i => rw [hi] at h; simp at h; exact ⟨i, rfl, h.1, h.2.1, h.2.2⟩
structure KidAt (W : World) (base gb : Nat) (g : Gr) (f : Fr) (fs : List Fr) (eb : Nat) (vk : Value) (es : List (Nat × Value)) (sv rv : Value) : Prop where
 gr : GrAt W base gb g ((eb, vk) :: es) sv rv
 stack : g.stack = f :: fs
theorem KidAt.fr {W : World} {base gb : Nat} {g : Gr} {f : Fr} {fs : List Fr} {eb : Nat} {vk : Value} {es : List (Nat × Value)} {sv rv : Value} (h : KidAt W base gb g f fs eb vk es sv rv) : FrAt W base f eb vk (owns es) ∧ (∀ e' ∈ es, e'.1 ≠ eb) ∧ Frs W base fs es [vk.ownBlock] := by
 have := h.gr.frs
 rw [h.stack] at this
 exact ⟨this.1.less fun o ho => .inr (List.mem_append_left _ ho), this.2.1, this.2.2⟩
theorem KidAt.below {W W' : World} {base gb : Nat} {g : Gr} {f : Fr} {fs : List Fr} {eb : Nat} {vk : Value} {es : List (Nat × Value)} {sv rv : Value} (h : KidAt W base gb g f fs eb vk es sv rv) (hb : Below W.heap.size W W') : KidAt W' base gb g f fs eb vk es sv rv := ⟨h.gr.below hb, h.stack⟩
theorem KidAt.cell {W : World} {base gb : Nat} {g : Gr} {f : Fr} {fs : List Fr} {eb : Nat} {vk : Value} {es : List (Nat × Value)} {sv rv : Value} (h : KidAt W base gb g f fs eb vk es sv rv) : W.cell? ⟨eb, 5, none⟩ = some vk ∧ W.frozen? ⟨eb, 5, none⟩ = false := by
 obtain ⟨va, vs, hb, _⟩ := h.fr.1.blk
 exact ⟨hb.cell 5, hb.frozen 5⟩
theorem typed_grown {W W' : World} {base : Nat} {v0 : Value} (hg : W.grownBy W' v0.ownBlock) (h0 : ∀ k, v0.ownBlock = some k → ∃ cs, W.heap[k]? = some (.cells cs 25 (0, 0))) {α : Type} {d : Kd α} {e : Nat} {v : Value} {xs : List α} (hr : d.R e W base (fun _ => True) v xs) (hq : ∀ q ∈ e :: d.E, q ≠ 25) : d.R e W' base (fun _ => True) v xs := by
 cases hv : v0.ownBlock with
 | none =>
   rw [hv] at hg
   exact Kd.R_grown hr hg (fun k _ => by simp)
 | some g =>
   obtain ⟨cs, hcs⟩ := h0 g hv
   rw [hv] at hg
   exact Kd.R_mono (Kd.R_grown (Kd.R_types hr hcs hq) hg (fun k hk e => hk.2 (Option.some.inj e))) (fun _ _ => trivial)
theorem Frs.owned {W : World} {base : Nat} : ∀ {fs : List Fr} {es : List (Nat × Value)} {ex : List (Option Nat)}, Frs W base fs es ex → ∀ o ∈ owns es, ∀ k, o = some k → k < W.heap.size ∧ ∃ cs, W.heap[k]? = some (.cells cs 25 (0, 0))
 | [], [], _, _, o, ho, _, _ => by cases ho
 | _ :: _, e :: _, _, h, o, ho, k, hk => by
   rcases List.mem_cons.1 ho with rfl | ho
   ·exact ⟨(h.1.own k hk).2.1, (h.1.own k hk).2.2.1⟩
   ·exact h.2.2.owned o ho k hk
 | [], _ :: _, _, h, _, _, _, _ => h.elim
 | _ :: _, [], _, h, _, _, _, _ => h.elim
theorem kid_grown {W w1 : World} {base gb : Nat} {g : Gr} {f : Fr} {fs : List Fr} {eb : Nat} {v0 v1 : Value} {es : List (Nat × Value)} {sv rv : Value} {t : Tr} {inner cs : List Value} (h : KidAt W base gb g f fs eb v0 es sv rv)
  (hM : kTr.M W base (fun k => ∀ o ∈ owns ((eb, v0) :: es), some k ≠ o) t cs) (hr : Reps (kTr.M W base (fun k => (∀ o ∈ owns es, some k ≠ o) ∧ some k ≠ v0.ownBlock)) 6 f.kids inner)
  (hown : w1.ownsRow base 25 6 v1 (f.kids.length + 1) (inner ++ cs)) (hg : W.grownBy w1 v0.ownBlock) (hat : v1.ownBlock = v0.ownBlock ∨ ∃ b, v1.ownBlock = some b ∧ W.heap.size ≤ b) :
  GrAt (w1.setCell ⟨eb, 5, none⟩ v1) base gb (g.put t) ((eb, v1) :: es) sv rv ∧ Below base W (w1.setCell ⟨eb, 5, none⟩ v1) := by
 obtain ⟨hF, hne, hfs⟩ := h.fr
 obtain ⟨va, vs, hbE, ha, hs⟩ := hF.blk
 have h0 : ∀ k, v0.ownBlock = some k → ∃ cs, W.heap[k]? = some (.cells cs 25 (0, 0)) := fun k hk => (hF.own k hk).2.2.1
 have hnb : ∀ {k : Nat} {cs : Array Value} {t : TypeId}, W.heap[k]? = some (.cells cs t (0, 0)) → t ≠ 25 → some k ≠ v0.ownBlock := fun {k cs t} hk ht e => by
  obtain ⟨cs', hc'⟩ := h0 k e.symm
  exact ne_of_type hk hc' ht rfl
 have hE1 : Blk w1 eb (opC f va v0 vs) 105 := (hg.block eb hbE.lt (hnb hbE (by decide))).trans hbE
 have hgb1 : Blk w1 gb #[sv, rv] 57 := (hg.block gb h.gr.blk.lt (hnb h.gr.blk (by decide))).trans h.gr.blk
 have hgne : gb ≠ eb := ne_of_type hgb1 hE1 (by decide)
 have hkids : kTr.R 25 w1 base (fun k => ∀ o ∈ owns es, some k ≠ o) v1 (f.kids ++ [t]) :=
  Kd.R_appended (d := kTr) (okp := fun k => ∀ o ∈ owns ((eb, v0) :: es), some k ≠ o) (fun k hk => (hF.own k hk).2.2.2) hr hM (fun k hk => ⟨fun o ho => hk o (List.mem_cons_of_mem _ ho), hk _ List.mem_cons_self⟩)
   (fun k hk o ho e => by
     have := (hfs.owned o ho k e.symm).1
     omega) hown hg hat
 have hput : g.put t = { g with stack := { f with kids := f.kids ++ [t] } :: fs } := by unfold Gr.put; rw [h.stack]
 have hroot := h.gr.single (by rw [h.stack]; simp)
 have hfr1 := (hfs.grown hg h0 hat).far hE1 hne (by decide) (by decide) (by decide) 5 v1
 refine ⟨?_, ?_⟩
 ·rw [hput]
  refine ⟨(Below.heap_setCell _ _ _ _ (show gb ≠ eb from hgne)).trans hgb1, ?_, ?_, ⟨⟨⟨va, vs, hE1.set 5 v1, ?_, ?_⟩, ?_, hF.ge⟩, hne, ?_⟩, h.gr.le, fun _ => hroot⟩
  ·have hst := h.gr.stk
   rw [show ptrs ((eb, v0) :: es) = ptrs ((eb, v1) :: es) by simp [ptrs], show ((eb, v0) :: es).length = ((eb, v1) :: es).length from rfl] at hst
   refine own_move (hst.kept hg ?_) (fun k hk => Below.heap_setCell _ _ _ _ ?_)
   ·cases hsv : sv.ownBlock with
    | none => exact .inl rfl
    | some k =>
      obtain ⟨cs', hc'⟩ := own_typed h.gr.stk k hsv
      exact .inr (hnb hc' (by decide))
   ·obtain ⟨cs', hc'⟩ := own_typed h.gr.stk k hk
    exact ne_of_type hc' hbE (by decide)
  ·have hz := h.gr.root
   rw [hroot] at hz
   show RootAt _ _ _ g.root
   rw [hroot]
   exact hz
  ·exact Kd.R_set (typed_grown hg h0 ha (by decide)) hE1 (by decide) 5 v1
  ·exact hs.imp fun _ h => Kd.R_set (typed_grown hg h0 h (by decide)) hE1 (by decide) 5 v1
  ·exact Kd.R_mono (Kd.R_set hkids hE1 (by decide) 5 v1) fun k hk o ho => by
    rw [List.append_nil] at ho
    exact hk o ho
  ·exact hfr1
 ·have hb : Below base W w1 := ⟨hg.os, hg.tape, hg.output, hg.size, fun k hk => by
   have hlt : k < W.heap.size := Nat.lt_of_lt_of_le hk (Nat.le_trans hF.ge (Nat.le_of_lt hbE.lt))
   exact hg.block k hlt fun e => by
    have := (hF.own k e.symm).1
    omega⟩
  exact hb.setCell (p := ⟨eb, 5, none⟩) hF.ge _
set_option maxRecDepth 100000 in
set_option maxHeartbeats 2000000 in
theorem gput_root {W : World} {base gb : Nat} {g : Gr} {sv rv : Value} {t : Tr} {cs : List Value} (h : GrAt W base gb g [] sv rv) (hs : g.stack = []) (hM : kTr.M W base (fun _ => True) t cs) :
  Calls Tryz.prog 67 #[.pointer (some ⟨gb, 0, none⟩), .agg cs.toArray] W (Grown W base gb (g.put t)) := by
 obtain ⟨va, vk, rfl, ha, hk⟩ := kTr_openM hM
 have hb0 := (Below.refl W.heap.size W).alloc (Nat.le_refl _) (.cells #[.int .i64 t.kind, .string (M t.sp), .string (M t.nm), va, vk, .string (M t.data)] 25)
 have h0 := h.below hb0
 have hbx : Blk (W.alloc (.cells #[.int .i64 t.kind, .string (M t.sp), .string (M t.nm), va, vk, .string (M t.data)] 25)) W.heap.size #[.int .i64 t.kind, .string (M t.sp), .string (M t.nm), va, vk, .string (M t.data)] 25 := Blk.new _ _ _
 have hM0 := Kd.M_below (d := kTr) hM hb0
 have H0 := Lib.hid (And.intro h0 (And.intro hbx (And.intro hM0 hb0)))
 have HS := Lib.hid hs
 have hle := h.le
 have hlt := h.blk.lt
 clear h hs hM ha hk h0 hbx hM0 hb0
 go_enter Tryz.func67, Tryz.ntmps67
 go_wp2_with fail
 generalize W.alloc (.cells #[.int .i64 t.kind, .string (M t.sp), .string (M t.nm), va, vk, .string (M t.data)] 25) = W0 at *
 refine (top_calls H0.out.1 (by simp)).mono ?_
 rintro e W1 ⟨rfl, h1⟩
 rw [show topV [] = .pointer none from rfl]
 have hG := H0.out.1.below h1
 have c1 : W1.cell? ⟨gb, 1, none⟩ = some rv := hG.blk.cell 1
 have f1 := hG.blk.frozen 1
 have HG := Lib.hid hG
 have H1 := Lib.hid h1
 clear hG h1
 have hb := HG.out.blk
 have hput : g.put t = { g with root := some t } := by unfold Gr.put; rw [HS.out]
 have hgr : GrAt (W1.setCell ⟨gb, 1, none⟩ (.pointer (some ⟨W.heap.size, 0, none⟩))) base gb (g.put t) [] sv (.pointer (some ⟨W.heap.size, 0, none⟩)) := by
  rw [hput]
  refine ⟨hb.set 1 _, own_move HG.out.stk (fun k hk => Below.heap_setCell _ _ _ _ ?_), ⟨_, #[.int .i64 t.kind, .string (M t.sp), .string (M t.nm), va, vk, .string (M t.data)], rfl, ?_, ?_⟩, ?_, hle, fun hne => absurd HS.out hne⟩
  ·obtain ⟨cs, hcs⟩ := own_typed HG.out.stk k hk
   exact ne_of_type hcs hb (by decide)
  ·have hbx := H0.out.2.1.below H1.out H0.out.2.1.lt
   exact (Below.heap_setCell _ _ _ _ (show W.heap.size ≠ gb from ne_of_type hbx hb (by decide))).trans hbx
  ·have hm := Kd.M_below (d := kTr) H0.out.2.2.1 H1.out
   have := Kd.M_types (d := kTr) hm hb (by decide)
   exact kTr.M_mono (fun _ _ => trivial) (Kd.M_far (p := ⟨gb, 1, none⟩) this (fun _ hk => hk.2) _)
  ·show Frs _ base g.stack [] []
   rw [HS.out]
   trivial
 have hbel : Below base W (W1.setCell ⟨gb, 1, none⟩ (.pointer (some ⟨W.heap.size, 0, none⟩))) :=
  ((H0.out.2.2.2.trans (H1.out.mono H0.out.2.2.2.size)).mono (Nat.le_trans hle (Nat.le_of_lt hlt))).setCell (p := ⟨gb, 1, none⟩) hle _
 have HF := Lib.hid (And.intro hgr hbel)
 clear hb hput hgr hbel
 go_wp2
 exact bodyPost_ret (results_none rfl _ _ _) rfl ⟨[], sv, _, rfl, HF.out.1, HF.out.2⟩
theorem nodOne : ∀ u ∈ ([.int .i64 0, .string ⟨#[]⟩, .string ⟨#[]⟩, .slice none 0 0, .slice none 0 0, .string ⟨#[]⟩] : List Value), u.oneCell' = true := by
 intro u hu
 simp only [List.mem_cons, List.not_mem_nil, or_false] at hu
 rcases hu with rfl | rfl | rfl | rfl | rfl | rfl <;> rfl
theorem setCell_comm (w : World) (a b : Addr) (u v : Value) (h : a.block ≠ b.block) : (w.setCell a u).setCell b v = (w.setCell b v).setCell a u := by
 unfold World.setCell
 congr 1
 apply Array.ext
 ·simp
 ·intro i h1 h2
  simp only [Array.getElem_modify]
  by_cases ha : a.block = i <;> by_cases hb : b.block = i <;> simp [ha, hb]
  exact absurd (ha.trans hb.symm) h
theorem six_stored {w1 : World} {base n g' cap : Nat} {inner : List Value} {z0 z1 z2 z3 z4 z5 u0 u1 u2 u3 u4 u5 : Value} (hown : w1.ownsRow base 25 6 (.slice (some ⟨g', 0, none⟩) (n + 1) cap) (n + 1) (inner ++ [z0, z1, z2, z3, z4, z5])) :
  ∃ w2, w2 = (((((w1.setCell ⟨g', n * 6, none⟩ u0).setCell ⟨g', n * 6 + 1, none⟩ u1).setCell ⟨g', n * 6 + 2, none⟩ u2).setCell ⟨g', n * 6 + 3, none⟩ u3).setCell ⟨g', n * 6 + 4, none⟩ u4).setCell ⟨g', n * 6 + 5, none⟩ u5 ∧
   w2.ownsRow base 25 6 (.slice (some ⟨g', 0, none⟩) (n + 1) cap) (n + 1) (inner ++ [u0, u1, u2, u3, u4, u5]) ∧ w1.grownBy w2 (some g') := by
 have hlen : inner.length = n * 6 := by
  have := hown.1
  simp at this
  omega
 obtain ⟨h0, g0⟩ := hown.stored (n * 6) u0
 obtain ⟨h1, g1⟩ := h0.stored (n * 6 + 1) u1
 obtain ⟨h2, g2⟩ := h1.stored (n * 6 + 2) u2
 obtain ⟨h3, g3⟩ := h2.stored (n * 6 + 3) u3
 obtain ⟨h4, g4⟩ := h3.stored (n * 6 + 4) u4
 obtain ⟨h5, g5⟩ := h4.stored (n * 6 + 5) u5
 refine ⟨_, rfl, ?_, ((((g0.trans g1).trans g2).trans g3).trans g4).trans g5⟩
 have e : ((((((inner ++ [z0, z1, z2, z3, z4, z5]).set (n * 6) u0).set (n * 6 + 1) u1).set (n * 6 + 2) u2).set (n * 6 + 3) u3).set (n * 6 + 4) u4).set (n * 6 + 5) u5 = inner ++ [u0, u1, u2, u3, u4, u5] := by
  rw [← hlen]
  simp [List.set_append]
 rw [← e]
 exact h5
theorem six_comm {w1 w2 : World} {eb g' m : Nat} {u u0 u1 u2 u3 u4 u5 : Value} (hne : eb ≠ g') (e : w2 = (((((w1.setCell ⟨g', m, none⟩ u0).setCell ⟨g', m + 1, none⟩ u1).setCell ⟨g', m + 2, none⟩ u2).setCell ⟨g', m + 3, none⟩ u3).setCell ⟨g', m + 4, none⟩ u4).setCell ⟨g', m + 5, none⟩ u5) :
  ((((((w1.setCell ⟨eb, 5, none⟩ u).setCell ⟨g', m, none⟩ u0).setCell ⟨g', m + 1, none⟩ u1).setCell ⟨g', m + 2, none⟩ u2).setCell ⟨g', m + 3, none⟩ u3).setCell ⟨g', m + 4, none⟩ u4).setCell ⟨g', m + 5, none⟩ u5 = w2.setCell ⟨eb, 5, none⟩ u := by
 have hc : ∀ (w : World) (i : Nat) (x : Value), (w.setCell ⟨eb, 5, none⟩ u).setCell ⟨g', i, none⟩ x = (w.setCell ⟨g', i, none⟩ x).setCell ⟨eb, 5, none⟩ u := fun w i x => setCell_comm w _ _ _ _ hne
 rw [hc, hc, hc, hc, hc, hc, e]
theorem second_row {w1 : World} {base n g' cap eb : Nat} {inner : List Value} {cs : Array Value} {z0 z1 z2 z3 z4 z5 u : Value} (hown : w1.ownsRow base 25 6 (.slice (some ⟨g', 0, none⟩) (n + 1) cap) (n + 1) (inner ++ [z0, z1, z2, z3, z4, z5])) (hE : Blk w1 eb cs 105) :
  (w1.setCell ⟨eb, 5, none⟩ u).cell? ⟨g', n * 6, none⟩ = some z0 ∧ (w1.setCell ⟨eb, 5, none⟩ u).cell? ⟨g', n * 6 + 1, none⟩ = some z1 ∧ (w1.setCell ⟨eb, 5, none⟩ u).cell? ⟨g', n * 6 + 2, none⟩ = some z2 ∧ (w1.setCell ⟨eb, 5, none⟩ u).cell? ⟨g', n * 6 + 3, none⟩ = some z3 ∧ (w1.setCell ⟨eb, 5, none⟩ u).cell? ⟨g', n * 6 + 4, none⟩ = some z4 ∧ (w1.setCell ⟨eb, 5, none⟩ u).cell? ⟨g', n * 6 + 5, none⟩ = some z5 ∧ ∀ i, (w1.setCell ⟨eb, 5, none⟩ u).frozen? ⟨g', i, none⟩ = false := by
 obtain ⟨csr, hcsr⟩ := own_typed hown g' rfl
 have hne : g' ≠ eb := ne_of_type hcsr hE (by decide)
 have hb : Blk (w1.setCell ⟨eb, 5, none⟩ u) g' csr 25 := (Below.heap_setCell _ _ _ _ (show g' ≠ eb from hne)).trans hcsr
 have hlen : inner.length = n * 6 := by
  have := hown.1
  simp at this
  omega
 have hc : ∀ j (h : j < 6), (w1.setCell ⟨eb, 5, none⟩ u).cell? ⟨g', n * 6 + j, none⟩ = [z0, z1, z2, z3, z4, z5][j]? := by
  intro j hj
  have h1 := hown.cellAt (n * 6 + j) (by omega)
  rw [List.getElem?_append_right (by omega), hlen, Nat.add_sub_cancel_left] at h1
  rw [← h1]
  exact (hb.cell _).trans ((show Blk w1 g' csr 25 from hcsr).cell _).symm
 exact ⟨hc 0 (by decide), hc 1 (by decide), hc 2 (by decide), hc 3 (by decide), hc 4 (by decide), hc 5 (by decide), fun i => hb.frozen i⟩
theorem second_box {W2 W3 w1 : World} {bb eb : Nat} {cs cs' : Array Value} {v0 u : Value} (h3 : Below W2.heap.size W2 W3) (hb : Blk W2 bb cs 25) (hg : W3.grownBy w1 v0.ownBlock) (hne : ∀ k, v0.ownBlock = some k → k ≠ bb) (hE : Blk w1 eb cs' 105) : Blk (w1.setCell ⟨eb, 5, none⟩ u) bb cs 25 := by
 have h1 : Blk w1 bb cs 25 := (hg.block bb (Nat.lt_of_lt_of_le hb.lt h3.size) (fun e => hne bb e.symm rfl)).trans (hb.below h3 hb.lt)
 exact (Below.heap_setCell _ _ _ _ (show bb ≠ eb from ne_of_type h1 hE (by decide))).trans h1
theorem kid_at {w : World} {A : Option Addr} {l : List Tr} (h : kTr.C w A l.length l) (k : Nat) (hk : k < l.length) : ∃ ad, A = some ad ∧ w.cell? (ad.add (k * 6)) = some (.int .i64 l[k].kind) := by
 obtain ⟨ad, c, e, _, hK, hc0⟩ := Kd.C_get h (.mk 0 [] [] [] [] []) (k : Int) (by omega) (by omega)
 have hc : ∀ j u, c[j]? = some u → w.cell? (ad.add (k * 6 + j)) = some u := fun j u h => by
  have := hc0 j u h
  rw [Int.toNat_natCast] at this
  exact this
 have hg : l.getD ((k : Int)).toNat (.mk 0 [] [] [] [] []) = l[k] := by rw [Int.toNat_natCast, List.getD_eq_getElem?_getD, List.getElem?_eq_getElem hk]; rfl
 rw [hg] at hK
 obtain ⟨A', c', B', d', rfl, _⟩ := kTr_openK hK
 exact ⟨ad, e, hc 0 _ rfl⟩
theorem join_cases {kids : List Tr} {t : Tr} (h : noJoin kids t) : t.kind ≠ 1 ∨ (t.kind = 1 ∧ kids.length = 0) ∨ (t.kind = 1 ∧ ∃ m, ∃ h : m < kids.length, kids.length = m + 1 ∧ kids[m].kind ≠ 1) := by
 by_cases hk : t.kind = 1
 ·right
  cases hl : kids.getLast? with
  | none =>
    rw [List.getLast?_eq_none_iff] at hl
    exact .inl ⟨hk, by rw [hl]; rfl⟩
  | some k =>
    have h1 := h hk k hl
    rw [List.getLast?_eq_getElem?] at hl
    obtain ⟨h2, h3⟩ := List.getElem?_eq_some_iff.1 hl
    exact .inr ⟨hk, kids.length - 1, h2, by omega, by rw [h3]; exact h1⟩
 ·exact .inl hk
set_option maxRecDepth 100000 in
set_option maxHeartbeats 4000000 in
theorem gput_kid {W : World} {base gb : Nat} {g : Gr} {f : Fr} {fs : List Fr} {eb : Nat} {vk : Value} {es : List (Nat × Value)} {sv rv : Value} {t : Tr} {cs : List Value} (h : KidAt W base gb g f fs eb vk es sv rv) (hj : noJoin f.kids t) (hM : kTr.M W base (fun k => ∀ o ∈ owns ((eb, vk) :: es), some k ≠ o) t cs) (h30 : es.length ≤ 100) (hkn : f.kids.length ≤ 1000000) :
  Calls Tryz.prog 67 #[.pointer (some ⟨gb, 0, none⟩), .agg cs.toArray] W (Grown W base gb (g.put t)) := by
 obtain ⟨va, vn, rfl, ha, hk⟩ := kTr_openM hM
 obtain ⟨A, c, rfl, hc, hC⟩ := Kd.R_reads h.fr.1.kids
 have hb0 := (Below.refl W.heap.size W).alloc (Nat.le_refl _) (.cells #[.int .i64 t.kind, .string (M t.sp), .string (M t.nm), va, vn, .string (M t.data)] 25)
 have hbx : Blk (W.alloc (.cells #[.int .i64 t.kind, .string (M t.sp), .string (M t.nm), va, vn, .string (M t.data)] 25)) W.heap.size #[.int .i64 t.kind, .string (M t.sp), .string (M t.nm), va, vn, .string (M t.data)] 25 := Blk.new _ _ _
 have H0 := Lib.hid (And.intro (h.below hb0) (And.intro hbx (And.intro (Kd.M_below (d := kTr) hM hb0) hb0)))
 have HJ := Lib.hid hj
 have hle := h.gr.le
 have hlt := h.gr.blk.lt
 have hone : ∀ u ∈ ([.int .i64 t.kind, .string (M t.sp), .string (M t.nm), va, vn, .string (M t.data)] : List Value), u.oneCell' = true := by
  obtain ⟨A1, c1, e1⟩ := Kd.R_slice ha
  obtain ⟨A2, c2, e2⟩ := Kd.R_slice hk
  rw [e1, e2]
  intro u hu
  simp only [List.mem_cons, List.not_mem_nil, or_false] at hu
  rcases hu with rfl | rfl | rfl | rfl | rfl | rfl <;> rfl
 have HX := Lib.hid (show ∀ k, (Value.slice A f.kids.length c).ownBlock = some k → k ≠ W.heap.size from fun k hk => by
  have := (h.fr.1.own k hk).2.1
  omega)
 obtain ⟨A1, c1, rfl⟩ := Kd.R_slice ha
 obtain ⟨A2, c2, rfl⟩ := Kd.R_slice hk
 clear h hM ha hk hbx hb0 hj hC
 go_enter Tryz.func67, Tryz.ntmps67
 go_wp2_with fail
 generalize W.alloc (.cells #[.int .i64 t.kind, .string (M t.sp), .string (M t.nm), .slice A1 t.attrs.length c1, .slice A2 t.kids.length c2, .string (M t.data)] 25) = W0 at *
 refine (top_calls H0.out.1.gr (by simp; omega)).mono ?_
 rintro e W1 ⟨rfl, h1⟩
 rw [show topV ((eb, .slice A f.kids.length c) :: es) = .pointer (some ⟨eb, 0, none⟩) from rfl]
 have hG := H0.out.1.below h1
 obtain ⟨c5, f5⟩ := hG.cell
 have hbx1 := H0.out.2.1.below h1 H0.out.2.1.lt
 have x0 : W1.cell? ⟨W.heap.size, 0, none⟩ = some (.int .i64 t.kind) := hbx1.cell 0
 have HG := Lib.hid (And.intro hG (And.intro hbx1 (And.intro (Kd.M_below (d := kTr) H0.out.2.2.1 h1) (H0.out.2.2.2.trans (h1.mono H0.out.2.2.2.size)))))
 have HC := Lib.hid (show kTr.C W1 A f.kids.length f.kids by
  obtain ⟨A', c', e, _, hC⟩ := Kd.R_reads hG.fr.1.kids
  injection e with e1 e2 e3
  rw [e1]
  exact hC)
 clear hG h1 hbx1
 rcases join_cases HJ.out with hk1 | ⟨hk1, hk2⟩ | ⟨hk1, m, hm, hk2, hk3⟩
 ·have hkb : (t.kind == 1) = false := beq_eq_false_iff_ne.2 hk1
  clear hk1
  go_wp2
  go_region
  ·have h2 : Below W1.heap.size W1 (W1.alloc (.cells #[.bool false] 4)).drew := ((Below.refl _ _).alloc (Nat.le_refl _) _).drew
   have hG2 := HG.out.1.below h2
   have hb2 := HG.out.2.1.below h2 HG.out.2.1.lt
   have hM2 := Kd.M_below (d := kTr) HG.out.2.2.1 h2
   have h02 := HG.out.2.2.2.trans (h2.mono HG.out.2.2.2.size)
   generalize (W1.alloc (.cells #[.bool false] 4)).drew = W2 at *
   obtain ⟨hr0, inner, ho, hr⟩ := hG2.fr.1.kids
   obtain ⟨va', vs', hbE, _, _⟩ := hG2.fr.1.blk
   obtain ⟨c5, f5⟩ := hG2.cell
   have hx0 := hb2.cell 0
   have hx1 := hb2.cell 1
   have hx2 := hb2.cell 2
   have hx3 := hb2.cell 3
   have hx4 := hb2.cell 4
   have hx5 := hb2.cell 5
   have HO := Lib.hid (show W2.ownsRow base 25 6 (.slice A f.kids.length c) f.kids.length inner from ho)
   have hown0 : ∀ k, (Value.slice A f.kids.length c).ownBlock = some k → k ≠ eb := fun k hk => by
    obtain ⟨cs', hc'⟩ := own_typed ho k hk
    exact ne_of_type hc' hbE (by decide)
   have hge : base ≤ W2.heap.size := Nat.le_trans hle (Nat.le_of_lt hG2.gr.blk.lt)
   have hltE := hbE.lt
   have HH := Lib.hid (And.intro hG2 (And.intro hb2 (And.intro hM2 (And.intro h02 (And.intro hr (And.intro hbE hown0))))))
   clear hG2 hb2 hM2 h02 h2 HG hr0 hr ho x0 HC hbE hown0
   have hu51 := Tryz.underlying23
   have hu53 := Tryz.underlying25
   obtain ⟨i0, hi0, hz0, hs0, hby0⟩ := info25
   go_wp2_with fail
   go_region_law (refine step_append_lies _ rfl (.tmp 73) (.tmp 75) 23 rfl base 25 i0 nodZ 6 104 Tryz.underlying23 hi0 hz0 hs0 hby0 rfl (by decide) (.slice A f.kids.length c) f.kids.length inner rfl (HO.out.alloc _) ⟨W2.heap.size, 0, none⟩ 1 1 [.int .i64 t.kind, .string (M t.sp), .string (M t.nm), .slice A1 t.attrs.length c1, .slice A2 t.kids.length c2, .string (M t.data)] rfl rfl (World.news_of_block (World.alloc_heap_new W2 _)) hone (by decide) (by unfold maxLen; omega) (by omega) (by simp; omega) _ rfl ?_; intro g' cap w1 hown hgrow hat hlt1; have hw3 : Below W2.heap.size W2 ((W2.alloc (.cells #[.int .i64 t.kind, .string (M t.sp), .string (M t.nm), .slice A1 t.attrs.length c1, .slice A2 t.kids.length c2, .string (M t.data)] 25)).drew) := ((Below.refl _ _).alloc (Nat.le_refl _) _).drew; have hk : Blk w1 eb (opC f va' (.slice A f.kids.length c) vs') 105 := (hgrow.block eb (Nat.lt_of_lt_of_le hltE hw3.size) (fun e => HH.out.2.2.2.2.2.2 eb e.symm rfl)).trans (HH.out.2.2.2.2.2.1.below hw3 hltE); have hc1 : w1.cell? ⟨eb, 5, none⟩ = some (.slice A f.kids.length c) := hk.cell 5; have hf1 := hk.frozen 5; have HS := Lib.hid (And.intro hown (And.intro hgrow (And.intro hat hw3))); clear hown hgrow hat hlt1 hk hw3)
   all_goals
    go_end0
    obtain ⟨hown, hgrow, hat, hw3⟩ := HS.out
    obtain ⟨hG2, hb2, hM2, h02, hr, hbE, hown0⟩ := HH.out
    obtain ⟨hgr, hbel⟩ := kid_grown (hG2.below hw3) (Kd.M_below (d := kTr) hM2 hw3) (hr.imp_ fun _ _ hp => Kd.M_below (d := kTr) hp hw3) hown hgrow (hat.imp (fun e => e.symm) (fun e => ⟨_, rfl, by rw [e]; exact Nat.le_refl _⟩))
    exact ⟨_, _, _, rfl, hgr, (h02.mono (Nat.le_trans hle (Nat.le_of_lt hlt))).trans ((hw3.mono hge).trans hbel)⟩
  ·have h2 : Below W1.heap.size W1 (W1.alloc (.cells #[.bool true] 4)).drew := ((Below.refl _ _).alloc (Nat.le_refl _) _).drew
   have hG2 := HG.out.1.below h2
   have hb2 := HG.out.2.1.below h2 HG.out.2.1.lt
   have hM2 := Kd.M_below (d := kTr) HG.out.2.2.1 h2
   have h02 := HG.out.2.2.2.trans (h2.mono HG.out.2.2.2.size)
   generalize (W1.alloc (.cells #[.bool true] 4)).drew = W2 at *
   obtain ⟨hr0, inner, ho, hr⟩ := hG2.fr.1.kids
   obtain ⟨va', vs', hbE, _, _⟩ := hG2.fr.1.blk
   obtain ⟨c5, f5⟩ := hG2.cell
   have HO := Lib.hid (show W2.ownsRow base 25 6 (.slice A f.kids.length c) f.kids.length inner from ho)
   have hown0 : ∀ k, (Value.slice A f.kids.length c).ownBlock = some k → k ≠ eb := fun k hk => by
    obtain ⟨cs', hc'⟩ := own_typed ho k hk
    exact ne_of_type hc' hbE (by decide)
   have hge : base ≤ W2.heap.size := Nat.le_trans hle (Nat.le_of_lt hG2.gr.blk.lt)
   have hltE := hbE.lt
   have HH := Lib.hid (And.intro hG2 (And.intro hb2 (And.intro hM2 (And.intro h02 (And.intro hr (And.intro hbE hown0))))))
   clear hG2 hb2 hM2 h02 h2 HG hr0 hr ho x0 HC hbE hown0
   have hu51 := Tryz.underlying23
   have hu53 := Tryz.underlying25
   obtain ⟨i0, hi0, hz0, hs0, hby0⟩ := info25
   go_wp2_with (at_builtin; refine wpList_append_lies _ rfl (.tmp 59) (.tmp 61) 23 rfl base 25 i0 nodZ 6 104 Tryz.underlying23 hi0 hz0 hs0 hby0 rfl (by decide) (.slice A f.kids.length c) f.kids.length inner rfl (HO.out.alloc _) ⟨W2.heap.size, 0, none⟩ 1 1 [.int .i64 0, .string ⟨#[]⟩, .string ⟨#[]⟩, .slice none 0 0, .slice none 0 0, .string ⟨#[]⟩] rfl rfl (World.news_of_block (World.alloc_heap_new W2 _)) nodOne (by decide) (by unfold maxLen; omega) (by omega) (by simp; omega) _ rfl ?_; intro g' cap w1 hown hgrow hat hlt1; have hw3 : Below W2.heap.size W2 (W2.alloc (.cells #[.int .i64 0, .string ⟨#[]⟩, .string ⟨#[]⟩, .slice none 0 0, .slice none 0 0, .string ⟨#[]⟩] 25)) := (Below.refl _ _).alloc (Nat.le_refl _) _; have hk : Blk w1 eb (opC f va' (.slice A f.kids.length c) vs') 105 := (hgrow.block eb (Nat.lt_of_lt_of_le hltE hw3.size) (fun e => HH.out.2.2.2.2.2.2 eb e.symm rfl)).trans (HH.out.2.2.2.2.2.1.below hw3 hltE); have hc1 : w1.cell? ⟨eb, 5, none⟩ = some (.slice A f.kids.length c) := hk.cell 5; have hf1 := hk.frozen 5; have hbox := second_box (u := .slice (some ⟨g', 0, none⟩) (f.kids.length + 1) cap) hw3 HH.out.2.1 hgrow HX.out hk; have hbx0 := hbox.cell 0; have hbx1 := hbox.cell 1; have hbx2 := hbox.cell 2; have hbx3 := hbox.cell 3; have hbx4 := hbox.cell 4; have hbx5 := hbox.cell 5; obtain ⟨hr0, hr1, hr2, hr3, hr4, hr5, hf0⟩ := second_row (u := .slice (some ⟨g', 0, none⟩) (f.kids.length + 1) cap) hown hk; have HS := Lib.hid (And.intro hown (And.intro hgrow (And.intro hat (And.intro hw3 hk)))); clear hown hgrow hat hlt1 hk hw3 hbox)
   all_goals
    obtain ⟨hown, hgrow, hat, hw3, hk⟩ := HS.out
    obtain ⟨hG2, hb2, hM2, h02, hr, hbE, hown0⟩ := HH.out
    obtain ⟨csr, hcsr⟩ := own_typed hown g' rfl
    obtain ⟨w2, e2, hown2, hg2⟩ := six_stored (u0 := .int .i64 t.kind) (u1 := .string (M t.sp)) (u2 := .string (M t.nm)) (u3 := .slice A1 t.attrs.length c1) (u4 := .slice A2 t.kids.length c2) (u5 := .string (M t.data)) hown
    rw [six_comm (ne_of_type hcsr hk (by decide)).symm e2]
    clear e2
    obtain ⟨hgr, hbel⟩ := kid_grown (hG2.below hw3) (Kd.M_below (d := kTr) hM2 hw3) (hr.imp_ fun _ _ hp => Kd.M_below (d := kTr) hp hw3) hown2 (hgrow.andThen hg2 (fun j hj => by
     injection hj with hj
     subst hj
     rcases hat with e | e
     ·exact .inr e
     ·exact .inl (by rw [e]; exact Nat.le_refl _))) (hat.imp (fun e => e.symm) (fun e => ⟨g', rfl, by rw [e]; exact Nat.le_refl _⟩))
    exact bodyPost_ret (results_none rfl _ _ _) rfl ⟨_, _, _, rfl, hgr, (h02.mono (Nat.le_trans hle (Nat.le_of_lt hlt))).trans ((hw3.mono hge).trans hbel)⟩
 ·have hkb : (t.kind == 1) = true := beq_iff_eq.2 hk1
  rw [hk2] at c5
  clear hk1 hk2
  go_wp2
  go_region
  ·have h2 : Below W1.heap.size W1 (W1.alloc (.cells #[.bool false] 4)).drew := ((Below.refl _ _).alloc (Nat.le_refl _) _).drew
   have hG2 := HG.out.1.below h2
   have hb2 := HG.out.2.1.below h2 HG.out.2.1.lt
   have hM2 := Kd.M_below (d := kTr) HG.out.2.2.1 h2
   have h02 := HG.out.2.2.2.trans (h2.mono HG.out.2.2.2.size)
   generalize (W1.alloc (.cells #[.bool false] 4)).drew = W2 at *
   obtain ⟨hr0, inner, ho, hr⟩ := hG2.fr.1.kids
   obtain ⟨va', vs', hbE, _, _⟩ := hG2.fr.1.blk
   obtain ⟨c5, f5⟩ := hG2.cell
   have hx0 := hb2.cell 0
   have hx1 := hb2.cell 1
   have hx2 := hb2.cell 2
   have hx3 := hb2.cell 3
   have hx4 := hb2.cell 4
   have hx5 := hb2.cell 5
   have HO := Lib.hid (show W2.ownsRow base 25 6 (.slice A f.kids.length c) f.kids.length inner from ho)
   have hown0 : ∀ k, (Value.slice A f.kids.length c).ownBlock = some k → k ≠ eb := fun k hk => by
    obtain ⟨cs', hc'⟩ := own_typed ho k hk
    exact ne_of_type hc' hbE (by decide)
   have hge : base ≤ W2.heap.size := Nat.le_trans hle (Nat.le_of_lt hG2.gr.blk.lt)
   have hltE := hbE.lt
   have HH := Lib.hid (And.intro hG2 (And.intro hb2 (And.intro hM2 (And.intro h02 (And.intro hr (And.intro hbE hown0))))))
   clear hG2 hb2 hM2 h02 h2 HG hr0 hr ho x0 HC hbE hown0
   have hu51 := Tryz.underlying23
   have hu53 := Tryz.underlying25
   obtain ⟨i0, hi0, hz0, hs0, hby0⟩ := info25
   go_wp2_with fail
   go_region_law (refine step_append_lies _ rfl (.tmp 73) (.tmp 75) 23 rfl base 25 i0 nodZ 6 104 Tryz.underlying23 hi0 hz0 hs0 hby0 rfl (by decide) (.slice A f.kids.length c) f.kids.length inner rfl (HO.out.alloc _) ⟨W2.heap.size, 0, none⟩ 1 1 [.int .i64 t.kind, .string (M t.sp), .string (M t.nm), .slice A1 t.attrs.length c1, .slice A2 t.kids.length c2, .string (M t.data)] rfl rfl (World.news_of_block (World.alloc_heap_new W2 _)) hone (by decide) (by unfold maxLen; omega) (by omega) (by simp; omega) _ rfl ?_; intro g' cap w1 hown hgrow hat hlt1; have hw3 : Below W2.heap.size W2 ((W2.alloc (.cells #[.int .i64 t.kind, .string (M t.sp), .string (M t.nm), .slice A1 t.attrs.length c1, .slice A2 t.kids.length c2, .string (M t.data)] 25)).drew) := ((Below.refl _ _).alloc (Nat.le_refl _) _).drew; have hk : Blk w1 eb (opC f va' (.slice A f.kids.length c) vs') 105 := (hgrow.block eb (Nat.lt_of_lt_of_le hltE hw3.size) (fun e => HH.out.2.2.2.2.2.2 eb e.symm rfl)).trans (HH.out.2.2.2.2.2.1.below hw3 hltE); have hc1 : w1.cell? ⟨eb, 5, none⟩ = some (.slice A f.kids.length c) := hk.cell 5; have hf1 := hk.frozen 5; have HS := Lib.hid (And.intro hown (And.intro hgrow (And.intro hat hw3))); clear hown hgrow hat hlt1 hk hw3)
   all_goals
    go_end0
    obtain ⟨hown, hgrow, hat, hw3⟩ := HS.out
    obtain ⟨hG2, hb2, hM2, h02, hr, hbE, hown0⟩ := HH.out
    obtain ⟨hgr, hbel⟩ := kid_grown (hG2.below hw3) (Kd.M_below (d := kTr) hM2 hw3) (hr.imp_ fun _ _ hp => Kd.M_below (d := kTr) hp hw3) hown hgrow (hat.imp (fun e => e.symm) (fun e => ⟨_, rfl, by rw [e]; exact Nat.le_refl _⟩))
    exact ⟨_, _, _, rfl, hgr, (h02.mono (Nat.le_trans hle (Nat.le_of_lt hlt))).trans ((hw3.mono hge).trans hbel)⟩
  ·have h2 : Below W1.heap.size W1 (W1.alloc (.cells #[.bool true] 4)).drew := ((Below.refl _ _).alloc (Nat.le_refl _) _).drew
   have hG2 := HG.out.1.below h2
   have hb2 := HG.out.2.1.below h2 HG.out.2.1.lt
   have hM2 := Kd.M_below (d := kTr) HG.out.2.2.1 h2
   have h02 := HG.out.2.2.2.trans (h2.mono HG.out.2.2.2.size)
   generalize (W1.alloc (.cells #[.bool true] 4)).drew = W2 at *
   obtain ⟨hr0, inner, ho, hr⟩ := hG2.fr.1.kids
   obtain ⟨va', vs', hbE, _, _⟩ := hG2.fr.1.blk
   obtain ⟨c5, f5⟩ := hG2.cell
   have HO := Lib.hid (show W2.ownsRow base 25 6 (.slice A f.kids.length c) f.kids.length inner from ho)
   have hown0 : ∀ k, (Value.slice A f.kids.length c).ownBlock = some k → k ≠ eb := fun k hk => by
    obtain ⟨cs', hc'⟩ := own_typed ho k hk
    exact ne_of_type hc' hbE (by decide)
   have hge : base ≤ W2.heap.size := Nat.le_trans hle (Nat.le_of_lt hG2.gr.blk.lt)
   have hltE := hbE.lt
   have HH := Lib.hid (And.intro hG2 (And.intro hb2 (And.intro hM2 (And.intro h02 (And.intro hr (And.intro hbE hown0))))))
   clear hG2 hb2 hM2 h02 h2 HG hr0 hr ho x0 HC hbE hown0
   have hu51 := Tryz.underlying23
   have hu53 := Tryz.underlying25
   obtain ⟨i0, hi0, hz0, hs0, hby0⟩ := info25
   go_wp2_with (at_builtin; refine wpList_append_lies _ rfl (.tmp 59) (.tmp 61) 23 rfl base 25 i0 nodZ 6 104 Tryz.underlying23 hi0 hz0 hs0 hby0 rfl (by decide) (.slice A f.kids.length c) f.kids.length inner rfl (HO.out.alloc _) ⟨W2.heap.size, 0, none⟩ 1 1 [.int .i64 0, .string ⟨#[]⟩, .string ⟨#[]⟩, .slice none 0 0, .slice none 0 0, .string ⟨#[]⟩] rfl rfl (World.news_of_block (World.alloc_heap_new W2 _)) nodOne (by decide) (by unfold maxLen; omega) (by omega) (by simp; omega) _ rfl ?_; intro g' cap w1 hown hgrow hat hlt1; have hw3 : Below W2.heap.size W2 (W2.alloc (.cells #[.int .i64 0, .string ⟨#[]⟩, .string ⟨#[]⟩, .slice none 0 0, .slice none 0 0, .string ⟨#[]⟩] 25)) := (Below.refl _ _).alloc (Nat.le_refl _) _; have hk : Blk w1 eb (opC f va' (.slice A f.kids.length c) vs') 105 := (hgrow.block eb (Nat.lt_of_lt_of_le hltE hw3.size) (fun e => HH.out.2.2.2.2.2.2 eb e.symm rfl)).trans (HH.out.2.2.2.2.2.1.below hw3 hltE); have hc1 : w1.cell? ⟨eb, 5, none⟩ = some (.slice A f.kids.length c) := hk.cell 5; have hf1 := hk.frozen 5; have hbox := second_box (u := .slice (some ⟨g', 0, none⟩) (f.kids.length + 1) cap) hw3 HH.out.2.1 hgrow HX.out hk; have hbx0 := hbox.cell 0; have hbx1 := hbox.cell 1; have hbx2 := hbox.cell 2; have hbx3 := hbox.cell 3; have hbx4 := hbox.cell 4; have hbx5 := hbox.cell 5; obtain ⟨hr0, hr1, hr2, hr3, hr4, hr5, hf0⟩ := second_row (u := .slice (some ⟨g', 0, none⟩) (f.kids.length + 1) cap) hown hk; have HS := Lib.hid (And.intro hown (And.intro hgrow (And.intro hat (And.intro hw3 hk)))); clear hown hgrow hat hlt1 hk hw3 hbox)
   all_goals
    obtain ⟨hown, hgrow, hat, hw3, hk⟩ := HS.out
    obtain ⟨hG2, hb2, hM2, h02, hr, hbE, hown0⟩ := HH.out
    obtain ⟨csr, hcsr⟩ := own_typed hown g' rfl
    obtain ⟨w2, e2, hown2, hg2⟩ := six_stored (u0 := .int .i64 t.kind) (u1 := .string (M t.sp)) (u2 := .string (M t.nm)) (u3 := .slice A1 t.attrs.length c1) (u4 := .slice A2 t.kids.length c2) (u5 := .string (M t.data)) hown
    rw [six_comm (ne_of_type hcsr hk (by decide)).symm e2]
    clear e2
    obtain ⟨hgr, hbel⟩ := kid_grown (hG2.below hw3) (Kd.M_below (d := kTr) hM2 hw3) (hr.imp_ fun _ _ hp => Kd.M_below (d := kTr) hp hw3) hown2 (hgrow.andThen hg2 (fun j hj => by
     injection hj with hj
     subst hj
     rcases hat with e | e
     ·exact .inr e
     ·exact .inl (by rw [e]; exact Nat.le_refl _))) (hat.imp (fun e => e.symm) (fun e => ⟨g', rfl, by rw [e]; exact Nat.le_refl _⟩))
    exact bodyPost_ret (results_none rfl _ _ _) rfl ⟨_, _, _, rfl, hgr, (h02.mono (Nat.le_trans hle (Nat.le_of_lt hlt))).trans ((hw3.mono hge).trans hbel)⟩
 ·have hkb : (t.kind == 1) = true := beq_iff_eq.2 hk1
  obtain ⟨ad, eA, hkc⟩ := kid_at HC.out m hm
  have hkb3 : (f.kids[m].kind == 1) = false := beq_eq_false_iff_ne.2 hk3
  rw [eA, hk2] at c5
  have hw : IntKind.i64.wrap (((m + 1 : Nat) : Int) - 1) = ((m : Nat) : Int) := by
   rw [show (((m + 1 : Nat) : Int) - 1) = ((m : Nat) : Int) by omega]
   exact IntWalk.i64_in _ (by omega)
  have hx0 : (((m : Nat) : Int)).toNat = m := Int.toNat_natCast _
  have hx1 : ((m : Nat) : Int) < ((m + 1 : Nat) : Int) := by omega
  clear hk1 hk3 hk2 eA
  go_wp2
  go_region
  ·have h2 : Below W1.heap.size W1 (W1.alloc (.cells #[.bool false] 4)).drew := ((Below.refl _ _).alloc (Nat.le_refl _) _).drew
   have hG2 := HG.out.1.below h2
   have hb2 := HG.out.2.1.below h2 HG.out.2.1.lt
   have hM2 := Kd.M_below (d := kTr) HG.out.2.2.1 h2
   have h02 := HG.out.2.2.2.trans (h2.mono HG.out.2.2.2.size)
   generalize (W1.alloc (.cells #[.bool false] 4)).drew = W2 at *
   obtain ⟨hr0, inner, ho, hr⟩ := hG2.fr.1.kids
   obtain ⟨va', vs', hbE, _, _⟩ := hG2.fr.1.blk
   obtain ⟨c5, f5⟩ := hG2.cell
   have hx0 := hb2.cell 0
   have hx1 := hb2.cell 1
   have hx2 := hb2.cell 2
   have hx3 := hb2.cell 3
   have hx4 := hb2.cell 4
   have hx5 := hb2.cell 5
   have HO := Lib.hid (show W2.ownsRow base 25 6 (.slice A f.kids.length c) f.kids.length inner from ho)
   have hown0 : ∀ k, (Value.slice A f.kids.length c).ownBlock = some k → k ≠ eb := fun k hk => by
    obtain ⟨cs', hc'⟩ := own_typed ho k hk
    exact ne_of_type hc' hbE (by decide)
   have hge : base ≤ W2.heap.size := Nat.le_trans hle (Nat.le_of_lt hG2.gr.blk.lt)
   have hltE := hbE.lt
   have HH := Lib.hid (And.intro hG2 (And.intro hb2 (And.intro hM2 (And.intro h02 (And.intro hr (And.intro hbE hown0))))))
   clear hG2 hb2 hM2 h02 h2 HG hr0 hr ho x0 HC hbE hown0
   have hu51 := Tryz.underlying23
   have hu53 := Tryz.underlying25
   obtain ⟨i0, hi0, hz0, hs0, hby0⟩ := info25
   go_wp2_with fail
   go_region_law (refine step_append_lies _ rfl (.tmp 73) (.tmp 75) 23 rfl base 25 i0 nodZ 6 104 Tryz.underlying23 hi0 hz0 hs0 hby0 rfl (by decide) (.slice A f.kids.length c) f.kids.length inner rfl (HO.out.alloc _) ⟨W2.heap.size, 0, none⟩ 1 1 [.int .i64 t.kind, .string (M t.sp), .string (M t.nm), .slice A1 t.attrs.length c1, .slice A2 t.kids.length c2, .string (M t.data)] rfl rfl (World.news_of_block (World.alloc_heap_new W2 _)) hone (by decide) (by unfold maxLen; omega) (by omega) (by simp; omega) _ rfl ?_; intro g' cap w1 hown hgrow hat hlt1; have hw3 : Below W2.heap.size W2 ((W2.alloc (.cells #[.int .i64 t.kind, .string (M t.sp), .string (M t.nm), .slice A1 t.attrs.length c1, .slice A2 t.kids.length c2, .string (M t.data)] 25)).drew) := ((Below.refl _ _).alloc (Nat.le_refl _) _).drew; have hk : Blk w1 eb (opC f va' (.slice A f.kids.length c) vs') 105 := (hgrow.block eb (Nat.lt_of_lt_of_le hltE hw3.size) (fun e => HH.out.2.2.2.2.2.2 eb e.symm rfl)).trans (HH.out.2.2.2.2.2.1.below hw3 hltE); have hc1 : w1.cell? ⟨eb, 5, none⟩ = some (.slice A f.kids.length c) := hk.cell 5; have hf1 := hk.frozen 5; have HS := Lib.hid (And.intro hown (And.intro hgrow (And.intro hat hw3))); clear hown hgrow hat hlt1 hk hw3)
   all_goals
    go_end0
    obtain ⟨hown, hgrow, hat, hw3⟩ := HS.out
    obtain ⟨hG2, hb2, hM2, h02, hr, hbE, hown0⟩ := HH.out
    obtain ⟨hgr, hbel⟩ := kid_grown (hG2.below hw3) (Kd.M_below (d := kTr) hM2 hw3) (hr.imp_ fun _ _ hp => Kd.M_below (d := kTr) hp hw3) hown hgrow (hat.imp (fun e => e.symm) (fun e => ⟨_, rfl, by rw [e]; exact Nat.le_refl _⟩))
    exact ⟨_, _, _, rfl, hgr, (h02.mono (Nat.le_trans hle (Nat.le_of_lt hlt))).trans ((hw3.mono hge).trans hbel)⟩
  ·have h2 : Below W1.heap.size W1 (W1.alloc (.cells #[.bool true] 4)).drew := ((Below.refl _ _).alloc (Nat.le_refl _) _).drew
   have hG2 := HG.out.1.below h2
   have hb2 := HG.out.2.1.below h2 HG.out.2.1.lt
   have hM2 := Kd.M_below (d := kTr) HG.out.2.2.1 h2
   have h02 := HG.out.2.2.2.trans (h2.mono HG.out.2.2.2.size)
   generalize (W1.alloc (.cells #[.bool true] 4)).drew = W2 at *
   obtain ⟨hr0, inner, ho, hr⟩ := hG2.fr.1.kids
   obtain ⟨va', vs', hbE, _, _⟩ := hG2.fr.1.blk
   obtain ⟨c5, f5⟩ := hG2.cell
   have HO := Lib.hid (show W2.ownsRow base 25 6 (.slice A f.kids.length c) f.kids.length inner from ho)
   have hown0 : ∀ k, (Value.slice A f.kids.length c).ownBlock = some k → k ≠ eb := fun k hk => by
    obtain ⟨cs', hc'⟩ := own_typed ho k hk
    exact ne_of_type hc' hbE (by decide)
   have hge : base ≤ W2.heap.size := Nat.le_trans hle (Nat.le_of_lt hG2.gr.blk.lt)
   have hltE := hbE.lt
   have HH := Lib.hid (And.intro hG2 (And.intro hb2 (And.intro hM2 (And.intro h02 (And.intro hr (And.intro hbE hown0))))))
   clear hG2 hb2 hM2 h02 h2 HG hr0 hr ho x0 HC hbE hown0
   have hu51 := Tryz.underlying23
   have hu53 := Tryz.underlying25
   obtain ⟨i0, hi0, hz0, hs0, hby0⟩ := info25
   go_wp2_with (at_builtin; refine wpList_append_lies _ rfl (.tmp 59) (.tmp 61) 23 rfl base 25 i0 nodZ 6 104 Tryz.underlying23 hi0 hz0 hs0 hby0 rfl (by decide) (.slice A f.kids.length c) f.kids.length inner rfl (HO.out.alloc _) ⟨W2.heap.size, 0, none⟩ 1 1 [.int .i64 0, .string ⟨#[]⟩, .string ⟨#[]⟩, .slice none 0 0, .slice none 0 0, .string ⟨#[]⟩] rfl rfl (World.news_of_block (World.alloc_heap_new W2 _)) nodOne (by decide) (by unfold maxLen; omega) (by omega) (by simp; omega) _ rfl ?_; intro g' cap w1 hown hgrow hat hlt1; have hw3 : Below W2.heap.size W2 (W2.alloc (.cells #[.int .i64 0, .string ⟨#[]⟩, .string ⟨#[]⟩, .slice none 0 0, .slice none 0 0, .string ⟨#[]⟩] 25)) := (Below.refl _ _).alloc (Nat.le_refl _) _; have hk : Blk w1 eb (opC f va' (.slice A f.kids.length c) vs') 105 := (hgrow.block eb (Nat.lt_of_lt_of_le hltE hw3.size) (fun e => HH.out.2.2.2.2.2.2 eb e.symm rfl)).trans (HH.out.2.2.2.2.2.1.below hw3 hltE); have hc1 : w1.cell? ⟨eb, 5, none⟩ = some (.slice A f.kids.length c) := hk.cell 5; have hf1 := hk.frozen 5; have hbox := second_box (u := .slice (some ⟨g', 0, none⟩) (f.kids.length + 1) cap) hw3 HH.out.2.1 hgrow HX.out hk; have hbx0 := hbox.cell 0; have hbx1 := hbox.cell 1; have hbx2 := hbox.cell 2; have hbx3 := hbox.cell 3; have hbx4 := hbox.cell 4; have hbx5 := hbox.cell 5; obtain ⟨hr0, hr1, hr2, hr3, hr4, hr5, hf0⟩ := second_row (u := .slice (some ⟨g', 0, none⟩) (f.kids.length + 1) cap) hown hk; have HS := Lib.hid (And.intro hown (And.intro hgrow (And.intro hat (And.intro hw3 hk)))); clear hown hgrow hat hlt1 hk hw3 hbox)
   all_goals
    obtain ⟨hown, hgrow, hat, hw3, hk⟩ := HS.out
    obtain ⟨hG2, hb2, hM2, h02, hr, hbE, hown0⟩ := HH.out
    obtain ⟨csr, hcsr⟩ := own_typed hown g' rfl
    obtain ⟨w2, e2, hown2, hg2⟩ := six_stored (u0 := .int .i64 t.kind) (u1 := .string (M t.sp)) (u2 := .string (M t.nm)) (u3 := .slice A1 t.attrs.length c1) (u4 := .slice A2 t.kids.length c2) (u5 := .string (M t.data)) hown
    rw [six_comm (ne_of_type hcsr hk (by decide)).symm e2]
    clear e2
    obtain ⟨hgr, hbel⟩ := kid_grown (hG2.below hw3) (Kd.M_below (d := kTr) hM2 hw3) (hr.imp_ fun _ _ hp => Kd.M_below (d := kTr) hp hw3) hown2 (hgrow.andThen hg2 (fun j hj => by
     injection hj with hj
     subst hj
     rcases hat with e | e
     ·exact .inr e
     ·exact .inl (by rw [e]; exact Nat.le_refl _))) (hat.imp (fun e => e.symm) (fun e => ⟨g', rfl, by rw [e]; exact Nat.le_refl _⟩))
    exact bodyPost_ret (results_none rfl _ _ _) rfl ⟨_, _, _, rfl, hgr, (h02.mono (Nat.le_trans hle (Nat.le_of_lt hlt))).trans ((hw3.mono hge).trans hbel)⟩
def pcells (l : List (Bs × Bs)) : List Value := l.flatMap fun p => [.string (M p.1), .string (M p.2)]
theorem pcells_len (l : List (Bs × Bs)) : (pcells l).length = l.length * 2 := by
 induction l with
 | nil => rfl
 | cons p l ih =>
   show (([.string (M p.1), .string (M p.2)] : List Value) ++ pcells l).length = _
   rw [List.length_append, ih, List.length_cons]
   simp
   omega
theorem pcells_append (a b : List (Bs × Bs)) : pcells (a ++ b) = pcells a ++ pcells b := List.flatMap_append
theorem kPair_M {w : World} {base : Nat} {ok : Nat → Prop} {p : Bs × Bs} {cs : List Value} : kPair.M w base ok p cs ↔ cs = [.string (M p.1), .string (M p.2)] := by
 constructor
 ·rintro ⟨_, _, rfl, rfl, rfl⟩
  rfl
 ·rintro rfl
  exact ⟨[_], [_], rfl, rfl, rfl⟩
theorem kPair_Q {w : World} {base : Nat} {q : Nat → Prop} : ∀ {l : List (Bs × Bs)} {inner : List Value}, Reps (kPair.M w base q) 2 l inner ↔ inner = pcells l := by
 intro l
 induction l with
 | nil =>
   intro inner
   constructor
   ·intro h
    exact List.eq_nil_of_length_eq_zero (by simpa using h.1)
   ·rintro rfl
    exact Reps.none _ _
 | cons p l ih =>
   intro inner
   have hp : pcells (p :: l) = Value.string (M p.1) :: Value.string (M p.2) :: pcells l := rfl
   rw [hp]
   constructor
   ·rintro ⟨h1, h2⟩
    have h0 := kPair_M.1 (h2 0 p rfl)
    rw [Nat.zero_mul, List.drop_zero] at h0
    have ht : inner.drop 2 = pcells l := ih.1 ⟨by rw [List.length_drop, h1, List.length_cons]; omega, fun j x hx => by
     have := h2 (j + 1) x hx
     rw [List.drop_drop, show 2 + j * 2 = (j + 1) * 2 by omega]
     exact this⟩
    rw [← List.take_append_drop 2 inner, h0, ht]
    rfl
   ·rintro rfl
    obtain ⟨h1, h2⟩ := ih.2 rfl
    refine ⟨by simp [h1]; omega, fun j x hx => ?_⟩
    cases j with
    | zero =>
      cases hx
      exact kPair_M.2 rfl
    | succ j =>
      have := h2 j x hx
      rw [show (j + 1) * 2 = j * 2 + 1 + 1 by omega]
      exact this
theorem kPair_R {w : World} {base : Nat} {v : Value} {l : List (Bs × Bs)} : kPair.R 144 w base (fun _ => True) v l ↔ w.ownsRow base 144 2 v l.length (pcells l) := by
 constructor
 ·rintro ⟨_, inner, ho, hr⟩
  rw [(kPair_Q (q := fun k => True ∧ some k ≠ v.ownBlock)).1 hr] at ho
  exact ho
 ·intro h
  exact ⟨fun _ _ => trivial, _, h, kPair_Q.2 rfl⟩
theorem clip_calls (A : Option Addr) (n c : Nat) (w : World) (h : n ≤ c) (hn : n ≤ 1000000) : Calls Tryz.prog 103 #[.slice A n c] w fun e w' => e = .returned (.slice A n n) ∧ w' = w := by
 go_enter Tryz.func103, Tryz.ntmps103
 go_wp2
 go_ret
 exact ⟨rfl, rfl⟩
theorem R_map {α β : Type} {d : Kd β} {f : α → β} {e : Nat} {w : World} {base : Nat} {ok : Nat → Prop} {v : Value} {l : List α} (h : Kd.R d e w base ok v (l.map f)) : Kd.R (Kd.iso d f) e w base ok v l := by
 obtain ⟨h0, inner, ho, hr⟩ := h
 rw [List.length_map] at ho
 exact ⟨h0, inner, ho, by rw [hr.1, List.length_map]; rfl, fun j p hp => hr.2 j (f p) (by rw [List.getElem?_map, hp]; rfl)⟩
theorem declare_pairs (A : Option Addr) (c : Nat) (l more rest : List (Bs × Bs)) (w : World) (hG : Glob w) (hl : l.length < 100000) (hn : ∀ p ∈ l, p.1.length < 4294967281) (hC : kPair.C w A l.length l) (hc : l.length ≤ c) (h : V.declV [] [] (l.map toS) = (more.map toS, rest.map toS, 0)) :
  Calls Tryz.prog 104 #[.slice A l.length c] w fun e w' => ∃ v0 v1 : Value, e = .returned (.tuple #[v0, v1, .int .i64 0]) ∧ kPair.R 144 w' w.heap.size (fun _ => True) v0 more ∧ kPair.R 144 w' w.heap.size (fun _ => True) v1 rest ∧ Below w.heap.size w w' := by
 obtain ⟨K, hK⟩ := V.gdecl_ev (l.map toS) (by rw [List.length_map]; exact hl) (fun x hx => by
  obtain ⟨p, hp, rfl⟩ := List.mem_map.1 hx
  have := hn p hp
  simpa [toS, ByteArray.size] using this)
 have hC2 := C_map k144 toS hC
 have hlm : (l.map toS).length = l.length := List.length_map ..
 rw [h] at hK
 rw [← hlm] at hC2 hc ⊢
 refine (prefix_Declare.calls K A c (l.map toS) (more.map toS) (rest.map toS) 0 w hG hC2 hc (hK K (Nat.le_refl _))).mono ?_
 rintro e w' ⟨v0, v1, rfl, h0, h1, hb⟩
 exact ⟨v0, v1, rfl, R_map (Kd.R_mono h0 fun _ _ => trivial), R_map (Kd.R_mono h1 fun _ _ => trivial), hb⟩
theorem own_slice {w : World} {base : Nat} {e : TypeId} {size n : Nat} {v : Value} {xs : List Value} (h : w.ownsRow base e size v n xs) : ∃ A c, v = .slice A n c ∧ n ≤ c := by
 rcases h.2 with ⟨rfl, hn⟩ | ⟨g, cap, cur, rfl, _, _, hc, _⟩
 ·subst hn
  exact ⟨none, 0, rfl, Nat.le_refl _⟩
 ·exact ⟨_, _, rfl, hc⟩
abbrev tokC (t : Tok) (A : Option Addr) (c : Nat) : Array Value := #[.int .i64 t.kind, .string (M t.name), .slice A t.attrs.length c, .bool t.alone, .string (M t.data)]
theorem pair_one (l : List (Bs × Bs)) : ∀ u ∈ pcells l, u.oneCell' = true := by
 intro u hu
 obtain ⟨p, _, hp⟩ := List.mem_flatMap.1 hu
 simp only [List.mem_cons, List.not_mem_nil, or_false] at hp
 rcases hp with rfl | rfl <;> rfl
theorem own_at {w : World} {base : Nat} {e : TypeId} {size n c : Nat} {A : Option Addr} {xs : List Value} (h : w.ownsRow base e size (.slice A n c) n xs) : ∀ b, A = some b → ∀ j u, xs[j]? = some u → w.cell? (b.add j) = some u := by
 rintro b rfl j u hj
 rcases h.2 with ⟨e, _⟩ | ⟨g, cap, cur, e, _⟩
 ·cases e
 ·injection e with e1 e2 e3
  injection e1 with e1
  subst e1
  subst e3
  rw [add_plain]
  rw [h.cellAt j (by
   have := (List.getElem?_eq_some_iff.1 hj).1
   rw [h.1] at this
   exact this)]
  exact hj
theorem wpList_scope_append (w : World) {ops : Array Oper} {rest : List Oper} {o : Oper} {a : Act} {Q : Exit → Act → World → Prop} (hg : o.guard = none) (s x : Operand) (hop : o.op = .call { callee := .builtin .append, args := #[s, x], argTypes := #[58, 58] })
  {base base0 : Nat} {A0 : Option Addr} {c0 : Nat} {v0 : Value} {l more : List (Bs × Bs)} (hs : a.eval s = .slice A0 l.length l.length) (hR : kPair.R 144 w base (fun _ => True) (.slice A0 l.length c0) l) (hx : a.eval x = v0) (h0 : kPair.R 144 w base0 (fun _ => True) v0 more)
  (hb : base ≤ w.heap.size) (hlen : (l ++ more).length ≤ 1000000)
  (hK : ∀ v' w', ScAt w' base v' (l ++ more) → w.grownBy w' none → wpList Tryz.prog ops Q rest (a.put o.dst v') w') : wpList Tryz.prog ops Q (o :: rest) a w := by
 obtain ⟨i, hi, hz⟩ : ∃ i, Tryz.prog.info? 144 = some i ∧ (i.zero, i.size, i.bytes) = (some (.agg #[(.string ⟨#[]⟩), (.string ⟨#[]⟩)]), 2, 32) := by
  have := info144
  cases hi : Tryz.prog.info? 144 with
  | none => rw [hi] at this; cases this
  | some i => rw [hi] at this; exact ⟨i, rfl, by simpa using this⟩
 injection hz with hz1 hz2
 injection hz2 with hz2 hz3
 have hoR := kPair_R.1 hR
 have ho0 := kPair_R.1 h0
 obtain ⟨B0, d0, rfl, hd0⟩ := own_slice ho0
 rw [List.length_append] at hlen
 cases more with
 | nil =>
   refine wpList_plain hg fun K hK' => ?_
   have hsrc : Src Tryz.prog i.size 58 (.slice B0 0 d0) 0 [] w := by
    cases B0 with
    | none => exact Src.ofNil w Tryz.underlying58 d0
    | some b => exact Src.ofSlice w Tryz.underlying58 b 0 d0 [] (by simp) (fun j u h => by cases h) (fun u h => by cases h)
   have hrun := run_append_nothing (P := Tryz.prog) w 58 58 o.type 144 i Tryz.underlying58 hi A0 l.length l.length (Nat.le_refl _) (.slice B0 0 d0) hsrc
   have hx' : a.eval x = .slice B0 0 d0 := hx
   unfold Oper.wp
   simp [execOp, hop, resolve, invoke, builtin, hs, hx', hrun, Result.andThen]
   refine hK' _ _ (hK _ _ ⟨A0, c0, l.length, ?_, ?_, ?_⟩ ⟨rfl, rfl, rfl, Nat.le_refl _, fun _ _ _ => rfl⟩)
   ·rw [List.append_nil]
   ·rw [List.append_nil]; exact Nat.le_refl _
   ·rw [List.append_nil]; exact hR
 | cons m ms =>
   obtain ⟨g0, cap0, e0, _, _⟩ := ho0.form (by simp)
   rw [e0] at hx ho0
   have hn0 : A0 = none → l.length = 0 ∧ l.length = 0 := by
    rintro rfl
    rcases hoR.2 with ⟨_, hn⟩ | ⟨g, cap, cur, e, _⟩
    ·exact ⟨hn, hn⟩
    ·cases e
   refine wpList_append_grows w hg s x 58 hop 144 i _ 2 32 Tryz.underlying58 hi hz1 hz2 hz3 rfl (by decide) A0 l.length l.length (pcells l) hs hn0 (pcells_len l) (own_at hoR) ⟨g0, 0, none⟩ (m :: ms).length cap0 (pcells (m :: ms)) hx (pcells_len _) (own_at ho0 _ rfl) (pair_one _) (by simp) (by unfold maxLen; omega) (by omega) (fun v' w' ho hgr => ?_)
   rw [← pcells_append, ← List.length_append] at ho
   obtain ⟨A1, c1, rfl, hc1⟩ := own_slice ho
   exact hK _ _ ⟨A1, c1, c1, rfl, hc1, kPair_R.2 (own_weaken ho hb)⟩ hgr
theorem scope_clip {W : World} {base gb : Nat} {g : Gr} {es : List (Nat × Value)} {sv rv : Value} (h : GrAt W base gb g es sv rv) :
  (g.scope = [] ∧ topV es = .pointer none) ∨ ∃ eb vs, topV es = .pointer (some ⟨eb, 0, none⟩) ∧ W.cell? ⟨eb, 7, none⟩ = some vs ∧ ScAt W base vs g.scope := by
 have hf := h.frs
 cases hs : g.stack with
 | nil =>
   rw [hs] at hf
   cases es with
   | nil => exact .inl ⟨by unfold Gr.scope; rw [hs], rfl⟩
   | cons e es => exact hf.elim
 | cons f fs =>
   rw [hs] at hf
   cases es with
   | nil => exact hf.elim
   | cons e es =>
     obtain ⟨va, vs, hb, _, hsc⟩ := hf.1.blk
     exact .inr ⟨e.1, vs, rfl, hb.cell 7, by unfold Gr.scope; rw [hs]; exact hsc⟩
theorem declV_rest : ∀ (l sc re : List S144), (V.declV sc re l).2.1.length ≤ re.length + l.length ∧ ∀ x ∈ (V.declV sc re l).2.1, x ∈ re ∨ x ∈ l := by
 intro l
 induction l with
 | nil =>
   intro sc re
   exact ⟨Nat.le_refl _, fun x hx => .inl hx⟩
 | cons a l ih =>
   intro sc re
   have hup : ∀ sc', (V.declV sc' re l).2.1.length ≤ re.length + (a :: l).length ∧ ∀ x ∈ (V.declV sc' re l).2.1, x ∈ re ∨ x ∈ a :: l := fun sc' =>
    ⟨Nat.le_trans (ih sc' re).1 (by rw [List.length_cons]; omega), fun x hx => ((ih sc' re).2 x hx).imp id (List.mem_cons_of_mem _)⟩
   have h0 : (([] : List S144), ([] : List S144), (80 : Int)).2.1.length ≤ re.length + (a :: l).length ∧ ∀ x ∈ (([] : List S144), ([] : List S144), (80 : Int)).2.1, x ∈ re ∨ x ∈ a :: l := ⟨Nat.zero_le _, fun x hx => by cases hx⟩
   unfold V.declV
   split
   ·split
    ·split
     ·exact hup _
     ·exact h0
    ·split
     ·split
      ·exact hup _
      ·exact h0
     ·obtain ⟨h1, h2⟩ := ih sc (re ++ [a])
      refine ⟨by rw [List.length_append, List.length_singleton] at h1; rw [List.length_cons]; omega, fun x hx => ?_⟩
      rcases h2 x hx with h | h
      ·rcases List.mem_append.1 h with h | h
       ·exact .inl h
       ·exact .inr (by rw [List.mem_singleton.1 h]; exact List.mem_cons_self)
      ·exact .inr (List.mem_cons_of_mem _ h)
   ·exact ⟨Nat.zero_le _, fun x hx => by cases hx⟩
theorem declV_few {l more rest : List (Bs × Bs)} (h : V.declV [] [] (l.map toS) = (more.map toS, rest.map toS, 0)) (hn : ∀ p ∈ l, p.1.length < 4294967281) : rest.length ≤ l.length ∧ ∀ p ∈ rest, p.1.length < 4294967281 := by
 obtain ⟨h1, h2⟩ := declV_rest (l.map toS) [] []
 rw [h] at h1 h2
 refine ⟨by simpa using h1, fun p hp => ?_⟩
 rcases h2 (toS p) (List.mem_map_of_mem hp) with h | h
 ·cases h
 ·obtain ⟨q, hq, e⟩ := List.mem_map.1 h
  have e1 : M q.1 = M p.1 := congrArg S144.f0 e
  have e2 : q.1.length = p.1.length := by
   have := congrArg ByteArray.size e1
   simpa [ByteArray.size] using this
  rw [← e2]
  exact hn q hq
set_option maxRecDepth 100000 in
set_option maxHeartbeats 20000000 in
theorem begin_calls {W : World} {base gb : Nat} {g : Gr} {es : List (Nat × Value)} {sv rv : Value} {t : Tok} {f : Fr} (h : GrAt W base gb g es sv rv) (hG : Glob W) (hb : Begins g t f) {A : Option Addr} {c : Nat} (hcA : t.attrs.length ≤ c) (hA : kPair.C W A t.attrs.length t.attrs)
  (hnl : t.name.length < 4294967281) (hal : ∀ p ∈ t.attrs, p.1.length < 4294967281) (hsl : f.scope.length ≤ 1000000) :
  Calls Tryz.prog 66 #[.pointer (some ⟨gb, 0, none⟩), .agg (tokC t A c)] W fun e w' => ∃ eb, e = .returned (.tuple #[.pointer (some ⟨eb, 0, none⟩), .int .i64 0]) ∧ W.heap.size ≤ eb ∧ FrAt w' base f eb (.slice none 0 0) [] ∧ Below W.heap.size W w' := by
 obtain ⟨SA, sc, rfl, hsc⟩ := own_slice h.stk
 have hlow : es.length < 30 := by rw [← h.len]; exact hb.low
 have hfew := hb.few
 have hgbl := h.blk.lt
 have hle0 := h.le
 have hb0 := (Below.refl W.heap.size W).alloc (Nat.le_refl _) (.cells (tokC t A c) 60)
 have hbx : Blk (W.alloc (.cells (tokC t A c) 60)) W.heap.size (tokC t A c) 60 := Blk.new _ _ _
 have h0 := h.below hb0
 have hc0 : (W.alloc (.cells (tokC t A c) 60)).cell? ⟨gb, 0, none⟩ = some (.slice SA es.length sc) := h0.blk.cell 0
 have hx1 : (W.alloc (.cells (tokC t A c) 60)).cell? ⟨W.heap.size, 1, none⟩ = some (.string (M t.name)) := hbx.cell 1
 have hx2 : (W.alloc (.cells (tokC t A c) 60)).cell? ⟨W.heap.size, 2, none⟩ = some (.slice A t.attrs.length c) := hbx.cell 2
 have H0 := Lib.hid (And.intro h0 (And.intro hbx hb0))
 have HB := Lib.hid hb
 have HA := Lib.hid (And.intro hA hG)
 clear h hb hA hG hbx h0 hb0
 go_enter Tryz.func66, Tryz.ntmps66
 go_wp2_with fail
 have hb1 := H0.out.2.2.trans (((Below.refl _ (W.alloc (.cells (tokC t A c) 60))).alloc (Nat.le_refl _) (.cells #[.string (M t.name), .int .i64 0, .string ⟨#[]⟩, .string ⟨#[]⟩, .slice none 0 0, .slice none 0 0, .string ⟨#[]⟩, .slice none 0 0] 105)).mono H0.out.2.2.size)
 have hE : Blk ((W.alloc (.cells (tokC t A c) 60)).alloc (.cells #[.string (M t.name), .int .i64 0, .string ⟨#[]⟩, .string ⟨#[]⟩, .slice none 0 0, .slice none 0 0, .string ⟨#[]⟩, .slice none 0 0] 105)) (W.heap.size + 1) #[.string (M t.name), .int .i64 0, .string ⟨#[]⟩, .string ⟨#[]⟩, .slice none 0 0, .slice none 0 0, .string ⟨#[]⟩, .slice none 0 0] 105 := at1 W _ _
 have hT : Blk ((W.alloc (.cells (tokC t A c) 60)).alloc (.cells #[.string (M t.name), .int .i64 0, .string ⟨#[]⟩, .string ⟨#[]⟩, .slice none 0 0, .slice none 0 0, .string ⟨#[]⟩, .slice none 0 0] 105)) W.heap.size (tokC t A c) 60 := H0.out.2.1.below ((Below.refl _ _).alloc (Nat.le_refl _) _) H0.out.2.1.lt
 have hg1 := H0.out.1.below ((Below.refl (W.alloc (.cells (tokC t A c) 60)).heap.size (W.alloc (.cells (tokC t A c) 60))).alloc (Nat.le_refl _) (.cells #[.string (M t.name), .int .i64 0, .string ⟨#[]⟩, .string ⟨#[]⟩, .slice none 0 0, .slice none 0 0, .string ⟨#[]⟩, .slice none 0 0] 105))
 have H1 := Lib.hid (And.intro hg1 (And.intro hT (And.intro hE hb1)))
 clear hb1 hE hT hg1 H0 hc0 hx1 hx2
 generalize (W.alloc (.cells (tokC t A c) 60)).alloc (.cells #[.string (M t.name), .int .i64 0, .string ⟨#[]⟩, .string ⟨#[]⟩, .slice none 0 0, .slice none 0 0, .string ⟨#[]⟩, .slice none 0 0] 105) = W1 at *
 refine (top_calls H1.out.1 (by omega)).mono ?_
 rintro e W2 ⟨rfl, h2⟩
 have hg2 := H1.out.1.below h2
 have hT2 := H1.out.2.1.below h2 H1.out.2.1.lt
 have hE2 := H1.out.2.2.1.below h2 H1.out.2.2.1.lt
 have hb2 := H1.out.2.2.2.trans (h2.mono H1.out.2.2.2.size)
 have hx1 : W2.cell? ⟨W.heap.size, 1, none⟩ = some (.string (M t.name)) := hT2.cell 1
 have hx2 : W2.cell? ⟨W.heap.size, 2, none⟩ = some (.slice A t.attrs.length c) := hT2.cell 2
 have he7 : W2.cell? ⟨W.heap.size + 1, 7, none⟩ = some (.slice none 0 0) := hE2.cell 7
 have hf7 := hE2.frozen 7
 rcases scope_clip hg2 with ⟨hs0, htop⟩ | ⟨eb', vs', htop, hc7, A0, c0, c', rfl, hle', hR⟩
 ·rw [htop]
  obtain ⟨A0, hA0⟩ : ∃ A0 : Option Addr, A0 = none := ⟨_, rfl⟩
  obtain ⟨c0, hc00⟩ : ∃ c0 : Nat, c0 = 0 := ⟨_, rfl⟩
  have hn0 : g.scope.length = 0 := by rw [hs0]; rfl
  have hE3 : Blk W2 (W.heap.size + 1) #[.string (M t.name), .int .i64 0, .string ⟨#[]⟩, .string ⟨#[]⟩, .slice none 0 0, .slice none 0 0, .string ⟨#[]⟩, .slice A0 g.scope.length g.scope.length] 105 := by
   rw [hA0, hn0]
   exact hE2
  have hR3 : kPair.R 144 W2 base (fun _ => True) (.slice A0 g.scope.length c0) g.scope := by
   rw [hA0, hc00, hs0]
   exact kPair_R.2 (own_nil _ _ _ _)
  have H3 := Lib.hid (And.intro hb2 (And.intro hT2 (And.intro hE3 hR3)))
  clear hs0 htop hg2 hT2 hE2 hE3 hR3 hb2 H1 h2 he7 hf7 hn0 hA0 hc00
  go_wp2_with fail
  rename World => W3
  obtain ⟨more, rest, hdecl, hscope, hres⟩ := HB.out.decl
  have hG3 : Glob W3 := HA.out.2.below H3.out.1
  have hA3 := Kd.C_below (d := kPair) HA.out.1 H3.out.1
  refine (declare_pairs A c t.attrs more rest W3 hG3 (by omega) hal hA3 hcA hdecl).mono ?_
  rintro e W4 ⟨v0, v1, rfl, r0, r1, h4⟩
  have hT4 := H3.out.2.1.below h4 H3.out.2.1.lt
  have hE4 := H3.out.2.2.1.below h4 H3.out.2.2.1.lt
  have hR4 := Kd.R_below H3.out.2.2.2 h4
  have hb4 := H3.out.1.trans (h4.mono H3.out.1.size)
  obtain ⟨B0, d0, rfl⟩ := Kd.R_slice r0
  obtain ⟨B1, d1, rfl⟩ := Kd.R_slice r1
  have hw3 := H3.out.1.size
  have hx1 : W4.cell? ⟨W.heap.size, 1, none⟩ = some (.string (M t.name)) := hT4.cell 1
  have he7 : W4.cell? ⟨W.heap.size + 1, 7, none⟩ = some (.slice A0 g.scope.length g.scope.length) := hE4.cell 7
  have hf7 := hE4.frozen 7
  have hbase : base ≤ W.heap.size := Nat.le_trans hle0 (Nat.le_of_lt hgbl)
  have hbase4 : base ≤ W4.heap.size := Nat.le_trans hbase hb4.size
  have hlen : (g.scope ++ more).length ≤ 1000000 := by rw [← hscope]; exact hsl
  have H4 := Lib.hid (And.intro hT4 (And.intro hE4 (And.intro hR4 (And.intro hb4 (And.intro r0 r1)))))
  have HP := Lib.hid (And.intro hdecl (And.intro hscope hres))
  clear hG3 hA3 hT4 hE4 hR4 hb4 r0 r1 h4 hdecl hscope hres H3 hx2
  go_wp2_with (at_builtin; refine wpList_scope_append W4 rfl (.tmp 53) (.tmp 54) rfl rfl H4.out.2.2.1 rfl H4.out.2.2.2.2.1 hbase4 hlen ?_; intro v' W5 hsc hgr; rw [← HP.out.2.1] at hsc; obtain ⟨A5, c5, c5', rfl, hle5, hR5⟩ := hsc; have hb5 : Below W4.heap.size W4 W5 := ⟨hgr.os, hgr.tape, hgr.output, hgr.size, fun k hk => hgr.block k hk (by simp)⟩; have hE5 := H4.out.2.1.below hb5 H4.out.2.1.lt; have hT5 := H4.out.1.below hb5 H4.out.1.lt; have he5 : W5.cell? ⟨W.heap.size + 1, 7, none⟩ = some (.slice A0 g.scope.length g.scope.length) := hE5.cell 7; have hf5 := hE5.frozen 7; have ht5 : W5.cell? ⟨W.heap.size, 1, none⟩ = some (.string (M t.name)) := hT5.cell 1; have H5 := Lib.hid (And.intro hE5 (And.intro hT5 (And.intro hb5 hR5))); clear hsc hgr hb5 hE5 hT5 hR5)
  have hE6 := H5.out.1.set 7 (.slice A5 f.scope.length c5')
  have hne : W.heap.size ≠ W.heap.size + 1 := by omega
  have hT6 : Blk (W5.setCell ⟨W.heap.size + 1, 7, none⟩ (.slice A5 f.scope.length c5')) W.heap.size (tokC t A c) 60 := (Below.heap_setCell _ _ _ _ (show W.heap.size ≠ W.heap.size + 1 from hne)).trans H5.out.2.1
  have hR6 := Kd.R_set H5.out.2.2.2 H5.out.1 (by decide) 7 (.slice A5 f.scope.length c5')
  have hr6 := Kd.R_set (Kd.R_below H4.out.2.2.2.2.2 H5.out.2.2.1) H5.out.1 (by decide) 7 (.slice A5 f.scope.length c5')
  have hb6 : Below W.heap.size W (W5.setCell ⟨W.heap.size + 1, 7, none⟩ (.slice A5 f.scope.length c5')) := (H4.out.2.2.2.1.trans (H5.out.2.2.1.mono H4.out.2.2.2.1.size)).setCell (p := ⟨W.heap.size + 1, 7, none⟩) (Nat.le_succ _) _
  have H6 := Lib.hid (And.intro hE6 (And.intro hT6 (And.intro hR6 (And.intro hr6 hb6))))
  clear hE6 hT6 hR6 hr6 hb6 hne H5 H4 he5 hf5 ht5 he7 hf7 hx1
  generalize W5.setCell ⟨W.heap.size + 1, 7, none⟩ (.slice A5 f.scope.length c5') = W6 at *
  have he7 : W6.cell? ⟨W.heap.size + 1, 7, none⟩ = some (.slice A5 f.scope.length c5') := H6.out.1.cell 7
  have hx1 : W6.cell? ⟨W.heap.size, 1, none⟩ = some (.string (M t.name)) := H6.out.2.1.cell 1
  have hG6 : Glob W6.drew := HA.out.2.below H6.out.2.2.2.2.drew
  obtain ⟨A6, c6, e6, _, hC6⟩ := Kd.R_reads H6.out.2.2.1
  injection e6 with e61 _ _
  rw [← e61] at hC6
  have hC6 := Kd.C_drew (d := kPair) hC6
  have hname := HB.out.name
  have HC6 := Lib.hid (And.intro hG6 (And.intro hC6 hname))
  clear hG6 hC6 hname e61
  go_region_with (go_at_call 105; refine (resolve_pairs A5 c5' f.scope t.name false (M f.sp) (M f.nm) _ HC6.out.1 hsl HC6.out.2.1 hnl HC6.out.2.2).mono ?_; rintro e W7 ⟨rfl, h7⟩; have h7 := ((Below.refl W6.heap.size W6).drew).trans h7; have hE7 := H6.out.1.below h7 H6.out.1.lt; have hq2 : W7.cell? ⟨W.heap.size + 1, 2, none⟩ = some (.string ⟨#[]⟩) := hE7.cell 2; have hq3 : W7.cell? ⟨W.heap.size + 1, 3, none⟩ = some (.string ⟨#[]⟩) := hE7.cell 3; have hfq2 := hE7.frozen 2; have hfq3 := hE7.frozen 3; have H7 := Lib.hid (And.intro hE7 h7); clear hE7 h7)
  all_goals (
   have hR8 := Kd.R_set (Kd.R_set (Kd.R_below H6.out.2.2.1 H7.out.2) H7.out.1 (by decide) 2 (.string (M f.sp))) (H7.out.1.set 2 _) (by decide) 3 (.string (M f.nm))
   have hr8 := Kd.R_set (Kd.R_set (Kd.R_below H6.out.2.2.2.1 H7.out.2) H7.out.1 (by decide) 2 (.string (M f.sp))) (H7.out.1.set 2 _) (by decide) 3 (.string (M f.nm))
   have hE8 := (H7.out.1.set 2 (.string (M f.sp))).set 3 (.string (M f.nm))
   have hb8 := ((H6.out.2.2.2.2.trans (H7.out.2.mono H6.out.2.2.2.2.size)).setCell (p := ⟨W.heap.size + 1, 2, none⟩) (Nat.le_succ _) (.string (M f.sp))).setCell (p := ⟨W.heap.size + 1, 3, none⟩) (Nat.le_succ _) (.string (M f.nm))
   have H8 := Lib.hid (And.intro hE8 (And.intro hR8 (And.intro hr8 hb8)))
   clear hE8 hR8 hr8 hb8 H7 H6 hq2 hq3 hfq2 hfq3 he7 hx1 HC6
   generalize (W7.setCell ⟨W.heap.size + 1, 2, none⟩ (.string (M f.sp))).setCell ⟨W.heap.size + 1, 3, none⟩ (.string (M f.nm)) = W8 at *
   have he7 : W8.cell? ⟨W.heap.size + 1, 7, none⟩ = some (.slice A5 f.scope.length c5') := H8.out.1.cell 7
   have he4 : W8.cell? ⟨W.heap.size + 1, 4, none⟩ = some (.slice none 0 0) := H8.out.1.cell 4
   have hG8 : Glob W8 := HA.out.2.below H8.out.2.2.2
   obtain ⟨A8, c8, e8, _, hC8⟩ := Kd.R_reads H8.out.2.1
   injection e8 with e81 _ _
   rw [← e81] at hC8
   obtain ⟨A9, c9, e9, _, hC9⟩ := Kd.R_reads H8.out.2.2.1
   injection e9 with e91 _ _
   rw [← e91] at hC9
   obtain ⟨hrl, hrk⟩ := declV_few HP.out.1 hal
   have HC8 := Lib.hid (And.intro hG8 (And.intro hC8 hC9))
   clear hG8 hC8 hC9 e81 e91
   go_wp2_with fail
   refine (gattrs_calls A5 B1 c5' _ f.scope rest f.attrs W8 HC8.out.1 (by omega) hsl hrk HC8.out.2.1 HC8.out.2.2 HP.out.2.2).mono ?_
   rintro e W9 ⟨va, rfl, hat, h9⟩
   have hE9 := H8.out.1.below h9 H8.out.1.lt
   have hR9 := Kd.R_below H8.out.2.1 h9
   have he9 : W9.cell? ⟨W.heap.size + 1, 4, none⟩ = some (.slice none 0 0) := hE9.cell 4
   have hf9 := hE9.frozen 4
   have hb9 := H8.out.2.2.2.trans (h9.mono H8.out.2.2.2.size)
   have hat9 := Kd.R_lower hat (Nat.le_trans (Nat.le_trans hle0 (Nat.le_of_lt hgbl)) H8.out.2.2.2.size)
   obtain ⟨A10, c10, rfl⟩ := Kd.R_slice hat
   have H9 := Lib.hid (And.intro hE9 (And.intro hR9 (And.intro hat9 hb9)))
   clear hE9 hR9 hat9 hat h9 hb9 HC8 H8 he7 he4
   go_wp2
   have hh := H9.out.1.set 4 (.slice A10 f.attrs.length c10)
   rw [← HB.out.tag] at hh
   have hkn : kTr.R 25 (W9.setCell ⟨W.heap.size + 1, 4, none⟩ (.slice A10 f.attrs.length c10)) base (fun k => ∀ o ∈ ([] : List (Option Nat)), some k ≠ o) (.slice none 0 0) f.kids := by
    rw [HB.out.kids]
    exact Kd.R_nil _ _ _ _ _
   go_ret2
   exact ⟨W.heap.size + 1, rfl, Nat.le_succ _, ⟨⟨.slice A10 f.attrs.length c10, .slice A5 f.scope.length c5', hh, Kd.R_set H9.out.2.2.1 H9.out.1 (by decide) 4 _, A5, _, c5', rfl, hle5, Kd.R_set H9.out.2.1 H9.out.1 (by decide) 4 _⟩, hkn, by omega⟩, H9.out.2.2.2.setCell (p := ⟨W.heap.size + 1, 4, none⟩) (Nat.le_succ _) _⟩)
 ·rw [htop]
  clear hg2 hE2
  have hn : g.scope.length ≤ 1000000 := by
   obtain ⟨more, rest, _, hscope, _⟩ := HB.out.decl
   rw [hscope, List.length_append] at hsl
   omega
  go_wp2_with fail
  refine (clip_calls A0 g.scope.length c' W2 hle' hn).mono ?_
  rintro e W2' ⟨rfl, rfl⟩
  have hne : W.heap.size ≠ W.heap.size + 1 := by omega
  have hE3 := H1.out.2.2.1.below h2 H1.out.2.2.1.lt
  have hT3 : Blk (W2'.setCell ⟨W.heap.size + 1, 7, none⟩ (.slice A0 g.scope.length g.scope.length)) W.heap.size (tokC t A c) 60 := (Below.heap_setCell _ _ _ _ (show W.heap.size ≠ W.heap.size + 1 from hne)).trans hT2
  have hR3 := Kd.R_set hR hE3 (by decide) 7 (.slice A0 g.scope.length g.scope.length)
  have hb3 := hb2.setCell (p := ⟨W.heap.size + 1, 7, none⟩) (Nat.le_succ _) (.slice A0 g.scope.length g.scope.length)
  have hE3 := hE3.set 7 (.slice A0 g.scope.length g.scope.length)
  go_wp2_with fail
  have H3 := Lib.hid (And.intro hb3 (And.intro hT3 (And.intro hE3 hR3)))
  clear hne hE3 hT3 hR3 hb3 hb2 hT2 H1 h2 he7 hf7 hx1 hx2 hc7 hR htop
  generalize W2'.setCell ⟨W.heap.size + 1, 7, none⟩ (.slice A0 g.scope.length g.scope.length) = W3 at *
  have hx2 : W3.cell? ⟨W.heap.size, 2, none⟩ = some (.slice A t.attrs.length c) := H3.out.2.1.cell 2
  obtain ⟨more, rest, hdecl, hscope, hres⟩ := HB.out.decl
  have hG3 : Glob W3 := HA.out.2.below H3.out.1
  have hA3 := Kd.C_below (d := kPair) HA.out.1 H3.out.1
  refine (declare_pairs A c t.attrs more rest W3 hG3 (by omega) hal hA3 hcA hdecl).mono ?_
  rintro e W4 ⟨v0, v1, rfl, r0, r1, h4⟩
  have hT4 := H3.out.2.1.below h4 H3.out.2.1.lt
  have hE4 := H3.out.2.2.1.below h4 H3.out.2.2.1.lt
  have hR4 := Kd.R_below H3.out.2.2.2 h4
  have hb4 := H3.out.1.trans (h4.mono H3.out.1.size)
  obtain ⟨B0, d0, rfl⟩ := Kd.R_slice r0
  obtain ⟨B1, d1, rfl⟩ := Kd.R_slice r1
  have hw3 := H3.out.1.size
  have hx1 : W4.cell? ⟨W.heap.size, 1, none⟩ = some (.string (M t.name)) := hT4.cell 1
  have he7 : W4.cell? ⟨W.heap.size + 1, 7, none⟩ = some (.slice A0 g.scope.length g.scope.length) := hE4.cell 7
  have hf7 := hE4.frozen 7
  have hbase : base ≤ W.heap.size := Nat.le_trans hle0 (Nat.le_of_lt hgbl)
  have hbase4 : base ≤ W4.heap.size := Nat.le_trans hbase hb4.size
  have hlen : (g.scope ++ more).length ≤ 1000000 := by rw [← hscope]; exact hsl
  have H4 := Lib.hid (And.intro hT4 (And.intro hE4 (And.intro hR4 (And.intro hb4 (And.intro r0 r1)))))
  have HP := Lib.hid (And.intro hdecl (And.intro hscope hres))
  clear hG3 hA3 hT4 hE4 hR4 hb4 r0 r1 h4 hdecl hscope hres H3 hx2
  go_wp2_with (at_builtin; refine wpList_scope_append W4 rfl (.tmp 53) (.tmp 54) rfl rfl H4.out.2.2.1 rfl H4.out.2.2.2.2.1 hbase4 hlen ?_; intro v' W5 hsc hgr; rw [← HP.out.2.1] at hsc; obtain ⟨A5, c5, c5', rfl, hle5, hR5⟩ := hsc; have hb5 : Below W4.heap.size W4 W5 := ⟨hgr.os, hgr.tape, hgr.output, hgr.size, fun k hk => hgr.block k hk (by simp)⟩; have hE5 := H4.out.2.1.below hb5 H4.out.2.1.lt; have hT5 := H4.out.1.below hb5 H4.out.1.lt; have he5 : W5.cell? ⟨W.heap.size + 1, 7, none⟩ = some (.slice A0 g.scope.length g.scope.length) := hE5.cell 7; have hf5 := hE5.frozen 7; have ht5 : W5.cell? ⟨W.heap.size, 1, none⟩ = some (.string (M t.name)) := hT5.cell 1; have H5 := Lib.hid (And.intro hE5 (And.intro hT5 (And.intro hb5 hR5))); clear hsc hgr hb5 hE5 hT5 hR5)
  have hE6 := H5.out.1.set 7 (.slice A5 f.scope.length c5')
  have hne : W.heap.size ≠ W.heap.size + 1 := by omega
  have hT6 : Blk (W5.setCell ⟨W.heap.size + 1, 7, none⟩ (.slice A5 f.scope.length c5')) W.heap.size (tokC t A c) 60 := (Below.heap_setCell _ _ _ _ (show W.heap.size ≠ W.heap.size + 1 from hne)).trans H5.out.2.1
  have hR6 := Kd.R_set H5.out.2.2.2 H5.out.1 (by decide) 7 (.slice A5 f.scope.length c5')
  have hr6 := Kd.R_set (Kd.R_below H4.out.2.2.2.2.2 H5.out.2.2.1) H5.out.1 (by decide) 7 (.slice A5 f.scope.length c5')
  have hb6 : Below W.heap.size W (W5.setCell ⟨W.heap.size + 1, 7, none⟩ (.slice A5 f.scope.length c5')) := (H4.out.2.2.2.1.trans (H5.out.2.2.1.mono H4.out.2.2.2.1.size)).setCell (p := ⟨W.heap.size + 1, 7, none⟩) (Nat.le_succ _) _
  have H6 := Lib.hid (And.intro hE6 (And.intro hT6 (And.intro hR6 (And.intro hr6 hb6))))
  clear hE6 hT6 hR6 hr6 hb6 hne H5 H4 he5 hf5 ht5 he7 hf7 hx1
  generalize W5.setCell ⟨W.heap.size + 1, 7, none⟩ (.slice A5 f.scope.length c5') = W6 at *
  have he7 : W6.cell? ⟨W.heap.size + 1, 7, none⟩ = some (.slice A5 f.scope.length c5') := H6.out.1.cell 7
  have hx1 : W6.cell? ⟨W.heap.size, 1, none⟩ = some (.string (M t.name)) := H6.out.2.1.cell 1
  have hG6 : Glob W6.drew := HA.out.2.below H6.out.2.2.2.2.drew
  obtain ⟨A6, c6, e6, _, hC6⟩ := Kd.R_reads H6.out.2.2.1
  injection e6 with e61 _ _
  rw [← e61] at hC6
  have hC6 := Kd.C_drew (d := kPair) hC6
  have hname := HB.out.name
  have HC6 := Lib.hid (And.intro hG6 (And.intro hC6 hname))
  clear hG6 hC6 hname e61
  go_region_with (go_at_call 105; refine (resolve_pairs A5 c5' f.scope t.name false (M f.sp) (M f.nm) _ HC6.out.1 hsl HC6.out.2.1 hnl HC6.out.2.2).mono ?_; rintro e W7 ⟨rfl, h7⟩; have h7 := ((Below.refl W6.heap.size W6).drew).trans h7; have hE7 := H6.out.1.below h7 H6.out.1.lt; have hq2 : W7.cell? ⟨W.heap.size + 1, 2, none⟩ = some (.string ⟨#[]⟩) := hE7.cell 2; have hq3 : W7.cell? ⟨W.heap.size + 1, 3, none⟩ = some (.string ⟨#[]⟩) := hE7.cell 3; have hfq2 := hE7.frozen 2; have hfq3 := hE7.frozen 3; have H7 := Lib.hid (And.intro hE7 h7); clear hE7 h7)
  all_goals (
   have hR8 := Kd.R_set (Kd.R_set (Kd.R_below H6.out.2.2.1 H7.out.2) H7.out.1 (by decide) 2 (.string (M f.sp))) (H7.out.1.set 2 _) (by decide) 3 (.string (M f.nm))
   have hr8 := Kd.R_set (Kd.R_set (Kd.R_below H6.out.2.2.2.1 H7.out.2) H7.out.1 (by decide) 2 (.string (M f.sp))) (H7.out.1.set 2 _) (by decide) 3 (.string (M f.nm))
   have hE8 := (H7.out.1.set 2 (.string (M f.sp))).set 3 (.string (M f.nm))
   have hb8 := ((H6.out.2.2.2.2.trans (H7.out.2.mono H6.out.2.2.2.2.size)).setCell (p := ⟨W.heap.size + 1, 2, none⟩) (Nat.le_succ _) (.string (M f.sp))).setCell (p := ⟨W.heap.size + 1, 3, none⟩) (Nat.le_succ _) (.string (M f.nm))
   have H8 := Lib.hid (And.intro hE8 (And.intro hR8 (And.intro hr8 hb8)))
   clear hE8 hR8 hr8 hb8 H7 H6 hq2 hq3 hfq2 hfq3 he7 hx1 HC6
   generalize (W7.setCell ⟨W.heap.size + 1, 2, none⟩ (.string (M f.sp))).setCell ⟨W.heap.size + 1, 3, none⟩ (.string (M f.nm)) = W8 at *
   have he7 : W8.cell? ⟨W.heap.size + 1, 7, none⟩ = some (.slice A5 f.scope.length c5') := H8.out.1.cell 7
   have he4 : W8.cell? ⟨W.heap.size + 1, 4, none⟩ = some (.slice none 0 0) := H8.out.1.cell 4
   have hG8 : Glob W8 := HA.out.2.below H8.out.2.2.2
   obtain ⟨A8, c8, e8, _, hC8⟩ := Kd.R_reads H8.out.2.1
   injection e8 with e81 _ _
   rw [← e81] at hC8
   obtain ⟨A9, c9, e9, _, hC9⟩ := Kd.R_reads H8.out.2.2.1
   injection e9 with e91 _ _
   rw [← e91] at hC9
   obtain ⟨hrl, hrk⟩ := declV_few HP.out.1 hal
   have HC8 := Lib.hid (And.intro hG8 (And.intro hC8 hC9))
   clear hG8 hC8 hC9 e81 e91
   go_wp2_with fail
   refine (gattrs_calls A5 B1 c5' _ f.scope rest f.attrs W8 HC8.out.1 (by omega) hsl hrk HC8.out.2.1 HC8.out.2.2 HP.out.2.2).mono ?_
   rintro e W9 ⟨va, rfl, hat, h9⟩
   have hE9 := H8.out.1.below h9 H8.out.1.lt
   have hR9 := Kd.R_below H8.out.2.1 h9
   have he9 : W9.cell? ⟨W.heap.size + 1, 4, none⟩ = some (.slice none 0 0) := hE9.cell 4
   have hf9 := hE9.frozen 4
   have hb9 := H8.out.2.2.2.trans (h9.mono H8.out.2.2.2.size)
   have hat9 := Kd.R_lower hat (Nat.le_trans (Nat.le_trans hle0 (Nat.le_of_lt hgbl)) H8.out.2.2.2.size)
   obtain ⟨A10, c10, rfl⟩ := Kd.R_slice hat
   have H9 := Lib.hid (And.intro hE9 (And.intro hR9 (And.intro hat9 hb9)))
   clear hE9 hR9 hat9 hat h9 hb9 HC8 H8 he7 he4
   go_wp2
   have hh := H9.out.1.set 4 (.slice A10 f.attrs.length c10)
   rw [← HB.out.tag] at hh
   have hkn : kTr.R 25 (W9.setCell ⟨W.heap.size + 1, 4, none⟩ (.slice A10 f.attrs.length c10)) base (fun k => ∀ o ∈ ([] : List (Option Nat)), some k ≠ o) (.slice none 0 0) f.kids := by
    rw [HB.out.kids]
    exact Kd.R_nil _ _ _ _ _
   go_ret2
   exact ⟨W.heap.size + 1, rfl, Nat.le_succ _, ⟨⟨.slice A10 f.attrs.length c10, .slice A5 f.scope.length c5', hh, Kd.R_set H9.out.2.2.1 H9.out.1 (by decide) 4 _, A5, _, c5', rfl, hle5, Kd.R_set H9.out.2.1 H9.out.1 (by decide) 4 _⟩, hkn, by omega⟩, H9.out.2.2.2.setCell (p := ⟨W.heap.size + 1, 4, none⟩) (Nat.le_succ _) _⟩)
theorem gput_calls {W : World} {base gb : Nat} {g : Gr} {es : List (Nat × Value)} {sv rv : Value} {t : Tr} {cs : List Value} (h : GrAt W base gb g es sv rv) (hf : g.fits t) (hM : kTr.M W base (fun k => ∀ o ∈ owns es, some k ≠ o) t cs) (h30 : es.length ≤ 100) (hkn : ∀ f ∈ g.stack, f.kids.length ≤ 1000000) :
  Calls Tryz.prog 67 #[.pointer (some ⟨gb, 0, none⟩), .agg cs.toArray] W (Grown W base gb (g.put t)) := by
 have hl := h.len
 cases hs : g.stack with
 | nil =>
   rw [hs] at hl
   obtain rfl : es = [] := List.eq_nil_of_length_eq_zero hl.symm
   exact gput_root h hs (kTr.M_mono (fun _ _ => trivial) hM)
 | cons f fs =>
   cases es with
   | nil => rw [hs] at hl; cases hl
   | cons e es =>
     obtain ⟨eb, vk⟩ := e
     refine gput_kid ⟨h, hs⟩ ?_ hM (by rw [List.length_cons] at h30; omega) (hkn f (by rw [hs]; exact List.mem_cons_self))
     have := hf
     unfold Gr.fits at this
     rw [hs] at this
     exact this
theorem plain_calls (n : Bs) (w : World) (hG : Glob w) (hn : n.length < 4611686018427387904) : Calls Tryz.prog 22 #[.string (M n)] w fun e w' => e = .returned (.bool (U.plainB n)) ∧ Below w.heap.size w w' := by
 obtain ⟨K, hK⟩ := U.gplain_ev n hn
 exact glyph_Plain.calls K (M n) _ w hG (hK K (Nat.le_refl _))
theorem leaf_M {W : World} {base : Nat} {ok : Nat → Prop} (k : Int) (n d : Bs) : kTr.M W base ok (.mk k [] n [] [] d) [.int .i64 k, .string ⟨#[]⟩, .string (M n), .slice none 0 0, .slice none 0 0, .string (M d)] :=
 kTr_mkM (t := .mk k [] n [] [] d) (Kd.R_nil _ _ _ _ _) (Kd.R_nil _ _ _ _ _)
set_option maxRecDepth 100000 in
set_option maxHeartbeats 2000000 in
theorem aside_calls {W : World} {base gb : Nat} {g : Gr} {es : List (Nat × Value)} {sv rv : Value} {k : Int} {n d : Bs} (h : GrAt W base gb g es sv rv) (hG : Glob W) (hk : k = 2 ∨ (k = 3 ∧ U.plainB n = true)) (hn : n.length < 4611686018427387904) (h30 : es.length ≤ 100) (hkn : ∀ f ∈ g.stack, f.kids.length ≤ 1000000) (hne : g.stack ≠ []) :
  Calls Tryz.prog 38 #[.pointer (some ⟨gb, 0, none⟩), .agg #[.int .i64 k, .string ⟨#[]⟩, .string (M n), .slice none 0 0, .slice none 0 0, .string (M d)]] W fun e w' => e = .returned (.int .i64 0) ∧ ∃ es sv rv, GrAt w' base gb (g.put (.mk k [] n [] [] d)) es sv rv ∧ Below base W w' := by
 have hbx : Blk (W.alloc (.cells #[.int .i64 k, .string ⟨#[]⟩, .string (M n), .slice none 0 0, .slice none 0 0, .string (M d)] 25)) W.heap.size #[.int .i64 k, .string ⟨#[]⟩, .string (M n), .slice none 0 0, .slice none 0 0, .string (M d)] 25 := Blk.new _ _ _
 have hb0 := (Below.refl W.heap.size W).alloc (Nat.le_refl _) (.cells #[.int .i64 k, .string ⟨#[]⟩, .string (M n), .slice none 0 0, .slice none 0 0, .string (M d)] 25)
 have H0 := Lib.hid (And.intro (h.below hb0) (And.intro hbx (And.intro hb0 (hG.below hb0))))
 have hle := h.le
 have hlt := h.blk.lt
 have hes : es ≠ [] := fun e => hne (List.eq_nil_of_length_eq_zero (by rw [h.len, e]; rfl))
 have hfit : g.fits (.mk k [] n [] [] d) := by
  unfold Gr.fits
  split
  ·trivial
  ·intro h1
   exfalso
   have h1 : k = 1 := h1
   rcases hk with h2 | ⟨h2, _⟩ <;> rw [h2] at h1 <;> cases h1
 have HF := Lib.hid hfit
 clear h hbx hb0 hG hfit
 obtain ⟨et, es', rfl⟩ : ∃ et es', es = et :: es' := by
  cases es with
  | nil => exact absurd rfl hes
  | cons a b => exact ⟨a, b, rfl⟩
 obtain ⟨eb, vk⟩ := et
 have hx0 : (W.alloc (.cells #[.int .i64 k, .string ⟨#[]⟩, .string (M n), .slice none 0 0, .slice none 0 0, .string (M d)] 25)).cell? ⟨W.heap.size, 0, none⟩ = some (.int .i64 k) := H0.out.2.1.cell 0
 have hx2 : (W.alloc (.cells #[.int .i64 k, .string ⟨#[]⟩, .string (M n), .slice none 0 0, .slice none 0 0, .string (M d)] 25)).cell? ⟨W.heap.size, 2, none⟩ = some (.string (M n)) := H0.out.2.1.cell 2
 rcases hk with rfl | ⟨rfl, hp⟩
 ·go_enter Tryz.func38, Tryz.ntmps38
  go_wp2_with fail
  refine (top_calls H0.out.1 (by omega)).mono ?_
  rintro e W1 ⟨rfl, h1⟩
  rw [show topV ((eb, vk) :: es') = .pointer (some ⟨eb, 0, none⟩) from rfl]
  have hb1 := H0.out.2.1.below h1 H0.out.2.1.lt
  have y0 := hb1.cell 0
  have y1 := hb1.cell 1
  have y2 := hb1.cell 2
  have y3 := hb1.cell 3
  have y4 := hb1.cell 4
  have y5 := hb1.cell 5
  have H1 := Lib.hid (And.intro (H0.out.1.below h1) (H0.out.2.2.1.trans (h1.mono H0.out.2.2.1.size)))
  clear h1 hb1
  go_wp2_with fail
  refine (gput_calls H1.out.1 HF.out (leaf_M _ n d) h30 hkn).mono ?_
  rintro e W2 ⟨es2, sv2, rv2, rfl, hg2, hb2⟩
  have H2 := Lib.hid (And.intro hg2 ((H1.out.2.mono (Nat.le_trans hle (Nat.le_of_lt hlt))).trans hb2))
  clear hg2 hb2
  go_wp2
  go_ret
  exact ⟨rfl, es2, sv2, rv2, H2.out.1, H2.out.2⟩
 ·have hpc := plain_calls n (W.alloc (.cells #[.int .i64 3, .string ⟨#[]⟩, .string (M n), .slice none 0 0, .slice none 0 0, .string (M d)] 25)) H0.out.2.2.2 hn
  rw [hp] at hpc
  have HPC := Lib.hid hpc
  clear hpc hp
  go_enter Tryz.func38, Tryz.ntmps38
  go_wp2_with fail
  refine HPC.out.mono ?_
  rintro e Wp ⟨rfl, hbp⟩
  have hgp := H0.out.1.below hbp
  have hxp := H0.out.2.1.below hbp H0.out.2.1.lt
  have hbp0 := H0.out.2.2.1.trans (hbp.mono H0.out.2.2.1.size)
  have hGp := H0.out.2.2.2.below hbp
  have H0 := Lib.hid (And.intro hgp (And.intro hxp (And.intro hbp0 hGp)))
  clear hgp hxp hbp0 hGp hbp HPC
  go_wp2_with fail
  refine (top_calls H0.out.1 (by omega)).mono ?_
  rintro e W1 ⟨rfl, h1⟩
  rw [show topV ((eb, vk) :: es') = .pointer (some ⟨eb, 0, none⟩) from rfl]
  have hb1 := H0.out.2.1.below h1 H0.out.2.1.lt
  have y0 := hb1.cell 0
  have y1 := hb1.cell 1
  have y2 := hb1.cell 2
  have y3 := hb1.cell 3
  have y4 := hb1.cell 4
  have y5 := hb1.cell 5
  have H1 := Lib.hid (And.intro (H0.out.1.below h1) (H0.out.2.2.1.trans (h1.mono H0.out.2.2.1.size)))
  clear h1 hb1
  go_wp2_with fail
  refine (gput_calls H1.out.1 HF.out (leaf_M _ n d) h30 hkn).mono ?_
  rintro e W2 ⟨es2, sv2, rv2, rfl, hg2, hb2⟩
  have H2 := Lib.hid (And.intro hg2 ((H1.out.2.mono (Nat.le_trans hle (Nat.le_of_lt hlt))).trans hb2))
  clear hg2 hb2
  go_wp2
  go_ret
  exact ⟨rfl, es2, sv2, rv2, H2.out.1, H2.out.2⟩
set_option maxRecDepth 100000 in
set_option maxHeartbeats 2000000 in
theorem chars_in {W : World} {base gb : Nat} {g : Gr} {es : List (Nat × Value)} {sv rv : Value} {t : Tok} {A : Option Addr} {c : Nat} (h : GrAt W base gb g es sv rv) (hd : t.data ≠ []) (hfit : g.fits (.mk 1 [] [] [] [] t.data)) (h30 : es.length ≤ 100) (hkn : ∀ f ∈ g.stack, f.kids.length ≤ 1000000) (hne : g.stack ≠ []) :
  Calls Tryz.prog 37 #[.pointer (some ⟨gb, 0, none⟩), .agg (tokC t A c)] W fun e w' => e = .returned (.int .i64 0) ∧ ∃ es sv rv, GrAt w' base gb (g.put (.mk 1 [] [] [] [] t.data)) es sv rv ∧ Below base W w' := by
 have hbx : Blk (W.alloc (.cells (tokC t A c) 60)) W.heap.size (tokC t A c) 60 := Blk.new _ _ _
 have hb0 := (Below.refl W.heap.size W).alloc (Nat.le_refl _) (.cells (tokC t A c) 60)
 have H0 := Lib.hid (And.intro (h.below hb0) (And.intro hbx hb0))
 have hle := h.le
 have hlt := h.blk.lt
 have hes : es ≠ [] := fun e => hne (List.eq_nil_of_length_eq_zero (by rw [h.len, e]; rfl))
 have HF := Lib.hid hfit
 clear h hbx hb0 hfit
 obtain ⟨et, es', rfl⟩ : ∃ et es', es = et :: es' := by
  cases es with
  | nil => exact absurd rfl hes
  | cons a b => exact ⟨a, b, rfl⟩
 obtain ⟨eb, vk⟩ := et
 have hd2 : List.isEmpty t.data = false := by
  cases hx : t.data with
  | nil => exact absurd hx hd
  | cons a b => rfl
 go_enter Tryz.func37, Tryz.ntmps37
 go_wp2_with fail
 refine (top_calls H0.out.1 (by omega)).mono ?_
 rintro e W1 ⟨rfl, h1⟩
 rw [show topV ((eb, vk) :: es') = .pointer (some ⟨eb, 0, none⟩) from rfl]
 have hb1 := H0.out.2.1.below h1 H0.out.2.1.lt
 have H1 := Lib.hid (And.intro (H0.out.1.below h1) (And.intro hb1 (H0.out.2.2.trans (h1.mono H0.out.2.2.size))))
 clear h1 hb1
 go_wp2_with fail
 refine (top_calls H1.out.1 (by omega)).mono ?_
 rintro e W2 ⟨rfl, h2⟩
 rw [show topV ((eb, vk) :: es') = .pointer (some ⟨eb, 0, none⟩) from rfl]
 have hb2 := H1.out.2.1.below h2 H1.out.2.1.lt
 have y4 : W2.cell? ⟨W.heap.size, 4, none⟩ = some (.string (M t.data)) := hb2.cell 4
 have H2 := Lib.hid (And.intro (H1.out.1.below h2) (H1.out.2.2.trans (h2.mono H1.out.2.2.size)))
 clear h2 hb2
 go_wp2_with fail
 refine (gput_calls H2.out.1 HF.out (leaf_M 1 [] t.data) h30 hkn).mono ?_
 rintro e W3 ⟨es2, sv2, rv2, rfl, hg2, hb2⟩
 have H3 := Lib.hid (And.intro hg2 ((H2.out.2.mono (Nat.le_trans hle (Nat.le_of_lt hlt))).trans hb2))
 clear hg2 hb2
 go_wp2
 go_ret
 exact ⟨rfl, es2, sv2, rv2, H3.out.1, H3.out.2⟩
theorem blank_calls (d : Bs) (w : World) (hd : d.length ≤ 9223372036854775807) (h : Lib.trimS d [32, 9, 10, 13] = []) : Calls Tryz.prog 69 #[.string (M d)] w fun e w' => e = .returned (.bool true) ∧ Below w.heap.size w w' := by
 have ht := trim_calls (M d) [32, 9, 10, 13] w hd (by decide) (ascii_of_all (by decide))
 rw [show L (M d) = d from rfl, h] at ht
 have HT := Lib.hid ht
 clear ht
 go_enter Tryz.func69, Tryz.ntmps69
 go_wp2_with fail
 refine HT.out.mono ?_
 rintro e w1 ⟨rfl, h1⟩
 go_wp2
 go_ret
 exact ⟨rfl, h1⟩
set_option maxRecDepth 100000 in
set_option maxHeartbeats 2000000 in
theorem chars_out {W : World} {base gb : Nat} {g : Gr} {sv rv : Value} {t : Tok} {A : Option Addr} {c : Nat} (h : GrAt W base gb g [] sv rv) (hd : Lib.trimS t.data [32, 9, 10, 13] = []) (hal : t.alone = false) (hdl : t.data.length ≤ 9223372036854775807) :
  Calls Tryz.prog 37 #[.pointer (some ⟨gb, 0, none⟩), .agg (tokC t A c)] W fun e w' => e = .returned (.int .i64 0) ∧ GrAt w' base gb g [] sv rv ∧ Below base W w' := by
 have hbx : Blk (W.alloc (.cells (tokC t A c) 60)) W.heap.size (tokC t A c) 60 := Blk.new _ _ _
 have hb0 := (Below.refl W.heap.size W).alloc (Nat.le_refl _) (.cells (tokC t A c) 60)
 have H0 := Lib.hid (And.intro (h.below hb0) (And.intro hbx hb0))
 have hle := h.le
 have hlt := h.blk.lt
 clear h hbx hb0
 go_enter Tryz.func37, Tryz.ntmps37
 go_wp2_with fail
 refine (top_calls H0.out.1 (by simp)).mono ?_
 rintro e W1 ⟨rfl, h1⟩
 rw [show topV [] = .pointer none from rfl]
 have hb1 := H0.out.2.1.below h1 H0.out.2.1.lt
 have y3 : W1.cell? ⟨W.heap.size, 3, none⟩ = some (.bool false) := by rw [← hal]; exact hb1.cell 3
 have y4 : W1.cell? ⟨W.heap.size, 4, none⟩ = some (.string (M t.data)) := hb1.cell 4
 have H1 := Lib.hid (And.intro (H0.out.1.below h1) (And.intro hb1 (H0.out.2.2.trans (h1.mono H0.out.2.2.size))))
 clear h1 hb1
 go_wp2_with fail
 refine (blank_calls t.data W1 hdl hd).mono ?_
 rintro e W2 ⟨rfl, h2⟩
 have H2 := Lib.hid (And.intro (H1.out.1.below h2) (H1.out.2.2.trans (h2.mono H1.out.2.2.size)))
 clear h2
 go_wp2_with fail
 refine (top_calls H2.out.1 (by simp)).mono ?_
 rintro e W3 ⟨rfl, h3⟩
 rw [show topV [] = .pointer none from rfl]
 have H3 := Lib.hid (And.intro (H2.out.1.below h3) (H2.out.2.trans (h3.mono H2.out.2.size)))
 clear h3
 go_wp2
 go_ret
 exact ⟨rfl, H3.out.1, H3.out.2.mono (Nat.le_trans hle (Nat.le_of_lt hlt))⟩
theorem tree_M {W : World} {base : Nat} {f : Fr} {fs : List Fr} {eb : Nat} {vk : Value} {es : List (Nat × Value)} {ex : List (Option Nat)} (hF : FrAt W base f eb vk (owns es)) (hfs : Frs W base fs es ex) :
  ∃ va vs, Blk W eb (opC f va vk vs) 105 ∧ kTr.M W base (fun k => ∀ o ∈ owns es, some k ≠ o) f.tree [.int .i64 0, .string (M f.sp), .string (M f.nm), va, vk, .string ⟨#[]⟩] := by
 obtain ⟨va, vs, hb, ha, hs⟩ := hF.blk
 refine ⟨va, vs, hb, kTr_mkM (t := f.tree) (Kd.R_mono (Kd.R_bound ha) fun k hk o ho e => ?_) hF.kids⟩
 obtain ⟨_, cs, hc⟩ := hfs.owned o ho k e.symm
 obtain ⟨_, _, _, q, hq, cells, hcell⟩ := hk
 have hq : q = 38 := by simpa [kAttr, Kd.iso, Kd.pair, Kd.string, Kd.scalar] using hq
 rw [hq] at hcell
 exact ne_of_type hc hcell (by decide) rfl
theorem popped {W : World} {base gb : Nat} {f : Fr} {fs : List Fr} {root : Option Tr} {eb : Nat} {vk : Value} {es : List (Nat × Value)} {sg cap : Nat} {rv : Value} (h : GrAt W base gb ⟨f :: fs, root⟩ ((eb, vk) :: es) (.slice (some ⟨sg, 0, none⟩) (es.length + 1) cap) rv) (hfs : Frs W base fs es [vk.ownBlock]) :
  GrAt (W.setCell ⟨gb, 0, none⟩ (.slice (some ⟨sg, 0, none⟩) es.length cap)) base gb ⟨fs, root⟩ es (.slice (some ⟨sg, 0, none⟩) es.length cap) rv := by
 have hst := h.stk
 rw [show ptrs ((eb, vk) :: es) = ptrs es ++ [.pointer (some ⟨eb, 0, none⟩)] by simp [ptrs]] at hst
 have hpop := ownsRow_pop (by simp [ptrs]) hst
 refine ⟨h.blk.set 0 _, own_move hpop (fun k hk => Below.heap_setCell _ _ _ _ ?_), h.root.far h.blk (by decide) (by decide) 0 _, (hfs.less (fun o ho => by cases ho)).far h.blk (fun e he => ?_) (by decide) (by decide) (by decide) 0 _, h.le, fun _ => h.single (by simp)⟩
 ·obtain ⟨cs', hc'⟩ := own_typed hpop k hk
  exact ne_of_type hc' h.blk (by decide)
 ·obtain ⟨cs', hc'⟩ := hfs.ofType e he
  exact ne_of_type hc' h.blk (by decide)
set_option maxRecDepth 100000 in
set_option maxHeartbeats 4000000 in
theorem end_calls {W : World} {base gb : Nat} {f : Fr} {fs : List Fr} {root : Option Tr} {es : List (Nat × Value)} {sv rv : Value} {t : Tok} {A : Option Addr} {c : Nat} (h : GrAt W base gb ⟨f :: fs, root⟩ es sv rv) (ht : t.name = f.tag) (h30 : es.length ≤ 100) (hkn : ∀ f ∈ fs, f.kids.length ≤ 1000000) :
  Calls Tryz.prog 36 #[.pointer (some ⟨gb, 0, none⟩), .agg (tokC t A c)] W fun e w' => e = .returned (.int .i64 0) ∧ ∃ es sv rv, GrAt w' base gb (Gr.put ⟨fs, root⟩ f.tree) es sv rv ∧ Below base W w' := by
 have hbx : Blk (W.alloc (.cells (tokC t A c) 60)) W.heap.size (tokC t A c) 60 := Blk.new _ _ _
 have hb0 := (Below.refl W.heap.size W).alloc (Nat.le_refl _) (.cells (tokC t A c) 60)
 have H0 := Lib.hid (And.intro (h.below hb0) (And.intro hbx hb0))
 have hle := h.le
 have hlt := h.blk.lt
 obtain ⟨et, es', rfl⟩ : ∃ et es', es = et :: es' := by
  cases es with
  | nil => exact h.frs.elim
  | cons a b => exact ⟨a, b, rfl⟩
 obtain ⟨eb, vk⟩ := et
 clear h hbx hb0
 go_enter Tryz.func36, Tryz.ntmps36
 go_wp2_with fail
 refine (top_calls H0.out.1 (by omega)).mono ?_
 rintro e W1 ⟨rfl, h1⟩
 rw [show topV ((eb, vk) :: es') = .pointer (some ⟨eb, 0, none⟩) from rfl]
 have hg1 := H0.out.1.below h1
 have hb1 := H0.out.2.1.below h1 H0.out.2.1.lt
 obtain ⟨hF, hne, hfs⟩ := hg1.frs
 obtain ⟨va, vs, hE, hM⟩ := tree_M (hF.less (ex' := owns es') fun o ho => .inr (List.mem_append_left _ ho)) hfs
 have y1 : W1.cell? ⟨W.heap.size, 1, none⟩ = some (.string (M f.tag)) := by rw [← ht]; exact hb1.cell 1
 have z0 : W1.cell? ⟨eb, 0, none⟩ = some (.string (M f.tag)) := hE.cell 0
 have hst := hg1.stk
 obtain ⟨sg, cap, rfl, _, _⟩ := hst.form (by simp)
 have hcap : es'.length + 1 ≤ cap := by
  obtain ⟨A', c', e, hc'⟩ := own_slice hst
  injection e with _ _ e3
  rw [List.length_cons] at hc'
  omega
 have hc0 : W1.cell? ⟨gb, 0, none⟩ = some (.slice (some ⟨sg, 0, none⟩) (es'.length + 1) cap) := hg1.blk.cell 0
 have hf0 := hg1.blk.frozen 0
 have H1 := Lib.hid (And.intro hg1 (And.intro hE (And.intro hM (And.intro hfs (H0.out.2.2.trans (h1.mono H0.out.2.2.size))))))
 obtain ⟨n, hn⟩ : ∃ n, n = es'.length := ⟨_, rfl⟩
 have hn30 : n ≤ 100 := by rw [List.length_cons] at h30; omega
 rw [← hn] at hc0 hcap
 have hx2 : ((n : Nat) : Int) ≤ (cap : Int) := by omega
 have hx1 : n ≤ cap := by omega
 clear hg1 hb1 hF hne hfs hE hM h1 hst H0
 go_wp2
 go_quiet (fail)
 go_wp2
 have HN := Lib.hid (And.intro hn h30)
 clear hn h30
 go_region
 have hbd := below_drewN W1 (nq + 1)
 have hgd := H1.out.1.below hbd
 have hEd := H1.out.2.1.below hbd H1.out.2.1.lt
 have hMd := Kd.M_below (d := kTr) H1.out.2.2.1 hbd
 have hfd := H1.out.2.2.2.1.below hbd
 have hWd := H1.out.2.2.2.2.trans (hbd.mono H1.out.2.2.2.2.size)
 have H2 := Lib.hid (And.intro hgd (And.intro hEd (And.intro hMd (And.intro hfd hWd))))
 clear hgd hEd hMd hfd hWd hbd H1
 generalize W1.drewN (nq + 1) = W2 at *
 obtain ⟨hn, h30⟩ := HN.out
 subst hn
 have hg3 := popped H2.out.1 H2.out.2.2.2.1
 have hgt : W2.heap[gb]? = some (.cells _ 57 (0, 0)) := H2.out.1.blk
 have hEne : eb ≠ gb := ne_of_type H2.out.2.1 hgt (by decide)
 have hE3 : Blk (W2.setCell ⟨gb, 0, none⟩ (.slice (some ⟨sg, 0, none⟩) es'.length cap)) eb (opC f va vk vs) 105 := (Below.heap_setCell _ _ _ _ (show eb ≠ gb from hEne)).trans H2.out.2.1
 have hM3 := Kd.M_far (p := ⟨gb, 0, none⟩) (Kd.M_types (d := kTr) H2.out.2.2.1 hgt (by decide)) (fun _ hk => hk.2) (.slice (some ⟨sg, 0, none⟩) es'.length cap)
 have hM3 := kTr.M_mono (fun k hk => hk.1) hM3
 have hW3 := (H2.out.2.2.2.2.mono (Nat.le_trans hle (Nat.le_of_lt hlt))).setCell (p := ⟨gb, 0, none⟩) hle (.slice (some ⟨sg, 0, none⟩) es'.length cap)
 have hsl := kTr_openM hM3
 obtain ⟨va', vk', e0, ha', hk'⟩ := hsl
 injection e0 with _ e0
 injection e0 with _ e0
 injection e0 with _ e0
 injection e0 with e1 e0
 injection e0 with e2 _
 subst e1
 subst e2
 obtain ⟨A1, c1, ea⟩ := Kd.R_slice ha'
 obtain ⟨A2, c2, ek⟩ := Kd.R_slice hk'
 clear ha' hk'
 subst ea
 subst ek
 have z1 := hE3.cell 1
 have z2 := hE3.cell 2
 have z3 := hE3.cell 3
 have z4 := hE3.cell 4
 have z5 := hE3.cell 5
 have z6 := hE3.cell 6
 have H3 := Lib.hid (And.intro hg3 (And.intro hM3 hW3))
 have HK := Lib.hid hkn
 clear hg3 hM3 hW3 hE3 H2 HN hgt hEne
 generalize W2.setCell ⟨gb, 0, none⟩ (.slice (some ⟨sg, 0, none⟩) es'.length cap) = W3 at *
 go_wp2_with fail
 refine (gput_calls (g := ⟨fs, root⟩) (t := f.tree) H3.out.1 (by
  unfold Gr.fits
  split
  ·trivial
  ·intro hk; cases hk) H3.out.2.1 (by rw [List.length_cons] at h30; omega) HK.out).mono ?_
 rintro e W4 ⟨es2, sv2, rv2, rfl, hg4, hb4⟩
 have H4 := Lib.hid (And.intro hg4 (H3.out.2.2.trans hb4))
 clear hg4 hb4
 go_wp2
 go_ret
 exact ⟨rfl, es2, sv2, rv2, H4.out.1, H4.out.2⟩
theorem grown_172 {W W' : World} {base : Nat} {okp : Nat → Prop} {o : Option Nat} (hg : W.grownBy W' o) (h0 : ∀ k, o = some k → ∃ cs, W.heap[k]? = some (.cells cs 100 (0, 0))) {α : Type} {d : Kd α} {e : Nat} {v : Value} {xs : List α} (hr : d.R e W base okp v xs) (hq : ∀ q ∈ e :: d.E, q ≠ 100) : d.R e W' base okp v xs := by
 cases o with
 | none => exact Kd.R_grown hr hg (fun k _ => by simp)
 | some g =>
   obtain ⟨cs, hcs⟩ := h0 g rfl
   exact Kd.R_mono (Kd.R_grown (Kd.R_types hr hcs hq) hg (fun k hk e => hk.2 (Option.some.inj e))) (fun _ h => h.1)
theorem FrAt.stay {W W' : World} {base : Nat} {f : Fr} {eb : Nat} {vk : Value} {ex : List (Option Nat)} {o : Option Nat} (h : FrAt W base f eb vk ex) (hg : W.grownBy W' o) (h0 : ∀ k, o = some k → ∃ cs, W.heap[k]? = some (.cells cs 100 (0, 0))) : FrAt W' base f eb vk ex := by
 obtain ⟨va, vs, hk, ha, hs⟩ := h.blk
 refine ⟨⟨va, vs, (hg.block eb hk.lt (fun e => ?_)).trans hk, grown_172 hg h0 ha (by decide), hs.imp fun _ h => grown_172 hg h0 h (by decide)⟩, grown_172 hg h0 h.kids (fun q hq => ?_), h.ge⟩
 ·obtain ⟨cs, hcs⟩ := h0 eb e.symm
  exact ne_of_type hk hcs (by decide) rfl
 ·have : q = 25 ∨ q = 38 ∨ q = 25 := by simpa [kTr_E] using hq
  rcases this with e | e | e <;> rw [e] <;> decide
theorem pushed {W w1 : World} {base gb : Nat} {g : Gr} {f : Fr} {eb : Nat} {es : List (Nat × Value)} {sv v1 rv : Value} (h : GrAt W base gb g es sv rv) (hroot : g.root = none) (hF : FrAt W base f eb (.slice none 0 0) (owns es)) (hne : ∀ e' ∈ es, e'.1 ≠ eb)
  (hown : w1.ownsRow base 100 1 v1 (es.length + 1) (ptrs es ++ [.pointer (some ⟨eb, 0, none⟩)])) (hg : W.grownBy w1 sv.ownBlock) :
  GrAt (w1.setCell ⟨gb, 0, none⟩ v1) base gb { g with stack := f :: g.stack } ((eb, .slice none 0 0) :: es) v1 rv ∧ Below base W (w1.setCell ⟨gb, 0, none⟩ v1) := by
 have h0 : ∀ k, sv.ownBlock = some k → ∃ cs, W.heap[k]? = some (.cells cs 100 (0, 0)) := fun k hk => own_typed h.stk k hk
 have hb1 : Blk w1 gb #[sv, rv] 57 := (hg.block gb h.blk.lt (fun e => by
  obtain ⟨cs, hcs⟩ := h0 gb e.symm
  exact ne_of_type h.blk hcs (by decide) rfl)).trans h.blk
 have hfr : Frs w1 base g.stack es [none] := (h.frs.less (ex' := [none]) fun o ho => .inl (by simpa using ho)).map (fun _ => True) (fun hf _ => hf.stay hg h0) fun _ _ => trivial
 have hF1 := hF.stay hg h0
 have hnb : ∀ e' ∈ es, e'.1 ≠ gb := fun e' he => by
  obtain ⟨cs, hcs⟩ := hfr.ofType e' he
  exact ne_of_type hcs hb1 (by decide)
 have hEb : eb ≠ gb := by
  obtain ⟨va, vs, hb, _⟩ := hF1.blk
  exact ne_of_type hb hb1 (by decide)
 refine ⟨⟨hb1.set 0 v1, ?_, ?_, ⟨?_, hne, hfr.far hb1 hnb (by decide) (by decide) (by decide) 0 v1⟩, h.le, fun _ => hroot⟩, ?_⟩
 ·rw [show ptrs ((eb, .slice none 0 0) :: es) = ptrs es ++ [.pointer (some ⟨eb, 0, none⟩)] by simp [ptrs]]
  refine own_move hown (fun k hk => Below.heap_setCell _ _ _ _ ?_)
  obtain ⟨cs, hcs⟩ := own_typed hown k hk
  exact ne_of_type hcs hb1 (by decide)
 ·have hz := h.root
  rw [hroot] at hz
  show RootAt _ _ _ g.root
  rw [hroot]
  exact hz
 ·have := hF1.far hb1 hEb (by decide) (by decide) (by decide) 0 v1
  rw [List.append_nil]
  exact this
 ·have hb : Below base W w1 := ⟨hg.os, hg.tape, hg.output, hg.size, fun k hk => by
   have hlt : k < W.heap.size := Nat.lt_of_lt_of_le hk (Nat.le_trans h.le (Nat.le_of_lt h.blk.lt))
   exact hg.block k hlt fun e => by
    have := (h.stk.lt k e.symm).1
    omega⟩
  exact hb.setCell (p := ⟨gb, 0, none⟩) h.le _
theorem info100 : ∃ i, Tryz.prog.info? 100 = some i ∧ i.zero = some (.pointer none) ∧ i.size = 1 ∧ i.bytes = 8 := by
 have h : (Tryz.prog.info? 100).map (fun i => (i.zero, i.size, i.bytes)) = some (some (.pointer none), 1, 8) := by kernel_rfl
 cases hi : Tryz.prog.info? 100 with
 | none => rw [hi] at h; cases h
 | some i => rw [hi] at h; simp at h; exact ⟨i, rfl, h.1, h.2.1, h.2.2⟩
theorem new_tree_M {W : World} {base : Nat} {f : Fr} {eb : Nat} {es : List (Nat × Value)} {fs : List Fr} {ex : List (Option Nat)} (hF : FrAt W base f eb (.slice none 0 0) []) (hk : f.kids = []) (hfs : Frs W base fs es ex) : FrAt W base f eb (.slice none 0 0) (owns es) :=
 ⟨hF.blk, by rw [hk]; exact Kd.R_nil _ _ _ _ _, hF.ge⟩
set_option maxRecDepth 100000 in
set_option maxHeartbeats 4000000 in
theorem gstart_calls {W : World} {base gb : Nat} {g : Gr} {es : List (Nat × Value)} {sv rv : Value} {n d : Bs} {l : List (Bs × Bs)} {al : Bool} {f : Fr} (h : GrAt W base gb g es sv rv) (hG : Glob W) (hroot : g.root = none) (hb : Begins g ⟨0, n, l, al, d⟩ f) {A : Option Addr} {c : Nat} (hcA : l.length ≤ c) (hA : kPair.C W A l.length l)
  (hnl : n.length < 4294967281) (hal : ∀ p ∈ l, p.1.length < 4294967281) (hsl : f.scope.length ≤ 1000000) (hkn : ∀ f ∈ g.stack, f.kids.length ≤ 1000000) :
  Calls Tryz.prog 35 #[.pointer (some ⟨gb, 0, none⟩), .agg (tokC ⟨0, n, l, al, d⟩ A c)] W fun e w' => e = .returned (.int .i64 0) ∧ ∃ es sv rv, GrAt w' base gb (if al then g.put f.tree else { g with stack := f :: g.stack }) es sv rv ∧ Below base W w' := by
 have hle := h.le
 have hlt := h.blk.lt
 have hlow : es.length ≤ 30 := by rw [← h.len]; exact Nat.le_of_lt hb.low
 have hb0 := (Below.refl W.heap.size W).alloc (Nat.le_refl _) (.cells (tokC ⟨0, n, l, al, d⟩ A c) 60)
 have hbx : Blk (W.alloc (.cells (tokC ⟨0, n, l, al, d⟩ A c) 60)) W.heap.size (tokC ⟨0, n, l, al, d⟩ A c) 60 := Blk.new _ _ _
 obtain rfl : rv = .pointer none := by
  have := h.root
  rw [hroot] at this
  exact this
 have h0 := h.below hb0
 have c1 : (W.alloc (.cells (tokC ⟨0, n, l, al, d⟩ A c) 60)).cell? ⟨gb, 1, none⟩ = some (.pointer none) := h0.blk.cell 1
 have x0 := hbx.cell 0
 have x1 := hbx.cell 1
 have x2 := hbx.cell 2
 have x3 := hbx.cell 3
 have x4 := hbx.cell 4
 have H0 := Lib.hid (And.intro h0 (And.intro hbx (And.intro hb0 (And.intro (hG.below hb0) (Kd.C_below hA hb0)))))
 have HB := Lib.hid hb
 have HL := Lib.hid (And.intro hnl (And.intro hal (And.intro hsl (And.intro hkn hroot))))
 clear h h0 hb0 hbx hG hA hb hnl hal hsl hkn hroot
 cases al with
 | true =>
   go_enter Tryz.func35, Tryz.ntmps35
   go_wp2_with fail
   generalize W.alloc (.cells (tokC ⟨0, n, l, true, d⟩ A c) 60) = W0 at *
   refine (begin_calls H0.out.1 H0.out.2.2.2.1 HB.out hcA H0.out.2.2.2.2 HL.out.1 HL.out.2.1 HL.out.2.2.1).mono ?_
   rintro e W1 ⟨eb, rfl, hge, hF, hb1⟩
   have h1 := H0.out.1.below hb1
   have hX := H0.out.2.1.below hb1 H0.out.2.1.lt
   have y3 := hX.cell 3
   have hbw := H0.out.2.2.1.trans (hb1.mono H0.out.2.2.1.size)
   have HX := Lib.hid hX
   clear hX hb1 x0 x1 x2 x3 x4 c1
   obtain ⟨va, vs, hE, ha, hs⟩ := hF.blk
   obtain ⟨A1, c1', rfl⟩ := Kd.R_slice ha
   have z1 := hE.cell 1
   have z2 := hE.cell 2
   have z3 := hE.cell 3
   have z4 := hE.cell 4
   have z5 := hE.cell 5
   have z6 := hE.cell 6
   have hF2 := new_tree_M hF HB.out.kids h1.frs
   obtain ⟨va2, vs2, hE2, hM⟩ := tree_M hF2 h1.frs
   have he := (hE2.eq hE).1
   have he2 : va2 = .slice A1 f.attrs.length c1' := by
    have := congrArg (fun c : Array Value => c[4]?) he
    simpa using this
   subst he2
   have H1 := Lib.hid (And.intro h1 (And.intro hM hbw))
   clear hE ha hs hF hF2 hE2 he hM h1 hbw H0
   go_wp2_with fail
   refine (gput_calls (t := f.tree) H1.out.1 (by
    unfold Gr.fits
    split
    ·trivial
    ·intro hk; cases hk) H1.out.2.1 (by omega) HL.out.2.2.2.1).mono ?_
   rintro e W2 ⟨es2, sv2, rv2, rfl, hg2, hb2⟩
   have H2 := Lib.hid (And.intro hg2 ((H1.out.2.2.mono (Nat.le_trans hle (Nat.le_of_lt hlt))).trans hb2))
   clear hg2 hb2
   go_wp2
   go_ret
   exact ⟨rfl, ⟨es2, sv2, rv2, H2.out.1⟩, H2.out.2⟩
 | false =>
   go_enter Tryz.func35, Tryz.ntmps35
   go_wp2_with fail
   generalize W.alloc (.cells (tokC ⟨0, n, l, false, d⟩ A c) 60) = W0 at *
   refine (begin_calls H0.out.1 H0.out.2.2.2.1 HB.out hcA H0.out.2.2.2.2 HL.out.1 HL.out.2.1 HL.out.2.2.1).mono ?_
   rintro e W1 ⟨eb, rfl, hge, hF, hb1⟩
   have h1 := H0.out.1.below hb1
   have hX := H0.out.2.1.below hb1 H0.out.2.1.lt
   have y3 := hX.cell 3
   have hbw := H0.out.2.2.1.trans (hb1.mono H0.out.2.2.1.size)
   have HX := Lib.hid hX
   clear hX hb1 x0 x1 x2 x3 x4 c1
   obtain ⟨sA, sc, rfl, hsc⟩ := own_slice h1.stk
   have c0 : W1.cell? ⟨gb, 0, none⟩ = some (.slice sA es.length sc) := h1.blk.cell 0
   have f0 := h1.blk.frozen 0
   have HO := Lib.hid h1.stk
   have hbs : base ≤ W1.heap.size := Nat.le_trans h1.le (Nat.le_of_lt h1.blk.lt)
   have hqe : ∀ e' ∈ es, e'.1 ≠ eb := fun e' he => by
    obtain ⟨cs, hcs⟩ := H0.out.1.frs.ofType e' he
    have := (Array.getElem?_eq_some_iff.1 hcs).1
    omega
   have H1 := Lib.hid (And.intro h1 (And.intro hF (And.intro hqe hbw)))
   have hu100 := Tryz.underlying54
   have hu172 := Tryz.underlying100
   obtain ⟨i0, hi0, hz0, hs0, hby0⟩ := info100
   have hone : ∀ u ∈ ([.pointer (some ⟨eb, 0, none⟩)] : List Value), u.oneCell' = true := by simp [Value.oneCell']
   have hnb : ∀ k, (Value.slice sA es.length sc).ownBlock = some k → k ≠ gb := fun k hk => by
    obtain ⟨cs', hc'⟩ := own_typed h1.stk k hk
    exact ne_of_type hc' h1.blk (by decide)
   have HN := Lib.hid hnb
   clear h1 hF hge hbw H0 hcA hnb hqe
   go_wp2_with (at_builtin; refine wpList_append_lies _ rfl (.tmp 22) (.tmp 24) 54 rfl base 100 i0 (.pointer none) 1 8 Tryz.underlying54 hi0 hz0 hs0 hby0 rfl (by decide) (.slice sA es.length sc) es.length (ptrs es) rfl (HO.out.alloc _) ⟨W1.heap.size, 0, none⟩ 1 1 [.pointer (some ⟨eb, 0, none⟩)] rfl rfl (World.news_of_block (World.alloc_heap_new W1 _)) hone (by decide) (by unfold maxLen; omega) (by omega) (by simp; omega) _ rfl ?_; intro g' cap w1 hown hgrow hat hlt1; have hw3 : Below W1.heap.size W1 (W1.alloc (.cells #[.pointer (some ⟨eb, 0, none⟩)] 100)) := (Below.refl _ _).alloc (Nat.le_refl _) _; have hk : Blk w1 gb #[.slice sA es.length sc, .pointer none] 57 := (hgrow.block gb (Nat.lt_of_lt_of_le H1.out.1.blk.lt hw3.size) (fun e => HN.out gb e.symm rfl)).trans (H1.out.1.blk.below hw3 H1.out.1.blk.lt); have hc1 : w1.cell? ⟨gb, 0, none⟩ = some (.slice sA es.length sc) := hk.cell 0; have hf1 := hk.frozen 0; have HS := Lib.hid (And.intro hown (And.intro hgrow hw3)); clear hown hgrow hat hlt1 hk hw3)
   all_goals
    obtain ⟨hown, hgrow, hw3⟩ := HS.out
    obtain ⟨h1, hF, hqe, hbw⟩ := H1.out
    obtain ⟨hgr, hbel⟩ := pushed (h1.below hw3) HL.out.2.2.2.2 (new_tree_M (hF.below hw3) HB.out.kids (h1.frs.below hw3)) hqe hown hgrow
    go_ret
    exact ⟨rfl, ⟨_, _, _, hgr⟩, ((hbw.mono (Nat.le_trans hle (Nat.le_of_lt hlt))).trans (hw3.mono hbs)).trans hbel⟩
end Go.Proofs.YtadgeghipimfiaaGreatDoor.X
end
section
namespace Go.Proofs.YtadgeghipimfiaaGreatDoor.Z
open Go.Proofs.YtadgeghipimfiaaGreatDoor.U Go.Proofs.YtadgeghipimfiaaGreatDoor.X Go.Lib
set_option linter.unusedVariables false
set_option linter.unusedSimpArgs false
structure Tok.Fits (t : Tok) (n : Nat) : Prop where
 name : t.name.length ≤ n
 data : t.data.length ≤ n
 attrs : ∀ p ∈ t.attrs, p.1.length ≤ n ∧ p.2.length ≤ n
theorem Tok.Fits.mono {t : Tok} {n m : Nat} (h : t.Fits n) (hm : n ≤ m) : t.Fits m := ⟨Nat.le_trans h.name hm, Nat.le_trans h.data hm, fun p hp => ⟨Nat.le_trans (h.attrs p hp).1 hm, Nat.le_trans (h.attrs p hp).2 hm⟩⟩
theorem refs_len : ∀ p ∈ refs, p.2.length ≤ p.1.length := by decide
theorem exp_len {pl : Bs → Bs} (hpl : ∀ u, (pl u).length ≤ u.length) : ∀ {l v : Bs}, Exp pl l v → v.length ≤ l.length := by
 intro l v h
 induction h with
 | last u _ => exact hpl u
 | more u name v behind out _ hm _ ih =>
   have h1 := hpl u
   have h2 := refs_len _ hm
   simp at h2 ⊢
   omega
theorem ats_len : ∀ {was : List Bs} {s : Bs} {l : List (Bs × Bs)} {al : Bool} {r : Bs}, Ats was s l al r → r.length ≤ s.length ∧ ∀ p ∈ l, p.1.length ≤ s.length ∧ p.2.length ≤ s.length := by
 intro was s l al r h
 induction h with
 | alone was r => exact ⟨by simp; omega, fun p hp => by cases hp⟩
 | done was r => exact ⟨by simp, fun p hp => by cases hp⟩
 | more was n u v r q l al r' _ hn _ hx _ _ ih =>
   have hv := exp_len (fun u => by unfold blanks; simp) hx
   refine ⟨by simp; omega, fun p hp => ?_⟩
   rcases List.mem_cons.1 hp with rfl | hp
   ·simp; omega
   ·have := ih.2 p hp
    simp; omega
theorem trim_len (l : Bs) (cs : Bs) : (Lib.trimLeftS l cs).length ≤ l.length := by
 unfold Lib.trimLeftS
 exact (List.dropWhile_suffix _).length_le
theorem nx_len {b : Bool} {s r : Bs} {t : Tok} (h : Nx b s t r) : r.length ≤ s.length ∧ t.Fits s.length := by
 cases h with
 | decl r => exact ⟨by simp; omega, by simp, by simp, fun p hp => by cases hp⟩
 | note b d r _ => exact ⟨by simp; omega, by simp, by simp; omega, fun p hp => by cases hp⟩
 | pi n x r hn _ _ _ =>
   have := trim_len x [32, 9, 10, 13]
   exact ⟨by simp; omega, by simp; omega, by simp; omega, fun p hp => by cases hp⟩
 | shut b n r _ => exact ⟨by simp; omega, by simp; omega, by simp, fun p hp => by cases hp⟩
 | opens b n s l al r _ ha =>
   have := ats_len ha
   refine ⟨by simp; omega, by simp; omega, by simp, fun p hp => ?_⟩
   have := this.2 p hp
   simp; omega
 | chars b u v r _ _ _ _ hx =>
   have := exp_len (pl := id) (fun u => Nat.le_refl _) hx
   exact ⟨by simp, by simp, by simp; omega, fun p hp => by cases hp⟩
theorem nxs_len {b : Bool} {s : Bs} {ts : List Tok} (h : Nxs b s ts) : ∀ t ∈ ts, t.Fits s.length := by
 induction h with
 | nil b => intro t ht; cases ht
 | cons b s r t ts hx _ ih =>
   have := nx_len hx
   intro t' ht
   rcases List.mem_cons.1 ht with rfl | ht
   ·exact this.2
   ·exact (ih t' ht).mono this.1
def ScOk : List Fr → Prop
 | [] => True
 | f :: fs => f.scope.length ≤ 50 * (fs.length + 1) ∧ ScOk fs
structure Gr.Small (g : Gr) (i : Nat) : Prop where
 low : g.stack.length ≤ 30
 kids : ∀ f ∈ g.stack, f.kids.length ≤ i
 scope : ScOk g.stack
theorem Gr.Small.up {g : Gr} {i : Nat} (h : g.Small i) : g.Small (i + 1) := ⟨h.low, fun f hf => Nat.le_trans (h.kids f hf) (Nat.le_succ _), h.scope⟩
theorem Gr.Small.put {g : Gr} {i : Nat} (h : g.Small i) (t : Tr) : (g.put t).Small (i + 1) := by
 obtain ⟨st, root⟩ := g
 cases st with
 | nil => exact ⟨h.low, (fun f hf => by cases hf), trivial⟩
 | cons f fs =>
   refine ⟨h.low, fun x hx => ?_, h.scope⟩
   rcases List.mem_cons.1 hx with rfl | hx
   ·have := h.kids f List.mem_cons_self
    simp; omega
   ·exact Nat.le_trans (h.kids x (List.mem_cons_of_mem _ hx)) (Nat.le_succ _)
theorem scope_len {g : Gr} {i : Nat} (h : g.Small i) : g.scope.length ≤ 50 * g.stack.length := by
 obtain ⟨st, root⟩ := g
 cases st with
 | nil => exact Nat.le_refl _
 | cons f fs => exact h.scope.1
theorem begins_len {g : Gr} {i : Nat} {t : Tok} {f : Fr} (h : g.Small i) (hb : Begins g t f) : f.scope.length ≤ 50 * (g.stack.length + 1) := by
 obtain ⟨more, rest, h1, h2, _⟩ := hb.decl
 have h3 := (V.declV_len (t.attrs.map toS) [] []).1
 rw [h1] at h3
 have h4 := scope_len h
 have h5 := hb.few
 rw [h2, List.length_append]
 simp at h3
 omega
theorem gx_small {g h : Gr} {t : Tok} {i : Nat} (hs : g.Small i) (hx : Gx g t h) : h.Small (i + 1) := by
 cases hx with
 | start _ n l d f hr hb =>
   refine ⟨by have := hb.low; simp only [List.length_cons]; omega, fun x hx => ?_, begins_len hs hb, hs.scope⟩
   rcases List.mem_cons.1 hx with rfl | hx
   ·rw [hb.kids]; simp
   ·exact Nat.le_trans (hs.kids x hx) (Nat.le_succ _)
 | alone _ n l d f hr hb => exact hs.put _
 | ends f fs root l al d =>
   have : Gr.Small ⟨fs, root⟩ i := ⟨(by have := hs.low; simp only [List.length_cons] at this; show fs.length ≤ 30; omega), fun x hx => hs.kids x (List.mem_cons_of_mem _ hx), hs.scope.2⟩
   exact this.put _
 | chars _ n l al d _ _ _ => exact hs.put _
 | blank _ n l d _ _ => exact hs.up
 | note _ n l al d _ => exact hs.put _
 | noteTop _ n l al d _ => exact hs.up
 | pi _ n l al d _ _ => exact hs.put _
 | piTop _ n l al d _ _ => exact hs.up
 | decl _ n l al d => exact hs.up
end Go.Proofs.YtadgeghipimfiaaGreatDoor.Z
end
section
namespace Go.Proofs.YtadgeghipimfiaaGreatDoor.X
open Go.RowKit Go.Shelf Go.Proofs.YtadgeghipimfiaaGreatDoorW.PrintWords Go.Proofs.YtadgeghipimfiaaGreatDoor.F Go.Proofs.YtadgeghipimfiaaGreatDoor.Pg Go.Proofs.YtadgeghipimfiaaGreatDoor.Z
set_option linter.unusedVariables false
set_option linter.unusedSimpArgs false
set_option maxRecDepth 100000 in
set_option maxHeartbeats 2000000 in
theorem aside_none {W : World} {base gb : Nat} {g : Gr} {sv rv : Value} {k : Int} {n d : Bs} (h : GrAt W base gb g [] sv rv) (hG : Glob W) (hk : k = 2 ∨ (k = 3 ∧ U.plainB n = true)) (hn : n.length < 4611686018427387904) :
  Calls Tryz.prog 38 #[.pointer (some ⟨gb, 0, none⟩), .agg #[.int .i64 k, .string ⟨#[]⟩, .string (M n), .slice none 0 0, .slice none 0 0, .string (M d)]] W fun e w' => e = .returned (.int .i64 0) ∧ GrAt w' base gb g [] sv rv ∧ Below base W w' := by
 have hbx : Blk (W.alloc (.cells #[.int .i64 k, .string ⟨#[]⟩, .string (M n), .slice none 0 0, .slice none 0 0, .string (M d)] 25)) W.heap.size #[.int .i64 k, .string ⟨#[]⟩, .string (M n), .slice none 0 0, .slice none 0 0, .string (M d)] 25 := Blk.new _ _ _
 have hb0 := (Below.refl W.heap.size W).alloc (Nat.le_refl _) (.cells #[.int .i64 k, .string ⟨#[]⟩, .string (M n), .slice none 0 0, .slice none 0 0, .string (M d)] 25)
 have H0 := Lib.hid (And.intro (h.below hb0) (And.intro hbx (And.intro hb0 (hG.below hb0))))
 have hle := h.le
 have hlt := h.blk.lt
 clear h hbx hb0 hG
 have hx0 : (W.alloc (.cells #[.int .i64 k, .string ⟨#[]⟩, .string (M n), .slice none 0 0, .slice none 0 0, .string (M d)] 25)).cell? ⟨W.heap.size, 0, none⟩ = some (.int .i64 k) := H0.out.2.1.cell 0
 have hx2 : (W.alloc (.cells #[.int .i64 k, .string ⟨#[]⟩, .string (M n), .slice none 0 0, .slice none 0 0, .string (M d)] 25)).cell? ⟨W.heap.size, 2, none⟩ = some (.string (M n)) := H0.out.2.1.cell 2
 rcases hk with rfl | ⟨rfl, hp⟩
 ·go_enter Tryz.func38, Tryz.ntmps38
  go_wp2_with fail
  refine (top_calls H0.out.1 (by simp)).mono ?_
  rintro e W1 ⟨rfl, h1⟩
  rw [show topV [] = .pointer none from rfl]
  have H1 := Lib.hid (And.intro (H0.out.1.below h1) ((H0.out.2.2.1.mono (Nat.le_trans hle (Nat.le_of_lt hlt))).trans (h1.mono (Nat.le_trans (Nat.le_trans hle (Nat.le_of_lt hlt)) H0.out.2.2.1.size))))
  clear h1
  go_wp2
  go_ret
  exact ⟨rfl, H1.out.1, H1.out.2⟩
 ·have hpc := plain_calls n (W.alloc (.cells #[.int .i64 3, .string ⟨#[]⟩, .string (M n), .slice none 0 0, .slice none 0 0, .string (M d)] 25)) H0.out.2.2.2 hn
  rw [hp] at hpc
  have HPC := Lib.hid hpc
  clear hpc hp
  go_enter Tryz.func38, Tryz.ntmps38
  go_wp2_with fail
  refine HPC.out.mono ?_
  rintro e Wp ⟨rfl, hbp⟩
  have H0 := Lib.hid (And.intro (H0.out.1.below hbp) (And.intro (H0.out.2.1.below hbp H0.out.2.1.lt) (And.intro (H0.out.2.2.1.trans (hbp.mono H0.out.2.2.1.size)) (H0.out.2.2.2.below hbp))))
  clear hbp HPC
  go_wp2_with fail
  refine (top_calls H0.out.1 (by simp)).mono ?_
  rintro e W1 ⟨rfl, h1⟩
  rw [show topV [] = .pointer none from rfl]
  have H1 := Lib.hid (And.intro (H0.out.1.below h1) ((H0.out.2.2.1.mono (Nat.le_trans hle (Nat.le_of_lt hlt))).trans (h1.mono (Nat.le_trans (Nat.le_trans hle (Nat.le_of_lt hlt)) H0.out.2.2.1.size))))
  clear h1
  go_wp2
  go_ret
  exact ⟨rfl, H1.out.1, H1.out.2⟩
def GOk (W : World) (base gb : Nat) (g : Gr) (e : Ending) (W' : World) : Prop := e = .returned (.int .i64 0) ∧ ∃ es sv rv, GrAt W' base gb g es sv rv ∧ Below base W W'
theorem gok {n : Nat} {args : Array Value} {W W0 : World} {base gb : Nat} {g : Gr} (h : Calls Tryz.prog n args W0 (GOk W0 base gb g)) (hb : Below base W W0) : Calls Tryz.prog n args W0 (GOk W base gb g) := h.mono (by
 rintro e w' ⟨he, es', sv', rv', h1, h2⟩
 exact ⟨he, es', sv', rv', h1, hb.trans h2⟩)
set_option maxRecDepth 100000 in
set_option maxHeartbeats 2000000 in
theorem take_start {W : World} {base gb : Nat} {g : Gr} {es : List (Nat × Value)} {sv rv : Value} {n d : Bs} {l : List (Bs × Bs)} {al : Bool} {A : Option Addr} {c i : Nat} {f : Fr} (h : GrAt W base gb g es sv rv) (hG : Glob W) (hs : g.Small i) (hi : i ≤ 1000000) (hroot : g.root = none) (hb : Begins g ⟨0, n, l, al, d⟩ f)
  (hf : Tok.Fits ⟨0, n, l, al, d⟩ 4294967000) (hcA : l.length ≤ c) (hA : kPair.C W A l.length l) :
  Calls Tryz.prog 18 #[.pointer (some ⟨gb, 0, none⟩), .agg (tokC ⟨0, n, l, al, d⟩ A c)] W (GOk W base gb (if al then g.put f.tree else { g with stack := f :: g.stack })) := by
 obtain ⟨tk, htk⟩ : ∃ tk : Tok, tk = ⟨0, n, l, al, d⟩ := ⟨_, rfl⟩
 rw [← htk]
 have hbx : Blk (W.alloc (.cells (tokC tk A c) 60)) W.heap.size (tokC tk A c) 60 := Blk.new _ _ _
 have hb0 := (Below.refl W.heap.size W).alloc (Nat.le_refl _) (.cells (tokC tk A c) 60)
 have H0 := Lib.hid (And.intro (h.below hb0) (And.intro (hG.below hb0) (And.intro (Kd.C_below hA hb0) (hb0.mono (Nat.le_trans h.le (Nat.le_of_lt h.blk.lt))))))
 have hes : es.length ≤ 100 := by rw [← h.len]; exact Nat.le_trans hs.low (by decide)
 have hkn : ∀ f ∈ g.stack, f.kids.length ≤ 1000000 := fun f hf => Nat.le_trans (hs.kids f hf) hi
 have x0 := hbx.cell 0
 have x1 := hbx.cell 1
 have x2 := hbx.cell 2
 have x3 := hbx.cell 3
 have x4 := hbx.cell 4
 subst htk
 have HC := Lib.hid (gok (gstart_calls H0.out.1 H0.out.2.1 hroot hb hcA H0.out.2.2.1 (Nat.lt_of_le_of_lt hf.name (by decide)) (fun p hp => Nat.lt_of_le_of_lt (hf.attrs p hp).1 (by decide)) (Nat.le_trans (begins_len hs hb) (by have := hs.low; omega)) hkn) H0.out.2.2.2)
 generalize (if al = true then g.put f.tree else { g with stack := f :: g.stack }) = g1 at *
 clear h hbx hb0 hb hG hA hs hf hkn hi hes hroot hcA
 go_enter Tryz.func18, Tryz.ntmps18
 go_wp2_with fail
 refine HC.out.mono ?_
 rintro e W1 ⟨rfl, h1⟩
 have H1 := Lib.hid h1
 clear h1
 go_wp2
 go_ret
 exact ⟨rfl, H1.out⟩
set_option maxRecDepth 100000 in
set_option maxHeartbeats 2000000 in
theorem take_end {W : World} {base gb : Nat} {f : Fr} {fs : List Fr} {root : Option Tr} {es : List (Nat × Value)} {sv rv : Value} {d : Bs} {l : List (Bs × Bs)} {al : Bool} {A : Option Addr} {c i : Nat} (h : GrAt W base gb ⟨f :: fs, root⟩ es sv rv) (hG : Glob W) (hs : Gr.Small ⟨f :: fs, root⟩ i) (hi : i ≤ 1000000) (hA : kPair.C W A l.length l) :
  Calls Tryz.prog 18 #[.pointer (some ⟨gb, 0, none⟩), .agg (tokC ⟨1, f.tag, l, al, d⟩ A c)] W (GOk W base gb (Gr.put ⟨fs, root⟩ f.tree)) := by
 obtain ⟨tk, htk⟩ : ∃ tk : Tok, tk = ⟨1, f.tag, l, al, d⟩ := ⟨_, rfl⟩
 obtain ⟨g, hg⟩ : ∃ g : Gr, g = ⟨f :: fs, root⟩ := ⟨_, rfl⟩
 rw [← htk]
 rw [← hg] at h hs
 have hA : kPair.C W A tk.attrs.length tk.attrs := by rw [htk]; exact hA
 have hbx : Blk (W.alloc (.cells (tokC tk A c) 60)) W.heap.size (tokC tk A c) 60 := Blk.new _ _ _
 have hb0 := (Below.refl W.heap.size W).alloc (Nat.le_refl _) (.cells (tokC tk A c) 60)
 have H0 := Lib.hid (And.intro (h.below hb0) (And.intro (hG.below hb0) (And.intro (Kd.C_below hA hb0) (hb0.mono (Nat.le_trans h.le (Nat.le_of_lt h.blk.lt))))))
 have hes : es.length ≤ 100 := by rw [← h.len]; exact Nat.le_trans hs.low (by decide)
 have hkn : ∀ f ∈ g.stack, f.kids.length ≤ 1000000 := fun f hf => Nat.le_trans (hs.kids f hf) hi
 have x0 := hbx.cell 0
 have x1 := hbx.cell 1
 have x2 := hbx.cell 2
 have x3 := hbx.cell 3
 have x4 := hbx.cell 4
 subst htk
 subst hg
 have HC := Lib.hid (gok (end_calls (A := A) (c := c) (t := ⟨1, f.tag, l, al, d⟩) H0.out.1 rfl hes (fun x hx => hkn x (List.mem_cons_of_mem _ hx))) H0.out.2.2.2)
 clear h hbx hb0 hG hA hs hkn hi hes
 go_enter Tryz.func18, Tryz.ntmps18
 go_wp2_with fail
 refine HC.out.mono ?_
 rintro e W1 ⟨rfl, h1⟩
 have H1 := Lib.hid h1
 clear h1
 go_wp2
 go_ret
 exact ⟨rfl, H1.out⟩
set_option maxRecDepth 100000 in
set_option maxHeartbeats 2000000 in
theorem take_chars {W : World} {base gb : Nat} {g : Gr} {es : List (Nat × Value)} {sv rv : Value} {n d : Bs} {l : List (Bs × Bs)} {al : Bool} {A : Option Addr} {c i : Nat} (h : GrAt W base gb g es sv rv) (hG : Glob W) (hs : g.Small i) (hi : i ≤ 1000000) (hA : kPair.C W A l.length l) (hne : g.stack ≠ []) (hd : d ≠ []) (hfit : g.fits (.mk 1 [] [] [] [] d)) :
  Calls Tryz.prog 18 #[.pointer (some ⟨gb, 0, none⟩), .agg (tokC ⟨2, n, l, al, d⟩ A c)] W (GOk W base gb (g.put (.mk 1 [] [] [] [] d))) := by
 obtain ⟨tk, htk⟩ : ∃ tk : Tok, tk = ⟨2, n, l, al, d⟩ := ⟨_, rfl⟩
 rw [← htk]
 have hA : kPair.C W A tk.attrs.length tk.attrs := by rw [htk]; exact hA
 have hbx : Blk (W.alloc (.cells (tokC tk A c) 60)) W.heap.size (tokC tk A c) 60 := Blk.new _ _ _
 have hb0 := (Below.refl W.heap.size W).alloc (Nat.le_refl _) (.cells (tokC tk A c) 60)
 have H0 := Lib.hid (And.intro (h.below hb0) (And.intro (hG.below hb0) (And.intro (Kd.C_below hA hb0) (hb0.mono (Nat.le_trans h.le (Nat.le_of_lt h.blk.lt))))))
 have hes : es.length ≤ 100 := by rw [← h.len]; exact Nat.le_trans hs.low (by decide)
 have hkn : ∀ f ∈ g.stack, f.kids.length ≤ 1000000 := fun f hf => Nat.le_trans (hs.kids f hf) hi
 have x0 := hbx.cell 0
 have x1 := hbx.cell 1
 have x2 := hbx.cell 2
 have x3 := hbx.cell 3
 have x4 := hbx.cell 4
 subst htk
 have HC := Lib.hid (gok (chars_in (A := A) (c := c) (t := ⟨2, n, l, al, d⟩) H0.out.1 hd hfit hes hkn hne) H0.out.2.2.2)
 clear h hbx hb0 hG hA hs hkn hi hes hne hd hfit
 go_enter Tryz.func18, Tryz.ntmps18
 go_wp2_with fail
 refine HC.out.mono ?_
 rintro e W1 ⟨rfl, h1⟩
 have H1 := Lib.hid h1
 clear h1
 go_wp2
 go_ret
 exact ⟨rfl, H1.out⟩
set_option maxRecDepth 100000 in
set_option maxHeartbeats 2000000 in
theorem take_blank {W : World} {base gb : Nat} {g : Gr} {es : List (Nat × Value)} {sv rv : Value} {n d : Bs} {l : List (Bs × Bs)} {A : Option Addr} {c i : Nat} (h : GrAt W base gb g es sv rv) (hG : Glob W) (hs : g.Small i) (hi : i ≤ 1000000) (hA : kPair.C W A l.length l) (hst : g.stack = []) (hd : Lib.trimS d [32, 9, 10, 13] = []) (hdl : d.length ≤ 4294967000) :
  Calls Tryz.prog 18 #[.pointer (some ⟨gb, 0, none⟩), .agg (tokC ⟨2, n, l, false, d⟩ A c)] W (GOk W base gb g) := by
 obtain ⟨tk, htk⟩ : ∃ tk : Tok, tk = ⟨2, n, l, false, d⟩ := ⟨_, rfl⟩
 have he0 : es = [] := List.eq_nil_of_length_eq_zero (by rw [← h.len, hst]; rfl)
 rw [← htk]
 have hA : kPair.C W A tk.attrs.length tk.attrs := by rw [htk]; exact hA
 have hbx : Blk (W.alloc (.cells (tokC tk A c) 60)) W.heap.size (tokC tk A c) 60 := Blk.new _ _ _
 have hb0 := (Below.refl W.heap.size W).alloc (Nat.le_refl _) (.cells (tokC tk A c) 60)
 have H0 := Lib.hid (And.intro (h.below hb0) (And.intro (hG.below hb0) (And.intro (Kd.C_below hA hb0) (hb0.mono (Nat.le_trans h.le (Nat.le_of_lt h.blk.lt))))))
 have hes : es.length ≤ 100 := by rw [← h.len]; exact Nat.le_trans hs.low (by decide)
 have hkn : ∀ f ∈ g.stack, f.kids.length ≤ 1000000 := fun f hf => Nat.le_trans (hs.kids f hf) hi
 have x0 := hbx.cell 0
 have x1 := hbx.cell 1
 have x2 := hbx.cell 2
 have x3 := hbx.cell 3
 have x4 := hbx.cell 4
 subst htk
 subst he0
 have HC := Lib.hid (gok (W := W) (g := g) ((chars_out (A := A) (c := c) (t := ⟨2, n, l, false, d⟩) H0.out.1 hd rfl (Nat.le_trans hdl (by decide))).mono (by
  rintro e w' ⟨he, h1, h2⟩
  exact ⟨he, [], sv, rv, h1, h2⟩)) H0.out.2.2.2)
 clear h hbx hb0 hG hA hs hkn hi hes hst hd hdl
 go_enter Tryz.func18, Tryz.ntmps18
 go_wp2_with fail
 refine HC.out.mono ?_
 rintro e W1 ⟨rfl, h1⟩
 have H1 := Lib.hid h1
 clear h1
 go_wp2
 go_ret
 exact ⟨rfl, H1.out⟩
set_option maxRecDepth 100000 in
set_option maxHeartbeats 2000000 in
theorem take_note {W : World} {base gb : Nat} {g : Gr} {es : List (Nat × Value)} {sv rv : Value} {n d : Bs} {l : List (Bs × Bs)} {al : Bool} {A : Option Addr} {c i : Nat} (h : GrAt W base gb g es sv rv) (hG : Glob W) (hs : g.Small i) (hi : i ≤ 1000000) (hA : kPair.C W A l.length l) (hst : g.stack ≠ []) :
  Calls Tryz.prog 18 #[.pointer (some ⟨gb, 0, none⟩), .agg (tokC ⟨3, n, l, al, d⟩ A c)] W (GOk W base gb (g.put (.mk 2 [] [] [] [] d))) := by
 obtain ⟨tk, htk⟩ : ∃ tk : Tok, tk = ⟨3, n, l, al, d⟩ := ⟨_, rfl⟩
 rw [← htk]
 have hA : kPair.C W A tk.attrs.length tk.attrs := by rw [htk]; exact hA
 have hbx : Blk (W.alloc (.cells (tokC tk A c) 60)) W.heap.size (tokC tk A c) 60 := Blk.new _ _ _
 have hb0 := (Below.refl W.heap.size W).alloc (Nat.le_refl _) (.cells (tokC tk A c) 60)
 have H0 := Lib.hid (And.intro (h.below hb0) (And.intro (hG.below hb0) (And.intro (Kd.C_below hA hb0) (hb0.mono (Nat.le_trans h.le (Nat.le_of_lt h.blk.lt))))))
 have hes : es.length ≤ 100 := by rw [← h.len]; exact Nat.le_trans hs.low (by decide)
 have hkn : ∀ f ∈ g.stack, f.kids.length ≤ 1000000 := fun f hf => Nat.le_trans (hs.kids f hf) hi
 have x0 := hbx.cell 0
 have x1 := hbx.cell 1
 have x2 := hbx.cell 2
 have x3 := hbx.cell 3
 have x4 := hbx.cell 4
 subst htk
 have HC := Lib.hid (gok (aside_calls (k := 2) (n := []) (d := d) H0.out.1 H0.out.2.1 (.inl rfl) (by decide) hes hkn hst) H0.out.2.2.2)
 clear h hbx hb0 hG hA hs hkn hi hes hst
 go_enter Tryz.func18, Tryz.ntmps18
 go_wp2_with fail
 refine HC.out.mono ?_
 rintro e W1 ⟨rfl, h1⟩
 have H1 := Lib.hid h1
 clear h1
 go_wp2
 go_ret
 exact ⟨rfl, H1.out⟩
set_option maxRecDepth 100000 in
set_option maxHeartbeats 2000000 in
theorem take_pi {W : World} {base gb : Nat} {g : Gr} {es : List (Nat × Value)} {sv rv : Value} {n d : Bs} {l : List (Bs × Bs)} {al : Bool} {A : Option Addr} {c i : Nat} (h : GrAt W base gb g es sv rv) (hG : Glob W) (hs : g.Small i) (hi : i ≤ 1000000) (hA : kPair.C W A l.length l) (hst : g.stack ≠ []) (hp : U.plainB n = true) (hn : n.length ≤ 4294967000) :
  Calls Tryz.prog 18 #[.pointer (some ⟨gb, 0, none⟩), .agg (tokC ⟨4, n, l, al, d⟩ A c)] W (GOk W base gb (g.put (.mk 3 [] n [] [] d))) := by
 obtain ⟨tk, htk⟩ : ∃ tk : Tok, tk = ⟨4, n, l, al, d⟩ := ⟨_, rfl⟩
 rw [← htk]
 have hA : kPair.C W A tk.attrs.length tk.attrs := by rw [htk]; exact hA
 have hbx : Blk (W.alloc (.cells (tokC tk A c) 60)) W.heap.size (tokC tk A c) 60 := Blk.new _ _ _
 have hb0 := (Below.refl W.heap.size W).alloc (Nat.le_refl _) (.cells (tokC tk A c) 60)
 have H0 := Lib.hid (And.intro (h.below hb0) (And.intro (hG.below hb0) (And.intro (Kd.C_below hA hb0) (hb0.mono (Nat.le_trans h.le (Nat.le_of_lt h.blk.lt))))))
 have hes : es.length ≤ 100 := by rw [← h.len]; exact Nat.le_trans hs.low (by decide)
 have hkn : ∀ f ∈ g.stack, f.kids.length ≤ 1000000 := fun f hf => Nat.le_trans (hs.kids f hf) hi
 have x0 := hbx.cell 0
 have x1 := hbx.cell 1
 have x2 := hbx.cell 2
 have x3 := hbx.cell 3
 have x4 := hbx.cell 4
 subst htk
 have HC := Lib.hid (gok (aside_calls (k := 3) (n := n) (d := d) H0.out.1 H0.out.2.1 (.inr ⟨rfl, hp⟩) (Nat.lt_of_le_of_lt hn (by decide)) hes hkn hst) H0.out.2.2.2)
 clear h hbx hb0 hG hA hs hkn hi hes hst
 go_enter Tryz.func18, Tryz.ntmps18
 go_wp2_with fail
 refine HC.out.mono ?_
 rintro e W1 ⟨rfl, h1⟩
 have H1 := Lib.hid h1
 clear h1
 go_wp2
 go_ret
 exact ⟨rfl, H1.out⟩
set_option maxRecDepth 100000 in
set_option maxHeartbeats 2000000 in
theorem take_noteTop {W : World} {base gb : Nat} {g : Gr} {es : List (Nat × Value)} {sv rv : Value} {n d : Bs} {l : List (Bs × Bs)} {al : Bool} {A : Option Addr} {c i : Nat} (h : GrAt W base gb g es sv rv) (hG : Glob W) (hs : g.Small i) (hi : i ≤ 1000000) (hA : kPair.C W A l.length l) (hst : g.stack = []) :
  Calls Tryz.prog 18 #[.pointer (some ⟨gb, 0, none⟩), .agg (tokC ⟨3, n, l, al, d⟩ A c)] W (GOk W base gb g) := by
 obtain ⟨tk, htk⟩ : ∃ tk : Tok, tk = ⟨3, n, l, al, d⟩ := ⟨_, rfl⟩
 have he0 : es = [] := List.eq_nil_of_length_eq_zero (by rw [← h.len, hst]; rfl)
 rw [← htk]
 have hA : kPair.C W A tk.attrs.length tk.attrs := by rw [htk]; exact hA
 have hbx : Blk (W.alloc (.cells (tokC tk A c) 60)) W.heap.size (tokC tk A c) 60 := Blk.new _ _ _
 have hb0 := (Below.refl W.heap.size W).alloc (Nat.le_refl _) (.cells (tokC tk A c) 60)
 have H0 := Lib.hid (And.intro (h.below hb0) (And.intro (hG.below hb0) (And.intro (Kd.C_below hA hb0) (hb0.mono (Nat.le_trans h.le (Nat.le_of_lt h.blk.lt))))))
 have hes : es.length ≤ 100 := by rw [← h.len]; exact Nat.le_trans hs.low (by decide)
 have hkn : ∀ f ∈ g.stack, f.kids.length ≤ 1000000 := fun f hf => Nat.le_trans (hs.kids f hf) hi
 have x0 := hbx.cell 0
 have x1 := hbx.cell 1
 have x2 := hbx.cell 2
 have x3 := hbx.cell 3
 have x4 := hbx.cell 4
 subst htk
 subst he0
 have HC := Lib.hid (gok (W := W) (g := g) ((aside_none (k := 2) (n := []) (d := d) H0.out.1 H0.out.2.1 (.inl rfl) (by decide)).mono (by
  rintro e w' ⟨he, h1, h2⟩
  exact ⟨he, [], sv, rv, h1, h2⟩)) H0.out.2.2.2)
 clear h hbx hb0 hG hA hs hkn hi hes hst
 go_enter Tryz.func18, Tryz.ntmps18
 go_wp2_with fail
 refine HC.out.mono ?_
 rintro e W1 ⟨rfl, h1⟩
 have H1 := Lib.hid h1
 clear h1
 go_wp2
 go_ret
 exact ⟨rfl, H1.out⟩
set_option maxRecDepth 100000 in
set_option maxHeartbeats 2000000 in
theorem take_piTop {W : World} {base gb : Nat} {g : Gr} {es : List (Nat × Value)} {sv rv : Value} {n d : Bs} {l : List (Bs × Bs)} {al : Bool} {A : Option Addr} {c i : Nat} (h : GrAt W base gb g es sv rv) (hG : Glob W) (hs : g.Small i) (hi : i ≤ 1000000) (hA : kPair.C W A l.length l) (hst : g.stack = []) (hp : U.plainB n = true) (hn : n.length ≤ 4294967000) :
  Calls Tryz.prog 18 #[.pointer (some ⟨gb, 0, none⟩), .agg (tokC ⟨4, n, l, al, d⟩ A c)] W (GOk W base gb g) := by
 obtain ⟨tk, htk⟩ : ∃ tk : Tok, tk = ⟨4, n, l, al, d⟩ := ⟨_, rfl⟩
 have he0 : es = [] := List.eq_nil_of_length_eq_zero (by rw [← h.len, hst]; rfl)
 rw [← htk]
 have hA : kPair.C W A tk.attrs.length tk.attrs := by rw [htk]; exact hA
 have hbx : Blk (W.alloc (.cells (tokC tk A c) 60)) W.heap.size (tokC tk A c) 60 := Blk.new _ _ _
 have hb0 := (Below.refl W.heap.size W).alloc (Nat.le_refl _) (.cells (tokC tk A c) 60)
 have H0 := Lib.hid (And.intro (h.below hb0) (And.intro (hG.below hb0) (And.intro (Kd.C_below hA hb0) (hb0.mono (Nat.le_trans h.le (Nat.le_of_lt h.blk.lt))))))
 have hes : es.length ≤ 100 := by rw [← h.len]; exact Nat.le_trans hs.low (by decide)
 have hkn : ∀ f ∈ g.stack, f.kids.length ≤ 1000000 := fun f hf => Nat.le_trans (hs.kids f hf) hi
 have x0 := hbx.cell 0
 have x1 := hbx.cell 1
 have x2 := hbx.cell 2
 have x3 := hbx.cell 3
 have x4 := hbx.cell 4
 subst htk
 subst he0
 have HC := Lib.hid (gok (W := W) (g := g) ((aside_none (k := 3) (n := n) (d := d) H0.out.1 H0.out.2.1 (.inr ⟨rfl, hp⟩) (Nat.lt_of_le_of_lt hn (by decide))).mono (by
  rintro e w' ⟨he, h1, h2⟩
  exact ⟨he, [], sv, rv, h1, h2⟩)) H0.out.2.2.2)
 clear h hbx hb0 hG hA hs hkn hi hes hst
 go_enter Tryz.func18, Tryz.ntmps18
 go_wp2_with fail
 refine HC.out.mono ?_
 rintro e W1 ⟨rfl, h1⟩
 have H1 := Lib.hid h1
 clear h1
 go_wp2
 go_ret
 exact ⟨rfl, H1.out⟩
set_option maxRecDepth 100000 in
set_option maxHeartbeats 2000000 in
theorem take_decl {W : World} {base gb : Nat} {g : Gr} {es : List (Nat × Value)} {sv rv : Value} {n d : Bs} {l : List (Bs × Bs)} {al : Bool} {A : Option Addr} {c i : Nat} (h : GrAt W base gb g es sv rv) (hG : Glob W) (hs : g.Small i) (hi : i ≤ 1000000) (hA : kPair.C W A l.length l) :
  Calls Tryz.prog 18 #[.pointer (some ⟨gb, 0, none⟩), .agg (tokC ⟨5, n, l, al, d⟩ A c)] W (GOk W base gb g) := by
 obtain ⟨tk, htk⟩ : ∃ tk : Tok, tk = ⟨5, n, l, al, d⟩ := ⟨_, rfl⟩
 rw [← htk]
 have hA : kPair.C W A tk.attrs.length tk.attrs := by rw [htk]; exact hA
 have hbx : Blk (W.alloc (.cells (tokC tk A c) 60)) W.heap.size (tokC tk A c) 60 := Blk.new _ _ _
 have hb0 := (Below.refl W.heap.size W).alloc (Nat.le_refl _) (.cells (tokC tk A c) 60)
 have H0 := Lib.hid (And.intro (h.below hb0) (And.intro (hG.below hb0) (And.intro (Kd.C_below hA hb0) (hb0.mono (Nat.le_trans h.le (Nat.le_of_lt h.blk.lt))))))
 have hes : es.length ≤ 100 := by rw [← h.len]; exact Nat.le_trans hs.low (by decide)
 have hkn : ∀ f ∈ g.stack, f.kids.length ≤ 1000000 := fun f hf => Nat.le_trans (hs.kids f hf) hi
 have x0 := hbx.cell 0
 have x1 := hbx.cell 1
 have x2 := hbx.cell 2
 have x3 := hbx.cell 3
 have x4 := hbx.cell 4
 subst htk
 clear h hbx hb0 hG hA hs hkn hi hes
 go_enter Tryz.func18, Tryz.ntmps18
 go_wp2
 go_ret
 exact ⟨rfl, es, sv, rv, H0.out.1, H0.out.2.2.2⟩
theorem gtake_calls {W : World} {base gb : Nat} {g g' : Gr} {t : Tok} {es : List (Nat × Value)} {sv rv : Value} {A : Option Addr} {c i : Nat} (h : GrAt W base gb g es sv rv) (hG : Glob W) (hs : g.Small i) (hi : i ≤ 1000000) (hf : t.Fits 4294967000) (hcA : t.attrs.length ≤ c) (hA : kPair.C W A t.attrs.length t.attrs) (hx : Gx g t g') :
  Calls Tryz.prog 18 #[.pointer (some ⟨gb, 0, none⟩), .agg (tokC t A c)] W (GOk W base gb g') := by
 cases hx with
 | start _ n l d f hr hb => exact take_start h hG hs hi hr hb hf hcA hA
 | alone _ n l d f hr hb => exact take_start h hG hs hi hr hb hf hcA hA
 | ends f fs root l al d => exact take_end h hG hs hi hA
 | chars _ n l al d h1 h2 h3 => exact take_chars h hG hs hi hA h1 h2 h3
 | blank _ n l d h1 h2 => exact take_blank h hG hs hi hA h1 h2 hf.data
 | note _ n l al d h1 => exact take_note h hG hs hi hA h1
 | noteTop _ n l al d h1 => exact take_noteTop h hG hs hi hA h1
 | pi _ n l al d h1 h2 => exact take_pi h hG hs hi hA h1 h2 hf.name
 | piTop _ n l al d h1 h2 => exact take_piTop h hG hs hi hA h1 h2 hf.name
 | decl _ n l al d => exact take_decl h hG hs hi hA
theorem tok_at {w : World} {A : Option Addr} {l : List Tok} (h : kTok.C w A l.length l) (k : Nat) (hk : k < l.length) : ∃ ad A' c', A = some ad ∧ l[k].attrs.length ≤ c' ∧ kPair.C w A' l[k].attrs.length l[k].attrs ∧
  w.cell? (ad.add (k * 5)) = some (.int .i64 l[k].kind) ∧ w.cell? ⟨(ad.add (k * 5)).block, (ad.add (k * 5)).off + 1, none⟩ = some (.string (M l[k].name)) ∧ w.cell? ⟨(ad.add (k * 5)).block, (ad.add (k * 5)).off + 2, none⟩ = some (.slice A' l[k].attrs.length c') ∧
  w.cell? ⟨(ad.add (k * 5)).block, (ad.add (k * 5)).off + 3, none⟩ = some (.bool l[k].alone) ∧ w.cell? ⟨(ad.add (k * 5)).block, (ad.add (k * 5)).off + 4, none⟩ = some (.string (M l[k].data)) := by
 obtain ⟨ad, c, e, _, hK, hc0⟩ := Kd.C_get h (⟨0, [], [], false, []⟩ : Tok) (k : Int) (by omega) (by omega)
 have hg : l.getD ((k : Int)).toNat (⟨0, [], [], false, []⟩ : Tok) = l[k] := by rw [Int.toNat_natCast, List.getD_eq_getElem?_getD, List.getElem?_eq_getElem hk]; rfl
 rw [hg] at hK
 rw [Int.toNat_natCast, kTok_sz] at hc0
 obtain ⟨A', c', rfl, hle, hC⟩ := kTok_openK hK
 have ha : ∀ j, j ≠ 0 → (ad.add (k * 5 + j)) = ⟨(ad.add (k * 5)).block, (ad.add (k * 5)).off + j, none⟩ := by
  intro j hj
  unfold Addr.add
  by_cases h0 : k * 5 = 0
  ·rw [h0, Nat.zero_add, if_neg hj]
   simp
  ·rw [if_neg (by omega), if_neg h0]
   simp [Nat.add_assoc]
 refine ⟨ad, A', c', e, hle, hC, hc0 0 _ rfl, ?_, ?_, ?_, ?_⟩
 ·rw [← ha 1 (by decide)]; exact hc0 1 _ rfl
 ·rw [← ha 2 (by decide)]; exact hc0 2 _ rfl
 ·rw [← ha 3 (by decide)]; exact hc0 3 _ rfl
 ·rw [← ha 4 (by decide)]; exact hc0 4 _ rfl
theorem gxs_next {g k : Gr} {ts : List Tok} {n : Nat} (h : Gxs g (ts.drop n) k) (hn : n < ts.length) : ∃ m, Gx g ts[n] m ∧ Gxs m (ts.drop (n + 1)) k := by
 rw [List.drop_eq_getElem_cons hn] at h
 cases h with
 | cons _ m _ _ _ h1 h2 => exact ⟨m, h1, h2⟩
theorem gxs_end {g k : Gr} {ts : List Tok} {n : Nat} (h : Gxs g (ts.drop n) k) (hn : ts.length ≤ n) : g = k := by
 rw [List.drop_eq_nil_of_le hn] at h
 cases h
 rfl
theorem grown_new (w1 : World) : GrAt (w1.alloc (.cells #[.slice none 0 0, .pointer none] 57)) w1.heap.size w1.heap.size ⟨[], none⟩ [] (.slice none 0 0) (.pointer none) :=
 ⟨Blk.new _ _ _, ⟨rfl, .inl ⟨rfl, rfl⟩⟩, rfl, trivial, Nat.le_refl _, fun h => absurd rfl h⟩
theorem small_new : Gr.Small ⟨[], none⟩ 0 := ⟨by decide, (fun f hf => by cases hf), trivial⟩
theorem six_put {W : World} {b : Nat} {u0 u1 u2 u3 u4 u5 : Value} (h : Blk W b #[u0, u1, u2, u3, u4, u5] 25) (v0 v1 v2 v3 v4 v5 : Value) :
  Blk ((((((W.setCell ⟨b, 0, none⟩ v0).setCell ⟨b, 1, none⟩ v1).setCell ⟨b, 2, none⟩ v2).setCell ⟨b, 3, none⟩ v3).setCell ⟨b, 4, none⟩ v4).setCell ⟨b, 5, none⟩ v5) b #[v0, v1, v2, v3, v4, v5] 25 ∧
  Below b W ((((((W.setCell ⟨b, 0, none⟩ v0).setCell ⟨b, 1, none⟩ v1).setCell ⟨b, 2, none⟩ v2).setCell ⟨b, 3, none⟩ v3).setCell ⟨b, 4, none⟩ v4).setCell ⟨b, 5, none⟩ v5) ∧
  ∀ k, k ≠ b → ((((((W.setCell ⟨b, 0, none⟩ v0).setCell ⟨b, 1, none⟩ v1).setCell ⟨b, 2, none⟩ v2).setCell ⟨b, 3, none⟩ v3).setCell ⟨b, 4, none⟩ v4).setCell ⟨b, 5, none⟩ v5).heap[k]? = W.heap[k]? := by
 refine ⟨(((((h.set 0 v0).set 1 v1).set 2 v2).set 3 v3).set 4 v4).set 5 v5, ?_, fun k hk => ?_⟩
 ·exact ((((((Below.refl b W).setCell (p := ⟨b, 0, none⟩) (Nat.le_refl _) v0).setCell (p := ⟨b, 1, none⟩) (Nat.le_refl _) v1).setCell (p := ⟨b, 2, none⟩) (Nat.le_refl _) v2).setCell (p := ⟨b, 3, none⟩) (Nat.le_refl _) v3).setCell (p := ⟨b, 4, none⟩) (Nat.le_refl _) v4).setCell (p := ⟨b, 5, none⟩) (Nat.le_refl _) v5
 ·rw [Below.heap_setCell _ _ _ _ hk, Below.heap_setCell _ _ _ _ hk, Below.heap_setCell _ _ _ _ hk, Below.heap_setCell _ _ _ _ hk, Below.heap_setCell _ _ _ _ hk, Below.heap_setCell _ _ _ _ hk]
set_option maxRecDepth 100000 in
set_option maxHeartbeats 4000000 in
theorem gparse_calls (s : Bs) (toks : List Tok) (t : Tr) (w : World) (hG : Glob w) (hs : s.length ≤ 100000) (hk : checkR (M s) = 0) (hl : U.linesL s = s) (hx : Nxs true s toks) (hD : DeclOk ∨ ∀ t ∈ toks, t.kind ≠ 5) (hn : toks.length ≤ 1000000) (hg : Gxs ⟨[], none⟩ toks ⟨[], some t⟩) :
  Calls Tryz.prog 8 #[.string (M s)] w fun e w' => ∃ cs, e = .returned (.tuple #[.agg cs.toArray, .int .i64 0]) ∧ kTr.M w' w.heap.size (fun _ => True) t cs ∧ Below w.heap.size w w' := by
 have hb0 : Below w.heap.size w (w.alloc (.cells #[.int .i64 0, .string ⟨#[]⟩, .string ⟨#[]⟩, .slice none 0 0, .slice none 0 0, .string ⟨#[]⟩] 25)) := (Below.refl _ _).alloc (Nat.le_refl _) _
 have hbx := Blk.new w #[.int .i64 0, .string ⟨#[]⟩, .string ⟨#[]⟩, .slice none 0 0, .slice none 0 0, .string ⟨#[]⟩] 25
 have HT := Lib.hid (tokens_calls s toks _ (hG.below hb0) hs hk hl hx hD)
 have HG := Lib.hid hG
 have HX := Lib.hid (And.intro hg (Z.nxs_len hx))
 have H0 := Lib.hid (And.intro hb0 hbx)
 have HS := Lib.hid hs
 clear hG hs hk hl hx hD hg hb0 hbx
 go_enter Tryz.func8, Tryz.ntmps8
 go_wp2_with fail
 refine HT.out.mono ?_
 rintro e w1 ⟨v, rfl, hR, hb1⟩
 obtain ⟨A, c, rfl, hc, hC⟩ := Kd.R_reads hR
 have hw1 := H0.out.1.trans (hb1.mono H0.out.1.size)
 have hbx1 := H0.out.2.below hb1 H0.out.2.lt
 have H1 := Lib.hid (And.intro hC (And.intro hw1 hbx1))
 clear hR hC hw1 hbx1 hb1 H0 HT
 have hg0 := grown_new w1
 have hba : Below w1.heap.size w1 (w1.alloc (.cells #[.slice none 0 0, .pointer none] 57)) := (Below.refl _ _).alloc (Nat.le_refl _) _
 have HI := Aside0.mk (And.intro hg0 (And.intro hba (And.intro small_new HX.out.1)))
 have hu106 := Tryz.underlying60
 have hu53 := Tryz.underlying25
 have hu103 := Tryz.underlying57
 clear hg0 hba
 go_wp2_with fail
 generalize w1.alloc (.cells #[.slice none 0 0, .pointer none] 57) = W0 at *
 go_loopw [23] (fun v23 wr => ∃ (k : Nat) (g : Gr) (es : List (Nat × Value)) (sv rv : Value), v23 = .int .i64 k ∧ k ≤ toks.length ∧ Aside0 (GrAt wr w1.heap.size w1.heap.size g es sv rv ∧ Below w1.heap.size w1 wr ∧ g.Small k ∧ Gxs g (toks.drop k) ⟨[], some t⟩)) (fun v23 _ => toks.length - (intOf v23).toNat)
 case atStart => exact ⟨0, _, _, _, _, rfl, by omega, HI⟩
 case round =>
  obtain ⟨k, g, es, sv, rv, rfl, hk, HB⟩ := hrel
  by_cases hlt : k < toks.length
  ·obtain ⟨ad, A', c', rfl, hcA, hA, c0, c1, c2, c3, c4⟩ := tok_at (Kd.C_below (d := kTok) H1.out.1 HB.out.2.1) k hlt
   obtain ⟨m, hm, hrest⟩ := gxs_next HB.out.2.2.2 hlt
   have hb2 : Below wr.heap.size wr (wr.alloc (.cells (tokC toks[k] A' c') 60)) := (Below.refl _ _).alloc (Nat.le_refl _) _
   have hbt := Blk.new wr (tokC toks[k] A' c') 60
   have hfit := (HX.out.2 toks[k] (List.getElem_mem hlt)).mono (Nat.le_trans HS.out (show 100000 ≤ 4294967000 by decide))
   have hGr := HG.out.below (H1.out.2.1.trans ((HB.out.2.1.trans (hb2.mono HB.out.2.1.size)).mono H1.out.2.1.size))
   have HC := Lib.hid (gtake_calls (HB.out.1.below hb2) hGr HB.out.2.2.1 (show k ≤ 1000000 by omega) hfit hcA (Kd.C_below (d := kPair) hA hb2) hm)
   have x0 := hbt.cell 0
   have x1 := hbt.cell 1
   have x2 := hbt.cell 2
   have x3 := hbt.cell 3
   have x4 := hbt.cell 4
   have HM := Lib.hid (And.intro hm (And.intro hrest (HB.out.2.1.trans (hb2.mono HB.out.2.1.size))))
   clear hm hrest hb2 hbt hfit hGr hA
   go_wp2_with fail
   refine HC.out.mono ?_
   rintro e W2 ⟨rfl, es2, sv2, rv2, hg2, hb2⟩
   have H2 := Aside0.mk (And.intro hg2 (And.intro (HM.out.2.2.trans hb2) (And.intro (gx_small HB.out.2.2.1 HM.out.1) HM.out.2.1)))
   clear hg2 hb2 HC HM x0 x1 x2 x3 x4 c0 c1 c2 c3 c4
   go_wp2
   go_roundw
   case rel => exact ⟨k + 1, m, es2, sv2, rv2, by go_num, by omega, H2⟩
   case measure => simp [intOf]; omega
  ·obtain rfl : g = ⟨[], some t⟩ := gxs_end HB.out.2.2.2 (by omega)
   obtain rfl : es = [] := List.eq_nil_of_length_eq_zero (by rw [← HB.out.1.len]; rfl)
   obtain ⟨rb, cs, rfl, hrb, hM⟩ := HB.out.1.root
   obtain ⟨va, vn, hcs, ha, hkd⟩ := kTr_openM hM
   obtain ⟨A1, c1, rfl⟩ := Kd.R_slice ha
   obtain ⟨A2, c2, rfl⟩ := Kd.R_slice hkd
   obtain ⟨sA, sc, rfl, _⟩ := own_slice HB.out.1.stk
   have hgc := HB.out.1.blk
   have q0 : wr.cell? ⟨w1.heap.size, 0, none⟩ = some (.slice sA 0 sc) := hgc.cell 0
   have q1 : wr.cell? ⟨w1.heap.size, 1, none⟩ = some (.pointer (some ⟨rb, 0, none⟩)) := hgc.cell 1
   obtain ⟨cs⟩ := cs
   have hcs : cs = [.int .i64 t.kind, .string (M t.sp), .string (M t.nm), .slice A1 t.attrs.length c1, .slice A2 t.kids.length c2, .string (M t.data)] := hcs
   subst hcs
   have r0 := hrb.cell 0
   have r1 := hrb.cell 1
   have r2 := hrb.cell 2
   have r3 := hrb.cell 3
   have r4 := hrb.cell 4
   have r5 := hrb.cell 5
   have hres := H1.out.2.2.below HB.out.2.1 H1.out.2.2.lt
   have f0 := hres.frozen
   have y0 := hres.cell 0
   have y1 := hres.cell 1
   have y2 := hres.cell 2
   have y3 := hres.cell 3
   have y4 := hres.cell 4
   have y5 := hres.cell 5
   have HF := Lib.hid (And.intro hM (And.intro hres HB.out.2.1))
   clear hM ha hkd hrb hgc hres HB
   go_wp2_with fail
   obtain ⟨hM, hres, hbw⟩ := HF.out
   obtain ⟨hb, hsz, hout⟩ := six_put hres (.int .i64 t.kind) (.string (M t.sp)) (.string (M t.nm)) (.slice A1 t.attrs.length c1) (.slice A2 t.kids.length c2) (.string (M t.data))
   have hlt0 : w.heap.size < w1.heap.size := H1.out.2.2.lt
   have hM2 := kTr.M_move (w1 := ((((((wr.setCell ⟨w.heap.size, 0, none⟩ (.int .i64 t.kind)).setCell ⟨w.heap.size, 1, none⟩ (.string (M t.sp))).setCell ⟨w.heap.size, 2, none⟩ (.string (M t.nm))).setCell ⟨w.heap.size, 3, none⟩ (.slice A1 t.attrs.length c1)).setCell ⟨w.heap.size, 4, none⟩ (.slice A2 t.kids.length c2)).setCell ⟨w.heap.size, 5, none⟩ (.string (M t.data)))) (fun k hk => hout k (by have h5 : w1.heap.size ≤ k := hk.2.1; omega)) (kTr.M_bound hM)
   have hM3 := kTr.M_lower (show w.heap.size ≤ w1.heap.size by omega) (kTr.M_mono (fun _ _ => trivial) hM2)
   have hB := (H1.out.2.1.trans (hbw.mono (by omega))).trans hsz
   exact bodyPost_ret (results_ct rfl _ _ w.heap.size 25 _ (0, 0) _ rfl hb Tryz.underlying25 rfl (by kernel_rfl)) rfl ⟨_, rfl, hM3, hB⟩
theorem add_off (ad : Addr) (m j : Nat) (hj : j ≠ 0) : ad.add (m + j) = ⟨(ad.add m).block, (ad.add m).off + j, none⟩ := by
 unfold Addr.add
 by_cases h0 : m = 0
 ·rw [h0, Nat.zero_add, if_neg hj]
  simp
 ·rw [if_neg (by omega), if_neg h0]
  simp [Nat.add_assoc]
abbrev trC (t : Tr) (A : Option Addr) (c : Nat) (B : Option Addr) (d : Nat) : List Value := [.int .i64 t.kind, .string (M t.sp), .string (M t.nm), .slice A t.attrs.length c, .slice B t.kids.length d, .string (M t.data)]
theorem node_at {w0 w : World} {A : Option Addr} {l : List Tr} (h : kTr.C w0 A l.length l) (hw : Below w0.heap.size w0 w) (k : Nat) (hk : k < l.length) :
  ∃ ad A1 c1 A2 c2, A = some ad ∧ kTr.K w0 l[k] (trC l[k] A1 c1 A2 c2) ∧ w.cell? (ad.add (k * 6)) = some (.int .i64 l[k].kind) ∧ w.cell? ⟨(ad.add (k * 6)).block, (ad.add (k * 6)).off + 1, none⟩ = some (.string (M l[k].sp)) ∧
   w.cell? ⟨(ad.add (k * 6)).block, (ad.add (k * 6)).off + 2, none⟩ = some (.string (M l[k].nm)) ∧ w.cell? ⟨(ad.add (k * 6)).block, (ad.add (k * 6)).off + 3, none⟩ = some (.slice A1 l[k].attrs.length c1) ∧
   w.cell? ⟨(ad.add (k * 6)).block, (ad.add (k * 6)).off + 4, none⟩ = some (.slice A2 l[k].kids.length c2) ∧ w.cell? ⟨(ad.add (k * 6)).block, (ad.add (k * 6)).off + 5, none⟩ = some (.string (M l[k].data)) := by
 obtain ⟨ad, cs, e, _, hK, hc0⟩ := Kd.C_get h (.mk 0 [] [] [] [] []) (k : Int) (by omega) (by omega)
 have hg : l.getD ((k : Int)).toNat (.mk 0 [] [] [] [] []) = l[k] := by rw [Int.toNat_natCast, List.getD_eq_getElem?_getD, List.getElem?_eq_getElem hk]; rfl
 rw [hg] at hK
 have hc : ∀ j u, cs[j]? = some u → w.cell? (ad.add (k * 6 + j)) = some u := fun j u h => by
  have := hc0 j u h
  rw [Int.toNat_natCast] at this
  exact (hw.cell (World.block_lt_of_cell? _ _ this)).trans this
 obtain ⟨A1, c1, A2, c2, rfl, _⟩ := kTr_openK hK
 refine ⟨ad, A1, c1, A2, c2, e, hK, hc 0 _ rfl, ?_, ?_, ?_, ?_, ?_⟩
 ·rw [← add_off ad _ 1 (by decide)]; exact hc 1 _ rfl
 ·rw [← add_off ad _ 2 (by decide)]; exact hc 2 _ rfl
 ·rw [← add_off ad _ 3 (by decide)]; exact hc 3 _ rfl
 ·rw [← add_off ad _ 4 (by decide)]; exact hc 4 _ rfl
 ·rw [← add_off ad _ 5 (by decide)]; exact hc 5 _ rfl
mutual
def TrSm (m : Nat) : Tr → Prop
 | .mk _ sp nm at_ kids d => sp.length ≤ 1000000 ∧ nm.length ≤ 1000000 ∧ d.length ≤ 1000000 ∧ at_.length ≤ m ∧ (∀ a ∈ at_, a.1.length ≤ 1000000 ∧ a.2.1.length ≤ 1000000 ∧ a.2.2.length ≤ 1000000) ∧ kids.length ≤ 1000000 ∧ TrsSm m kids
def TrsSm (m : Nat) : List Tr → Prop
 | [] => True
 | t :: ts => TrSm m t ∧ TrsSm m ts
end
def NodeOk (t : Tr) : Prop := ∀ {w0 : World} {cs : List Value}, kTr.K w0 t cs → ∀ {base b : Nat} {acc up : Bs} {w : World}, w0.heap.size ≤ base → Wr w base b acc → Below w0.heap.size w0 w → acc.length + (spell t up).length ≤ 140737488355328 →
 Calls Tryz.prog 13 #[.pointer (some ⟨b, 0, none⟩), .agg cs.toArray, .string (M up)] w fun e w' => e = .returned (.tuple #[]) ∧ Wr w' base b (acc ++ spell t up) ∧ Wk base b w w'
theorem put_row {base b : Nat} {acc : Bs} {w : World} (h : Wr w base b acc) (l : List Bs) (cs : Array Value) (hcs : cs.toList = l.map fun s => .string (M s)) (hl : l.length ≤ 100) (hlen : acc.length + l.flatten.length ≤ 140737488355328) :
  Calls Tryz.prog 25 #[.pointer (some ⟨b, 0, none⟩), .slice (some ⟨w.heap.size, 0, none⟩) l.length l.length] (w.alloc (.cells cs 9)) fun e w' => e = .returned (.tuple #[]) ∧ Wr w' base b (acc ++ l.flatten) ∧ Wk base b w w' := by
 have hb : Below w.heap.size w (w.alloc (.cells cs 9)) := (Below.refl _ _).alloc (Nat.le_refl _) _
 refine (wput_calls (h.below hb) (row_new w l hcs) (Blk.new w cs 9) hl hlen).mono ?_
 rintro e w' ⟨rfl, h1, h2⟩
 exact ⟨rfl, h1, (Wk.of hb h.le).trans h2⟩
theorem pairsAll_append : ∀ (a b : List At) (j : Nat), pairsAll j (a ++ b) = pairsAll j a ++ pairsAll (j + a.length) b
 | [], b, j => rfl
 | x :: a, b, j => by
   show pairsOf j x ++ pairsAll (j + 1) (a ++ b) = _
   rw [pairsAll_append a b (j + 1), show j + (x :: a).length = j + 1 + a.length by rw [List.length_cons]; omega]
   show _ = (pairsOf j x ++ pairsAll (j + 1) a) ++ _
   rw [List.append_assoc]
theorem pairs_take (l : List At) (k : Nat) (h : k < l.length) : pairsAll 0 (l.take (k + 1)) = pairsAll 0 (l.take k) ++ pairsOf k l[k] := by
 rw [List.take_add_one, List.getElem?_eq_getElem h, Option.toList_some, pairsAll_append, Nat.zero_add, List.length_take, Nat.min_eq_left (by omega)]
 show _ ++ (pairsOf k l[k] ++ []) = _
 rw [List.append_nil]
theorem tell_append (a b : List (Bs × Bs)) : tellPairs (a ++ b) = tellPairs a ++ tellPairs b := List.flatMap_append
theorem tell_le (l : List At) (k : Nat) : (tellPairs (pairsAll 0 (l.take k))).length ≤ (tellPairs (pairsAll 0 l)).length := by
 have : pairsAll 0 l = pairsAll 0 (l.take k) ++ pairsAll (0 + (l.take k).length) (l.drop k) := by rw [← pairsAll_append, List.take_append_drop]
 rw [this, tell_append, List.length_append]
 omega
theorem spells_append : ∀ (a b : List Tr) (up : Bs), spells (a ++ b) up = spells a up ++ spells b up
 | [], b, up => rfl
 | x :: a, b, up => by
   show spell x up ++ spells (a ++ b) up = (spell x up ++ spells a up) ++ _
   rw [spells_append a b up, List.append_assoc]
theorem spells_take (l : List Tr) (k : Nat) (up : Bs) (h : k < l.length) : spells (l.take (k + 1)) up = spells (l.take k) up ++ spell l[k] up := by
 rw [List.take_add_one, List.getElem?_eq_getElem h, Option.toList_some, spells_append]
 show _ ++ (spell l[k] up ++ []) = _
 rw [List.append_nil]
theorem spells_le (l : List Tr) (k : Nat) (up : Bs) : (spells (l.take k) up).length ≤ (spells l up).length := by
 have : spells l up = spells (l.take k) up ++ spells (l.drop k) up := by rw [← spells_append, List.take_append_drop]
 rw [this, List.length_append]
 omega
set_option maxRecDepth 100000 in
set_option maxHeartbeats 4000000 in
theorem elem_wcalls (hE : EscOk) {k : Int} {sp nm d : Bs} {at_ : List At} {kids : List Tr} (hk : k ≠ 1 ∧ k ≠ 2 ∧ k ≠ 3) (hsm : TrSm 99 (.mk k sp nm at_ kids d)) (hkid : ∀ t ∈ kids, NodeOk t) {w0 : World} {A B : Option Addr} {c e : Nat} (hca : at_.length ≤ c) (hA : kAttr.C w0 A at_.length at_) (hke : kids.length ≤ e) (hB : kTr.C w0 B kids.length kids)
  {base b : Nat} {acc up : Bs} {w : World} (hbase : w0.heap.size ≤ base) (h : Wr w base b acc) (hw : Below w0.heap.size w0 w) (hlen : acc.length + (spell (.mk k sp nm at_ kids d) up).length ≤ 140737488355328) :
  Calls Tryz.prog 27 #[.pointer (some ⟨b, 0, none⟩), .agg #[.int .i64 k, .string (M sp), .string (M nm), .slice A at_.length c, .slice B kids.length e, .string (M d)], .string (M up)] w fun x w' => x = .returned (.tuple #[]) ∧ Wr w' base b (acc ++ spell (.mk k sp nm at_ kids d) up) ∧ Wk base b w w' := by
 have hspell : spell (.mk k sp nm at_ kids d) up = 60 :: (nm ++ (tellPairs (pairsEl sp up at_) ++ (if kids.isEmpty then [47, 62] else 62 :: (spells kids sp ++ (60 :: 47 :: (nm ++ [62])))))) := by
  unfold spell
  rw [if_neg hk.1, if_neg hk.2.1, if_neg hk.2.2]
 rw [hspell] at hlen ⊢
 have hb0 : Below w.heap.size w (w.alloc (.cells #[.int .i64 k, .string (M sp), .string (M nm), .slice A at_.length c, .slice B kids.length e, .string (M d)] 25)) := (Below.refl _ _).alloc (Nat.le_refl _) _
 have hbx := Blk.new w #[.int .i64 k, .string (M sp), .string (M nm), .slice A at_.length c, .slice B kids.length e, .string (M d)] 25
 have h1 := h.below hb0
 have x1 := hbx.cell 1
 have x2 := hbx.cell 2
 have hne := h1.ne hbx (by decide)
 have hk1 := Wk.of hb0 h.le (b := b)
 have HW0 := Lib.hid hw
 have HD := Lib.hid (And.intro hA (And.intro hB hkid))
 have hsm' : sp.length ≤ 1000000 ∧ nm.length ≤ 1000000 ∧ d.length ≤ 1000000 ∧ at_.length ≤ 99 ∧ (∀ a ∈ at_, a.1.length ≤ 1000000 ∧ a.2.1.length ≤ 1000000 ∧ a.2.2.length ≤ 1000000) ∧ kids.length ≤ 1000000 ∧ TrsSm 99 kids := by
  unfold TrSm at hsm
  exact hsm
 have HS := Lib.hid (And.intro hsm'.2.2.2.1 (And.intro hsm'.1 hsm'.2.2.2.2.1))
 have hkl := hsm'.2.2.2.2.2.1
 have ha99 := hsm'.2.2.2.1
 have HE := Lib.hid hE
 obtain ⟨p0, hp0⟩ : ∃ p0, p0 = tellPairs (if sp = up then [] else [(tXmlns, sp)]) := ⟨_, rfl⟩
 have hpe : tellPairs (pairsEl sp up at_) = p0 ++ tellPairs (pairsAll 0 at_) := by
  unfold pairsEl
  rw [tell_append, hp0]
 rw [hpe] at hlen ⊢
 have hC := put_row h1 [[60], nm] #[.string ⟨#[60]⟩, .string (M nm)] rfl (by show 2 ≤ 100; omega) (by
  simp at hlen
  simp
  omega)
 rw [World.size_alloc] at hC
 have HC := Lib.hid hC
 obtain ⟨acc2, ha2⟩ : ∃ acc2, acc2 = acc ++ 60 :: (nm ++ p0) := ⟨_, rfl⟩
 obtain ⟨fin, hfin⟩ : ∃ fin, fin = acc ++ 60 :: (nm ++ (p0 ++ tellPairs (pairsAll 0 at_) ++ (if kids.isEmpty then [47, 62] else 62 :: (spells kids sp ++ (60 :: 47 :: (nm ++ [62])))))) := ⟨_, rfl⟩
 rw [← hfin]
 have HF := Lib.hid (show fin = acc2 ++ tellPairs (pairsAll 0 at_) ++ (if kids.isEmpty then [47, 62] else 62 :: (spells kids sp ++ (60 :: 47 :: (nm ++ [62])))) by rw [hfin, ha2]; simp)
 have HL2 := Lib.hid (show acc2.length + (tellPairs (pairsAll 0 at_)).length ≤ 140737488355328 ∧ acc2.length + (tellPairs (pairsAll 0 at_)).length + (if kids.isEmpty then [47, 62] else 62 :: (spells kids sp ++ (60 :: 47 :: (nm ++ [62])))).length ≤ 140737488355328 by
  rw [ha2]
  simp only [List.length_append, List.length_cons] at hlen ⊢
  omega)
 have HP := Lib.hid (And.intro hp0 ha2)
 have HX := Lib.hid (And.intro hbx (And.intro hne hk1))
 obtain ⟨bx, hbxd⟩ : ∃ bx : Array Value, bx = #[.int .i64 k, .string (M sp), .string (M nm), .slice A at_.length c, .slice B kids.length e, .string (M d)] := ⟨_, rfl⟩
 clear hfin hA hB hkid hsm hsm' hE hlen h1 h hw hbx hb0 hspell hC hp0 ha2 hpe hne hk1 hk
 go_enter Tryz.func27, Tryz.ntmps27
 go_wp2_with fail
 refine HC.out.mono ?_
 rintro x w2 ⟨rfl, h3, h4⟩
 have hbx2 := h4.blk HX.out.1 HX.out.2.1 (by decide)
 have HK2 := Lib.hid (HX.out.2.2.trans h4)
 have y1 : w2.cell? ⟨w.heap.size, 1, none⟩ = some (.string (M sp)) := hbx2.cell 1
 have y3 : w2.cell? ⟨w.heap.size, 3, none⟩ = some (.slice A at_.length c) := hbx2.cell 3
 have HX0 := Lib.hid (And.intro hbx2 HX.out.2.1)
 have HH := Lib.hid h3
 clear h3 h4 hbx2 x1 x2 HC HX
 by_cases hsu : sp = up
 ·have H2 := Lib.hid (And.intro (show Wr w2 base b acc2 by
   have := HH.out
   rw [HP.out.2, HP.out.1, if_pos hsu]
   simpa [tellPairs] using this) HK2.out)
  have f1 : (sp == up) = true := beq_iff_eq.2 hsu
  clear HH HK2 hsu
  go_wp2_with fail
  go_loopw [26] (fun v26 wr => ∃ (i : Nat), v26 = .int .i64 i ∧ i ≤ at_.length ∧ Aside0 (Wr wr base b (acc2 ++ tellPairs (pairsAll 0 (at_.take i))) ∧ Wk base b w wr ∧ Blk wr w.heap.size #[.int .i64 k, .string (M sp), .string (M nm), .slice A at_.length c, .slice B kids.length e, .string (M d)] 25)) (fun v26 _ => at_.length - (intOf v26).toNat)
  case atStart => exact ⟨0, rfl, by omega, ⟨by simpa [pairsAll, tellPairs] using H2.out.1, H2.out.2, HX0.out.1⟩⟩
  case round =>
   obtain ⟨i, rfl, hi, HB⟩ := hrel
   by_cases hlt : i < at_.length
   ·have hwr : Below w0.heap.size w0 wr := HW0.out.trans (HB.out.2.1.below.mono hbase)
    obtain ⟨ad, rfl, c0, c1, c2⟩ := attr_at (Kd.C_below (d := kAttr) HD.out.1 hwr) i hlt
    have hsa := HS.out.2.2 at_[i] (List.getElem_mem hlt)
    have hba : Below wr.heap.size wr (wr.alloc (.cells (atC at_[i]) 38)) := (Below.refl _ _).alloc (Nat.le_refl _) _
    have hbk := Blk.new wr (atC at_[i]) 38
    have y0 := hbk.cell 0
    have y1 := hbk.cell 1
    have y2 := hbk.cell 2
    have HC := Lib.hid (attr_wcalls HE.out i at_[i] (by have := HS.out.1; omega) (HB.out.1.below hba) hsa.1 hsa.2.1 hsa.2.2 (by
     have h1 := tell_le at_ (i + 1)
     rw [pairs_take at_ i hlt, tell_append, List.length_append] at h1
     have h2 := HL2.out.1
     rw [List.length_append]
     omega))
    have HK := Lib.hid (And.intro (HB.out.2.1.trans (Wk.of hba HB.out.1.le (b := b))) (HB.out.2.2.below hba HB.out.2.2.lt))
    clear hsa hba hbk hwr
    go_wp2_with fail
    refine HC.out.mono ?_
    rintro x W3 ⟨rfl, h3, h4⟩
    rw [List.append_assoc, ← tell_append, ← pairs_take at_ i hlt] at h3
    have H3 := Aside0.mk (And.intro h3 (And.intro (HK.out.1.trans h4) (h4.blk HK.out.2 HX0.out.2 (by decide))))
    clear h3 h4 HC HK y0 y1 y2 c0 c1 c2
    go_wp2
    go_roundw
    case rel => exact ⟨i + 1, by go_num, by omega, H3⟩
    case measure => simp [intOf]; omega
   ·have hta : at_.take i = at_ := List.take_of_length_le (by omega)
    have hB1 := HB.out
    rw [hta] at hB1
    have H3 := Lib.hid (And.intro hB1.1 hB1.2.1)
    have hbx3 := hB1.2.2
    have x4 : wr.cell? ⟨w.heap.size, 4, none⟩ = some (.slice B kids.length e) := hbx3.cell 4
    have HX3 := Lib.hid hbx3
    clear hta hB1 hbx3 HB
    by_cases hk0 : kids.length = 0
    ·obtain rfl : kids = [] := List.eq_nil_of_length_eq_zero hk0
     have HC := Lib.hid (put_row H3.out.1 [[47, 62]] #[.string ⟨#[47, 62]⟩] rfl (by decide) (by
      have h2 := HL2.out.2
      simp at h2
      simp
      omega))
     go_wp2_with fail
     refine HC.out.mono ?_
     rintro x W4 ⟨rfl, h3, h4⟩
     have H4 := Lib.hid (And.intro h3 (H3.out.2.trans h4))
     clear h3 h4 HC
     go_wp2
     refine bodyPost_ret (results_none rfl _ _ _) rfl ⟨rfl, ?_, H4.out.2⟩
     rw [HF.out]
     simpa using H4.out.1
    ·have hie : kids.isEmpty = false := by
      cases kids with
      | nil => exact absurd rfl hk0
      | cons _ _ => rfl
     have HIE := Lib.hid hie
     have hk1 : ¬ (kids.length : Int) = 0 := by omega
     have HC := Lib.hid (put_row H3.out.1 [[62]] #[.string ⟨#[62]⟩] rfl (by decide) (by
      have h2 := HL2.out.2
      rw [hie] at h2
      simp at h2
      simp
      omega))
     clear hie
     have HPK := Lib.hid (And.intro hk0 hk1)
     go_wp2_with fail
     refine HC.out.mono ?_
     rintro x W4 ⟨rfl, h3, h4⟩
     obtain ⟨acc3, ha3⟩ : ∃ acc3, acc3 = acc2 ++ tellPairs (pairsAll 0 at_) ++ [[62]].flatten := ⟨_, rfl⟩
     rw [← ha3] at h3
     have hbx4 := h4.blk HX3.out HX0.out.2 (by decide)
     have z4 : W4.cell? ⟨w.heap.size, 4, none⟩ = some (.slice B kids.length e) := hbx4.cell 4
     have HL3 := Lib.hid (show acc3.length + (spells kids sp).length + ([[60, 47], nm, [62]] : List Bs).flatten.length ≤ 140737488355328 by
      have h2 := HL2.out.2
      rw [HIE.out] at h2
      rw [ha3]
      simp at h2
      simp
      omega)
     have HFK := Lib.hid (show fin = acc3 ++ spells kids sp ++ ([[60, 47], nm, [62]] : List Bs).flatten by
      rw [HF.out, ha3, HIE.out]
      simp)
     have H4 := Lib.hid (And.intro h3 (And.intro (H3.out.2.trans h4) hbx4))
     clear h3 h4 hbx4 HC H3 HX3 x4 hk0 hk1
     go_wp2_with fail
     go_loopw [49] (fun v49 wq => ∃ (i : Nat), v49 = .int .i64 i ∧ i ≤ kids.length ∧ Aside0 (Wr wq base b (acc3 ++ spells (kids.take i) sp) ∧ Wk base b w wq ∧ Blk wq w.heap.size #[.int .i64 k, .string (M sp), .string (M nm), .slice A at_.length c, .slice B kids.length e, .string (M d)] 25)) (fun v49 _ => kids.length - (intOf v49).toNat)
     case atStart => exact ⟨0, rfl, by omega, ⟨by simpa [spells] using H4.out.1, H4.out.2⟩⟩
     case round =>
      obtain ⟨i, rfl, hi, HB⟩ := hrel
      by_cases hlt : i < kids.length
      ·have hwq : Below w0.heap.size w0 wr := HW0.out.trans (HB.out.2.1.below.mono hbase)
       obtain ⟨ad, A1, c1, A2, c2, rfl, hK, k0, k1, k2, k3, k4, k5⟩ := node_at HD.out.2.1 hwq i hlt
       have hba : Below wr.heap.size wr (wr.alloc (.cells (trC kids[i] A1 c1 A2 c2).toArray 25)) := (Below.refl _ _).alloc (Nat.le_refl _) _
       have hbk := Blk.new wr (trC kids[i] A1 c1 A2 c2).toArray 25
       have y0 := hbk.cell 0
       have y1 := hbk.cell 1
       have y2 := hbk.cell 2
       have y3 := hbk.cell 3
       have y4 := hbk.cell 4
       have y5 := hbk.cell 5
       have hbx5 := HB.out.2.2.below hba HB.out.2.2.lt
       have z1 : (wr.alloc (.cells (trC kids[i] A1 c1 A2 c2).toArray 25)).cell? ⟨w.heap.size, 1, none⟩ = some (.string (M sp)) := hbx5.cell 1
       have HC := Lib.hid (HD.out.2.2 kids[i] (List.getElem_mem hlt) hK (up := sp) hbase (HB.out.1.below hba) (hwq.trans (hba.mono hwq.size)) (by
        have h1 := spells_le kids (i + 1) sp
        rw [spells_take kids i sp hlt, List.length_append] at h1
        have h2 := HL3.out
        rw [List.length_append]
        omega))
       have HK := Lib.hid (And.intro (HB.out.2.1.trans (Wk.of hba HB.out.1.le (b := b))) hbx5)
       clear hba hbk hwq hbx5 hK
       go_wp2_with fail
       refine HC.out.mono ?_
       rintro x W5 ⟨rfl, h3, h4⟩
       rw [List.append_assoc, ← spells_take kids i sp hlt] at h3
       have H5 := Aside0.mk (And.intro h3 (And.intro (HK.out.1.trans h4) (h4.blk HK.out.2 HX0.out.2 (by decide))))
       clear h3 h4 HC HK y0 y1 y2 y3 y4 y5 k0 k1 k2 k3 k4 k5 z1
       go_wp2
       go_roundw
       case rel => exact ⟨i + 1, by go_num, by omega, H5⟩
       case measure => simp [intOf]; omega
      ·have htk : kids.take i = kids := List.take_of_length_le (by omega)
       have hB1 := HB.out
       rw [htk] at hB1
       have z2 : wr.cell? ⟨w.heap.size, 2, none⟩ = some (.string (M nm)) := hB1.2.2.cell 2
       have HC := Lib.hid (put_row hB1.1 [[60, 47], nm, [62]] #[.string ⟨#[60, 47]⟩, .string (M nm), .string ⟨#[62]⟩] rfl (by show 3 ≤ 100; omega) (by
        have := HL3.out
        rw [List.length_append]
        omega))
       have HK := Lib.hid hB1.2.1
       clear htk hB1 HB
       go_wp2_with fail
       refine HC.out.mono ?_
       rintro x W6 ⟨rfl, h3, h4⟩
       rw [← HFK.out] at h3
       have H6 := Lib.hid (And.intro h3 (HK.out.trans h4))
       clear h3 h4 HC HK
       go_wp2
       go_end0
       exact ⟨rfl, H6.out⟩
 ·have f1 : (sp == up) = false := beq_eq_false_iff_ne.2 hsu
  have hacc : acc2 = acc ++ [[60], nm].flatten ++ valueL tXmlns sp := by
   rw [HP.out.2, HP.out.1, if_neg hsu]
   simp [tellPairs]
  have HC := Lib.hid (value_wcalls HE.out HH.out (name := tXmlns) (v := sp) HS.out.2.1 (by
   have := HL2.out.1
   rw [hacc, List.length_append] at this
   omega))
  have HA := Lib.hid hacc
  clear hsu hacc HH
  go_wp2_with fail
  refine HC.out.mono ?_
  rintro x wv ⟨rfl, h3, h4⟩
  rw [← HA.out] at h3
  have H2 := Lib.hid (And.intro h3 (HK2.out.trans h4))
  have hbx3 := h4.blk HX0.out.1 HX0.out.2 (by decide)
  have HX0 := Lib.hid (And.intro hbx3 HX0.out.2)
  have y3 : wv.cell? ⟨w.heap.size, 3, none⟩ = some (.slice A at_.length c) := hbx3.cell 3
  clear h3 h4 hbx3 HC HK2 y1
  go_wp2_with fail
  go_loopw [26] (fun v26 wr => ∃ (i : Nat), v26 = .int .i64 i ∧ i ≤ at_.length ∧ Aside0 (Wr wr base b (acc2 ++ tellPairs (pairsAll 0 (at_.take i))) ∧ Wk base b w wr ∧ Blk wr w.heap.size #[.int .i64 k, .string (M sp), .string (M nm), .slice A at_.length c, .slice B kids.length e, .string (M d)] 25)) (fun v26 _ => at_.length - (intOf v26).toNat)
  case atStart => exact ⟨0, rfl, by omega, ⟨by simpa [pairsAll, tellPairs] using H2.out.1, H2.out.2, HX0.out.1⟩⟩
  case round =>
   obtain ⟨i, rfl, hi, HB⟩ := hrel
   by_cases hlt : i < at_.length
   ·have hwr : Below w0.heap.size w0 wr := HW0.out.trans (HB.out.2.1.below.mono hbase)
    obtain ⟨ad, rfl, c0, c1, c2⟩ := attr_at (Kd.C_below (d := kAttr) HD.out.1 hwr) i hlt
    have hsa := HS.out.2.2 at_[i] (List.getElem_mem hlt)
    have hba : Below wr.heap.size wr (wr.alloc (.cells (atC at_[i]) 38)) := (Below.refl _ _).alloc (Nat.le_refl _) _
    have hbk := Blk.new wr (atC at_[i]) 38
    have y0 := hbk.cell 0
    have y1 := hbk.cell 1
    have y2 := hbk.cell 2
    have HC := Lib.hid (attr_wcalls HE.out i at_[i] (by have := HS.out.1; omega) (HB.out.1.below hba) hsa.1 hsa.2.1 hsa.2.2 (by
     have h1 := tell_le at_ (i + 1)
     rw [pairs_take at_ i hlt, tell_append, List.length_append] at h1
     have h2 := HL2.out.1
     rw [List.length_append]
     omega))
    have HK := Lib.hid (And.intro (HB.out.2.1.trans (Wk.of hba HB.out.1.le (b := b))) (HB.out.2.2.below hba HB.out.2.2.lt))
    clear hsa hba hbk hwr
    go_wp2_with fail
    refine HC.out.mono ?_
    rintro x W3 ⟨rfl, h3, h4⟩
    rw [List.append_assoc, ← tell_append, ← pairs_take at_ i hlt] at h3
    have H3 := Aside0.mk (And.intro h3 (And.intro (HK.out.1.trans h4) (h4.blk HK.out.2 HX0.out.2 (by decide))))
    clear h3 h4 HC HK y0 y1 y2 c0 c1 c2
    go_wp2
    go_roundw
    case rel => exact ⟨i + 1, by go_num, by omega, H3⟩
    case measure => simp [intOf]; omega
   ·have hta : at_.take i = at_ := List.take_of_length_le (by omega)
    have hB1 := HB.out
    rw [hta] at hB1
    have H3 := Lib.hid (And.intro hB1.1 hB1.2.1)
    have hbx3 := hB1.2.2
    have x4 : wr.cell? ⟨w.heap.size, 4, none⟩ = some (.slice B kids.length e) := hbx3.cell 4
    have HX3 := Lib.hid hbx3
    clear hta hB1 hbx3 HB
    by_cases hk0 : kids.length = 0
    ·obtain rfl : kids = [] := List.eq_nil_of_length_eq_zero hk0
     have HC := Lib.hid (put_row H3.out.1 [[47, 62]] #[.string ⟨#[47, 62]⟩] rfl (by decide) (by
      have h2 := HL2.out.2
      simp at h2
      simp
      omega))
     go_wp2_with fail
     refine HC.out.mono ?_
     rintro x W4 ⟨rfl, h3, h4⟩
     have H4 := Lib.hid (And.intro h3 (H3.out.2.trans h4))
     clear h3 h4 HC
     go_wp2
     refine bodyPost_ret (results_none rfl _ _ _) rfl ⟨rfl, ?_, H4.out.2⟩
     rw [HF.out]
     simpa using H4.out.1
    ·have hie : kids.isEmpty = false := by
      cases kids with
      | nil => exact absurd rfl hk0
      | cons _ _ => rfl
     have HIE := Lib.hid hie
     have hk1 : ¬ (kids.length : Int) = 0 := by omega
     have HC := Lib.hid (put_row H3.out.1 [[62]] #[.string ⟨#[62]⟩] rfl (by decide) (by
      have h2 := HL2.out.2
      rw [hie] at h2
      simp at h2
      simp
      omega))
     clear hie
     have HPK := Lib.hid (And.intro hk0 hk1)
     go_wp2_with fail
     refine HC.out.mono ?_
     rintro x W4 ⟨rfl, h3, h4⟩
     obtain ⟨acc3, ha3⟩ : ∃ acc3, acc3 = acc2 ++ tellPairs (pairsAll 0 at_) ++ [[62]].flatten := ⟨_, rfl⟩
     rw [← ha3] at h3
     have hbx4 := h4.blk HX3.out HX0.out.2 (by decide)
     have z4 : W4.cell? ⟨w.heap.size, 4, none⟩ = some (.slice B kids.length e) := hbx4.cell 4
     have HL3 := Lib.hid (show acc3.length + (spells kids sp).length + ([[60, 47], nm, [62]] : List Bs).flatten.length ≤ 140737488355328 by
      have h2 := HL2.out.2
      rw [HIE.out] at h2
      rw [ha3]
      simp at h2
      simp
      omega)
     have HFK := Lib.hid (show fin = acc3 ++ spells kids sp ++ ([[60, 47], nm, [62]] : List Bs).flatten by
      rw [HF.out, ha3, HIE.out]
      simp)
     have H4 := Lib.hid (And.intro h3 (And.intro (H3.out.2.trans h4) hbx4))
     clear h3 h4 hbx4 HC H3 HX3 x4 hk0 hk1
     go_wp2_with fail
     go_loopw [49] (fun v49 wq => ∃ (i : Nat), v49 = .int .i64 i ∧ i ≤ kids.length ∧ Aside0 (Wr wq base b (acc3 ++ spells (kids.take i) sp) ∧ Wk base b w wq ∧ Blk wq w.heap.size #[.int .i64 k, .string (M sp), .string (M nm), .slice A at_.length c, .slice B kids.length e, .string (M d)] 25)) (fun v49 _ => kids.length - (intOf v49).toNat)
     case atStart => exact ⟨0, rfl, by omega, ⟨by simpa [spells] using H4.out.1, H4.out.2⟩⟩
     case round =>
      obtain ⟨i, rfl, hi, HB⟩ := hrel
      by_cases hlt : i < kids.length
      ·have hwq : Below w0.heap.size w0 wr := HW0.out.trans (HB.out.2.1.below.mono hbase)
       obtain ⟨ad, A1, c1, A2, c2, rfl, hK, k0, k1, k2, k3, k4, k5⟩ := node_at HD.out.2.1 hwq i hlt
       have hba : Below wr.heap.size wr (wr.alloc (.cells (trC kids[i] A1 c1 A2 c2).toArray 25)) := (Below.refl _ _).alloc (Nat.le_refl _) _
       have hbk := Blk.new wr (trC kids[i] A1 c1 A2 c2).toArray 25
       have y0 := hbk.cell 0
       have y1 := hbk.cell 1
       have y2 := hbk.cell 2
       have y3 := hbk.cell 3
       have y4 := hbk.cell 4
       have y5 := hbk.cell 5
       have hbx5 := HB.out.2.2.below hba HB.out.2.2.lt
       have z1 : (wr.alloc (.cells (trC kids[i] A1 c1 A2 c2).toArray 25)).cell? ⟨w.heap.size, 1, none⟩ = some (.string (M sp)) := hbx5.cell 1
       have HC := Lib.hid (HD.out.2.2 kids[i] (List.getElem_mem hlt) hK (up := sp) hbase (HB.out.1.below hba) (hwq.trans (hba.mono hwq.size)) (by
        have h1 := spells_le kids (i + 1) sp
        rw [spells_take kids i sp hlt, List.length_append] at h1
        have h2 := HL3.out
        rw [List.length_append]
        omega))
       have HK := Lib.hid (And.intro (HB.out.2.1.trans (Wk.of hba HB.out.1.le (b := b))) hbx5)
       clear hba hbk hwq hbx5 hK
       go_wp2_with fail
       refine HC.out.mono ?_
       rintro x W5 ⟨rfl, h3, h4⟩
       rw [List.append_assoc, ← spells_take kids i sp hlt] at h3
       have H5 := Aside0.mk (And.intro h3 (And.intro (HK.out.1.trans h4) (h4.blk HK.out.2 HX0.out.2 (by decide))))
       clear h3 h4 HC HK y0 y1 y2 y3 y4 y5 k0 k1 k2 k3 k4 k5 z1
       go_wp2
       go_roundw
       case rel => exact ⟨i + 1, by go_num, by omega, H5⟩
       case measure => simp [intOf]; omega
      ·have htk : kids.take i = kids := List.take_of_length_le (by omega)
       have hB1 := HB.out
       rw [htk] at hB1
       have z2 : wr.cell? ⟨w.heap.size, 2, none⟩ = some (.string (M nm)) := hB1.2.2.cell 2
       have HC := Lib.hid (put_row hB1.1 [[60, 47], nm, [62]] #[.string ⟨#[60, 47]⟩, .string (M nm), .string ⟨#[62]⟩] rfl (by show 3 ≤ 100; omega) (by
        have := HL3.out
        rw [List.length_append]
        omega))
       have HK := Lib.hid hB1.2.1
       clear htk hB1 HB
       go_wp2_with fail
       refine HC.out.mono ?_
       rintro x W6 ⟨rfl, h3, h4⟩
       rw [← HFK.out] at h3
       have H6 := Lib.hid (And.intro h3 (HK.out.trans h4))
       clear h3 h4 HC HK
       go_wp2
       go_end0
       exact ⟨rfl, H6.out⟩
theorem ins182 (W : World) (q : Bs × Bs) : (Instr.mapUpdate 89 (.map (some W.heap.size)) (kv q) (.int .i64 1)).run Tryz.prog (W.alloc (.map #[] 0)) = .ok () (W.alloc (.map (ents 0 [q]).toArray 1)) := by
 have h : (W.alloc (.map #[] 0)).heap[W.heap.size]? = some (.map #[] 0) := World.alloc_heap_new W _
 have hf := find_eq (W.alloc (.map #[] 0)) q []
 simp [Instr.mapUpdate, run_underlying Tryz.underlying89, MapKept.run_getObj_map h, check182, hf, Instr.findAsking, MapKept.run_setObj_map _ h, Result.andThen, ents]
 exact alloc_set W _ _
set_option maxRecDepth 100000 in
set_option maxHeartbeats 4000000 in
theorem attrs_wcalls (A : Option Addr) (c : Nat) (l : List At) (w : World) (hG : Glob w) (hc : l.length ≤ c) (hA : kAttr.C w A l.length l) (hl : l.length ≤ 1000000) (hs : ∀ a ∈ l, a.1.length ≤ 1000000 ∧ a.2.1.length ≤ 1000000 ∧ a.2.2.length ≤ 1000000) :
  Calls Tryz.prog 24 #[.slice A l.length c] w fun e w' => e = .returned (.bool (attrsOk l)) ∧ Below w.heap.size w w' := by
 have hi : (Instr.mapUpdate 89 (.map (some w.heap.size)) (.agg #[.string ⟨#[]⟩, .string ⟨#[120, 109, 108, 110, 115]⟩]) (.int .i64 1)).run Tryz.prog (w.alloc (.map #[] 0)) = .ok () (w.alloc (.map (ents 0 [([], tXmlns)]).toArray 1)) := ins182 w ([], tXmlns)
 have hmm : ∀ W, (Instr.makeMap 89 none).run Tryz.prog W = .ok (.map (some W.heap.size)) (W.alloc (.map #[] 0)) := fun W => by kernel_rfl
 have HG := Lib.hid hG
 have HA := Lib.hid hA
 have HS := Lib.hid hs
 obtain ⟨bb, hbb⟩ : ∃ bb, bb = attrsOk l := ⟨_, rfl⟩
 have HBB := Lib.hid hbb
 rw [← hbb]
 have hm0 : MapAt (w.alloc (.map (ents 0 [([], tXmlns)]).toArray 1)) w.heap.size [([], tXmlns)] := World.alloc_heap_new w _
 have hb0 : Below w.heap.size w (w.alloc (.map (ents 0 [([], tXmlns)]).toArray 1)) := (Below.refl _ _).alloc (Nat.le_refl _) _
 have HI := Aside0.mk (And.intro hm0 (And.intro hb0 (show attrsOkN [([], tXmlns)] l = attrsOkN [([], tXmlns)] (l.drop 0) from rfl)))
 clear hG hA hs hbb hm0 hb0
 go_enter Tryz.func24, Tryz.ntmps24
 go_wp2_with fail
 clear hi hmm
 generalize w.alloc (.map (ents 0 [([], tXmlns)]).toArray 1) = W0 at *
 go_loopw [12] (fun v12 wr => ∃ (k : Nat) (had : List (Bs × Bs)), v12 = .int .i64 k ∧ k ≤ l.length ∧ Aside0 (MapAt wr w.heap.size had ∧ Below w.heap.size w wr ∧ attrsOkN [([], tXmlns)] l = attrsOkN had (l.drop k))) (fun v12 _ => l.length - (intOf v12).toNat)
 case atStart => exact ⟨0, _, rfl, by omega, HI⟩
 case round =>
  obtain ⟨k, had, rfl, hk, HB⟩ := hrel
  by_cases hlt : k < l.length
  ·obtain ⟨ad, rfl, c0, c1, c2⟩ := attr_at (Kd.C_below (d := kAttr) HA.out HB.out.2.1) k hlt
   have hba : Below wr.heap.size wr ((wr.alloc (.cells (atC l[k]) 38)).alloc (.cells #[.string (M l[k].1), .string (M l[k].2.1)] 88)) := ((Below.refl _ _).alloc (Nat.le_refl _) _).alloc (by rw [World.size_alloc]; omega) _
   have hm2 := HB.out.1.below hba
   have b1 := Blk.new wr (atC l[k]) 38
   have b1' := b1.below ((Below.refl (wr.alloc (.cells (atC l[k]) 38)).heap.size (wr.alloc (.cells (atC l[k]) 38))).alloc (Nat.le_refl _) (.cells #[.string (M l[k].1), .string (M l[k].2.1)] 88)) b1.lt
   have b2 := Blk.new (wr.alloc (.cells (atC l[k]) 38)) #[.string (M l[k].1), .string (M l[k].2.1)] 88
   rw [World.size_alloc] at b2
   have y0 := b1.cell 0
   have y1 := b1.cell 1
   have z0 := b2.cell 0
   have z1 := b2.cell 1
   by_cases hq : (l[k].1, l[k].2.1) ∈ had
   ·go_wp2_with fail
    generalize ((wr.alloc (.cells (atC l[k]) 38)).alloc (.cells #[.string (M l[k].1), .string (M l[k].2.1)] 88)) = W2 at *
    obtain ⟨k0, hk0, hf0, f2⟩ := hit_entry (W := W2.drew) hm2 _ hq
    have f1 := look_hit (W := W2.drew) hm2 _ hq
    have f3 := look_hit (hit_map (W := W2.drew) hm2) _ hq
    have f4 := hit_store (W := W2.drew) hm2 _ hk0
    have f5 := hit_look (W := W2.drew) hm2 _ hk0 hf0
    go_region
    have hmk : w.heap.size < wr.heap.size := HB.out.1.lt
    have hb3 : Below w.heap.size w (setM W2.drew w.heap.size (entT had k0) had.length) := (HB.out.2.1.trans (hba.drew.mono HB.out.2.1.size)).trans (setM_below (Nat.le_refl _) _ _)
    have b4 : Blk (setM W2.drew w.heap.size (entT had k0) had.length) (wr.heap.size + 1) #[.string (M l[k].1), .string (M l[k].2.1)] 88 := (setM_other (by omega) _ _).trans b2
    have hbf : bb = false := by
     rw [HBB.out]
     unfold attrsOk
     rw [HB.out.2.2, List.drop_eq_getElem_cons hlt]
     conv => lhs; unfold attrsOkN
     rw [List.contains_iff_mem.2 hq]
     rfl
    subst hbf
    clear f1 f2 f3 f4 y0 y1 z0 z1 hba hm2 b1 b1' b2
    generalize setM W2.drew w.heap.size (entT had k0) had.length = W3 at *
    have z0 := b4.cell 0
    have z1 := b4.cell 1
    clear b4
    go_wp2
    go_ret
    exact ⟨rfl, hb3⟩
   ·go_wp2_with fail
    generalize ((wr.alloc (.cells (atC l[k]) 38)).alloc (.cells #[.string (M l[k].1), .string (M l[k].2.1)] 88)) = W2 at *
    have f1 := look_miss (W := W2.drew) hm2 _ hq
    have f2 := mis_entry (W := W2.drew) hm2 _ hq
    have f3 := mis_look (W := W2.drew) hm2 _ hq
    have f4 := mis_store (W := W2.drew) hm2 _ hq
    go_region
    have hlen1 : had.length + 1 = (had ++ [(l[k].1, l[k].2.1)]).length := by rw [List.length_append, List.length_singleton]
    rw [hlen1]
    have hm3 := mis_map (W := W2.drew) hm2 (l[k].1, l[k].2.1)
    have hmk : w.heap.size < wr.heap.size := HB.out.1.lt
    have hb3 : Below w.heap.size w (setM W2.drew w.heap.size (entA (had ++ [(l[k].1, l[k].2.1)])) (had ++ [(l[k].1, l[k].2.1)]).length) := (HB.out.2.1.trans (hba.drew.mono HB.out.2.1.size)).trans (setM_below (Nat.le_refl _) _ _)
    have b3 : Blk (setM W2.drew w.heap.size (entA (had ++ [(l[k].1, l[k].2.1)])) (had ++ [(l[k].1, l[k].2.1)]).length) wr.heap.size (atC l[k]) 38 := (setM_other (by omega) _ _).trans b1'
    have b4 : Blk (setM W2.drew w.heap.size (entA (had ++ [(l[k].1, l[k].2.1)])) (had ++ [(l[k].1, l[k].2.1)]).length) (wr.heap.size + 1) #[.string (M l[k].1), .string (M l[k].2.1)] 88 := (setM_other (by omega) _ _).trans b2
    clear f1 f2 f3 f4 hlen1 y0 y1 z0 z1
    generalize setM W2.drew w.heap.size (entA (had ++ [(l[k].1, l[k].2.1)])) (had ++ [(l[k].1, l[k].2.1)]).length = W3 at *
    have f5 := look_hit hm3 (l[k].1, l[k].2.1) (by simp)
    have y0 := b3.cell 0
    have y1 := b3.cell 1
    have y2 := b3.cell 2
    have z0 := b4.cell 0
    have z1 := b4.cell 1
    have hcon : had.contains (l[k].1, l[k].2.1) = false := by
     rw [Bool.eq_false_iff]
     exact fun h => hq (List.contains_iff_mem.1 h)
    have hstep : attrsOkN had (l.drop k) = (U.plainB l[k].2.1 && textOk l[k].1 && textOk l[k].2.2 && (l[k].1 != V.tNS) && attrsOkN (had ++ [(l[k].1, l[k].2.1)]) (l.drop (k + 1))) := by
     rw [List.drop_eq_getElem_cons hlt]
     conv => lhs; unfold attrsOkN
     rw [hcon]
     rfl
    obtain ⟨pb, hpb⟩ : ∃ pb, pb = U.plainB l[k].2.1 := ⟨_, rfl⟩
    obtain ⟨tb, htb⟩ : ∃ tb, tb = [l[k].1, l[k].2.2].all textOk := ⟨_, rfl⟩
    obtain ⟨nb, hnb⟩ : ∃ nb, (l[k].1 == ([104, 116, 116, 112, 58, 47, 47, 119, 119, 119, 46, 119, 51, 46, 111, 114, 103, 47, 50, 48, 48, 48, 47, 120, 109, 108, 110, 115, 47] : List UInt8)) = nb := ⟨_, rfl⟩
    have hstep2 : attrsOkN [([], tXmlns)] l = (pb && tb && !nb && attrsOkN (had ++ [(l[k].1, l[k].2.1)]) (l.drop (k + 1))) := by
     rw [HB.out.2.2, hstep, ← hpb, htb, ← hnb]
     show (_ && _ && _ && (!(l[k].1 == V.tNS)) && _) = _
     simp only [List.all_cons, List.all_nil, Bool.and_true, Bool.and_assoc]
     rfl
    have hsl := HS.out l[k] (List.getElem_mem hlt)
    have HP := Lib.hid (plain_calls l[k].2.1 W3 (HG.out.below hb3) (Nat.lt_of_le_of_lt hsl.2.1 (by decide)))
    rw [← hpb] at HP
    have H3 := Lib.hid (And.intro hm3 (And.intro hb3 (And.intro b3 (And.intro hsl (And.intro hstep2 (And.intro hstep htb))))))
    clear hm3 hb3 b3 b4 hsl hstep2 hstep htb hpb hcon b1 b1' b2 hm2 hba c0 c1 c2
    go_wp2_with fail
    refine HP.out.mono ?_
    rintro e W4 ⟨rfl, h4⟩
    have y0' := (H3.out.2.2.1.below h4 H3.out.2.2.1.lt).cell 0
    have y2' := (H3.out.2.2.1.below h4 H3.out.2.2.1.lt).cell 2
    have hb4 := H3.out.2.1.trans (h4.mono H3.out.2.1.size)
    cases pb with
    | false =>
      have hbf : bb = false := by rw [HBB.out]; unfold attrsOk; rw [H3.out.2.2.2.2.1]; rfl
      subst hbf
      clear y0 y1 y2 z0 z1 f5
      go_wp2
      go_ret
      exact ⟨rfl, hb4⟩
    | true =>
      have hba4 : Below W4.heap.size W4 (W4.alloc (.cells #[.string (M l[k].1), .string (M l[k].2.2)] 9)) := (Below.refl _ _).alloc (Nat.le_refl _) _
      have hr4 := row_new W4 [l[k].1, l[k].2.2] (cs := #[.string (M l[k].1), .string (M l[k].2.2)]) rfl
      have HT := Lib.hid (text_calls W4.heap.size 2 [l[k].1, l[k].2.2] (W4.alloc (.cells #[.string (M l[k].1), .string (M l[k].2.2)] 9)) (HG.out.below (hb4.trans (hba4.mono hb4.size))) hr4 (by rw [World.size_alloc]; omega) (by show 2 ≤ 1000; omega) (fun s hs => by
       have := H3.out.2.2.2.1
       rcases List.mem_cons.1 hs with rfl | hs
       ·omega
       ·rw [List.mem_singleton.1 hs]; omega))
      rw [← H3.out.2.2.2.2.2.2] at HT
      have H4 := Lib.hid (And.intro (H3.out.1.below h4) (And.intro (hb4.trans (hba4.mono hb4.size)) (And.intro ((H3.out.2.2.1.below h4 H3.out.2.2.1.lt).below hba4 (Nat.lt_of_lt_of_le H3.out.2.2.1.lt h4.size)) hba4)))
      clear hba4 hr4 hb4 h4 y0 y1 y2 z0 z1 HP
      go_wp2_with fail
      refine HT.out.mono ?_
      rintro e W5 ⟨rfl, h5⟩
      have hm5 := (H4.out.1.below H4.out.2.2.2).below h5
      have hb5 := H4.out.2.1.trans (h5.mono H4.out.2.1.size)
      have w0 := (H4.out.2.2.1.below h5 H4.out.2.2.1.lt).cell 0
      have HM5 := Lib.hid (And.intro hm5 hb5)
      clear hm5 hb5 h5 y0' y2' HT
      cases tb with
      | false =>
        have hbf : bb = false := by rw [HBB.out]; unfold attrsOk; rw [H3.out.2.2.2.2.1]; rfl
        subst hbf
        go_wp2
        go_ret
        exact ⟨rfl, HM5.out.2⟩
      | true =>
        cases nb with
        | true =>
          have hbf : bb = false := by rw [HBB.out]; unfold attrsOk; rw [H3.out.2.2.2.2.1]; rfl
          subst hbf
          go_wp2
          go_ret
          exact ⟨rfl, HM5.out.2⟩
        | false =>
          have hst : attrsOkN [([], tXmlns)] l = attrsOkN (had ++ [(l[k].1, l[k].2.1)]) (l.drop (k + 1)) := by
           rw [H3.out.2.2.2.2.1]
           rfl
          have H6 := Aside0.mk (And.intro HM5.out.1 (And.intro HM5.out.2 hst))
          clear hst
          go_wp2
          go_roundw
          case rel => exact ⟨k + 1, _, by go_num, by omega, H6⟩
          case measure => simp [intOf]; omega
  ·have hfin : attrsOk l = decide (l.length ≤ 24) := by
    unfold attrsOk
    rw [HB.out.2.2, List.drop_eq_nil_of_le (by omega)]
    rfl
   have HE := Lib.hid (And.intro hfin HB.out.2.1)
   by_cases h24 : l.length ≤ 24
   ·obtain rfl : bb = true := by rw [HBB.out, HE.out.1]; simpa using h24
    have h24' : (l.length : Int) ≤ 24 := by omega
    clear hfin HB
    go_wp2
    go_ret
    exact ⟨rfl, HE.out.2⟩
   ·obtain rfl : bb = false := by rw [HBB.out, HE.out.1]; simpa using h24
    have h24' : ¬ (l.length : Int) ≤ 24 := by omega
    clear hfin HB
    go_wp2
    go_ret
    exact ⟨rfl, HE.out.2⟩
theorem ib_contains (c : UInt8) : ∀ l : Bs, decide (0 ≤ Lib.indexByte l c) = l.contains c
 | [] => rfl
 | d :: l => by
   have ih := ib_contains c l
   unfold Lib.indexByte
   by_cases h : d = c
   ·subst h; simp
   ·rw [(beq_eq_false_iff_ne).2 h, List.contains_cons, (beq_eq_false_iff_ne).2 (fun e => h e.symm), Bool.false_or, ← ih]
    have hge : -1 ≤ Lib.indexByte l c := by
     rw [← Lib.index_one]
     exact Lib.index_ge _ _
    by_cases h1 : Lib.indexByte l c = -1
    ·rw [h1]; rfl
    ·rw [(beq_eq_false_iff_ne).2 h1]
     simp only [Bool.false_eq_true, if_false]
     rw [decide_eq_true (by omega), decide_eq_true (by omega)]
theorem contains1 (s : Bs) (c : UInt8) (w : World) : Calls Tryz.prog 41 #[.string (M s), .string ⟨#[c]⟩] w fun e w' => e = .returned (.bool (s.contains c)) ∧ w = w' := by
 refine (Tryz.strings_Contains_one (M s) c w).mono ?_
 rintro e w' ⟨rfl, rfl⟩
 exact ⟨by rw [show (M s).data.toList = s from rfl, ib_contains], rfl⟩
theorem contains2 (s sub : Bs) (w : World) (hG : Glob w) (hs : s.length < 4294967281) : Calls Tryz.prog 41 #[.string (M s), .string (M sub)] w fun e w' => e = .returned (.bool (!(Lib.index s sub == -1))) ∧ w = w' := by
 obtain ⟨m, hm⟩ := hG.max
 refine (Tryz.strings_Contains (M s) (M sub) m w hs hm).mono ?_
 rintro e w' ⟨rfl, rfl⟩
 refine ⟨?_, rfl⟩
 have : Lib.contains s sub = !(Lib.index s sub == -1) := by
  unfold Lib.contains
  have := Lib.index_ge s sub
  by_cases h : Lib.index s sub = -1
  ·rw [h]; rfl
  ·rw [(beq_eq_false_iff_ne).2 h]
   simp
   omega
 rw [show (M s).data.toList = s from rfl, show (M sub).data.toList = sub from rfl, this]
theorem leafOk_eq (k : Int) (sp nm : Bs) (at_ : List At) (kids : List Tr) (d : Bs) : leafOk (.mk k sp nm at_ kids d) = (sp.isEmpty && at_.isEmpty && kids.isEmpty && textOk d &&
  (if k = 1 then nm.isEmpty && !d.isEmpty else if k = 2 then nm.isEmpty && !d.contains 13 && (Lib.index (d ++ [45]) [45, 45] == -1) else if k = 3 then U.plainB nm && (Lib.toLowerD nm != tXml) && !d.contains 13 && (Lib.index d [63, 62] == -1) && (Lib.trimLeftS d [32, 9, 10, 13] == d) else false)) := rfl
set_option maxRecDepth 100000 in
set_option maxHeartbeats 4000000 in
theorem leaf_wcalls {k : Int} {sp nm d : Bs} {at_ : List At} {kids : List Tr} {A B : Option Addr} {c e : Nat} (w : World) (hG : Glob w) (hsp : sp.length ≤ 1000000) (hnm : nm.length ≤ 1000000) (hd : d.length ≤ 1000000) (hat : at_.length ≤ 1000000) (hkl : kids.length ≤ 1000000) (k3 : k ≠ 3) :
  Calls Tryz.prog 21 #[.agg #[.int .i64 k, .string (M sp), .string (M nm), .slice A at_.length c, .slice B kids.length e, .string (M d)]] w fun x w' => x = .returned (.bool (leafOk (.mk k sp nm at_ kids d))) ∧ Below w.heap.size w w' := by
 have hb0 : Below w.heap.size w (w.alloc (.cells #[.int .i64 k, .string (M sp), .string (M nm), .slice A at_.length c, .slice B kids.length e, .string (M d)] 25)) := (Below.refl _ _).alloc (Nat.le_refl _) _
 have hbx := Blk.new w #[.int .i64 k, .string (M sp), .string (M nm), .slice A at_.length c, .slice B kids.length e, .string (M d)] 25
 have x1 := hbx.cell 1
 have x3 := hbx.cell 3
 have x4 := hbx.cell 4
 have x5 := hbx.cell 5
 have HB := Lib.hid hb0
 have HX := Lib.hid hbx
 obtain ⟨bb, hbb⟩ : ∃ bb, bb = leafOk (.mk k sp nm at_ kids d) := ⟨_, rfl⟩
 rw [← hbb]
 rw [leafOk_eq] at hbb
 have HBB := Lib.hid hbb
 have HG := Lib.hid (hG.below hb0)
 clear hbx hb0 hbb hG
 by_cases h1 : sp = []
 ·subst h1
  by_cases h2 : at_.length + kids.length = 0
  ·obtain rfl : at_ = [] := List.eq_nil_of_length_eq_zero (by omega)
   obtain rfl : kids = [] := List.eq_nil_of_length_eq_zero (by omega)
   obtain ⟨tb, htb⟩ : ∃ tb, tb = textOk d := ⟨_, rfl⟩
   have hba : Below (w.heap.size + 1) (w.alloc (.cells #[.int .i64 k, .string (M []), .string (M nm), .slice A ([] : List At).length c, .slice B ([] : List Tr).length e, .string (M d)] 25)) ((w.alloc (.cells #[.int .i64 k, .string (M []), .string (M nm), .slice A ([] : List At).length c, .slice B ([] : List Tr).length e, .string (M d)] 25)).alloc (.cells #[.string (M d)] 9)) := (Below.refl _ _).alloc (by rw [World.size_alloc]; omega) _
   have hT := text_calls (w.heap.size + 1) 1 [d] ((w.alloc (.cells #[.int .i64 k, .string (M []), .string (M nm), .slice A ([] : List At).length c, .slice B ([] : List Tr).length e, .string (M d)] 25)).alloc (.cells #[.string (M d)] 9)) (HG.out.below (by rw [World.size_alloc]; exact hba)) (by
    have := row_new (w.alloc (.cells #[.int .i64 k, .string (M []), .string (M nm), .slice A ([] : List At).length c, .slice B ([] : List Tr).length e, .string (M d)] 25)) [d] (cs := #[.string (M d)]) rfl
    rw [World.size_alloc] at this
    exact this) (by rw [World.size_alloc, World.size_alloc]; omega) (by show 1 ≤ 1000; omega) (fun s hs => by rw [List.mem_singleton.1 hs]; omega)
   have htb2 : [d].all textOk = tb := by rw [htb]; simp
   rw [htb2] at hT
   have HT := Lib.hid hT
   have HA := Lib.hid hba
   have HTB := Lib.hid htb
   clear hT hba htb htb2
   go_enter Tryz.func21, Tryz.ntmps21
   go_wp2_with fail
   refine HT.out.mono ?_
   rintro x W1 ⟨rfl, hw1⟩
   have hall : Below (w.heap.size + 1) (w.alloc (.cells #[.int .i64 k, .string (M []), .string (M nm), .slice A ([] : List At).length c, .slice B ([] : List Tr).length e, .string (M d)] 25)) W1 := HA.out.trans (hw1.mono (by rw [World.size_alloc, World.size_alloc]; omega))
   have HB1 := Lib.hid (HB.out.trans (hall.mono (by omega)))
   have HG1 := Lib.hid (HG.out.below (by rw [World.size_alloc]; exact hall))
   have hX := HX.out.below hall (by omega)
   have hX1 := hX
   have y0 := hX.cell 0
   have y2 := hX.cell 2
   have y5 := hX.cell 5
   clear hw1 hall hX HX HT HA x1 x3 x4 x5
   cases tb with
   | false =>
     obtain rfl : bb = false := by rw [HBB.out, ← HTB.out]; rfl
     go_wp2
     go_ret
     exact ⟨rfl, HB1.out⟩
   | true =>
     have HBB := Lib.hid (show bb = (if k = 1 then nm.isEmpty && !d.isEmpty else if k = 2 then nm.isEmpty && !d.contains 13 && (Lib.index (d ++ [45]) [45, 45] == -1) else if k = 3 then U.plainB nm && (Lib.toLowerD nm != tXml) && !d.contains 13 && (Lib.index d [63, 62] == -1) && (Lib.trimLeftS d [32, 9, 10, 13] == d) else false) by
      rw [HBB.out, ← HTB.out]; rfl)
     obtain ⟨rb, hrb⟩ : ∃ rb, rb = d.contains 13 := ⟨_, rfl⟩
     have HR := Lib.hid (contains1 d 13 W1)
     rw [← hrb] at HBB HR
     clear hrb HTB
     go_wp2_with fail
     refine HR.out.mono ?_
     rintro x W2 ⟨rfl, rfl⟩
     clear HR
     by_cases k1 : k = 1
     ·subst k1
      by_cases n0 : nm = []
      ·subst n0
       by_cases d0 : d = []
       ·subst d0
        obtain rfl : bb = false := by rw [HBB.out]; rfl
        go_wp2
        go_ret
        exact ⟨rfl, HB1.out⟩
       ·have hdf : List.isEmpty d = false := List.isEmpty_eq_false_iff.2 d0
        obtain rfl : bb = true := by rw [HBB.out, if_pos rfl, hdf]; rfl
        go_wp2
        go_ret
        exact ⟨rfl, HB1.out⟩
      ·have hnf : List.isEmpty nm = false := List.isEmpty_eq_false_iff.2 n0
       obtain rfl : bb = false := by rw [HBB.out, if_pos rfl, hnf]; rfl
       go_wp2
       go_ret
       exact ⟨rfl, HB1.out⟩
     ·by_cases k2 : k = 2
      ·subst k2
       by_cases n0 : nm = []
       ·subst n0
        cases rb with
        | true =>
          obtain rfl : bb = false := by rw [HBB.out]; rfl
          go_wp2
          go_ret
          exact ⟨rfl, HB1.out⟩
        | false =>
          have hcat : M d ++ (⟨#[45]⟩ : ByteArray) = M (d ++ [45]) := M_cat d [45]
          obtain ⟨ib, hib⟩ : ∃ ib, ib = (Lib.index (d ++ [45]) [45, 45] == -1) := ⟨_, rfl⟩
          have HI := Lib.hid (contains2 (d ++ [45]) [45, 45] W1 HG1.out (by rw [List.length_append, List.length_singleton]; omega))
          rw [← hib] at HI
          obtain rfl : bb = ib := by rw [HBB.out, hib]; simp
          clear hib
          go_wp2_with fail
          refine HI.out.mono ?_
          rintro x W3 ⟨rfl, rfl⟩
          cases bb with
          | false =>
            go_wp2
            go_ret
            exact ⟨rfl, HB1.out⟩
          | true =>
            go_wp2
            go_ret
            exact ⟨rfl, HB1.out⟩
       ·have hnf : List.isEmpty nm = false := List.isEmpty_eq_false_iff.2 n0
        obtain rfl : bb = false := by rw [HBB.out, if_neg (by decide), if_pos rfl, hnf]; rfl
        go_wp2
        go_ret
        exact ⟨rfl, HB1.out⟩
      ·have hbf : bb = false := by rw [HBB.out, if_neg k1, if_neg k2, if_neg k3]
       subst hbf
       go_wp2
       go_ret
       exact ⟨rfl, HB1.out⟩
  ·have hlt : ¬ ((at_.length : Int) + (kids.length : Int) = 0) := by omega
   obtain rfl : bb = false := by
    rw [HBB.out]
    cases at_ with
    | nil =>
      cases kids with
      | nil => exact absurd rfl h2
      | cons _ _ => simp
    | cons _ _ => simp
   have hgt : (at_.length : Int) + (kids.length : Int) > 0 := by omega
   go_enter Tryz.func21, Tryz.ntmps21
   go_wp2
   go_ret
   exact ⟨rfl, HB.out⟩
 ·have hf : List.isEmpty sp = false := List.isEmpty_eq_false_iff.2 h1
  obtain rfl : bb = false := by rw [HBB.out, hf]; rfl
  go_enter Tryz.func21, Tryz.ntmps21
  go_wp2
  go_ret
  exact ⟨rfl, HB.out⟩
end Go.Proofs.YtadgeghipimfiaaGreatDoor.X
end
