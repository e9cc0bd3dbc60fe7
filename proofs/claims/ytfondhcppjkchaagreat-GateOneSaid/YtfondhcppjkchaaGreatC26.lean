import Derived.Test.YtfondhcppjkchaaGreatC24
import Derived.Test.YtfondhcppjkchaaGreatC25
import Derived.Handy
import Derived.Deep.RegionWith
import Derived.IntWalk
import Derived.OwnWalk
set_option maxHeartbeats 40000000
set_option maxRecDepth 100000
set_option linter.unusedVariables false
set_option linter.unusedSimpArgs false
namespace Go.Proofs.YtfondhcppjkchaaGreat.Q
open Go.RowKit Go.Proofs.YtfondhcppjkchaaGreatW.PrintWords Go.Proofs.YtfondhcppjkchaaGreatW.PrintLast
open Go.Proofs.YtfondhcppjkchaaGreatW.PrintMore
def Edge.vals (e : Edge) : List Value := [.int .i64 e.src.1, .int .i64 e.src.2, .int .i64 e.dst.1, .int .i64 e.dst.2, .int .i64 e.more]
def edgeVals (es : List Edge) : List Value := es.flatMap Edge.vals
structure Pl where
 B : Nat
 A0 : Option Addr
 c0 : Nat
 l : List S78
 p : Int
 h : Int
 A2 : Option Addr
 c2 : Nat
 costs : List Int
 bm : Nat
structure PlanV (w : World) (P : Pl) (m : AL) (es : List Edge) (v : Value) (W : World) : Prop where
 k0 : W.cell? ⟨P.B, 0, none⟩ = some (.slice P.A0 P.l.length P.c0)
 k1 : W.cell? ⟨P.B, 1, none⟩ = some (.int .i64 P.p)
 k2 : W.cell? ⟨P.B, 2, none⟩ = some (.int .i64 P.h)
 k3 : W.cell? ⟨P.B, 3, none⟩ = some (.slice P.A2 P.costs.length P.c2)
 k4 : W.cell? ⟨P.B, 4, none⟩ = some (.map (some P.bm))
 k5 : W.cell? ⟨P.B, 5, none⟩ = some v
 f5 : W.frozen? ⟨P.B, 5, none⟩ = false
 own : W.ownsRow w.heap.size 132 5 v es.length (edgeVals es)
 map : OwnsM W P.bm m
 hB : w.heap.size ≤ P.B
 hm : w.heap.size ≤ P.bm
 ne : P.bm ≠ P.B
 vB : v.ownBlock ≠ some P.B
 vm : v.ownBlock ≠ some P.bm
 bel : Below w.heap.size w W
def Plan (w : World) (P : Pl) (m : AL) (es : List Edge) (W : World) : Prop := ∃ v, PlanV w P m es v W
theorem PlanV.grow {w : World} {P : Pl} {m : AL} {es : List Edge} {v : Value} {W W' : World} (h : PlanV w P m es v W) (hb : Below W.heap.size W W') : PlanV w P m es v W' := by
 have hBW := World.block_lt_of_cell? W _ h.k0
 have hmW := h.map.lt
 obtain ⟨hc, hf⟩ := bcell hb
 refine ⟨(hc _ _ hBW).trans h.k0, (hc _ _ hBW).trans h.k1, (hc _ _ hBW).trans h.k2, (hc _ _ hBW).trans h.k3, (hc _ _ hBW).trans h.k4, (hc _ _ hBW).trans h.k5, (hf _ _ hBW).trans h.f5, ?_, h.map.block (hb.block _ hmW), h.hB, h.hm, h.ne, h.vB, h.vm, h.bel.trans (hb.mono h.bel.size)⟩
 exact h.own.kept (row := none) ⟨hb.os, hb.tape, hb.output, hb.size, fun k hk _ => hb.block k hk⟩ (by cases v.ownBlock <;> simp)
theorem PlanV.drew {w : World} {P : Pl} {m : AL} {es : List Edge} {v : Value} {W : World} (h : PlanV w P m es v W) : PlanV w P m es v W.drew := h.grow (Below.refl _ _).drew
theorem PlanV.turn {w : World} {P : Pl} {m m' : AL} {es : List Edge} {v : Value} {W W' : World} (h : PlanV w P m es v W) (ht : Turn W W' P.bm) (hm : OwnsM W' P.bm m') : PlanV w P m' es v W' := by
 have e : ∀ i, W'.cell? ⟨P.B, i, none⟩ = W.cell? ⟨P.B, i, none⟩ := fun i => ht.cell (Ne.symm h.ne)
 refine ⟨(e _).trans h.k0, (e _).trans h.k1, (e _).trans h.k2, (e _).trans h.k3, (e _).trans h.k4, (e _).trans h.k5, (ht.frozen (Ne.symm h.ne)).trans h.f5, ?_, hm, h.hB, h.hm, h.ne, h.vB, h.vm, h.bel.trans (ht.below h.hm)⟩
 exact h.own.kept (row := some P.bm) ⟨ht.os, ht.tape, ht.output, by rw [ht.size]; exact Nat.le_refl _, fun k hk hne => ht.block k (fun e => hne (by rw [e]))⟩ (.inr h.vm)
def zE : Edge := ⟨(0, 0), (0, 0), 0⟩
def rdE (es : List Edge) (i : Int) : Edge := es.getD i.toNat zE
theorem edgeVals_get : ∀ (es : List Edge) (i j : Nat) (u : Value), i < es.length → (es.getD i zE).vals[j]? = some u → (edgeVals es)[i * 5 + j]? = some u
 | [], i, j, u, hi, _ => by simp at hi
 | e :: es, i, j, u, hi, hu => by
  have hj : j < 5 := by
   have := (List.getElem?_eq_some_iff.1 hu).1
   simpa [Edge.vals] using this
  unfold edgeVals
  rw [List.flatMap_cons]
  cases i with
  | zero =>
   rw [List.getElem?_append_left (by simp [Edge.vals]; omega)]
   simpa using hu
  | succ i =>
   rw [List.getElem?_append_right (by simp [Edge.vals]; omega)]
   have e1 : (i + 1) * 5 + j - e.vals.length = i * 5 + j := by simp [Edge.vals]; omega
   rw [e1]
   exact edgeVals_get es i j u (by simpa using hi) (by simpa using hu)
theorem at_edge {w W : World} {es : List Edge} {A : Option Addr} {c : Nat} (ho : W.ownsRow w.heap.size 132 5 (.slice A es.length c) es.length (edgeVals es)) (i : Int) (h0 : 0 ≤ i) (h1 : i < es.length) : ∃ ad, A = some ad ∧ W.cell? (ad.add (i.toNat * 5)) = some (.int .i64 (rdE es i).src.1) ∧ W.cell? ⟨(ad.add (i.toNat * 5)).block, (ad.add (i.toNat * 5)).off + 1, none⟩ = some (.int .i64 (rdE es i).src.2) ∧ W.cell? ⟨(ad.add (i.toNat * 5)).block, (ad.add (i.toNat * 5)).off + 2, none⟩ = some (.int .i64 (rdE es i).dst.1) ∧ W.cell? ⟨(ad.add (i.toNat * 5)).block, (ad.add (i.toNat * 5)).off + 3, none⟩ = some (.int .i64 (rdE es i).dst.2) ∧ W.cell? ⟨(ad.add (i.toNat * 5)).block, (ad.add (i.toNat * 5)).off + 4, none⟩ = some (.int .i64 (rdE es i).more) := by
 rcases ho.2 with ⟨_, h0'⟩ | ⟨g, cap, cur, hv, _⟩
 ·omega
 ·have e1 : A = some ⟨g, 0, none⟩ := by injection hv
  have hn : i.toNat < es.length := by omega
  have hc : ∀ j u, (rdE es i).vals[j]? = some u → W.cell? ((⟨g, 0, none⟩ : Addr).add (i.toNat * 5 + j)) = some u := fun j u hu => ho.cells (g := g) (by rw [hv]; rfl) _ _ (edgeVals_get es i.toNat j u hn hu)
  exact ⟨_, e1, hc 0 _ rfl, by rw [← zla _ _ 1 (by omega)]; exact hc 1 _ rfl, by rw [← zla _ _ 2 (by omega)]; exact hc 2 _ rfl, by rw [← zla _ _ 3 (by omega)]; exact hc 3 _ rfl, by rw [← zla _ _ 4 (by omega)]; exact hc 4 _ rfl⟩
theorem PlanV.shape {w : World} {P : Pl} {m : AL} {es : List Edge} {v : Value} {W : World} (h : PlanV w P m es v W) : ∃ A c, v = .slice A es.length c := by
 rcases h.own.2 with ⟨rfl, h0⟩ | ⟨g, cap, cur, rfl, _⟩
 ·exact ⟨none, 0, by rw [h0]⟩
 ·exact ⟨_, _, rfl⟩
theorem PlanV.len {w : World} {P : Pl} {m : AL} {es : List Edge} {v : Value} {W : World} (h : PlanV w P m es v W) : (es.length : Int) ≤ 9223372036854775807 := by
 rcases h.own.2 with ⟨rfl, h0⟩ | ⟨g, cap, cur, rfl, _, _, h1, h2, _⟩
 ·omega
 ·unfold maxLen at h2; omega
theorem rdE_take (es : List Edge) (x : Int) (h0 : 0 ≤ x) (h : x < es.length) : es.take (x + 1).toNat = es.take x.toNat ++ [rdE es x] := by
 have e : (x + 1).toNat = x.toNat + 1 := by omega
 have hl : x.toNat < es.length := by omega
 rw [e, List.take_succ_eq_append_getElem hl]
 congr 2
 unfold rdE; rw [List.getD_eq_getElem?_getD, List.getElem?_eq_getElem hl]; rfl
def roundStep (s : AL × Bool) (e : Edge) : AL × Bool := if wrap64 (s.1.get e.dst + e.more) < s.1.get e.src then (s.1.put e.src (wrap64 (s.1.get e.dst + e.more)), true) else s
def roundS (es : List Edge) (m : AL) : AL × Bool := es.foldl roundStep (m, false)
theorem roundS_snoc (es : List Edge) (m : AL) (e : Edge) : roundS (es ++ [e]) m = roundStep (roundS es m) e := by
 unfold roundS; rw [List.foldl_append]; rfl
theorem round_any (w : World) (P : Pl) (m : AL) (es : List Edge) (W : World) (h : Plan w P m es W) :
  Calls Tryz.prog 42 #[.pointer (some ⟨P.B, 0, none⟩)] W fun e W' => e = .returned (.bool (roundS es m).2) ∧ Plan w P (roundS es m).1 es W' := by
 obtain ⟨v, hv⟩ := h
 obtain ⟨A, cp, rfl⟩ := hv.shape
 have k5 := hv.k5
 have hlen := hv.len
 have H := Lib.hid hv
 clear hv
 go_enter Tryz.func42, Tryz.ntmps42
 go_wp2
 clear k5
 go_loopw [2, 11] (fun v2 v11 W1 => ∃ x : Int, v11 = .int .i64 x ∧ 0 ≤ x ∧ x ≤ es.length ∧ v2 = .bool (roundS (es.take x.toNat) m).2 ∧ PlanV w P (roundS (es.take x.toNat) m).1 es (.slice A es.length cp) W1) (fun _ v11 _ => es.length - (intOf v11).toNat)
 case atStart => exact ⟨0, rfl, by omega, by omega, rfl, H.out⟩
 case round =>
  clear H
  obtain ⟨x, rfl, h0, h1, rfl, hP⟩ := hrel
  by_cases hlt : x < (es.length : Int)
  ·have HX := Lib.hid (rdE_take es x h0 hlt)
   obtain ⟨ad, rfl, g0, g1, g2, g3, g4⟩ := at_edge hP.own x h0 hlt
   obtain ⟨on, m1, hs⟩ : ∃ on m1, roundS (es.take x.toNat) m = (m1, on) := ⟨_, _, rfl⟩
   rw [hs] at hP
   have HS := Lib.hid hs
   rw [show (roundS (List.take x.toNat es) m).2 = on by rw [hs]]
   clear hs
   generalize hE : rdE es x = E at g0 g1 g2 g3 g4
   have HE := Lib.hid hE
   clear hE
   have HP := Lib.hid hP
   clear hP
   have c := decide_eq_true hlt
   have j0 := eq_true h0
   have j1 := eq_true hlt
   go_wp2
   have hbx : ∀ i u, (#[.int .i64 E.src.1, .int .i64 E.src.2, .int .i64 E.dst.1, .int .i64 E.dst.2, .int .i64 E.more] : Array Value)[i]? = some u → (wr.alloc (.cells #[.int .i64 E.src.1, .int .i64 E.src.2, .int .i64 E.dst.1, .int .i64 E.dst.2, .int .i64 E.more] 132)).cell? ⟨wr.heap.size, i, none⟩ = some u := fun i u hu => by
    rw [cell_of_row _ _ _ _ _ _ (heap_alloc_new wr _)]; exact hu
   have b0 := hbx 0 (.int .i64 E.src.1) rfl
   have b1 := hbx 1 (.int .i64 E.src.2) rfl
   have b2 := hbx 2 (.int .i64 E.dst.1) rfl
   have b3 := hbx 3 (.int .i64 E.dst.2) rfl
   have b4 := hbx 4 (.int .i64 E.more) rfl
   have HP2 : PlanV w P m1 es (.slice (some ad) es.length cp) (wr.alloc (.cells #[.int .i64 E.src.1, .int .i64 E.src.2, .int .i64 E.dst.1, .int .i64 E.dst.2, .int .i64 E.more] 132)) := HP.out.grow ((Below.refl _ _).alloc (Nat.le_refl _) _)
   have hlt2 : w.heap.size ≤ wr.heap.size := HP.out.bel.size
   have hBr : P.B < wr.heap.size := World.block_lt_of_cell? wr _ HP.out.k0
   clear g0 g1 g2 g3 g4 HP hbx
   generalize wr.alloc (.cells #[.int .i64 E.src.1, .int .i64 E.src.2, .int .i64 E.dst.1, .int .i64 E.dst.2, .int .i64 E.more] 132) = W2 at b0 b1 b2 b3 b4 HP2 ⊢
   generalize wr.heap.size = X9 at b0 b1 b2 b3 b4 hlt2 hBr ⊢
   obtain ⟨y, hy⟩ : ∃ y, m1.get E.dst = y := ⟨_, rfl⟩
   have HL : (Instr.lookup 97 (.map (some P.bm)) (.agg #[.int .i64 E.dst.1, .int .i64 E.dst.2]) false).run Tryz.prog W2.drew = .ok (.int .i64 y) W2.drew := by
    rw [← hy]; exact HP2.drew.map.lookup E.dst
   have k4 := HP2.k4
   have HP := Lib.hid HP2
   clear HP2
   have HY := Lib.hid hy
   clear hy
   apply wp_ex (I := fun W3 => W3 = W2.drew)
   ·go_region
    all_goals exact ⟨rfl, rfl⟩
   rintro W3 rfl
   clear HL
   have HP2 := HP.out.drew
   have HL : ∀ W3, W3 = W2.drew ∨ W3 = W2.drew.drew → (Instr.lookup 97 (.map (some P.bm)) (.agg #[.int .i64 E.src.1, .int .i64 E.src.2]) false).run Tryz.prog W3 = .ok (.int .i64 (m1.get E.src)) W3 := by
    rintro W3 (rfl | rfl)
    ·exact HP2.map.lookup E.src
    ·exact HP2.drew.map.lookup E.src
   have HL1 := HL _ (.inl rfl)
   have HL2 := HL _ (.inr rfl)
   clear HL HP2
   go_wp2
   have hst : roundS (es.take (x + 1).toNat) m = if wrap64 (y + E.more) < m1.get E.src then (m1.put E.src (wrap64 (y + E.more)), true) else (m1, on) := by
    rw [HX.out, roundS_snoc, HS.out, HE.out]; unfold roundStep; simp only [HY.out]
   have HST := Lib.hid hst
   clear hst
   generalize m1.get E.src = z at HL1 HL2 HST
   by_cases hz : wrap64 (y + E.more) < z
   ·have hd := decide_eq_true hz
    obtain ⟨W4, hup, hown4, htn⟩ := HP.out.drew.drew.drew.map.update E.src (wrap64 (y + E.more))
    have hup' : (Instr.mapUpdate 97 (.map (some P.bm)) (.agg #[.int .i64 E.src.1, .int .i64 E.src.2]) (.int .i64 (wrap64 (y + E.more)))).run Tryz.prog W2.drew.drew.drew = .ok () W4 := hup
    have HP4 := Lib.hid (HP.out.drew.drew.drew.turn htn hown4)
    rw [if_pos hz] at HST
    clear hz hup htn hown4
    apply wp_ex (I := fun W3 => W3 = W2.drew.drew)
    ·go_region
     all_goals exact ⟨rfl, rfl⟩
    rintro W3 rfl
    go_wp2
    apply wp_ex (I := fun W3 => W3 = W4)
    ·go_region
     all_goals exact ⟨rfl, rfl⟩
    rintro W3 rfl
    go_wp2
    go_roundw
    case rel => exact ⟨x + 1, by go_num, by omega, by omega, by rw [HST.out], by rw [HST.out]; exact HP4.out⟩
    case measure => simp [intOf]; omega
   ·have hd := decide_eq_false hz
    rw [if_neg hz] at HST
    clear hz
    apply wp_ex (I := fun W3 => W3 = W2.drew.drew)
    ·go_region
     all_goals exact ⟨rfl, rfl⟩
    rintro W3 rfl
    go_wp2
    go_roundw
    case rel => exact ⟨x + 1, by go_num, by omega, by omega, by rw [HST.out], by rw [HST.out]; exact HP.out.drew.drew⟩
    case measure => simp [intOf]; omega
  ·have e : x.toNat = es.length := by omega
   rw [e, List.take_length] at hP ⊢
   have HP := Lib.hid hP
   clear hP
   go_wp2
   go_ret
   exact ⟨rfl, _, HP.out⟩
theorem wpList_range_key {w : World} {ops : Array Oper} {rest : List Oper} {o : Oper} {a : Act} {Q : Exit → Act → World → Prop}
  (hg : o.guard = none) (m : Operand) (hop : o.op = Op.range 97 m) (b : Nat) (D : AL) (hm : a.eval m = .map (some b)) (hown : OwnsM w b D)
  (hK : ∀ w', Rng w' b w.heap.size D (D.map (·.1)) → Below w.heap.size w w' → w'.heap.size = w.heap.size + 1 → wpList Tryz.prog ops Q rest (a.put o.dst (.pointer (some ⟨w.heap.size, 0, none⟩))) w') : wpList Tryz.prog ops Q (o :: rest) a w := by
 refine wpList_plain hg fun K' hK' => ?_
 have hrun := hown.range
 have hr := hown.ranged
 unfold Oper.wp
 simp [execOp, hop, hm, hrun, Result.andThen]
 exact hK' _ _ (hK _ hr ((Below.refl _ _).alloc (Nat.le_refl _) _) (by simp))
theorem wpList_next_key {w : World} {ops : Array Oper} {rest : List Oper} {o : Oper} {a : Act} {Q : Exit → Act → World → Prop}
  (hg : o.guard = none) (it : Operand) (hop : o.op = Op.next it false) (b r : Nat) (D : AL) (left : List Key) (hit : a.eval it = .pointer (some ⟨r, 0, none⟩)) (h : Rng w b r D left)
  (hDone : left = [] → wpList Tryz.prog ops Q rest (a.put o.dst (.tuple #[.bool false])) w)
  (hMore : ∀ (k : Key) (w' : World), k ∈ left → (k, D.get k) ∈ D → Rng w' b r D (left.filter (· != k)) → Turn w w' r → (Instr.entry (.pointer (some ⟨r, 0, none⟩))).run Tryz.prog w' = .ok (.tuple #[.agg #[.int .i64 k.1, .int .i64 k.2], .int .i64 (D.get k)]) w' → wpList Tryz.prog ops Q rest (a.put o.dst (.tuple #[.bool true, .agg #[.int .i64 k.1, .int .i64 k.2], .int .i64 (D.get k)])) w') : wpList Tryz.prog ops Q (o :: rest) a w := by
 refine wpList_plain hg fun K' hK' => ?_
 unfold Oper.wp
 rcases h.next o.type with ⟨h0, hrun⟩ | ⟨k, w', hk, hkm, hrun, hr, ht, hen⟩
 ·simp [execOp, hop, hit, hrun, Result.andThen]
  exact hK' _ _ (hDone h0)
 ·simp [execOp, hop, hit, hrun, Result.andThen]
  exact hK' _ _ (hMore k w' hk hkm hr ht hen)
theorem filter_lt {k : Key} : ∀ {left : List Key}, k ∈ left → (left.filter (· != k)).length < left.length
 | [], h => by cases h
 | a :: l, h => by
  rw [List.filter_cons]
  by_cases ha : a = k
  ·subst ha
   simp
   have := List.length_filter_le (· != a) l
   omega
  ·have hm : k ∈ l := by
    rcases List.mem_cons.1 h with h | h
    ·exact absurd h.symm ha
    ·exact h
   simp [ha]
   exact hm
theorem OwnsM.nd {w : World} {b : Nat} {m : AL} (h : OwnsM w b m) : (m.map (·.1)).Nodup := by
 obtain ⟨es, clock, _, he⟩ := h
 exact he.kd
theorem Rng.left_eq {w : World} {b r : Nat} {m : AL} {left : List Key} (h : Rng w b r m left) : w.rangeLeft b r = left.length := by
 obtain ⟨es, clock, since, seen, c0, hb, he, hr, _, _, _, hl⟩ := h
 simp only [World.rangeLeft, hb, hr]
 have := congrArg List.length hl
 simpa using this
def shortS (costs : List Int) (m : AL) : Bool := m.any fun p => decide (p.2 < rd costs p.1.1)
def keysIn (n : Nat) (m : AL) : Bool := m.all fun p => decide (0 ≤ p.1.1 ∧ p.1.1 < (n : Int))
theorem PlanV.turnR {w : World} {P : Pl} {m : AL} {es : List Edge} {v : Value} {W W' : World} {r : Nat} (h : PlanV w P m es v W) (ht : Turn W W' r) (hr : w.heap.size ≤ r) (h1 : r ≠ P.B) (h2 : r ≠ P.bm) (h3 : v.ownBlock ≠ some r) : PlanV w P m es v W' := by
 have e : ∀ i, W'.cell? ⟨P.B, i, none⟩ = W.cell? ⟨P.B, i, none⟩ := fun i => ht.cell (Ne.symm h1)
 refine ⟨(e _).trans h.k0, (e _).trans h.k1, (e _).trans h.k2, (e _).trans h.k3, (e _).trans h.k4, (e _).trans h.k5, (ht.frozen (Ne.symm h1)).trans h.f5, ?_, h.map.block (ht.block _ (Ne.symm h2)), h.hB, h.hm, h.ne, h.vB, h.vm, h.bel.trans (ht.below hr)⟩
 exact h.own.kept (row := some r) ⟨ht.os, ht.tape, ht.output, by rw [ht.size]; exact Nat.le_refl _, fun k hk hne => ht.block k (fun e => hne (by rw [e]))⟩ (.inr h3)
theorem PlanV.vlt {w : World} {P : Pl} {m : AL} {es : List Edge} {v : Value} {W : World} (h : PlanV w P m es v W) {r : Nat} (hr : W.heap.size ≤ r) : v.ownBlock ≠ some r := fun e => by
 have := (h.own.lt r e).2
 omega
theorem short_any (w : World) (P : Pl) (m : AL) (es : List Edge) (W : World) (h : Plan w P m es W) (h2 : Kd.C (Kd.int .i64) w P.A2 P.costs.length P.costs) (hin : keysIn P.costs.length m = true) :
  Calls Tryz.prog 41 #[.pointer (some ⟨P.B, 0, none⟩)] W fun e W' => e = .returned (.bool (shortS P.costs m)) ∧ Plan w P m es W' := by
 obtain ⟨v, hv⟩ := h
 have k4 := hv.k4
 have hBW := World.block_lt_of_cell? W _ hv.k0
 have hmW := hv.map.lt
 have H2 := Lib.hid h2
 have HI := Lib.hid hin
 have H := Lib.hid hv
 clear hv h2 hin
 go_enter Tryz.func41, Tryz.ntmps41
 go_wp2_with (first | (at_range; refine wpList_range_key rfl _ rfl P.bm m rfl H.out.map ?_; intro w0 hrg0 hg0 hs0))
 try go_frame
 have HP0 := Lib.hid (H.out.grow hg0)
 have hsz := H.out.bel.size
 have HV := Lib.hid (H.out.vlt (Nat.le_refl _))
 clear k4 H hg0 hs0
 go_loopw [12] (fun _ W1 => ∃ left, Rng W1 P.bm W.heap.size m left ∧ (∀ k ∈ left, k ∈ m.map (·.1)) ∧ (∀ p ∈ m, p.1 ∉ left → ¬ p.2 < rd P.costs p.1.1) ∧ PlanV w P m es v W1) (fun _ W1 => W1.rangeLeft P.bm W.heap.size)
 case atStart => exact ⟨_, hrg0, fun k hk => hk, fun p hp hn => absurd (List.mem_map.2 ⟨p, hp, rfl⟩) hn, HP0.out⟩
 case round =>
  clear hrg0 HP0
  obtain ⟨left, hrg, hsub, hdone, hP⟩ := hrel
  have HS := Lib.hid hsub
  have HD := Lib.hid hdone
  have HP := Lib.hid hP
  clear hsub hdone hP
  have hlt := hrg.lt
  have hHB : W.heap.size ≠ P.B := by omega
  have hHm : W.heap.size ≠ P.bm := by omega
  go_wp2_with (first | (at_next; go_loud (refine wpList_next_key rfl _ rfl P.bm W.heap.size m left rfl hrg ?_ ?_; rotate_left; intro k w' hk hkm hr' ht hen; have HP1 := HP.out.turnR ht hsz hHB hHm HV.out; generalize m.get k = y at hkm hen ⊢; obtain ⟨k1, k2⟩ := k; have hb := List.all_eq_true.1 HI.out _ hkm; simp only [decide_eq_true_eq] at hb; obtain ⟨hb0, hb1⟩ := hb; have k3 := HP1.k3; obtain ⟨ad, had, hx⟩ := Kd.zya (Kd.zu H2.out HP1.bel) k1 hb0 hb1; have HM := Lib.hid hkm; have HT := Lib.hid ht; have HR := Lib.hid hr'; have HK := Lib.hid hk; have HPP := Lib.hid HP1; have HAD := Lib.hid had; rw [had] at k3; have e0 := eq_true hb0; have e1 := eq_true hb1; clear hkm ht hr' hk HP1 had hb0 hb1; rotate_left; intro hl0; have HL := Lib.hid hl0; clear hl0)))
  ·go_ret
   refine ⟨?_, _, HP.out⟩
   have hno : shortS P.costs m = false := by
    unfold shortS
    rw [List.any_eq_false]
    intro p hp
    have := HD.out p hp (by rw [HL.out]; simp)
    simpa using this
   rw [hno]
   rfl
  ·have hb0 := of_eq_true e0
   have hb1 := of_eq_true e1
   have hB' := World.block_lt_of_cell? w' _ k3
   have hBx := World.block_lt_of_cell? w' _ hx
   have hbx : ∀ i u, (#[.int .i64 k1, .int .i64 k2] : Array Value)[i]? = some u → (w'.alloc (.cells #[.int .i64 k1, .int .i64 k2] 102)).cell? ⟨w'.heap.size, i, none⟩ = some u := fun i u hu => by
    rw [cell_of_row _ _ _ _ _ _ (heap_alloc_new w' _)]; exact hu
   have b0 := hbx 0 (.int .i64 k1) rfl
   have k3' : (w'.alloc (.cells #[.int .i64 k1, .int .i64 k2] 102)).cell? ⟨P.B, 3, none⟩ = some (.slice (some ad) P.costs.length P.c2) := (World.cell?_of_block (heap_alloc_old w' _ hB')).trans k3
   have hx' : (w'.alloc (.cells #[.int .i64 k1, .int .i64 k2] 102)).cell? (ad.add k1.toNat) = some (.int .i64 (rd P.costs k1)) := (World.cell?_of_block (heap_alloc_old w' _ hBx)).trans hx
   have HP2 := Lib.hid (HPP.out.grow ((Below.refl _ _).alloc (Nat.le_refl _) (.cells #[.int .i64 k1, .int .i64 k2] 102)))
   have hRl := HR.out.lt
   have hml := HR.out.owns.lt
   have HR2 := Lib.hid (HR.out.kept (heap_alloc_old w' (.cells #[.int .i64 k1, .int .i64 k2] 102) hml) (heap_alloc_old w' (.cells #[.int .i64 k1, .int .i64 k2] 102) hRl))
   clear k3 hx hbx hen
   generalize w'.alloc (.cells #[.int .i64 k1, .int .i64 k2] 102) = W2 at b0 k3' hx' HP2 HR2 ⊢
   generalize w'.heap.size = X9 at b0 ⊢
   by_cases hz : y < rd P.costs k1
   ·have hd := decide_eq_true hz
    have hsh : shortS P.costs m = true := List.any_eq_true.2 ⟨_, HM.out, hd⟩
    have HSH := Lib.hid hsh
    clear hsh hz
    apply wp_ex (I := fun W3 => W3 = W2.drew)
    ·go_region
     all_goals exact ⟨rfl, rfl⟩
    rintro W3 rfl
    go_wp2
    go_ret
    exact ⟨by rw [HSH.out]; rfl, _, HP2.out.drew⟩
   ·have hd := decide_eq_false hz
    apply wp_ex (I := fun W3 => W3 = W2.drew)
    ·go_region
     all_goals exact ⟨rfl, rfl⟩
    rintro W3 rfl
    go_wp2
    go_roundw
    case rel =>
     refine ⟨left.filter (· != (k1, k2)), HR2.out.kept rfl rfl, fun k hk => HS.out k (List.mem_filter.1 hk).1, fun p hp hn => ?_, HP2.out.drew⟩
     by_cases hpk : p.1 = (k1, k2)
     ·have hg := get_mem HPP.out.map.nd hp
      have hg2 := get_mem HPP.out.map.nd HM.out
      rw [hpk] at hg ⊢
      rw [hg] at hg2
      rw [hg2]; exact hz
     ·have := HD.out p hp (fun hm => hn (List.mem_filter.2 ⟨hm, bne_iff_ne.2 hpk⟩))
      omega
    case measure =>
     rw [(HR2.out.kept (w' := W2.drew) rfl rfl).left_eq, hrg.left_eq]
     exact filter_lt HK.out
end Go.Proofs.YtfondhcppjkchaaGreat.Q
