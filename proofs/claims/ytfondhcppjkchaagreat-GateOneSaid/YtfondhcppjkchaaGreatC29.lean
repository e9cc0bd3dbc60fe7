import Derived.Test.YtfondhcppjkchaaGreatC3
import Derived.Test.YtfondhcppjkchaaGreatC26
import Derived.Test.YtfondhcppjkchaaGreatC27
import Derived.Test.YtfondhcppjkchaaGreatC28
import Derived.Maps.AppendAt
import Derived.Deep.RegionHeld3
set_option maxHeartbeats 40000000
set_option maxRecDepth 100000
set_option linter.unusedVariables false
set_option linter.unusedSimpArgs false
namespace Go.Proofs.YtfondhcppjkchaaGreat.Q
open Go.RowKit Go.Proofs.YtfondhcppjkchaaGreatW.PrintWords Go.Proofs.YtfondhcppjkchaaGreatW.PrintLast Go.Proofs.YtfondhcppjkchaaGreatW.PrintMore
attribute [local go_sem] max2_int min2_int max_two min_two max_three min_three max_four min_four
def due_date.f (a0_0 : Int) (a0_1 : Int) (a1 : Int) : Option (Int) := some (wrap64 (a0_1 + (wrap64 (a1 * a0_0))))
theorem due_date.calls (a0_0 : Int) (a0_1 : Int) (a1 : Int) (r : Int) (w : World) (h : due_date.f a0_0 a0_1 a1 = some r) :
  Calls Tryz.prog 112 #[.agg #[.int .i64 a0_0, .int .i64 a0_1], .int .i64 a1] w fun e w' => e = .returned (.int .i64 r) ∧ Below w.heap.size w w' := by
 have hu68 := Tryz.underlying68
 have HB := zb.mk (Below.refl w.heap.size w)
 have H : (some (wrap64 (a0_1 + (wrap64 (a1 * a0_0))))) = some r := h
 clear h
 obtain rfl := Option.some.inj H
 go_enter Tryz.func112, Tryz.ntmps112
 go_wp2_with (first | ((with_reducible refine zda (N := 2) rfl ?_); refine zaa ?hg (N := 2) ?hd (cs := #[.int .i64 a0_0, .int .i64 a0_1]) (t := 68) ?hr ?_; (case hd => rfl); (case hg => rfl); (case hr => first | (go_simp; done) | (go_simp; rfl)); intro gb275 hg w3 hbox hb; have n0_ := zb.mk (zo (by repeat with_reducible first | exact HB.out | apply zd | apply za | apply ze) hb); have n1_ := zb.mk (hbox); have n2_ := zb.mk ((by rw [hg]; exact (zn (by repeat with_reducible first | exact HB.out | apply zd | apply za | apply ze)) : w.heap.size ≤ gb275)); have n3_ := zb.mk ((by rw [hg]; exact (zn (by repeat with_reducible first | exact HB.out | apply zd | apply za | apply ze)) : w.heap.size ≤ gb275)); clear HB; have HB := n0_; have BK275 := n1_; have GW275 := n2_; have GE275 := n3_; clear n0_ n1_ n2_ n3_; clear hb hbox hg; have hcz4_0 : w3.cell? ⟨gb275, 0, none⟩ = some (.int .i64 a0_0) := (zg BK275.out 0).trans rfl; have hcz4_1 : w3.cell? ⟨gb275, 1, none⟩ = some (.int .i64 a0_1) := (zg BK275.out 1).trans rfl; have hfz4_0 := zf BK275.out 0; have hfz4_1 := zf BK275.out 1))
 go_ret
 exact ⟨by first | rfl | (simp [zp, zq] <;> rfl) | (simp [*, zp, zq] <;> rfl), by repeat with_reducible first | exact HB.out | apply zd | apply za | apply ze | refine zk ?_ GE275.out⟩
end Go.Proofs.YtfondhcppjkchaaGreat.Q
namespace Go.Proofs.YtfondhcppjkchaaGreat.Q
open Go.RowKit Go.Proofs.YtfondhcppjkchaaGreatW.PrintWords Go.Proofs.YtfondhcppjkchaaGreatW.PrintLast
open Go.Proofs.YtfondhcppjkchaaGreatW.PrintMore
noncomputable def needL (t : S78) (m : Int) : Option (List S174 × Int) := lim fun k => unfold_Needs.f k t.f0.f0 t.f0.f1 t.f1 t.f2 t.f3 t.f4 t.f5 m
theorem needL_calls (t : S78) (m : Int) (A : Option Addr) (c : Nat) (xs : List S174) (e : Int) (W : World) (hr : Kd.C k75 W A t.f4.length t.f4) (hc : t.f4.length ≤ c) (h : needL t m = some (xs, e)) :
  Calls Tryz.prog 110 #[.agg #[.int .i64 t.f0.f0, .int .i64 t.f0.f1, .int .i64 t.f1, .int .i64 t.f2, .int .i64 t.f3, .slice A t.f4.length c, .int .i64 t.f5], .int .i64 m] W fun e' w' => ∃ A' c', e' = .returned (.tuple #[.slice A' xs.length c', .int .i64 e]) ∧ Kd.R k174 174 w' W.heap.size (fun _ => True) (.slice A' xs.length c') xs ∧ Below W.heap.size W w' := by
 obtain ⟨k, hk⟩ := zob h
 refine (unfold_Needs.calls k t.f0.f0 t.f0.f1 t.f1 t.f2 t.f3 A c t.f4 t.f5 m xs e W hr hc hk).mono ?_
 rintro e' w' ⟨v, he, hR, hb⟩
 obtain ⟨A', c', rfl⟩ := Kd.zoa hR
 exact ⟨A', c', he, hR, hb⟩
def ddate (c : S68) (n : Int) : Int := wrap64 (c.f1 + wrap64 (n * c.f0))
theorem ddate_run (a b n : Int) : due_date.f a b n = some (wrap64 (b + wrap64 (n * a))) := rfl
noncomputable def needStep (l : List S78) (p h : Int) (costs : List Int) (i n m : Int) (s : List Edge × Bool) (x : S174) : Option (List Edge × Bool) :=
 if x.f0 = 2 then
  if 0 ≤ x.f1 ∧ x.f1 < l.length then
   (countL p h (zj l x.f1).f0.f0 (zj l x.f1).f0.f1).bind fun ct =>
   (unfold_Fold.f p h (zj l x.f1).f0.f0 (zj l x.f1).f0.f1 x.f3).bind fun fd =>
   if s.1.length < 1073741824 then
    some (s.1 ++ [⟨(x.f1, fd.1), (i, n), wrap64 (wrap64 (ddate (zj l i).f0 m - ddate (zj l x.f1).f0 x.f3) - rd costs i)⟩], s.2 || decide (x.f3 < ct.1))
   else none
  else none
 else some s
noncomputable def needsS (l : List S78) (p h : Int) (costs : List Int) (i n m : Int) (es : List Edge) : Option (List Edge × Bool) :=
 (needL (zj l i) m).bind fun r => r.1.foldlM (needStep l p h costs i n m) (es, false)
theorem rd174_take (es : List S174) (x : Int) (h0 : 0 ≤ x) (h : x < es.length) : es.take (x + 1).toNat = es.take x.toNat ++ [zlb es x] := by
 have e : (x + 1).toNat = x.toNat + 1 := by omega
 have hl : x.toNat < es.length := by omega
 rw [e, List.take_succ_eq_append_getElem hl]
 congr 2
 unfold zlb; rw [List.getD_eq_getElem?_getD, List.getElem?_eq_getElem hl]; rfl
section
variable {α β : Type} (f : β → α → Option β)
theorem foldlM_split (s r : β) (l1 l2 : List α) (h : (l1 ++ l2).foldlM f s = some r) : ∃ b, l1.foldlM f s = some b ∧ l2.foldlM f b = some r := by
 rw [List.foldlM_append] at h
 exact Option.bind_eq_some_iff.mp h
end
structure Mv (P : Pl) (v v' : Value) (W W' : World) : Prop where
 size : W.heap.size ≤ W'.heap.size
 own : ∀ g, v'.ownBlock = some g → v.ownBlock = some g ∨ W.heap.size ≤ g
 keep : ∀ k, k < W.heap.size → k ≠ P.B → k ≠ P.bm → v.ownBlock ≠ some k → W'.heap[k]? = W.heap[k]?
theorem Mv.of_below {P : Pl} (v : Value) {W W' : World} (h : Below W.heap.size W W') : Mv P v v W W' := ⟨h.size, fun g hg => .inl hg, fun k hk _ _ _ => h.block k hk⟩
theorem Mv.refl {P : Pl} (v : Value) (W : World) : Mv P v v W W := Mv.of_below v (Below.refl _ _)
theorem Mv.trans {P : Pl} {v v1 v2 : Value} {W W1 W2 : World} (h : Mv P v v1 W W1) (h' : Mv P v1 v2 W1 W2) : Mv P v v2 W W2 := by
 refine ⟨Nat.le_trans h.size h'.size, fun g hg => ?_, fun k hk hB hm hv => ?_⟩
 ·rcases h'.own g hg with e | e
  ·exact h.own g e
  ·exact .inr (Nat.le_trans h.size e)
 ·rw [h'.keep k (Nat.lt_of_lt_of_le hk h.size) hB hm (fun e => ?_)]
  ·exact h.keep k hk hB hm hv
  ·rcases h.own k e with e1 | e1
   ·exact hv e1
   ·omega
theorem Mv.of_turn {P : Pl} (v : Value) {W W' : World} (h : Turn W W' P.bm) : Mv P v v W W' := ⟨by rw [h.size]; exact Nat.le_refl _, fun g hg => .inl hg, fun k hk _ hm _ => h.block k hm⟩
theorem Mv.cell {P : Pl} {v v' : Value} {W W' : World} (h : Mv P v v' W W') {k i : Nat} (hk : k < W.heap.size) (hB : k ≠ P.B) (hm : k ≠ P.bm) (hv : v.ownBlock ≠ some k) : W'.cell? ⟨k, i, none⟩ = W.cell? ⟨k, i, none⟩ := World.cell?_of_block (h.keep k hk hB hm hv)
structure NeedAt (w : World) (P : Pl) (m : AL) (v0 : Value) (w1 : World) (es : List Edge) (W1 : World) : Prop where
 pl : ∃ v, PlanV w P m es v W1 ∧ Mv P v0 v w1 W1
theorem NeedAt.grow {w : World} {P : Pl} {m : AL} {v0 : Value} {w1 : World} {es : List Edge} {W1 W2 : World} (h : NeedAt w P m v0 w1 es W1) (hb : Below W1.heap.size W1 W2) : NeedAt w P m v0 w1 es W2 := by
 obtain ⟨v, hv, hm⟩ := h
 exact ⟨v, hv.grow hb, hm.trans (Mv.of_below v hb)⟩
theorem NeedAt.drew {w : World} {P : Pl} {m : AL} {v0 : Value} {w1 : World} {es : List Edge} {W1 : World} (h : NeedAt w P m v0 w1 es W1) : NeedAt w P m v0 w1 es W1.drew := h.grow (Below.refl _ _).drew
theorem NeedAt.alloc {w : World} {P : Pl} {m : AL} {v0 : Value} {w1 : World} {es : List Edge} {W1 : World} (h : NeedAt w P m v0 w1 es W1) (o : Obj) : NeedAt w P m v0 w1 es (W1.alloc o) := h.grow ((Below.refl _ _).alloc (Nat.le_refl _) o)
theorem info132 : (Tryz.prog.info? 132).map (fun i => (i.zero, i.size, i.bytes)) = some (some (.agg #[.int .i64 0, .int .i64 0, .int .i64 0, .int .i64 0, .int .i64 0]), 5, 40) := by kernel_rfl
theorem edgeVals_snoc (es : List Edge) (E : Edge) : edgeVals (es ++ [E]) = edgeVals es ++ E.vals := by
 unfold edgeVals; rw [List.flatMap_append]; simp
theorem NeedAt.put {w : World} {P : Pl} {m : AL} {v0 : Value} {w1 : World} {es : List Edge} {W : World} {v : Value} (hv : PlanV w P m es v W) (hm : Mv P v0 v w1 W) (E : Edge) (hl : es.length < 1073741824) :
  ∃ v' W7, (∃ A' c', v' = .slice A' (es.length + 1) c') ∧ (Builtin.append_ #[98, 98] 98 #[v, .slice (some ⟨W.heap.size, 0, none⟩) 1 1]).run Tryz.prog (W.alloc (.cells #[.int .i64 E.src.1, .int .i64 E.src.2, .int .i64 E.dst.1, .int .i64 E.dst.2, .int .i64 E.more] 132)).drew = .ok v' W7 ∧ W7.cell? ⟨P.B, 5, none⟩ = some v ∧ W7.frozen? ⟨P.B, 5, none⟩ = false ∧ NeedAt w P m v0 w1 (es ++ [E]) (W7.setCell ⟨P.B, 5, none⟩ v') ∧ (∀ k i, k < W.heap.size → k ≠ P.B → v.ownBlock ≠ some k → (W7.setCell ⟨P.B, 5, none⟩ v').cell? ⟨k, i, none⟩ = W.cell? ⟨k, i, none⟩) := by
 obtain ⟨i0, hi0, hz0, hz1, hz2⟩ := info_parts info132
 have hwW := hv.bel.size
 obtain ⟨W1, hW1⟩ : ∃ W1, (W.alloc (.cells #[.int .i64 E.src.1, .int .i64 E.src.2, .int .i64 E.dst.1, .int .i64 E.dst.2, .int .i64 E.more] 132)).drew = W1 := ⟨_, rfl⟩
 have hsz1 : W1.heap.size = W.heap.size + 1 := by rw [← hW1]; simp
 have hnews : W1.heap[W.heap.size]? = some (.cells #[.int .i64 E.src.1, .int .i64 E.src.2, .int .i64 E.dst.1, .int .i64 E.dst.2, .int .i64 E.more] 132) := by rw [← hW1]; exact heap_alloc_new W _
 have hv1 : PlanV w P m es v W1 := by rw [← hW1]; exact (hv.grow ((Below.refl _ _).alloc (Nat.le_refl _) _)).drew
 have hold' : ∀ k, k < W.heap.size → W1.heap[k]? = W.heap[k]? := fun k hk => by rw [← hW1]; exact heap_alloc_old W _ hk
 have hold : ∀ k i, k < W.heap.size → W1.cell? ⟨k, i, none⟩ = W.cell? ⟨k, i, none⟩ := fun k i hk => World.cell?_of_block (hold' k hk)
 rw [hW1]
 clear hW1
 obtain ⟨v', W7, hr, hown', hgrow, hnil, hat⟩ := run_append_own_at (P := Tryz.prog) W1 w.heap.size 98 98 132 i0 _ 5 40 Tryz.underlying98 hi0 hz0 hz1 hz2 rfl (by omega) v es.length (edgeVals es) hv1.own
  ⟨W.heap.size, 0, none⟩ 1 1 E.vals rfl (World.news_of_block (cs := #[.int .i64 E.src.1, .int .i64 E.src.2, .int .i64 E.dst.1, .int .i64 E.dst.2, .int .i64 E.more]) (t := 132) (fr := (0, 0)) hnews) (by simp [Edge.vals, Value.oneCell']) (by unfold maxLen; omega) (by omega) (by omega)
 have hB1 : P.B < W1.heap.size := World.block_lt_of_cell? W1 _ hv1.k0
 have hm1 := hv1.map.lt
 have hBW : P.B < W.heap.size := World.block_lt_of_cell? W _ hv.k0
 have hBk : W7.heap[P.B]? = W1.heap[P.B]? := hgrow.block _ hB1 (Ne.symm hv1.vB)
 have hmk : W7.heap[P.bm]? = W1.heap[P.bm]? := hgrow.block _ hm1 (Ne.symm hv1.vm)
 have hc : ∀ i, W7.cell? ⟨P.B, i, none⟩ = W1.cell? ⟨P.B, i, none⟩ := fun i => World.cell?_of_block hBk
 have hf : ∀ i, W7.frozen? ⟨P.B, i, none⟩ = W1.frozen? ⟨P.B, i, none⟩ := fun i => World.frozen?_of_block hBk
 have hvB' : v'.ownBlock ≠ some P.B := by
  rcases hat with e | e
  ·rw [e]; exact hv1.vB
  ·rw [e]; intro hh; injection hh with hh; omega
 have hvm' : v'.ownBlock ≠ some P.bm := by
  rcases hat with e | e
  ·rw [e]; exact hv1.vm
  ·rw [e]; intro hh; injection hh with hh; omega
 have ht : Turn W7 (W7.setCell ⟨P.B, 5, none⟩ v') P.B := ⟨rfl, rfl, rfl, by simp [World.setCell], fun i hi => Below.heap_setCell _ _ _ _ (by simpa using hi)⟩
 have hco : ∀ i, i ≠ 5 → (W7.setCell ⟨P.B, 5, none⟩ v').cell? ⟨P.B, i, none⟩ = W1.cell? ⟨P.B, i, none⟩ := fun i hi => (World.cell?_setCell_other _ _ _ _ (fun e => by injection e with e1 e2 _; omega)).trans (hc i)
 have hsh : ∃ A' c', v' = .slice A' (es.length + 1) c' := by
  rcases hown'.2 with ⟨_, h0⟩ | ⟨g, cap, cur, e, _⟩
  ·omega
  ·exact ⟨_, _, e⟩
 refine ⟨v', W7, hsh, hr, (hc 5).trans hv1.k5, (hf 5).trans hv1.f5, ⟨⟨v', ⟨(hco 0 (by omega)).trans hv1.k0, (hco 1 (by omega)).trans hv1.k1, (hco 2 (by omega)).trans hv1.k2, (hco 3 (by omega)).trans hv1.k3, (hco 4 (by omega)).trans hv1.k4, World.cell?_setCell_same _ _ _ ((hc 5).trans hv1.k5), (World.frozen?_setCell _ _ _ _).trans ((hf 5).trans hv1.f5), ?_, ?_, hv.hB, hv.hm, hv.ne, hvB', hvm', ?_⟩, hm.trans ⟨?_, ?_, ?_⟩⟩⟩, ?_⟩
 ·rw [edgeVals_snoc, List.length_append]
  exact hown'.kept (row := some P.B) ⟨ht.os, ht.tape, ht.output, by rw [ht.size]; exact Nat.le_refl _, fun k hk hne => ht.block k (fun e => hne (by rw [e]))⟩ (.inr hvB')
 ·exact hv1.map.block ((ht.block _ hv.ne).trans hmk)
 ·exact (hv1.bel.grown hgrow hv1.bel.size (fun k hk => (hv1.own.lt k hk).1)).trans (ht.below hv.hB)
 ·rw [ht.size]; exact Nat.le_trans (by omega) hgrow.size
 ·intro g hg
  rcases hat with e | e
  ·exact .inl (e ▸ hg)
  ·rw [e] at hg; injection hg with hg
   right; omega
 ·intro k hk hkB _ hkv
  exact (ht.block k hkB).trans ((hgrow.block k (by omega) (Ne.symm hkv)).trans (hold' k hk))
 ·intro k i hk hkB hkv
  exact (ht.cell hkB).trans ((World.cell?_of_block (hgrow.block k (by omega) (Ne.symm hkv))).trans (hold k i hk))
theorem step_append_run {P : Program} {ops : Array Oper} {o : Oper} {a : Act} {w : World} {K : Act → World → Prop} {Q : Exit → Act → World → Prop} {E : Prop}
  (hg : o.guard = none) (s x : Operand) (t ty : TypeId) (hop : o.op = Op.call { callee := Callee.builtin Builtin.append, args := #[s, x], argTypes := #[t, t] }) (hty : o.type = ty)
  (v xv v' : Value) (w' : World) (hs : a.eval s = v) (hx : a.eval x = xv) (hr : (Builtin.append_ #[t, t] ty #[v, xv]).run P w = .ok v' w') (hK : K (a.put o.dst v') w') :
  if Region.wanted o (yielded ops a.tmps) = true then Oper.wp P o a w K Q else E := by
 have hw : Region.wanted o (yielded ops a.tmps) = true := by simp [Region.wanted, hg]
 rw [if_pos hw]
 subst hty
 unfold Oper.wp
 simp [execOp, hop, resolve, invoke, builtin, hs, hx, hr, Result.andThen]
 exact hK
theorem needStep_inv {l : List S78} {p h : Int} {costs : List Int} {i n m : Int} {es1 es2 : List Edge} {b1 b2 : Bool} {X : S174} (hs : needStep l p h costs i n m (es1, b1) X = some (es2, b2)) (hk : X.f0 = 2) :
  0 ≤ X.f1 ∧ X.f1 < l.length ∧ es1.length < 1073741824 ∧ ∃ h9 p9 e9 k9 d9 f9, countL p h (zj l X.f1).f0.f0 (zj l X.f1).f0.f1 = some (h9, p9, e9) ∧ unfold_Fold.f p h (zj l X.f1).f0.f0 (zj l X.f1).f0.f1 X.f3 = some (k9, d9, f9) ∧
  es2 = es1 ++ [⟨(X.f1, k9), (i, n), wrap64 (wrap64 (ddate (zj l i).f0 m - ddate (zj l X.f1).f0 X.f3) - rd costs i)⟩] ∧ b2 = (b1 || decide (X.f3 < h9)) := by
 unfold needStep at hs
 rw [if_pos hk] at hs
 by_cases hN : 0 ≤ X.f1 ∧ X.f1 < l.length
 ·rw [if_pos hN] at hs
  obtain ⟨⟨h9, p9, e9⟩, hct, hs⟩ := Option.bind_eq_some_iff.mp hs
  obtain ⟨⟨k9, d9, f9⟩, hfd, hs⟩ := Option.bind_eq_some_iff.mp hs
  simp only at hs
  by_cases hl9 : es1.length < 1073741824
  ·rw [if_pos hl9] at hs
   injection hs with hs
   injection hs with hs1 hs2
   exact ⟨hN.1, hN.2, hl9, h9, p9, e9, k9, d9, f9, hct, hfd, hs1.symm, hs2.symm⟩
  ·rw [if_neg hl9] at hs
   cases hs
 ·rw [if_neg hN] at hs
  cases hs
end Go.Proofs.YtfondhcppjkchaaGreat.Q
