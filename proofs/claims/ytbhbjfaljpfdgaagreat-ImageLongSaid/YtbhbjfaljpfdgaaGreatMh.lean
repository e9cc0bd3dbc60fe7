/- What the coder writes of the image of nothing. -/
import Derived.Test.YtbhbjfaljpfdgaaGreatMf
import Derived.Deep.RegionWith
import Derived.Lib.Hide
import Derived.Laws.AppendOwn
import Derived.Maps.AppendAt
namespace Go.Proofs.YtbhbjfaljpfdgaaGreat
open Go.RowKit
set_option linter.unusedVariables false
/-- A row of bytes of its own, or one that is full and marked (a literal's). -/
def OwnF (w : World) (base : Nat) (v : Value) (n : Nat) (xs : List Value) : Prop :=
  w.ownsRow base 5 1 v n xs ∨ ∃ g C fr, v = .slice (some ⟨g, 0, none⟩) n n ∧ base ≤ g ∧ w.heap[g]? = some (.cells C 5 fr) ∧ C.toList = xs ∧ xs.length = n
theorem OwnF.lt {w : World} {base n : Nat} {v : Value} {xs : List Value} (h : OwnF w base v n xs) (k : Nat) (hk : v.ownBlock = some k) : base ≤ k ∧ k < w.heap.size := by
  rcases h with h | ⟨g, C, fr, rfl, hb, hg, -, -⟩
  · exact h.lt k hk
  · simp [Value.ownBlock] at hk
    subst hk
    exact ⟨hb, (Array.getElem?_eq_some_iff.1 hg).1⟩
theorem OwnF.alloc {w : World} {base n : Nat} {v : Value} {xs : List Value} (h : OwnF w base v n xs) (o : Obj) : OwnF (w.alloc o) base v n xs := by
  rcases h with h | ⟨g, C, fr, rfl, hb, hg, hx, hn⟩
  · exact .inl (h.alloc o)
  · exact .inr ⟨g, C, fr, rfl, hb, (heap_alloc_old w o (Array.getElem?_eq_some_iff.1 hg).1).trans hg, hx, hn⟩
theorem run_append_ownF {P : Program} (w : World) (base : Nat) (t ty : TypeId) (i : TypeInfo) (z : Value) (ht : P.underlying t = some (.slice 5)) (hi : P.info? 5 = some i) (hz : i.zero = some z)
    (hsize : i.size = 1) (hby : i.bytes = 1) (hzs : z.cells.size = 1)
    (v : Value) (n : Nat) (xs : List Value) (hown : OwnF w base v n xs)
    (a : Addr) (c : Nat) (x : Value) (hnews : ∀ j u, [x][j]? = some u → w.cell? (a.add j) = some u) (h1 : ∀ u ∈ [x], u.oneCell' = true)
    (h63 : n + 1 ≤ maxLen) (hbytes : (n + 1) * 1 ≤ 140737488355328) (hbase : base ≤ w.heap.size) :
    ∃ v' w', (Builtin.append_ #[t, t] ty #[v, .slice (some a) 1 c]).run P w = .ok v' w' ∧ w'.ownsRow base 5 1 v' (n + 1) (xs ++ [x]) ∧ w.grownBy w' v.ownBlock ∧
      (v'.ownBlock = v.ownBlock ∨ v'.ownBlock = some w.heap.size) := by
  rcases hown with hown | ⟨g, C, fr, rfl, hb, hg, hx, hn⟩
  · obtain ⟨v', w', h1, h2, h3, h4, h5⟩ := run_append_own_at (P := P) w base t ty 5 i z 1 1 ht hi hz hsize hby hzs (by decide) v n xs hown a 1 c [x] rfl hnews h1 h63 hbytes hbase
    exact ⟨v', w', h1, h2, h3, h5⟩
  · have hsmall : n + 1 ≤ 9223372036854775807 := by simp only [maxLen] at h63; omega
    have holds : ∀ j u, xs[j]? = some u → w.cell? ((⟨g, 0, none⟩ : Addr).add j) = some u := fun j u hu => by
      have hadd : (⟨g, 0, none⟩ : Addr).add j = ⟨g, j, none⟩ := by unfold Addr.add; split <;> simp_all
      rw [hadd, cell_of_row w g j C 5 fr hg, ← Array.getElem?_toList, hx]
      exact hu
    have hr := run_append_grow (P := P) w t ty 5 i z ht hi hz ⟨g, 0, none⟩ n n xs (by rw [hsize]; omega) holds a 1 c [x] (by rw [hsize]; rfl) hnews (by omega) (by omega) (by rw [hby]; exact growslice_fits (by omega) hbytes)
    have hge := grownCap_ge w (n + 1) n 5
    have hcm : grownCap w (n + 1) n 5 ≤ maxLen := grownCap_le_maxLen w (n + 1) n 5 h63
    refine ⟨_, _, hr, ⟨by simp; omega, .inr ⟨w.heap.size, _, _, rfl, hbase, heap_alloc_new w.drew _, hge, hcm, ?_, ?_⟩⟩, ⟨rfl, rfl, rfl, by simp, fun k hk _ => heap_alloc_old w.drew _ hk⟩, .inr rfl⟩
    · simp only [Array.size_append, List.size_toArray, size_zeroCells, hzs, List.length_cons, List.length_nil]
      omega
    · simp only [Array.toList_append]
      have : (n + 1) * 1 = (xs ++ [x]).length := by simp; omega
      rw [this]
      exact List.take_left
theorem wpList_append_ownF {P : Program} (w : World) {ops : Array Oper} {rest : List Oper} {o : Oper} {a : Act} {Q : Exit → Act → World → Prop} (hgd : o.guard = none) (s x : Operand) (t : TypeId)
    (ho : o.op = .call { callee := .builtin .append, args := #[s, x], argTypes := #[t, t] })
    (base : Nat) (i : TypeInfo) (z : Value) (ht : P.underlying t = some (.slice 5)) (hi : P.info? 5 = some i) (hz : i.zero = some z)
    (hsize : i.size = 1) (hby : i.bytes = 1) (hzs : z.cells.size = 1)
    (v : Value) (n : Nat) (xs : List Value) (hs : a.eval s = v) (hown : OwnF w base v n xs)
    (ad : Addr) (c : Nat) (y : Value) (hx : a.eval x = .slice (some ad) 1 c) (hnews : ∀ j u, [y][j]? = some u → w.cell? (ad.add j) = some u) (h1 : ∀ u ∈ [y], u.oneCell' = true)
    (h63 : n + 1 ≤ maxLen) (hbytes : (n + 1) * 1 ≤ 140737488355328) (hbase : base ≤ w.heap.size)
    (h : ∀ v' w', w'.ownsRow base 5 1 v' (n + 1) (xs ++ [y]) → w.grownBy w' v.ownBlock → (v'.ownBlock = v.ownBlock ∨ v'.ownBlock = some w.heap.size) → wpList P ops Q rest (a.put o.dst v') w') :
    wpList P ops Q (o :: rest) a w := by
  refine wpList_plain hgd fun K hK => ?_
  obtain ⟨v', w', hr, h2, h3, h5⟩ := run_append_ownF (P := P) w base t o.type i z ht hi hz hsize hby hzs v n xs hown ad c y hnews h1 h63 hbytes hbase
  unfold Oper.wp execOp
  simp only [ho, resolve, invoke, builtin, Sem.run_bind, Sem.run_pure, Result.andThen_ok, List.map_toArray, List.map_cons, List.map_nil, hs, hx, hr]
  exact hK _ _ (h v' w' h2 h3 h5)
/-- The coder in block b writes; what it has written are xs, in a row of its own; the image of nothing lies in block m. -/
structure StV (v : Value) (b m : Nat) (xs : List Value) (w : World) : Prop where
  c1 : w.cell? ⟨b, 1, none⟩ = some v
  own : OwnF w (m + 1) v xs.length xs
  ne : v.ownBlock ≠ some b
  c2 : w.cell? ⟨b, 2, none⟩ = some (.bool false)
  z1 : w.frozen? ⟨b, 1, none⟩ = false
  i0 : w.cell? ⟨m, 0, none⟩ = some nl
  i1 : w.cell? ⟨m, 1, none⟩ = some nl
  i2 : w.cell? ⟨m, 2, none⟩ = some nl
  mb : m < b
  bh : b < w.heap.size
def Put (v : Value) (b m : Nat) (xs : List Value) (w w' : World) : Prop :=
  (∃ v', StV v' b m (xs ++ [.int .u8 0]) w' ∧ (v'.ownBlock = v.ownBlock ∨ ∃ g, v'.ownBlock = some g ∧ w.heap.size ≤ g)) ∧ w.heap.size ≤ w'.heap.size ∧ (∀ k, k ≠ b → v.ownBlock ≠ some k → k < w.heap.size → w'.heap[k]? = w.heap[k]?) ∧ Below m w w'
/-- Behind the append: what is there. -/
theorem put_aux {v : Value} {b m : Nat} {xs : List Value} {w : World} (h : StV v b m xs w) {o : Obj} {v' : Value} {w3 : World} (hown' : w3.ownsRow (m + 1) 5 1 v' (xs.length + 1) (xs ++ [.int .u8 0])) (hg : (w.alloc o).grownBy w3 v.ownBlock) (hat : v'.ownBlock = v.ownBlock ∨ v'.ownBlock = some (w.alloc o).heap.size) :
    (∃ a l c, v' = .slice a l c) ∧ w3.cell? ⟨b, 1, none⟩ = some v ∧ w3.frozen? ⟨b, 1, none⟩ = false ∧ Hid (Put v b m xs w (w3.setCell ⟨b, 1, none⟩ v')) := by
  have hblk : ∀ k, k < w.heap.size → some k ≠ v.ownBlock → w3.heap[k]? = w.heap[k]? := fun k hk hne => (hg.block k (by simp; omega) hne).trans (heap_alloc_old w _ hk)
  have hbW : b < w.heap.size := h.bh
  have hmb := h.mb
  have hsz : w.heap.size + 1 ≤ w3.heap.size := by have := hg.size; simpa using this
  have hlo := fun g hg' => (h.own.lt g hg').1
  have hc3 : w3.cell? ⟨b, 1, none⟩ = some v := (World.cell?_of_block (hblk b hbW (fun e => h.ne e.symm))).trans h.c1
  have hz3 : w3.frozen? ⟨b, 1, none⟩ = false := (World.frozen?_of_block (hblk b hbW (fun e => h.ne e.symm))).trans h.z1
  have hm : ∀ i, w3.cell? ⟨m, i, none⟩ = w.cell? ⟨m, i, none⟩ := fun i => World.cell?_of_block (hblk m (by omega) (fun e => by have := hlo m e.symm; omega))
  have hother : ∀ k, k ≠ b → (w3.setCell ⟨b, 1, none⟩ v').heap[k]? = w3.heap[k]? := fun k hk => by
    simp [World.setCell, Array.getElem?_modify, Ne.symm hk]
  have hsize : (w3.setCell ⟨b, 1, none⟩ v').heap.size = w3.heap.size := by simp only [World.setCell, Array.size_modify]
  have hsl : ∃ a l c, v' = .slice a l c := by rcases hown'.2 with ⟨h, _⟩ | ⟨g, cap, cur, h, _⟩ <;> exact ⟨_, _, _, h⟩
  have hk : ∀ i, i ≠ 1 → (w3.setCell ⟨b, 1, none⟩ v').cell? ⟨b, i, none⟩ = w.cell? ⟨b, i, none⟩ := fun i hi => by
    rw [World.cell?_setCell_other _ _ _ _ (fun e => hi (by injection e with _ e _; exact e.symm))]
    exact World.cell?_of_block (hblk b hbW (fun e => h.ne e.symm))
  have hmi : ∀ i, (w3.setCell ⟨b, 1, none⟩ v').cell? ⟨m, i, none⟩ = w.cell? ⟨m, i, none⟩ := fun i => (World.cell?_of_block (hother m (by omega))).trans (hm i)
  have hne' : v'.ownBlock ≠ some b := by
    rcases hat with e | e
    · rw [e]; exact h.ne
    · rw [e]; intro e'; injection e' with e'; simp at e'; omega
  have hown2 : (w3.setCell ⟨b, 1, none⟩ v').ownsRow (m + 1) 5 1 v' (xs ++ [Value.int .u8 0]).length (xs ++ [.int .u8 0]) := by
    rw [List.length_append]
    refine ⟨hown'.1, ?_⟩
    rcases hown'.2 with hn | ⟨g, cap, cur, rfl, hb, hgg, rest⟩
    · exact .inl hn
    · refine .inr ⟨g, cap, cur, rfl, hb, ?_, rest⟩
      rw [hother g (fun e => hne' (by rw [← e]; rfl))]
      exact hgg
  refine ⟨hsl, hc3, hz3, Lib.hid ⟨⟨v', ?_, ?_⟩, ?_, ?_, ?_⟩⟩
  · refine ⟨World.cell?_setCell_same _ _ _ hc3, .inl hown2, hne', (hk 2 (by decide)).trans h.c2, ?_, (hmi 0).trans h.i0, (hmi 1).trans h.i1, (hmi 2).trans h.i2, hmb, by omega⟩
    · rw [World.frozen?_setCell]; exact hz3
  · rcases hat with e | e
    · exact .inl e
    · exact .inr ⟨_, e, by simp⟩
  · omega
  · intro k hk hv hkw
    rw [hother k hk]
    exact hblk k hkw (fun e => hv e.symm)
  · exact (Below.grown ((Below.refl m w).alloc (by omega) o) hg (by simp; omega) (fun j hj => by have := hlo j hj; omega)).setCell (by simp; omega) _
set_option maxRecDepth 100000 in
set_option maxHeartbeats 4000000 in
theorem put_zero (v : Value) (b m : Nat) (xs : List Value) (w : World) (h : StV v b m xs w) (hf : xs.length ≤ 100) :
    Calls Tryz.prog 96 #[.pointer (some ⟨b, 0, none⟩), .int .i64 0] w fun e w' => e = .returned (.tuple #[]) ∧ Put v b m xs w w' := by
  have hc1 := h.c1
  have hz1 := h.z1
  obtain ⟨i0, hi, hz0, hs0, hb0⟩ : ∃ i, Tryz.prog.info? 5 = some i ∧ i.zero = some (.int .u8 0) ∧ i.size = 1 ∧ i.bytes = 1 := by
    have : (Tryz.prog.info? 5).map (fun i => (i.zero, i.size, i.bytes)) = some (some (.int .u8 0), 1, 1) := by kernel_rfl
    cases h : Tryz.prog.info? 5 with
    | none => simp [h] at this
    | some i => simp [h] at this; exact ⟨i, rfl, this⟩
  have hx0 : bits BinOp.xor IntKind.u64 0 0 = 0 := by kernel_rfl
  have HH := Lib.hid h
  have HI := Lib.hid hi
  have hZ := Lib.hid hz0
  have hS := Lib.hid hs0
  have hN := Lib.hid hb0
  clear h hi hz0 hs0 hb0
  go_enter Tryz.func96, Tryz.ntmps96
  go_wp2
  refine wp_loop_rounds 1 ?_
  rw [rounds_succ]
  go_wp2_with (first | (at_builtin; refine wpList_append_ownF _ rfl _ _ 40 rfl (m + 1) i0 (.int .u8 0) Tryz.underlying40 HI.out hZ.out hS.out hN.out rfl v xs.length xs rfl (HH.out.own.alloc _) ⟨w.heap.size, 0, none⟩ 1 (.int .u8 0) rfl (cell_one_new _ _ _) (fun x hx => by simp at hx; subst hx; rfl) (by unfold maxLen; omega) (by omega) (by have := HH.out.mb; have := HH.out.bh; simp; omega) ?_; intro v' w3 hown' hgrow3 hat3; obtain ⟨⟨va, vl, vc, rfl⟩, hc3, hz3, HP⟩ := put_aux HH.out hown' hgrow3 hat3; clear hown' hgrow3 hat3))
  go_end0
  refine ⟨rfl, ?_⟩
  exact HP.out
theorem StV.alloc {v : Value} {b m : Nat} {xs : List Value} {w : World} (h : StV v b m xs w) (o : Obj) : StV v b m xs (w.alloc o) := by
  have hb : b < w.heap.size := h.bh
  have hm : m < w.heap.size := by have := h.mb; omega
  have hc : ∀ k i, k < w.heap.size → (w.alloc o).cell? ⟨k, i, none⟩ = w.cell? ⟨k, i, none⟩ := fun k i hk => World.cell?_of_block (heap_alloc_old w _ hk)
  exact ⟨(hc b 1 hb).trans h.c1, h.own.alloc o, h.ne, (hc b 2 hb).trans h.c2, (World.frozen?_of_block (heap_alloc_old w _ hb)).trans h.z1, (hc m 0 hm).trans h.i0, (hc m 1 hm).trans h.i1, (hc m 2 hm).trans h.i2, h.mb, by simp; omega⟩
theorem StV.drew {v : Value} {b m : Nat} {xs : List Value} {w : World} (h : StV v b m xs w) : StV v b m xs w.drew := ⟨h.c1, h.own, h.ne, h.c2, h.z1, h.i0, h.i1, h.i2, h.mb, h.bh⟩
/-- A block that the writer does not reach. -/
theorem Put.cell {v : Value} {b m : Nat} {xs : List Value} {w w' : World} (h : Put v b m xs w w') {k i : Nat} (h1 : k ≠ b) (h2 : v.ownBlock ≠ some k) (h3 : k < w.heap.size) : w'.cell? ⟨k, i, none⟩ = w.cell? ⟨k, i, none⟩ := World.cell?_of_block (h.2.2.1 k h1 h2 h3)
theorem StV.new {v : Value} {b m : Nat} {xs : List Value} {w : World} (h : StV v b m xs w) {k : Nat} (hk : w.heap.size ≤ k) : k ≠ b ∧ v.ownBlock ≠ some k :=
  ⟨by have := h.bh; omega, fun e => by have := (h.own.lt k e).2; omega⟩
theorem Put.drew {v : Value} {b m : Nat} {xs : List Value} {w w' : World} (h : Put v b m xs w w') : Put v b m xs w w'.drew := by
  obtain ⟨⟨v, hv, hn⟩, h1, h2, h3⟩ := h
  exact ⟨⟨v, hv.drew, hn⟩, h1, h2, h3.drew⟩
theorem Put.of_alloc {v : Value} {b m : Nat} {xs : List Value} {w w' : World} {o : Obj} (hm : m ≤ w.heap.size) (h : Put v b m xs (w.alloc o) w') : Put v b m xs w w' := by
  obtain ⟨⟨v, hv, hn⟩, h1, h2, h3⟩ := h
  refine ⟨⟨v, hv, hn.imp_right fun ⟨g, e, l⟩ => ⟨g, e, by simp at l; omega⟩⟩, by simp at h1; omega, fun k hk ho hkw => (h2 k hk ho (by simp; omega)).trans (heap_alloc_old w _ hkw), ((Below.refl m w).alloc hm o).trans h3⟩
theorem Put.of_drew {v : Value} {b m : Nat} {xs : List Value} {w w' : World} (h : Put v b m xs w.drew w') : Put v b m xs w w' := by
  obtain ⟨hv, h1, h2, h3⟩ := h
  exact ⟨hv, h1, h2, ((Below.refl m w).drew).trans h3⟩
set_option maxRecDepth 100000 in
set_option maxHeartbeats 4000000 in
theorem list46_put (v : Value) (b m : Nat) (xs : List Value) (fn : Value) (w : World) (h : StV v b m xs w) (hf : xs.length ≤ 100) :
    Calls Tryz.prog 46 #[.pointer (some ⟨b, 0, none⟩), .pointer (some ⟨m, 0, none⟩), fn] w fun e w' => e = .returned (.tuple #[]) ∧ Put v b m xs w w' := by
  have hc1 := h.c1
  have hc2 := h.c2
  have hi := h.i0
  have hbw : b < w.heap.size := h.bh
  have hmw : m < w.heap.size := by have := h.mb; omega
  have HH := Lib.hid h
  clear h
  go_enter Tryz.func46, Tryz.ntmps46
  go_wp2_with (first | (go_at_call 96; refine (put_zero v b m xs _ (by repeat (first | exact HH.out | apply StV.alloc | apply StV.drew)) hf).mono ?_; rintro e w2 ⟨rfl, hp⟩; obtain ⟨v2, hv2, -⟩ := hp.1; have k0 : w2.cell? ⟨w.heap.size, 0, none⟩ = some (.int .i64 0) := (hp.cell (HH.out.new (Nat.le_refl _)).1 (HH.out.new (Nat.le_refl _)).2 (by simp <;> omega)).trans (by simp [go_sem]); have k2 := hv2.c2; have HP := Lib.hid hp; clear hp hv2) | go_in)
  refine wp_loop_rounds 2 ?_
  rw [rounds_succ]
  go_wp2_with (first | (go_at_call 96; refine (put_zero v b m xs _ (by repeat (first | exact HH.out | apply StV.alloc | apply StV.drew)) hf).mono ?_; rintro e w2 ⟨rfl, hp⟩; obtain ⟨v2, hv2, -⟩ := hp.1; have k0 : w2.cell? ⟨w.heap.size, 0, none⟩ = some (.int .i64 0) := (hp.cell (HH.out.new (Nat.le_refl _)).1 (HH.out.new (Nat.le_refl _)).2 (by simp <;> omega)).trans (by simp [go_sem]); have k2 := hv2.c2; have HP := Lib.hid hp; clear hp hv2) | go_in)
  rw [rounds_succ]
  go_wp2_with (first | (go_at_call 96; refine (put_zero v b m xs _ (by repeat (first | exact HH.out | apply StV.alloc | apply StV.drew)) hf).mono ?_; rintro e w2 ⟨rfl, hp⟩; obtain ⟨v2, hv2, -⟩ := hp.1; have k0 : w2.cell? ⟨w.heap.size, 0, none⟩ = some (.int .i64 0) := (hp.cell (HH.out.new (Nat.le_refl _)).1 (HH.out.new (Nat.le_refl _)).2 (by simp <;> omega)).trans (by simp [go_sem]); have k2 := hv2.c2; have HP := Lib.hid hp; clear hp hv2) | go_in)
  apply wp_at
  · go_region
    all_goals exact ⟨rfl, rfl⟩
  go_wp2_with (first | (go_at_call 96; refine (put_zero v b m xs _ (by repeat (first | exact HH.out | apply StV.alloc | apply StV.drew)) hf).mono ?_; rintro e w2 ⟨rfl, hp⟩; obtain ⟨v2, hv2, -⟩ := hp.1; have k0 : w2.cell? ⟨w.heap.size, 0, none⟩ = some (.int .i64 0) := (hp.cell (HH.out.new (Nat.le_refl _)).1 (HH.out.new (Nat.le_refl _)).2 (by simp <;> omega)).trans (by simp [go_sem]); have k2 := hv2.c2; have HP := Lib.hid hp; clear hp hv2) | go_in)
  refine wp_loop_rounds 1 ?_
  rw [rounds_succ]
  go_wp2_with (first | (go_at_call 96; refine (put_zero v b m xs _ (by repeat (first | exact HH.out | apply StV.alloc | apply StV.drew)) hf).mono ?_; rintro e w2 ⟨rfl, hp⟩; obtain ⟨v2, hv2, -⟩ := hp.1; have k0 : w2.cell? ⟨w.heap.size, 0, none⟩ = some (.int .i64 0) := (hp.cell (HH.out.new (Nat.le_refl _)).1 (HH.out.new (Nat.le_refl _)).2 (by simp <;> omega)).trans (by simp [go_sem]); have k2 := hv2.c2; have HP := Lib.hid hp; clear hp hv2) | go_in)
  go_end0
  refine ⟨rfl, ?_⟩
  exact Put.of_alloc (by omega) (Put.of_alloc (by simp <;> omega) (Put.drew HP.out))
set_option maxRecDepth 100000 in
set_option maxHeartbeats 4000000 in
theorem list52_put (v : Value) (b m : Nat) (xs : List Value) (fn : Value) (w : World) (h : StV v b m xs w) (hf : xs.length ≤ 100) :
    Calls Tryz.prog 52 #[.pointer (some ⟨b, 0, none⟩), .pointer (some ⟨m, 1, none⟩), fn] w fun e w' => e = .returned (.tuple #[]) ∧ Put v b m xs w w' := by
  have hc1 := h.c1
  have hc2 := h.c2
  have hi := h.i1
  have hbw : b < w.heap.size := h.bh
  have hmw : m < w.heap.size := by have := h.mb; omega
  have HH := Lib.hid h
  clear h
  go_enter Tryz.func52, Tryz.ntmps52
  go_wp2_with (first | (go_at_call 96; refine (put_zero v b m xs _ (by repeat (first | exact HH.out | apply StV.alloc | apply StV.drew)) hf).mono ?_; rintro e w2 ⟨rfl, hp⟩; obtain ⟨v2, hv2, -⟩ := hp.1; have k0 : w2.cell? ⟨w.heap.size, 0, none⟩ = some (.int .i64 0) := (hp.cell (HH.out.new (Nat.le_refl _)).1 (HH.out.new (Nat.le_refl _)).2 (by simp <;> omega)).trans (by simp [go_sem]); have k2 := hv2.c2; have HP := Lib.hid hp; clear hp hv2) | go_in)
  refine wp_loop_rounds 2 ?_
  rw [rounds_succ]
  go_wp2_with (first | (go_at_call 96; refine (put_zero v b m xs _ (by repeat (first | exact HH.out | apply StV.alloc | apply StV.drew)) hf).mono ?_; rintro e w2 ⟨rfl, hp⟩; obtain ⟨v2, hv2, -⟩ := hp.1; have k0 : w2.cell? ⟨w.heap.size, 0, none⟩ = some (.int .i64 0) := (hp.cell (HH.out.new (Nat.le_refl _)).1 (HH.out.new (Nat.le_refl _)).2 (by simp <;> omega)).trans (by simp [go_sem]); have k2 := hv2.c2; have HP := Lib.hid hp; clear hp hv2) | go_in)
  rw [rounds_succ]
  go_wp2_with (first | (go_at_call 96; refine (put_zero v b m xs _ (by repeat (first | exact HH.out | apply StV.alloc | apply StV.drew)) hf).mono ?_; rintro e w2 ⟨rfl, hp⟩; obtain ⟨v2, hv2, -⟩ := hp.1; have k0 : w2.cell? ⟨w.heap.size, 0, none⟩ = some (.int .i64 0) := (hp.cell (HH.out.new (Nat.le_refl _)).1 (HH.out.new (Nat.le_refl _)).2 (by simp <;> omega)).trans (by simp [go_sem]); have k2 := hv2.c2; have HP := Lib.hid hp; clear hp hv2) | go_in)
  apply wp_at
  · go_region
    all_goals exact ⟨rfl, rfl⟩
  go_wp2_with (first | (go_at_call 96; refine (put_zero v b m xs _ (by repeat (first | exact HH.out | apply StV.alloc | apply StV.drew)) hf).mono ?_; rintro e w2 ⟨rfl, hp⟩; obtain ⟨v2, hv2, -⟩ := hp.1; have k0 : w2.cell? ⟨w.heap.size, 0, none⟩ = some (.int .i64 0) := (hp.cell (HH.out.new (Nat.le_refl _)).1 (HH.out.new (Nat.le_refl _)).2 (by simp <;> omega)).trans (by simp [go_sem]); have k2 := hv2.c2; have HP := Lib.hid hp; clear hp hv2) | go_in)
  refine wp_loop_rounds 1 ?_
  rw [rounds_succ]
  go_wp2_with (first | (go_at_call 96; refine (put_zero v b m xs _ (by repeat (first | exact HH.out | apply StV.alloc | apply StV.drew)) hf).mono ?_; rintro e w2 ⟨rfl, hp⟩; obtain ⟨v2, hv2, -⟩ := hp.1; have k0 : w2.cell? ⟨w.heap.size, 0, none⟩ = some (.int .i64 0) := (hp.cell (HH.out.new (Nat.le_refl _)).1 (HH.out.new (Nat.le_refl _)).2 (by simp <;> omega)).trans (by simp [go_sem]); have k2 := hv2.c2; have HP := Lib.hid hp; clear hp hv2) | go_in)
  go_end0
  refine ⟨rfl, ?_⟩
  exact Put.of_alloc (by omega) (Put.of_alloc (by simp <;> omega) (Put.drew HP.out))
set_option maxRecDepth 100000 in
set_option maxHeartbeats 4000000 in
theorem list54_put (v : Value) (b m : Nat) (xs : List Value) (fn : Value) (w : World) (h : StV v b m xs w) (hf : xs.length ≤ 100) :
    Calls Tryz.prog 54 #[.pointer (some ⟨b, 0, none⟩), .pointer (some ⟨m, 2, none⟩), fn] w fun e w' => e = .returned (.tuple #[]) ∧ Put v b m xs w w' := by
  have hc1 := h.c1
  have hc2 := h.c2
  have hi := h.i2
  have hbw : b < w.heap.size := h.bh
  have hmw : m < w.heap.size := by have := h.mb; omega
  have HH := Lib.hid h
  clear h
  go_enter Tryz.func54, Tryz.ntmps54
  go_wp2_with (first | (go_at_call 96; refine (put_zero v b m xs _ (by repeat (first | exact HH.out | apply StV.alloc | apply StV.drew)) hf).mono ?_; rintro e w2 ⟨rfl, hp⟩; obtain ⟨v2, hv2, -⟩ := hp.1; have k0 : w2.cell? ⟨w.heap.size, 0, none⟩ = some (.int .i64 0) := (hp.cell (HH.out.new (Nat.le_refl _)).1 (HH.out.new (Nat.le_refl _)).2 (by simp <;> omega)).trans (by simp [go_sem]); have k2 := hv2.c2; have HP := Lib.hid hp; clear hp hv2) | go_in)
  refine wp_loop_rounds 2 ?_
  rw [rounds_succ]
  go_wp2_with (first | (go_at_call 96; refine (put_zero v b m xs _ (by repeat (first | exact HH.out | apply StV.alloc | apply StV.drew)) hf).mono ?_; rintro e w2 ⟨rfl, hp⟩; obtain ⟨v2, hv2, -⟩ := hp.1; have k0 : w2.cell? ⟨w.heap.size, 0, none⟩ = some (.int .i64 0) := (hp.cell (HH.out.new (Nat.le_refl _)).1 (HH.out.new (Nat.le_refl _)).2 (by simp <;> omega)).trans (by simp [go_sem]); have k2 := hv2.c2; have HP := Lib.hid hp; clear hp hv2) | go_in)
  rw [rounds_succ]
  go_wp2_with (first | (go_at_call 96; refine (put_zero v b m xs _ (by repeat (first | exact HH.out | apply StV.alloc | apply StV.drew)) hf).mono ?_; rintro e w2 ⟨rfl, hp⟩; obtain ⟨v2, hv2, -⟩ := hp.1; have k0 : w2.cell? ⟨w.heap.size, 0, none⟩ = some (.int .i64 0) := (hp.cell (HH.out.new (Nat.le_refl _)).1 (HH.out.new (Nat.le_refl _)).2 (by simp <;> omega)).trans (by simp [go_sem]); have k2 := hv2.c2; have HP := Lib.hid hp; clear hp hv2) | go_in)
  apply wp_at
  · go_region
    all_goals exact ⟨rfl, rfl⟩
  go_wp2_with (first | (go_at_call 96; refine (put_zero v b m xs _ (by repeat (first | exact HH.out | apply StV.alloc | apply StV.drew)) hf).mono ?_; rintro e w2 ⟨rfl, hp⟩; obtain ⟨v2, hv2, -⟩ := hp.1; have k0 : w2.cell? ⟨w.heap.size, 0, none⟩ = some (.int .i64 0) := (hp.cell (HH.out.new (Nat.le_refl _)).1 (HH.out.new (Nat.le_refl _)).2 (by simp <;> omega)).trans (by simp [go_sem]); have k2 := hv2.c2; have HP := Lib.hid hp; clear hp hv2) | go_in)
  refine wp_loop_rounds 1 ?_
  rw [rounds_succ]
  go_wp2_with (first | (go_at_call 96; refine (put_zero v b m xs _ (by repeat (first | exact HH.out | apply StV.alloc | apply StV.drew)) hf).mono ?_; rintro e w2 ⟨rfl, hp⟩; obtain ⟨v2, hv2, -⟩ := hp.1; have k0 : w2.cell? ⟨w.heap.size, 0, none⟩ = some (.int .i64 0) := (hp.cell (HH.out.new (Nat.le_refl _)).1 (HH.out.new (Nat.le_refl _)).2 (by simp <;> omega)).trans (by simp [go_sem]); have k2 := hv2.c2; have HP := Lib.hid hp; clear hp hv2) | go_in)
  go_end0
  refine ⟨rfl, ?_⟩
  exact Put.of_alloc (by omega) (Put.of_alloc (by simp <;> omega) (Put.drew HP.out))
/-- What is written behind the three lists. -/
def Done (b m : Nat) (xs : List Value) (w w' : World) : Prop := (∃ v', StV v' b m (xs ++ [.int .u8 0] ++ [.int .u8 0] ++ [.int .u8 0]) w') ∧ Below m w w'
theorem wp_ex {P : Program} {c : Code} {Q : Exit → Act → World → Prop} {a : Act} {w : World} (A : Act) (I : World → Prop) (h : c.wp P (fun e a w => match e with | .normal => a = A ∧ I w | _ => False) a w) (hq : ∀ W, I W → Q .normal A W) : c.wp P Q a w :=
  Code.wp_mono (fun e a w q => by
    cases e with
    | normal => obtain ⟨rfl, q⟩ := q; exact hq _ q
    | _ => exact q.elim) h
/-- Between the lists: block k holds the coder's address. -/
def Mid (b m k : Nat) (xs : List Value) (w w' : World) : Prop := ∃ v', StV v' b m xs w' ∧ v'.ownBlock ≠ some k ∧ k ≠ b ∧ w'.cell? ⟨k, 0, none⟩ = some (.pointer (some ⟨b, 0, none⟩)) ∧ k < w'.heap.size ∧ Below m w w'
theorem Mid.mk1 {v : Value} {b m : Nat} {xs : List Value} {w w' W : World} {k : Nat} (hv : v.ownBlock ≠ some k) (hkb : k ≠ b) (hk : k < W.heap.size) (hc : W.cell? ⟨k, 0, none⟩ = some (.pointer (some ⟨b, 0, none⟩))) (hB : Below m w W) (h : Put v b m xs W w') : Mid b m k (xs ++ [.int .u8 0]) w w' := by
  obtain ⟨⟨v', h1, h2⟩, h3, h4, h5⟩ := h
  refine ⟨v', h1, ?_, hkb, (World.cell?_of_block (h4 k hkb hv hk)).trans hc, by omega, hB.trans h5⟩
  rcases h2 with e | ⟨g, e, l⟩
  · rw [e]; exact hv
  · rw [e]; intro e'; injection e' with e'; omega
set_option maxRecDepth 100000 in
set_option maxHeartbeats 4000000 in
theorem image_put (v : Value) (b m : Nat) (xs : List Value) (w : World) (h : StV v b m xs w) (hf : xs.length ≤ 90) :
    Calls Tryz.prog 15 #[.pointer (some ⟨b, 0, none⟩), .pointer (some ⟨m, 0, none⟩)] w fun e w' => e = .returned (.tuple #[]) ∧ Done b m xs w w' := by
  have hmf : ∀ (fn : Fn) (first cap : Array Value) (w : World), (Instr.makeFunc fn first cap).run Tryz.prog w = .ok (.func fn first cap) w := fun _ _ _ _ => rfl
  have hbw : b < w.heap.size := h.bh
  have hmw : m < w.heap.size := by have := h.mb; omega
  have hn := (h.new (Nat.le_refl _))
  have HN := Lib.hid hn
  have HH := Lib.hid h
  clear h hn
  go_enter Tryz.func15, Tryz.ntmps15
  go_wp2
  apply wp_ex (I := Mid b m w.heap.size (xs ++ [.int .u8 0]) w)
  · go_region_with (go_at_call 46; refine (list46_put v b m xs _ _ (by repeat (first | exact HH.out | apply StV.alloc | apply StV.drew)) (by omega)).mono ?_; rintro e w2 ⟨rfl, hp⟩; have HM : Hid (Mid b m w.heap.size (xs ++ [.int .u8 0]) w w2) := Lib.hid (Mid.mk1 HN.out.2 HN.out.1 (by simp) (by simp [go_sem]) (by go_grown) hp); clear hp)
    all_goals exact ⟨rfl, HM.out⟩
  rintro w1 ⟨v1, h1, n1, m1, k1, l1, b1⟩
  have hbw1 : b < w1.heap.size := h1.bh
  have H1 := Lib.hid h1
  have B1 := Lib.hid b1
  have N1 := Lib.hid (And.intro n1 m1)
  clear h1 b1 n1 m1
  go_wp2
  apply wp_ex (I := Mid b m w.heap.size (xs ++ [.int .u8 0] ++ [.int .u8 0]) w)
  · go_region_with (go_at_call 52; refine (list52_put v1 b m (xs ++ [.int .u8 0]) _ _ (by repeat (first | exact H1.out | apply StV.alloc | apply StV.drew)) (by simp <;> omega)).mono ?_; rintro e w' ⟨rfl, hp⟩; have HM : Hid (Mid b m w.heap.size (xs ++ [.int .u8 0] ++ [.int .u8 0]) w w') := Lib.hid (Mid.mk1 N1.out.1 N1.out.2 (by simp <;> omega) (by simp [go_sem, *]) (Below.trans B1.out (by go_grown)) hp); clear hp)
    all_goals exact ⟨rfl, HM.out⟩
  rintro w2 ⟨v2, h2, n2, m2, k2, l2, b2⟩
  have hbw2 : b < w2.heap.size := h2.bh
  have H2 := Lib.hid h2
  have B2 := Lib.hid b2
  have N2 := Lib.hid (And.intro n2 m2)
  clear h2 b2 n2 m2
  go_wp2
  apply wp_ex (I := Mid b m w.heap.size (xs ++ [.int .u8 0] ++ [.int .u8 0] ++ [.int .u8 0]) w)
  · go_region_with (go_at_call 54; refine (list54_put v2 b m (xs ++ [.int .u8 0] ++ [.int .u8 0]) _ _ (by repeat (first | exact H2.out | apply StV.alloc | apply StV.drew)) (by simp <;> omega)).mono ?_; rintro e w' ⟨rfl, hp⟩; have HM : Hid (Mid b m w.heap.size (xs ++ [.int .u8 0] ++ [.int .u8 0] ++ [.int .u8 0]) w w') := Lib.hid (Mid.mk1 N2.out.1 N2.out.2 (by simp <;> omega) (by simp [go_sem, *]) (Below.trans B2.out (by go_grown)) hp); clear hp)
    all_goals exact ⟨rfl, HM.out⟩
  rintro w3 ⟨v3, h3, n3, m3, k3, l3, b3⟩
  go_wp2
  go_end0
  exact ⟨rfl, ⟨v3, h3⟩, b3⟩
end Go.Proofs.YtbhbjfaljpfdgaaGreat
