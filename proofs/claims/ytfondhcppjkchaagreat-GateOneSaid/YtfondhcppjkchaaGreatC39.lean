import Derived.Test.YtfondhcppjkchaaGreatC38
import Derived.Test.YtfondhcppjkchaaGreatC33
import Derived.Test.YtfondhcppjkchaaGreatC18
import Derived.Test.YtfondhcppjkchaaGreatC35
set_option maxHeartbeats 40000000
set_option maxRecDepth 100000
set_option linter.unusedVariables false
set_option linter.unusedSimpArgs false
namespace Go.Proofs.YtfondhcppjkchaaGreat.Q
open Go.RowKit Go.Proofs.YtfondhcppjkchaaGreatW.PrintWords Go.Proofs.YtfondhcppjkchaaGreatW.PrintLast
open Go.Proofs.YtfondhcppjkchaaGreatW.PrintMore
def normS (x y : List Int) : S27 := if wordB x y = true then shortW x y else ⟨[], []⟩
theorem may_f (x y : List Int) : words_May.f x y = some (wordB x y) := by
 unfold words_May.f wordB
 by_cases h1 : (y.length : Int) ≥ 1
 ·rw [if_pos h1]
  by_cases h2 : (y.length : Int) ≤ 4096
  ·rw [if_pos h2]
   congr 1
   by_cases h3 : (x.length : Int) ≤ 4096
   ·rw [decide_eq_true h3, decide_eq_true (by omega)]
   ·rw [decide_eq_false h3, decide_eq_false (by omega)]
  ·rw [if_neg h2, decide_eq_false (by omega)]
 ·rw [if_neg h1, decide_eq_false (by omega)]
theorem norm_any (A0 : Option Addr) (c0 : Nat) (x y : List Int) (P0 : Nat → Prop) (v1 : Value) (w0 W : World) (hB : Below w0.heap.size w0 W) (h0 : Kd.C (Kd.int .i64) W A0 x.length x) (hc0 : x.length ≤ c0) (h1 : Kd.R (Kd.int .i64) 2 W w0.heap.size P0 v1 y) :
  Calls Tryz.prog 50 #[.agg #[.slice A0 x.length c0, v1]] W fun e W' => ∃ u0 u1 en, e = .returned (.tuple #[.agg #[u0, u1], .int .i64 en]) ∧ Kd.R (Kd.int .i64) 2 W' W.heap.size (fun _ => True) u0 (normS x y).f0 ∧ Kd.R (Kd.int .i64) 2 W' W.heap.size (fun _ => True) u1 (normS x y).f1 ∧ Below W.heap.size W W' := by
 obtain ⟨A1, c1, rfl⟩ := Kd.zoa h1
 have HM := Lib.hid (fun W' (hW : Below W.heap.size W W') => words_May.calls A0 c0 x A1 c1 y (wordB x y) W' (Kd.zu h0 hW) hc0 (Kd.zu (Kd.R_reads' h1).2.2 hW) (Kd.R_reads' h1).2.1 (may_f x y))
 cases hw : wordB x y with
 | true =>
  rw [hw] at HM
  have hb := of_decide_eq_true (show decide (1 ≤ y.length ∧ y.length ≤ 4096 ∧ x.length ≤ 4096) = true from hw)
  have HS := Lib.hid (fun W' (hW : Below W.heap.size W W') => wshort_any A0 c0 x y P0 (.slice A1 y.length c1) w0 W' (hB.trans (hW.mono hB.size)) (Kd.zu h0 hW) hc0 (Kd.zga h1 hW) hb.2.2 hb.2.1 hb.1)
  have en : normS x y = shortW x y := by unfold normS; rw [if_pos hw]
  have EN := Lib.hid en
  clear hB h0 hc0 h1 hw hb en
  go_enter Tryz.func50, Tryz.ntmps50
  go_wp2_with fail
  refine (HM.out _ ?_).mono ?_
  ·go_grown
  rintro e w3 ⟨rfl, hb3⟩
  have b0 : w3.cell? ⟨W.heap.size, 0, none⟩ = some (.slice A0 x.length c0) := ((bcell hb3).1 _ _ (by simp; omega)).trans (by simp [go_sem])
  have b1 : w3.cell? ⟨W.heap.size, 1, none⟩ = some (.slice A1 y.length c1) := ((bcell hb3).1 _ _ (by simp; omega)).trans (by simp [go_sem])
  have hk3 : w3.heap[W.heap.size + 1]? = some (.cells #[.slice none 0 0, .slice none 0 0] 27 (0, 0)) := (hb3.block _ (by simp)).trans (by have := heap_alloc_new (W.alloc (.cells #[.slice A0 x.length c0, .slice A1 y.length c1] 27)) (.cells #[.slice none 0 0, .slice none 0 0] 27); simpa using this)
  have HK3 := Lib.hid hk3
  have HB3 := Lib.hid (Below.trans (by go_grown) (hb3.mono (by simp; omega)) : Below W.heap.size W w3)
  clear hb3 hk3
  dsimp only
  go_wp2_with fail
  refine (HS.out _ HB3.out).mono ?_
  rintro e w4 ⟨u0, u1, rfl, hu0, hu1, hb4⟩
  obtain ⟨X0, y0, rfl⟩ := Kd.zoa hu0
  obtain ⟨X1, y1, rfl⟩ := Kd.zoa hu1
  have hk4 := (hb4.block _ (zja HK3.out)).trans HK3.out
  have x0 : w4.cell? ⟨W.heap.size + 1, 0, none⟩ = some (.slice none 0 0) := (zg hk4 0).trans rfl
  have x1 : w4.cell? ⟨W.heap.size + 1, 1, none⟩ = some (.slice none 0 0) := (zg hk4 1).trans rfl
  have z0 := zf hk4 0
  have z1 := zf hk4 1
  have HU0 := Lib.hid hu0
  have HU1 := Lib.hid hu1
  have HB4 := Lib.hid hb4
  have HK4 := Lib.hid hk4
  clear hu0 hu1 hb4 hk4 b0 b1
  dsimp only
  go_wp2_with fail
  have hlt := zja HK3.out
  have hs1 := zrb (zrb HK4.out 0 (.slice X0 (shortW x y).f0.length y0)) 1 (.slice X1 (shortW x y).f1.length y1)
  have r0 : ((w4.setCell ⟨W.heap.size + 1, 0, none⟩ (.slice X0 (shortW x y).f0.length y0)).setCell ⟨W.heap.size + 1, 1, none⟩ (.slice X1 (shortW x y).f1.length y1)).cell? ⟨W.heap.size + 1, 0, none⟩ = some (.slice X0 (shortW x y).f0.length y0) := (zg hs1 0).trans rfl
  have r1 : ((w4.setCell ⟨W.heap.size + 1, 0, none⟩ (.slice X0 (shortW x y).f0.length y0)).setCell ⟨W.heap.size + 1, 1, none⟩ (.slice X1 (shortW x y).f1.length y1)).cell? ⟨W.heap.size + 1, 1, none⟩ = some (.slice X1 (shortW x y).f1.length y1) := (zg hs1 1).trans rfl
  have hf : ∀ {v : Value} {xs : List Int}, Kd.R (Kd.int .i64) 2 w4 w3.heap.size (fun _ => True) v xs → Kd.R (Kd.int .i64) 2 ((w4.setCell ⟨W.heap.size + 1, 0, none⟩ (.slice X0 (shortW x y).f0.length y0)).setCell ⟨W.heap.size + 1, 1, none⟩ (.slice X1 (shortW x y).f1.length y1)) W.heap.size (fun _ => True) v xs := fun h => Kd.zxa (Kd.zra (Kd.R_far (Kd.R_far (Kd.zcb h) (fun k hk => by have := hk.2.1; show k ≠ W.heap.size + 1; omega) _) (fun k hk => by have := hk.2.1; show k ≠ W.heap.size + 1; omega) _) (fun _ _ => trivial)) (by omega)
  have hB9 : Below W.heap.size W ((w4.setCell ⟨W.heap.size + 1, 0, none⟩ (.slice X0 (shortW x y).f0.length y0)).setCell ⟨W.heap.size + 1, 1, none⟩ (.slice X1 (shortW x y).f1.length y1)) := ((HB3.out.trans (HB4.out.mono (by omega))).setCell (by simp) _).setCell (by simp) _
  exact bodyPost_ret (v := .tuple #[.agg #[.slice X0 (shortW x y).f0.length y0, .slice X1 (shortW x y).f1.length y1], .int .i64 0]) (by simp [results, Tryz.results50, go_sem, r0, r1]) rfl ⟨_, _, _, rfl, by rw [EN.out]; exact hf HU0.out, by rw [EN.out]; exact hf HU1.out, hB9⟩
 | false =>
  rw [hw] at HM
  have en : normS x y = ⟨[], []⟩ := by unfold normS; rw [if_neg (by rw [hw]; decide)]
  have EN := Lib.hid en
  clear hB h0 hc0 h1 hw en
  go_enter Tryz.func50, Tryz.ntmps50
  go_wp2_with fail
  refine (HM.out _ ?_).mono ?_
  ·go_grown
  rintro e w3 ⟨rfl, hb3⟩
  have hk3 : w3.heap[W.heap.size + 1]? = some (.cells #[.slice none 0 0, .slice none 0 0] 27 (0, 0)) := (hb3.block _ (by simp)).trans (by have := heap_alloc_new (W.alloc (.cells #[.slice A0 x.length c0, .slice A1 y.length c1] 27)) (.cells #[.slice none 0 0, .slice none 0 0] 27); simpa using this)
  have HB3 := Lib.hid (Below.trans (by go_grown) (hb3.mono (by simp; omega)) : Below W.heap.size W w3)
  have x0 : w3.cell? ⟨W.heap.size + 1, 0, none⟩ = some (.slice none 0 0) := (zg hk3 0).trans rfl
  have x1 : w3.cell? ⟨W.heap.size + 1, 1, none⟩ = some (.slice none 0 0) := (zg hk3 1).trans rfl
  have z0 := zf hk3 0
  have z1 := zf hk3 1
  have HK3 := Lib.hid hk3
  clear hb3 hk3
  dsimp only
  go_wp2_with fail
  have hs1 := zrb (zrb HK3.out 0 (.slice none 0 0)) 1 (.slice none 0 0)
  have r0 : ((w3.setCell ⟨W.heap.size + 1, 0, none⟩ (.slice none 0 0)).setCell ⟨W.heap.size + 1, 1, none⟩ (.slice none 0 0)).cell? ⟨W.heap.size + 1, 0, none⟩ = some (.slice none 0 0) := (zg hs1 0).trans rfl
  have r1 : ((w3.setCell ⟨W.heap.size + 1, 0, none⟩ (.slice none 0 0)).setCell ⟨W.heap.size + 1, 1, none⟩ (.slice none 0 0)).cell? ⟨W.heap.size + 1, 1, none⟩ = some (.slice none 0 0) := (zg hs1 1).trans rfl
  exact bodyPost_ret (v := .tuple #[.agg #[.slice none 0 0, .slice none 0 0], .int .i64 2]) (by simp [results, Tryz.results50, go_sem, r0, r1]) rfl ⟨_, _, _, rfl, by rw [EN.out]; exact Kd.R_nil _ _ _ _ _, by rw [EN.out]; exact Kd.R_nil _ _ _ _ _, (HB3.out.setCell (by simp) _).setCell (by simp) _⟩
def turnsS (es : List Edge) (costs : List Int) : Nat → Int → AL → Option (Bool × AL)
 | 0, _, _ => none
 | k + 1, t, m =>
  if keysIn costs.length (roundS es m).1 = true then
   if (roundS es m).2 = true then
    if shortS costs (roundS es m).1 = true then some (true, (roundS es m).1)
    else if wrap64 (((roundS es m).1.length : Int) + 1) < t then some (true, (roundS es m).1)
    else turnsS es costs k (wrap64 (t + 1)) (roundS es m).1
   else some (false, (roundS es m).1)
  else none
def headS (m : AL) (i : Int) (h : Nat) : List Int := (List.range h).map fun (k : Nat) => m.get (i, (k : Int))
def roundL (m : AL) (i : Int) (h n : Nat) : List Int := (List.range n).map fun (k : Nat) => m.get (i, ((h + k : Nat) : Int))
noncomputable def adjTask (l : List S78) (p h : Int) (m : AL) (out : List S27) (i : Int) : Option (List S27) :=
 (countL p h (zj l i).f0.f0 (zj l i).f0.f1).bind fun c =>
  if 0 ≤ c.1 ∧ 0 ≤ c.2.1 ∧ c.1 + c.2.1 ≤ 1073741823 then some (out ++ [normS (headS m i c.1.toNat) (roundL m i c.1.toNat c.2.1.toNat)]) else none
noncomputable def adjTasks (l : List S78) (p h : Int) (m : AL) : Nat → Option (List S27)
 | 0 => some []
 | x + 1 => (adjTasks l p h m x).bind fun out => adjTask l p h m out x
noncomputable def adjustS (f : Nat) (l : List S78) (ins : List S68) (costs : List Int) : Option (List S27 × Int) :=
 (due_of.f f l ins costs).bind fun r =>
  if r.1 = 0 then
   (turnsS r.2.es costs f 0 r.2.m).bind fun t =>
    if t.1 = true ∨ shortS costs t.2 = true then some ([], 160)
    else if l.length ≤ 1073741823 then (adjTasks l r.2.p r.2.h t.2 l.length).bind fun out => some (out, 0) else none
  else some ([], r.1)
noncomputable def due_Adjust.f (l : List S78) (ins : List S68) (costs : List Int) : Option (List S27 × Int) := lim fun f => adjustS f l ins costs
theorem OwnsM.len {w : World} {b : Nat} {m : AL} (h : OwnsM w b m) (ty : TypeId) : (Builtin.len_ #[97] ty #[.map (some b)]).run Tryz.prog w = .ok (.int .i64 m.length) w := by
 obtain ⟨es, clock, hb, he⟩ := h
 have e1 : es.size = m.length := by
  have := congrArg List.length he.eq
  simpa using this
 simp [Builtin.len_, run_underlying Tryz.underlying97, MapKept.run_getObj_map hb, goInt, Result.andThen, e1]
theorem adjTasks_prefix {l : List S78} {p h : Int} {m : AL} : ∀ {n : Nat} {out : List S27}, adjTasks l p h m n = some out → ∀ k, k ≤ n → ∃ o, adjTasks l p h m k = some o
 | 0, out, hh, k, hk => by
  have : k = 0 := by omega
  subst this
  exact ⟨_, hh⟩
 | n + 1, out, hh, k, hk => by
  by_cases e : k = n + 1
  ·subst e; exact ⟨_, hh⟩
  ·obtain ⟨o, ho, _⟩ := Option.bind_eq_some_iff.mp hh
   exact adjTasks_prefix ho k (by omega)
theorem headS_succ (m : AL) (i : Int) (h : Nat) : headS m i (h + 1) = headS m i h ++ [m.get (i, (h : Int))] := by
 unfold headS; rw [List.range_succ]; simp
theorem roundL_succ (m : AL) (i : Int) (h n : Nat) : roundL m i h (n + 1) = roundL m i h n ++ [m.get (i, ((h + n : Nat) : Int))] := by
 unfold roundL; rw [List.range_succ]; simp
theorem headS_len (m : AL) (i : Int) (h : Nat) : (headS m i h).length = h := by simp [headS]
theorem roundL_len (m : AL) (i : Int) (h n : Nat) : (roundL m i h n).length = n := by simp [roundL]
structure Wd (wX : World) (hs ls : List Int) (N : Nat) (v0 v1 : Value) (W : World) : Prop where
 c0 : W.cell? ⟨wX.heap.size, 0, none⟩ = some v0
 c1 : W.cell? ⟨wX.heap.size, 1, none⟩ = some v1
 f0 : W.frozen? ⟨wX.heap.size, 0, none⟩ = false
 f1 : W.frozen? ⟨wX.heap.size, 1, none⟩ = false
 o0 : W.ownsRow (wX.heap.size + 1) 2 1 v0 hs.length (nums .i64 hs)
 o1 : W.ownsRow N 2 1 v1 ls.length (nums .i64 ls)
 lt : ∀ g, v0.ownBlock = some g → g < N
 hN : wX.heap.size + 1 ≤ N
 hW : N ≤ W.heap.size
 bel : Below wX.heap.size wX W
theorem Wd.grow {wX : World} {hs ls : List Int} {N : Nat} {v0 v1 : Value} {W W' : World} (h : Wd wX hs ls N v0 v1 W) (hb : Below W.heap.size W W') : Wd wX hs ls N v0 v1 W' := by
 have hB : wX.heap.size < W.heap.size := Nat.lt_of_lt_of_le (Nat.lt_of_succ_le h.hN) h.hW
 obtain ⟨hc, hf⟩ := bcell hb
 have hg : W.grownBy W' none := ⟨hb.os, hb.tape, hb.output, hb.size, fun k hk _ => hb.block k hk⟩
 exact ⟨(hc _ _ hB).trans h.c0, (hc _ _ hB).trans h.c1, (hf _ _ hB).trans h.f0, (hf _ _ hB).trans h.f1, h.o0.kept hg (by cases v0.ownBlock <;> simp), h.o1.kept hg (by cases v1.ownBlock <;> simp), h.lt, h.hN, Nat.le_trans h.hW hb.size, h.bel.trans (hb.mono h.bel.size)⟩
theorem Wd.made (wX : World) : Wd wX [] [] (wX.heap.size + 1) (.slice none 0 0) (.slice none 0 0) (wX.alloc (.cells #[.slice none 0 0, .slice none 0 0] 27)) :=
 ⟨(zg (zwa wX _) 0).trans rfl, (zg (zwa wX _) 1).trans rfl, zf (zwa wX _) 0, zf (zwa wX _) 1, World.ownsRow_nil _ _ _ _, World.ownsRow_nil _ _ _ _, fun g hg => by simp [Value.ownBlock] at hg, Nat.le_refl _, by simp, (Below.refl _ _).alloc (Nat.le_refl _) _⟩
theorem own_push (W : World) (base : Nat) (v : Value) (xs : List Int) (x : Int) (h : W.ownsRow base 2 1 v xs.length (nums .i64 xs)) (hb : base ≤ W.heap.size) (hl : xs.length < 1073741824) :
  ∃ v' W7, (∃ A c, v' = .slice A (xs.length + 1) c) ∧ (Builtin.append_ #[24, 24] 24 #[v, .slice (some ⟨W.heap.size, 0, none⟩) 1 1]).run Tryz.prog (W.alloc (.cells #[.int .i64 x] 2)) = .ok v' W7 ∧ W7.ownsRow base 2 1 v' (xs ++ [x]).length (nums .i64 (xs ++ [x])) ∧ (W.alloc (.cells #[.int .i64 x] 2)).grownBy W7 v.ownBlock ∧ (v'.ownBlock = v.ownBlock ∨ v'.ownBlock = some (W.heap.size + 1)) := by
 obtain ⟨i0, hi0, hz0, hz1, hz2⟩ := info_parts info2
 have hg : W.grownBy (W.alloc (.cells #[.int .i64 x] 2)) none := by
  have hb := (Below.refl W.heap.size W).alloc (Nat.le_refl _) (.cells #[.int .i64 x] 2)
  exact ⟨hb.os, hb.tape, hb.output, hb.size, fun k hk _ => hb.block k hk⟩
 have h1 : (W.alloc (.cells #[.int .i64 x] 2)).ownsRow base 2 1 v xs.length (nums .i64 xs) := h.kept hg (by cases v.ownBlock <;> simp)
 obtain ⟨v', W7, hr, hown', hgrow, hnil, hat⟩ := run_append_own_at (P := Tryz.prog) (W.alloc (.cells #[.int .i64 x] 2)) base 24 24 2 i0 _ 1 8 Tryz.underlying24 hi0 hz0 hz1 hz2 rfl (by omega) v xs.length (nums .i64 xs) h1
  ⟨W.heap.size, 0, none⟩ 1 1 [.int .i64 x] rfl (World.news_of_block (cs := #[.int .i64 x]) (t := 2) (fr := (0, 0)) (heap_alloc_new W _)) (by simp [Value.oneCell']) (by unfold maxLen; omega) (by omega) (by simp; omega)
 have hsh : ∃ A' c', v' = .slice A' (xs.length + 1) c' := by
  rcases hown'.2 with ⟨_, h0⟩ | ⟨g, cap, cur, e, _⟩
  ·omega
  ·exact ⟨_, _, e⟩
 exact ⟨v', W7, hsh, hr, by rw [nums_append, List.length_append]; exact hown', hgrow, by simpa using hat⟩
theorem Wd.put0 {wX : World} {hs : List Int} {N : Nat} {v0 : Value} {W : World} (h : Wd wX hs [] N v0 (.slice none 0 0) W) (x : Int) (hl : hs.length < 1073741824) :
  ∃ v' W7, (∃ A c, v' = .slice A (hs.length + 1) c) ∧ (Builtin.append_ #[24, 24] 24 #[v0, .slice (some ⟨W.heap.size, 0, none⟩) 1 1]).run Tryz.prog (W.alloc (.cells #[.int .i64 x] 2)) = .ok v' W7 ∧ W7.cell? ⟨wX.heap.size, 0, none⟩ = some v0 ∧ W7.frozen? ⟨wX.heap.size, 0, none⟩ = false ∧ ∃ N', Wd wX (hs ++ [x]) [] N' v' (.slice none 0 0) (W7.setCell ⟨wX.heap.size, 0, none⟩ v') := by
 have hB : wX.heap.size < W.heap.size := Nat.lt_of_lt_of_le (Nat.lt_of_succ_le h.hN) h.hW
 obtain ⟨v', W7, hsh, hr, hown', hgrow, hat⟩ := own_push W (wX.heap.size + 1) v0 hs x h.o0 (by omega) hl
 have h1 := h.grow ((Below.refl W.heap.size W).alloc (Nat.le_refl _) (.cells #[.int .i64 x] 2))
 have hvB : v0.ownBlock ≠ some wX.heap.size := fun e => by have := (h.o0.lt _ e).1; omega
 have hBs : wX.heap.size < (W.alloc (.cells #[.int .i64 x] 2)).heap.size := by simp; omega
 have hBk : W7.heap[wX.heap.size]? = (W.alloc (.cells #[.int .i64 x] 2)).heap[wX.heap.size]? := hgrow.block _ hBs (Ne.symm hvB)
 have hc : ∀ i, W7.cell? ⟨wX.heap.size, i, none⟩ = (W.alloc (.cells #[.int .i64 x] 2)).cell? ⟨wX.heap.size, i, none⟩ := fun i => World.cell?_of_block hBk
 have hf : ∀ i, W7.frozen? ⟨wX.heap.size, i, none⟩ = (W.alloc (.cells #[.int .i64 x] 2)).frozen? ⟨wX.heap.size, i, none⟩ := fun i => World.frozen?_of_block hBk
 have hs7 : (W7.setCell ⟨wX.heap.size, 0, none⟩ v').heap.size = W7.heap.size := by simp [World.setCell]
 refine ⟨v', W7, hsh, hr, (hc 0).trans h1.c0, (hf 0).trans h1.f0, W7.heap.size, World.cell?_setCell_same _ _ _ ((hc 0).trans h1.c0), (World.cell?_setCell_other _ _ _ _ (fun e => by injection e with _ e2 _; omega)).trans ((hc 1).trans h1.c1), (World.frozen?_setCell _ _ _ _).trans ((hf 0).trans h1.f0), (World.frozen?_setCell _ _ _ _).trans ((hf 1).trans h1.f1), ?_, World.ownsRow_nil _ _ _ _, fun g hg => (hown'.lt g hg).2, ?_, by rw [hs7]; exact Nat.le_refl _, ?_⟩
 ·have hb7 : Below (wX.heap.size + 1) W7 W7 := Below.refl _ _
  have hkeep : W7.grownBy (W7.setCell ⟨wX.heap.size, 0, none⟩ v') (some wX.heap.size) := ⟨rfl, rfl, rfl, by rw [hs7]; exact Nat.le_refl _, fun k hk hne => Below.heap_setCell _ _ _ _ (fun e => hne (by rw [e]))⟩
  exact hown'.kept hkeep (.inr (fun e => by have := (hown'.lt _ e).1; omega))
 ·have := hgrow.size; omega
 ·exact ((h1.bel.grown hgrow h1.bel.size (fun k hk => by have := (h.o0.lt k hk).1; omega)).setCell (Nat.le_refl _) _)
theorem Wd.put1 {wX : World} {hs ls : List Int} {N : Nat} {v0 v1 : Value} {W : World} (h : Wd wX hs ls N v0 v1 W) (x : Int) (hl : ls.length < 1073741824) :
  ∃ v' W7, (∃ A c, v' = .slice A (ls.length + 1) c) ∧ (Builtin.append_ #[24, 24] 24 #[v1, .slice (some ⟨W.heap.size, 0, none⟩) 1 1]).run Tryz.prog (W.alloc (.cells #[.int .i64 x] 2)) = .ok v' W7 ∧ W7.cell? ⟨wX.heap.size, 1, none⟩ = some v1 ∧ W7.frozen? ⟨wX.heap.size, 1, none⟩ = false ∧ Wd wX hs (ls ++ [x]) N v0 v' (W7.setCell ⟨wX.heap.size, 1, none⟩ v') := by
 have hB : wX.heap.size < W.heap.size := Nat.lt_of_lt_of_le (Nat.lt_of_succ_le h.hN) h.hW
 have hNW := h.hW
 have hNX := h.hN
 obtain ⟨v', W7, hsh, hr, hown', hgrow, hat⟩ := own_push W N v1 ls x h.o1 hNW hl
 have h1 := h.grow ((Below.refl W.heap.size W).alloc (Nat.le_refl _) (.cells #[.int .i64 x] 2))
 have hvB : v1.ownBlock ≠ some wX.heap.size := fun e => by have := (h.o1.lt _ e).1; omega
 have hBs : wX.heap.size < (W.alloc (.cells #[.int .i64 x] 2)).heap.size := by simp; omega
 have hBk : W7.heap[wX.heap.size]? = (W.alloc (.cells #[.int .i64 x] 2)).heap[wX.heap.size]? := hgrow.block _ hBs (Ne.symm hvB)
 have hc : ∀ i, W7.cell? ⟨wX.heap.size, i, none⟩ = (W.alloc (.cells #[.int .i64 x] 2)).cell? ⟨wX.heap.size, i, none⟩ := fun i => World.cell?_of_block hBk
 have hf : ∀ i, W7.frozen? ⟨wX.heap.size, i, none⟩ = (W.alloc (.cells #[.int .i64 x] 2)).frozen? ⟨wX.heap.size, i, none⟩ := fun i => World.frozen?_of_block hBk
 have hs7 : (W7.setCell ⟨wX.heap.size, 1, none⟩ v').heap.size = W7.heap.size := by simp [World.setCell]
 have hkeep : W7.grownBy (W7.setCell ⟨wX.heap.size, 1, none⟩ v') (some wX.heap.size) := ⟨rfl, rfl, rfl, by rw [hs7]; exact Nat.le_refl _, fun k hk hne => Below.heap_setCell _ _ _ _ (fun e => hne (by rw [e]))⟩
 have h7 : W7.ownsRow (wX.heap.size + 1) 2 1 v0 hs.length (nums .i64 hs) := h1.o0.kept hgrow (by
  cases e0 : v0.ownBlock with
  | none => exact .inl rfl
  | some g =>
   right
   intro e
   have a1 := h.lt g e0
   have a2 := (h.o1.lt g e.symm).1
   omega)
 refine ⟨v', W7, hsh, hr, (hc 1).trans h1.c1, (hf 1).trans h1.f1, (World.cell?_setCell_other _ _ _ _ (fun e => by injection e with _ e2 _; omega)).trans ((hc 0).trans h1.c0), World.cell?_setCell_same _ _ _ ((hc 1).trans h1.c1), (World.frozen?_setCell _ _ _ _).trans ((hf 0).trans h1.f0), (World.frozen?_setCell _ _ _ _).trans ((hf 1).trans h1.f1), ?_, ?_, h.lt, hNX, ?_, ?_⟩
 ·exact h7.kept hkeep (.inr (fun e => by have := (h7.lt _ e).1; omega))
 ·exact hown'.kept hkeep (.inr (fun e => by have := (hown'.lt _ e).1; omega))
 ·rw [hs7]; have := hgrow.size; simp at this; omega
 ·exact ((h1.bel.grown hgrow h1.bel.size (fun k hk => by have := (h.o1.lt k hk).1; omega)).setCell (Nat.le_refl _) _)
end Go.Proofs.YtfondhcppjkchaaGreat.Q
