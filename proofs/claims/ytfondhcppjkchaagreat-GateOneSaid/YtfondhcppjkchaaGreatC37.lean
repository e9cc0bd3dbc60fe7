import Derived.Test.YtfondhcppjkchaaGreatC36
set_option maxHeartbeats 40000000
set_option maxRecDepth 100000
set_option linter.unusedVariables false
set_option linter.unusedSimpArgs false
namespace Go.Proofs.YtfondhcppjkchaaGreat.Q
open Go.RowKit Go.Proofs.YtfondhcppjkchaaGreatW.PrintWords Go.Proofs.YtfondhcppjkchaaGreatW.PrintLast Go.Proofs.YtfondhcppjkchaaGreatW.PrintMore
attribute [local go_sem] max2_int min2_int max_two min_two max_three min_three max_four min_four
theorem exec_slice {P : Program} {ρ : Operand → Value} {o : Oper} {t e : TypeId} {x : Operand} {lo hi : Option Operand} (hu : P.underlying t = some (.slice e)) (ho : o.op = Op.slice t x lo hi none) {vx : Value} {vl vh : Option Value} (ex : ρ x = vx) (el : lo.map ρ = vl) (eh : hi.map ρ = vh) {v : Value} (h : ∀ w, (Instr.slice t vx vl vh none).run P w = .ok v w) (w : World) : (execOp ρ o).run P w = .ok (.value v) w := by
 subst ex el eh
 unfold execOp
 rw [ho]
 have h1 : (Instr.sliceAt t (ρ x) (lo.map ρ) (hi.map ρ) none).run P w = .ok v w := by
  rw [run_sliceAt_slice (h := by rw [hu]; simp [Program.elem, hu])]
  exact h w
 show Sem.run P (bind (Instr.sliceAt t (ρ x) (lo.map ρ) (hi.map ρ) none) fun y => pure (Next.value y)) w = _
 go_simp
def Drew (w w' : World) : Prop := ∃ n, w' = w.drewN n
theorem Drew.refl (w : World) : Drew w w := ⟨0, rfl⟩
theorem Drew.drewN {w w' : World} (h : Drew w w') (m : Nat) : Drew w (w'.drewN m) := by
 obtain ⟨n, rfl⟩ := h
 exact ⟨n + m, World.drewN_drewN _ _ _⟩
theorem Drew.drew {w w' : World} (h : Drew w w') : Drew w w'.drew := Drew.drewN h 1
def words_loop.l0 : Nat → List Int → Int → Option (List Int)
 | 0, _, _ => none
 | k + 1, x0, x3 => if x3 < (x0.length : Int) then (if x3 = 0 then (none) else (if ((x0.length : Int) % x3) = 0 then (if 0 ≤ x3 then (if x3 ≤ (x0.length : Int) then (if 0 ≤ (wrap64 ((x0.length : Int) - x3)) then (if (wrap64 ((x0.length : Int) - x3)) ≤ (x0.length : Int) then ((slices_Equal_int64_int64.f k (x0.drop (x3 : Int).toNat) (x0.take ((wrap64 ((x0.length : Int) - x3)) : Int).toNat)).bind fun t165 => (if t165 = true then (some (x0.take (x3 : Int).toNat)) else (words_loop.l0 k x0 (wrap64 (x3 + 1))))) else (none)) else (none)) else (none)) else (none)) else (words_loop.l0 k x0 (wrap64 (x3 + 1))))) else (some x0)
def words_loop.f (k : Nat) (l0 : List Int) : Option (List Int) := words_loop.l0 k l0 1
theorem words_loop.zma : ∀ k, (∀ y0 y1, LeO (words_loop.l0 k y0 y1) (words_loop.l0 (k + 1) y0 y1))
 | 0 => fun _ _ r h => by simp [words_loop.l0] at h
 | k + 1 => by
  have ih0 := words_loop.zma k
  ·intro y0 y1
   unfold words_loop.l0
   repeat' first
   | (with_reducible exact ih0 _ _)
   | (with_reducible exact slices_Equal_int64_int64.mono _ _ _)
   | (with_reducible exact LeO.refl _)
   | (with_reducible exact LeO.none _)
   | (with_reducible refine LeO.ite ?_ ?_)
   | (with_reducible refine LeO.bind ?_ (fun _ => ?_))
   | exact ih0 _ _
   | exact slices_Equal_int64_int64.mono _ _ _
   | exact LeO.none _
   | refine LeO.ite ?_ ?_
   | refine LeO.bind ?_ (fun _ => ?_)
theorem words_loop.mono : ∀ a0 k, LeO (words_loop.f k a0) (words_loop.f (k + 1) a0) := by
 intro a0 k
 have ih0 := words_loop.zma k
 unfold words_loop.f
 repeat' first
   | (with_reducible exact ih0 _ _)
   | (with_reducible exact slices_Equal_int64_int64.mono _ _ _)
   | (with_reducible exact LeO.refl _)
   | (with_reducible exact LeO.none _)
   | (with_reducible refine LeO.ite ?_ ?_)
   | (with_reducible refine LeO.bind ?_ (fun _ => ?_))
   | exact ih0 _ _
   | exact slices_Equal_int64_int64.mono _ _ _
   | exact LeO.none _
   | refine LeO.ite ?_ ?_
   | refine LeO.bind ?_ (fun _ => ?_)
theorem words_loop.calls (k : Nat) (P0_ : Nat → Prop) (u9000_ : Value) (l0 : List Int) (r : List Int) (w0 w : World) (hB : Below w0.heap.size w0 w) (ho0 : Kd.R (Kd.int .i64) 2 w w0.heap.size P0_ u9000_ l0) (h : words_loop.f k l0 = some r) :
  Calls Tryz.prog 120 #[u9000_] w fun e w' => ∃ v0_ : Value, e = .returned (v0_) ∧ Kd.R (Kd.int .i64) 2 w' w0.heap.size (fun k_ => (P0_ k_ ∨ w.heap.size ≤ k_)) v0_ r ∧ Below w0.heap.size w0 w' ∧ Drew w w' := by
 have HO0 := zb.mk (show Kd.R (Kd.int .i64) 2 w w0.heap.size (fun k_ => (P0_ k_ ∨ w.heap.size ≤ k_)) u9000_ l0 from Kd.zra ho0 (fun k_ hk => (.inl hk)))
 have HK := zb.mk (Drew.refl w)
 have HW0 := zb.mk hB.size
 have HB := zb.mk hB
 clear hB
 have H : (words_loop.l0 k l0 1) = some r := h
 clear h
 have H' := zb.mk H
 clear H
 go_enter Tryz.func120, Tryz.ntmps120
 go_wp2
 repeat (go_quiet (fail); try go_wp2)
 go_loopg [3] k (fun kq v3 w' => ∃ (x3_1 : Int), v3 = .int .i64 x3_1 ∧ zb (words_loop.l0 kq l0 x3_1 = some r) ∧ zb (kq ≤ k) ∧ zb (Kd.R (Kd.int .i64) 2 w' w0.heap.size (fun k_ => (P0_ k_ ∨ w.heap.size ≤ k_)) u9000_ l0) ∧ zb (Drew w w') ∧ zb (Below w0.heap.size w0 w'))
 case atStart => exact ⟨(1), (by first | rfl | (simp; done) | (simp [*]; done)), H', ⟨Nat.le_refl _⟩, ⟨by (with_reducible repeat (first | apply Kd.zv | apply Kd.zx | apply Kd.zz)); exact HO0.out⟩, ⟨by repeat (first | (with_reducible first | exact HK.out | apply Drew.drew | apply Drew.drewN | apply Drew.drew) | exact HK.out)⟩, ⟨by repeat with_reducible first | exact HB.out | apply zd | apply za | apply ze⟩⟩
 case round =>
  clear H'
  try clear c1
  obtain ⟨x3_1, rfl, HA, HK1, HO_0, HK, HB⟩ := hrel
  cases gk with
  | zero => exact absurd HA.out (by simp [words_loop.l0])
  | succ k1 =>
   have H := HA.out
   clear HA
   simp only [words_loop.l0] at H
   by_cases c2 : x3_1 < (l0.length : Int)
   ·rw [if_pos c2] at H
    have c2b0 : decide (x3_1 < (l0.length : Int)) = true := decide_eq_true c2
    clear c2
    by_cases c3 : x3_1 = 0
    ·rw [if_pos c3] at H
     exact absurd H (by simp)
    ·rw [if_neg c3] at H
     have c3b0 : (x3_1 == 0) = false := beq_eq_false_iff_ne.mpr c3
     have c3b1 : (x3_1 != 0) = true := bne_iff_ne.mpr c3
     by_cases c4 : ((l0.length : Int) % x3_1) = 0
     ·rw [if_pos c4] at H
      have c4b0 : (((l0.length : Int) % x3_1) == 0) = true := beq_iff_eq.mpr c4
      have c4b1 : (((l0.length : Int) % x3_1) != 0) = false := bne_eq_false_iff_eq.mpr c4
      clear c4
      by_cases c5 : 0 ≤ x3_1
      ·rw [if_pos c5] at H
       have c5b0 := eq_true c5
       have c5b1 : decide (0 ≤ x3_1) = true := decide_eq_true c5
       clear c5
       by_cases c6 : x3_1 ≤ (l0.length : Int)
       ·rw [if_pos c6] at H
        have c6b0 := eq_true c6
        have c6b1 : decide (x3_1 ≤ (l0.length : Int)) = true := decide_eq_true c6
        clear c6
        obtain ⟨y157, hy157⟩ : ∃ y_ : List Int, y_ = (l0.drop (x3_1 : Int).toNat) := ⟨_, rfl⟩
        replace H : (if 0 ≤ (wrap64 ((l0.length : Int) - x3_1)) then (if (wrap64 ((l0.length : Int) - x3_1)) ≤ (l0.length : Int) then ((slices_Equal_int64_int64.f k1 y157 (l0.take ((wrap64 ((l0.length : Int) - x3_1)) : Int).toNat)).bind fun t165 => (if t165 = true then (some (l0.take (x3_1 : Int).toNat)) else (words_loop.l0 k1 l0 (wrap64 (x3_1 + 1))))) else (none)) else (none)) = some r := by first | (rw [hy157]; with_reducible exact H) | (have H2_ := (Option.bind_some _ _).symm.trans H; rw [hy157]; with_reducible exact H2_) | (have H2_ := (Option.bind_some _ _).symm.trans H; with_reducible exact H2_) | with_reducible exact H | (rw [hy157]; exact H) | exact H
        have Ny157 := zb.mk hy157
        clear hy157
        obtain ⟨ji7, hji7⟩ : ∃ j_ : Int, (wrap64 ((l0.length : Int) - x3_1)) = j_ := ⟨_, rfl⟩
        replace H : (if 0 ≤ (ji7) then (if (ji7) ≤ (l0.length : Int) then ((slices_Equal_int64_int64.f k1 y157 (l0.take ((ji7) : Int).toNat)).bind fun t165 => (if t165 = true then (some (l0.take (x3_1 : Int).toNat)) else (words_loop.l0 k1 l0 (wrap64 (x3_1 + 1))))) else (none)) else (none)) = some r := by first | (rw [hji7] at H; exact H) | (simp only [hji7] at H ⊢; exact H)
        have hji7w : (IntKind.i64.wrap ((l0.length : Int) - x3_1)) = ji7 := (i64_w _).trans hji7
        by_cases c8 : 0 ≤ (ji7)
        ·rw [if_pos c8] at H
         have c8b0 := eq_true c8
         have c8b1 : decide (0 ≤ (ji7)) = true := decide_eq_true c8
         clear c8
         by_cases c9 : (ji7) ≤ (l0.length : Int)
         ·rw [if_pos c9] at H
          have c9b0 := eq_true c9
          have c9b1 : decide ((ji7) ≤ (l0.length : Int)) = true := decide_eq_true c9
          clear c9
          obtain ⟨y161, hy161⟩ : ∃ y_ : List Int, y_ = (l0.take ((ji7) : Int).toNat) := ⟨_, rfl⟩
          replace H : ((slices_Equal_int64_int64.f k1 y157 y161).bind fun t165 => (if t165 = true then (some (l0.take (x3_1 : Int).toNat)) else (words_loop.l0 k1 l0 (wrap64 (x3_1 + 1))))) = some r := by first | (rw [hy161]; with_reducible exact H) | (have H2_ := (Option.bind_some _ _).symm.trans H; rw [hy161]; with_reducible exact H2_) | (have H2_ := (Option.bind_some _ _).symm.trans H; with_reducible exact H2_) | with_reducible exact H | (rw [hy161]; exact H) | exact H
          have Ny161 := zb.mk hy161
          clear hy161
          replace H := Option.bind_eq_some_iff.mp H
          obtain ⟨t165, A100, H⟩ := H
          replace H : (if t165 = true then (some (l0.take (x3_1 : Int).toNat)) else (words_loop.l0 k1 l0 (wrap64 (x3_1 + 1)))) = some r := H
          have A10 := zb.mk A100
          clear A100
          by_cases c11 : t165 = true
          ·subst c11
           have H1 : (some (l0.take (x3_1 : Int).toNat)) = some r := by rw [if_pos rfl] at H; exact H
           clear H
           have H := H1
           clear H1
           have c12b0 := eq_true (of_decide_eq_true (by first | (with_reducible assumption) | assumption) : x3_1 ≤ (l0.length : Int))
           obtain ⟨y166, hy166⟩ : ∃ y_ : List Int, y_ = (l0.take (x3_1 : Int).toNat) := ⟨_, rfl⟩
           replace H : (some y166) = some r := by first | (rw [hy166]; with_reducible exact H) | (have H2_ := (Option.bind_some _ _).symm.trans H; rw [hy166]; with_reducible exact H2_) | (have H2_ := (Option.bind_some _ _).symm.trans H; with_reducible exact H2_) | with_reducible exact H | (rw [hy166]; exact H) | exact H
           have Ny166 := zb.mk hy166
           clear hy166
           obtain rfl := Option.some.inj H
           obtain ⟨Ao13, co13, eo13⟩ := Kd.zoa HO_0.out
           subst eo13
           have q14 : (x3_1 : Int) ≤ ((l0.length : Int) : Int) := of_decide_eq_true (by first | (with_reducible assumption) | assumption)
           obtain ⟨i014, hi014, _, hsz14, _⟩ := info_parts info2
           have hroom14 : l0.length ≤ co13 := (Kd.R_reads' HO_0.out).2.1
           have hC14 : Kd.C (Kd.int .i64) _ Ao13 l0.length l0 := (Kd.R_reads' HO_0.out).2.2
           have q014 : (0 : Int) ≤ (x3_1 : Int) := of_decide_eq_true (by first | (with_reducible assumption) | assumption)
           have hcut14 := cut_from (P := Tryz.prog) 24 2 .i64 Tryz.underlying24 hi014 1 hsz14 Ao13 l0.length co13 x3_1 q014 q14
           have hr14 := Kd.C_drop (m := (x3_1 : Int).toNat) (c := co13) hC14 (by omega) hroom14
           obtain ⟨A14, hA14⟩ : ∃ A1, A1 = (if co13 = (x3_1 : Int).toNat then Ao13 else (Ao13 : Option Addr).map (·.add ((x3_1 : Int).toNat * 1))) := ⟨_, rfl⟩
           obtain ⟨c14, hc14⟩ : ∃ c1, c1 = co13 - (x3_1 : Int).toNat := ⟨_, rfl⟩
           have hy14 : y157.length = l0.length - (x3_1 : Int).toNat := (by rw [Ny157.out, List.length_drop] <;> omega)
           rw [show (l0).drop (x3_1 : Int).toNat = y157 from Ny157.out.symm] at hr14
           replace hr14 : Kd.C (Kd.int .i64) _ A14 y157.length y157 := (by rw [hA14]; exact hr14)
           rw [← hy14, ← hA14, ← hc14] at hcut14
           have HR160 := zb.mk hr14
           have HC160 := zb.mk (show y157.length ≤ c14 from by rw [hy14, hc14]; exact Nat.sub_le_sub_right hroom14 _)
           clear hr14 hC14 hroom14 hi014 hsz14 hc14
           have KY14 := zb.mk hy14
           have KA14 := zb.mk hA14
           clear hy14 hA14
           have KL14 := zb.mk (show (x3_1 : Int).toNat ≤ l0.length from by omega)
           replace q14 := eq_true q14
           have q15 : ((ji7) : Int) ≤ ((l0.length : Int) : Int) := of_decide_eq_true (by first | (with_reducible assumption) | assumption)
           obtain ⟨i015, hi015, _, hsz15, _⟩ := info_parts info2
           have hroom15 : l0.length ≤ co13 := (Kd.R_reads' HO_0.out).2.1
           have hC15 : Kd.C (Kd.int .i64) _ Ao13 l0.length l0 := (Kd.R_reads' HO_0.out).2.2
           have hcut15 := cut_to (P := Tryz.prog) 24 2 .i64 Tryz.underlying24 hi015 Ao13 l0.length co13 (ji7) (of_decide_eq_true (by first | (with_reducible assumption) | assumption)) q15 hroom15
           have hr15 := Kd.C_take (m := ((ji7) : Int).toNat) hC15 (by omega)
           have hy15 : y161.length = ((ji7) : Int).toNat := (by rw [Ny161.out, List.length_take]; omega)
           rw [← Ny161.out] at hr15
           rw [← hy15] at hcut15
           have HR164 := zb.mk hr15
           have HC164 := zb.mk (show y161.length ≤ co13 from by omega)
           clear hr15 hC15 hroom15 hi015 hsz15
           have KY15 := zb.mk hy15
           clear hy15
           have KL15 := zb.mk (show ((ji7) : Int).toNat ≤ l0.length from by omega)
           replace q15 := eq_true q15
           go_wp2_with fail
           have htm : (l0.length : Int).tmod x3_1 = 0 := by
            rw [Int.tmod_eq_emod_of_nonneg (by omega)]; exact beq_iff_eq.mp c4b0
           apply wp_ex (I := fun W2 => ∃ n, W2 = wr.drewN n)
           ·refine wp_region_any (by kernel_rfl) ?_
            (refine wpAny_take (i := 0) (v := ?_) rfl (by kernel_rfl) (by kernel_rfl) (by kernel_rfl) (fun _ _ _ h => h) (Or.inl ⟨by kernel_rfl, ?_⟩) ?_; rotate_left; (intro w; go_simp); (try with_reducible rfl))
            (refine wpAny_take (i := 1) (v := ?_) rfl (by kernel_rfl) (by kernel_rfl) (by kernel_rfl) (fun _ _ _ h => h) (Or.inl ⟨by kernel_rfl, ?_⟩) ?_; rotate_left; (intro w; go_simp); (try with_reducible rfl))
            (refine wpAny_take (i := 2) (v := ?_) rfl (by kernel_rfl) (by kernel_rfl) (by kernel_rfl) (fun _ _ _ h => h) (Or.inl ⟨by kernel_rfl, ?_⟩) ?_; rotate_left; (intro w; go_simp); (try with_reducible rfl))
            (refine wpAny_take (i := 3) (v := ?_) rfl (by kernel_rfl) (by kernel_rfl) (by kernel_rfl) (fun _ _ _ h => h) (Or.inl ⟨by kernel_rfl, ?_⟩) ?_; rotate_left; (intro w; go_simp); (try with_reducible rfl))
            (refine wpAny_take (i := 4) (v := ?_) rfl (by kernel_rfl) (by kernel_rfl) (by kernel_rfl) (fun _ _ _ h => h) (Or.inl ⟨by kernel_rfl, ?_⟩) ?_; rotate_left; (intro w; go_simp); (try with_reducible rfl))
            (refine wpAny_take (i := 5) (v := ?_) rfl (by kernel_rfl) (by kernel_rfl) (by kernel_rfl) (fun _ _ _ h => h) (Or.inl ⟨by kernel_rfl, ?_⟩) ?_; rotate_left; (intro w; go_simp); (try with_reducible rfl))
            (refine wpAny_take (i := 6) (v := ?_) rfl (by kernel_rfl) (by kernel_rfl) (by kernel_rfl) (fun _ _ _ h => h) (Or.inl ⟨by kernel_rfl, ?_⟩) ?_; rotate_left; (intro w; go_simp); (try with_reducible rfl))
            (refine wpAny_take (i := 7) (v := ?_) rfl (by kernel_rfl) (by kernel_rfl) (by kernel_rfl) (fun _ _ _ h => h) (Or.inl ⟨by kernel_rfl, ?_⟩) ?_; rotate_left; (intro w; go_simp); (try with_reducible rfl))
            (refine wpAny_take (i := 8) rfl (by kernel_rfl) (by kernel_rfl) (by kernel_rfl) (fun _ _ _ h => h) (Or.inl ⟨by kernel_rfl, exec_slice Tryz.underlying24 rfl (by kernel_rfl) (by kernel_rfl) (by kernel_rfl) hcut14⟩) ?_)
            (refine wpAny_take (i := 9) (v := ?_) rfl (by kernel_rfl) (by kernel_rfl) (by kernel_rfl) (fun _ _ _ h => h) (Or.inl ⟨by kernel_rfl, ?_⟩) ?_; rotate_left; (intro w; go_simp); (try with_reducible rfl))
            (refine wpAny_take (i := 10) (v := ?_) rfl (by kernel_rfl) (by kernel_rfl) (by kernel_rfl) (fun _ _ _ h => h) (Or.inl ⟨by kernel_rfl, ?_⟩) ?_; rotate_left; (intro w; go_simp); (try with_reducible rfl))
            (refine wpAny_take (i := 11) (v := ?_) rfl (by kernel_rfl) (by kernel_rfl) (by kernel_rfl) (fun _ _ _ h => h) (Or.inl ⟨by kernel_rfl, ?_⟩) ?_; rotate_left; (intro w; go_simp); (try with_reducible rfl))
            (refine wpAny_take (i := 12) (v := ?_) rfl (by kernel_rfl) (by kernel_rfl) (by kernel_rfl) (fun _ _ _ h => h) (Or.inl ⟨by kernel_rfl, ?_⟩) ?_; rotate_left; (intro w; go_simp); (try with_reducible rfl))
            (refine wpAny_take (i := 13) (v := ?_) rfl (by kernel_rfl) (by kernel_rfl) (by kernel_rfl) (fun _ _ _ h => h) (Or.inl ⟨by kernel_rfl, ?_⟩) ?_; rotate_left; (intro w; go_simp); (try with_reducible rfl))
            (refine wpAny_take (i := 14) rfl (by kernel_rfl) (by kernel_rfl) (by kernel_rfl) (fun _ _ _ h => h) (Or.inl ⟨by kernel_rfl, exec_slice Tryz.underlying24 rfl (by kernel_rfl) (by kernel_rfl) (by kernel_rfl) hcut15⟩) ?_)
            refine wpAny_ready (rs := [15]) (by kernel_rfl) (by simp) ?_
            refine AllReady.cons rfl (fun K hK => ?_) AllReady.nil
            go_simp
            go_wp2_with (go_at_call 147; (with_reducible refine (slices_Equal_int64_int64.calls k1 _ _ y157 _ _ y161 true _ ?side1 ?side2 ?side3 ?side4 A10.out).mono ?_); (case side1 => exact Kd.zia HR160.out); (case side2 => exact HC160.out); (case side3 => exact Kd.zia HR164.out); (case side4 => exact HC164.out); rintro e w2 ⟨rfl, ⟨q, rfl⟩⟩; dsimp only)
            (refine wpAny_take (i := 16) (v := ?_) rfl (by kernel_rfl) (by kernel_rfl) (by kernel_rfl) (fun _ _ _ h => h) (Or.inl ⟨by kernel_rfl, ?_⟩) ?_; rotate_left; (intro w; go_simp); (try with_reducible rfl))
            refine wpAny_done (by kernel_rfl) ?_ _
            exact ⟨rfl, 1 + q, by first | rfl | exact World.drewN_drewN _ _ _⟩
           rintro W2 ⟨n2, rfl⟩
           have q16 : (x3_1 : Int) ≤ ((l0.length : Int) : Int) := of_decide_eq_true (by first | (with_reducible assumption) | assumption)
           obtain ⟨i016, hi016, _, hsz16, _⟩ := info_parts info2
           have hcut16 := cut_to (P := Tryz.prog) 24 2 .i64 Tryz.underlying24 hi016 Ao13 l0.length co13 x3_1 (of_decide_eq_true (by first | (with_reducible assumption) | assumption)) q16 (Kd.R_reads' HO_0.out).2.1
           have hr16 := Kd.R_take (m := (x3_1 : Int).toNat) HO_0.out (by omega)
           have hy16 : y166.length = (x3_1 : Int).toNat := (by rw [Ny166.out, List.length_take]; omega)
           rw [← Ny166.out] at hr16
           rw [← hy16] at hr16 hcut16
           clear hy16 hi016 hsz16 HO_0
           have HO168 := zb.mk hr16
           clear hr16
           replace q16 := eq_true q16
           go_wp2_with fail
           go_ret
           exact ⟨_, by first | rfl | (simp [zp, zq] <;> rfl) | (simp only [← hji7]; first | rfl | (simp [zp, zq] <;> rfl)) | (simp [*, zp, zq] <;> rfl), by (with_reducible repeat (first | apply Kd.zv | apply Kd.zx | apply Kd.zz)); exact HO168.out, by repeat with_reducible first | exact HB.out | apply zd | apply za | apply ze, by repeat (first | (with_reducible first | exact HK.out | apply Drew.drew | apply Drew.drewN | apply Drew.drew) | exact HK.out)⟩
          ·replace c11 := Bool.eq_false_iff.mpr c11
           subst c11
           have H1 : (words_loop.l0 k1 l0 (wrap64 (x3_1 + 1))) = some r := by rw [if_neg (show ¬ (false = true) by decide)] at H; exact H
           clear H
           have H := H1
           clear H1
           have H' := zb.mk H
           clear H
           obtain ⟨Ao17, co17, eo17⟩ := Kd.zoa HO_0.out
           subst eo17
           have q18 : (x3_1 : Int) ≤ ((l0.length : Int) : Int) := of_decide_eq_true (by first | (with_reducible assumption) | assumption)
           obtain ⟨i018, hi018, _, hsz18, _⟩ := info_parts info2
           have hroom18 : l0.length ≤ co17 := (Kd.R_reads' HO_0.out).2.1
           have hC18 : Kd.C (Kd.int .i64) _ Ao17 l0.length l0 := (Kd.R_reads' HO_0.out).2.2
           have q018 : (0 : Int) ≤ (x3_1 : Int) := of_decide_eq_true (by first | (with_reducible assumption) | assumption)
           have hcut18 := cut_from (P := Tryz.prog) 24 2 .i64 Tryz.underlying24 hi018 1 hsz18 Ao17 l0.length co17 x3_1 q018 q18
           have hr18 := Kd.C_drop (m := (x3_1 : Int).toNat) (c := co17) hC18 (by omega) hroom18
           obtain ⟨A18, hA18⟩ : ∃ A1, A1 = (if co17 = (x3_1 : Int).toNat then Ao17 else (Ao17 : Option Addr).map (·.add ((x3_1 : Int).toNat * 1))) := ⟨_, rfl⟩
           obtain ⟨c18, hc18⟩ : ∃ c1, c1 = co17 - (x3_1 : Int).toNat := ⟨_, rfl⟩
           have hy18 : y157.length = l0.length - (x3_1 : Int).toNat := (by rw [Ny157.out, List.length_drop] <;> omega)
           rw [show (l0).drop (x3_1 : Int).toNat = y157 from Ny157.out.symm] at hr18
           replace hr18 : Kd.C (Kd.int .i64) _ A18 y157.length y157 := (by rw [hA18]; exact hr18)
           rw [← hy18, ← hA18, ← hc18] at hcut18
           have HR160 := zb.mk hr18
           have HC160 := zb.mk (show y157.length ≤ c18 from by rw [hy18, hc18]; exact Nat.sub_le_sub_right hroom18 _)
           clear hr18 hC18 hroom18 hi018 hsz18 hc18
           have KY18 := zb.mk hy18
           have KA18 := zb.mk hA18
           clear hy18 hA18
           have KL18 := zb.mk (show (x3_1 : Int).toNat ≤ l0.length from by omega)
           replace q18 := eq_true q18
           have q19 : ((ji7) : Int) ≤ ((l0.length : Int) : Int) := of_decide_eq_true (by first | (with_reducible assumption) | assumption)
           obtain ⟨i019, hi019, _, hsz19, _⟩ := info_parts info2
           have hroom19 : l0.length ≤ co17 := (Kd.R_reads' HO_0.out).2.1
           have hC19 : Kd.C (Kd.int .i64) _ Ao17 l0.length l0 := (Kd.R_reads' HO_0.out).2.2
           have hcut19 := cut_to (P := Tryz.prog) 24 2 .i64 Tryz.underlying24 hi019 Ao17 l0.length co17 (ji7) (of_decide_eq_true (by first | (with_reducible assumption) | assumption)) q19 hroom19
           have hr19 := Kd.C_take (m := ((ji7) : Int).toNat) hC19 (by omega)
           have hy19 : y161.length = ((ji7) : Int).toNat := (by rw [Ny161.out, List.length_take]; omega)
           rw [← Ny161.out] at hr19
           rw [← hy19] at hcut19
           have HR164 := zb.mk hr19
           have HC164 := zb.mk (show y161.length ≤ co17 from by omega)
           clear hr19 hC19 hroom19 hi019 hsz19
           have KY19 := zb.mk hy19
           clear hy19
           have KL19 := zb.mk (show ((ji7) : Int).toNat ≤ l0.length from by omega)
           replace q19 := eq_true q19
           go_wp2_with fail
           have htm : (l0.length : Int).tmod x3_1 = 0 := by
            rw [Int.tmod_eq_emod_of_nonneg (by omega)]; exact beq_iff_eq.mp c4b0
           apply wp_ex (I := fun W2 => ∃ n, W2 = wr.drewN n)
           ·refine wp_region_any (by kernel_rfl) ?_
            (refine wpAny_take (i := 0) (v := ?_) rfl (by kernel_rfl) (by kernel_rfl) (by kernel_rfl) (fun _ _ _ h => h) (Or.inl ⟨by kernel_rfl, ?_⟩) ?_; rotate_left; (intro w; go_simp); (try with_reducible rfl))
            (refine wpAny_take (i := 1) (v := ?_) rfl (by kernel_rfl) (by kernel_rfl) (by kernel_rfl) (fun _ _ _ h => h) (Or.inl ⟨by kernel_rfl, ?_⟩) ?_; rotate_left; (intro w; go_simp); (try with_reducible rfl))
            (refine wpAny_take (i := 2) (v := ?_) rfl (by kernel_rfl) (by kernel_rfl) (by kernel_rfl) (fun _ _ _ h => h) (Or.inl ⟨by kernel_rfl, ?_⟩) ?_; rotate_left; (intro w; go_simp); (try with_reducible rfl))
            (refine wpAny_take (i := 3) (v := ?_) rfl (by kernel_rfl) (by kernel_rfl) (by kernel_rfl) (fun _ _ _ h => h) (Or.inl ⟨by kernel_rfl, ?_⟩) ?_; rotate_left; (intro w; go_simp); (try with_reducible rfl))
            (refine wpAny_take (i := 4) (v := ?_) rfl (by kernel_rfl) (by kernel_rfl) (by kernel_rfl) (fun _ _ _ h => h) (Or.inl ⟨by kernel_rfl, ?_⟩) ?_; rotate_left; (intro w; go_simp); (try with_reducible rfl))
            (refine wpAny_take (i := 5) (v := ?_) rfl (by kernel_rfl) (by kernel_rfl) (by kernel_rfl) (fun _ _ _ h => h) (Or.inl ⟨by kernel_rfl, ?_⟩) ?_; rotate_left; (intro w; go_simp); (try with_reducible rfl))
            (refine wpAny_take (i := 6) (v := ?_) rfl (by kernel_rfl) (by kernel_rfl) (by kernel_rfl) (fun _ _ _ h => h) (Or.inl ⟨by kernel_rfl, ?_⟩) ?_; rotate_left; (intro w; go_simp); (try with_reducible rfl))
            (refine wpAny_take (i := 7) (v := ?_) rfl (by kernel_rfl) (by kernel_rfl) (by kernel_rfl) (fun _ _ _ h => h) (Or.inl ⟨by kernel_rfl, ?_⟩) ?_; rotate_left; (intro w; go_simp); (try with_reducible rfl))
            (refine wpAny_take (i := 8) rfl (by kernel_rfl) (by kernel_rfl) (by kernel_rfl) (fun _ _ _ h => h) (Or.inl ⟨by kernel_rfl, exec_slice Tryz.underlying24 rfl (by kernel_rfl) (by kernel_rfl) (by kernel_rfl) hcut18⟩) ?_)
            (refine wpAny_take (i := 9) (v := ?_) rfl (by kernel_rfl) (by kernel_rfl) (by kernel_rfl) (fun _ _ _ h => h) (Or.inl ⟨by kernel_rfl, ?_⟩) ?_; rotate_left; (intro w; go_simp); (try with_reducible rfl))
            (refine wpAny_take (i := 10) (v := ?_) rfl (by kernel_rfl) (by kernel_rfl) (by kernel_rfl) (fun _ _ _ h => h) (Or.inl ⟨by kernel_rfl, ?_⟩) ?_; rotate_left; (intro w; go_simp); (try with_reducible rfl))
            (refine wpAny_take (i := 11) (v := ?_) rfl (by kernel_rfl) (by kernel_rfl) (by kernel_rfl) (fun _ _ _ h => h) (Or.inl ⟨by kernel_rfl, ?_⟩) ?_; rotate_left; (intro w; go_simp); (try with_reducible rfl))
            (refine wpAny_take (i := 12) (v := ?_) rfl (by kernel_rfl) (by kernel_rfl) (by kernel_rfl) (fun _ _ _ h => h) (Or.inl ⟨by kernel_rfl, ?_⟩) ?_; rotate_left; (intro w; go_simp); (try with_reducible rfl))
            (refine wpAny_take (i := 13) (v := ?_) rfl (by kernel_rfl) (by kernel_rfl) (by kernel_rfl) (fun _ _ _ h => h) (Or.inl ⟨by kernel_rfl, ?_⟩) ?_; rotate_left; (intro w; go_simp); (try with_reducible rfl))
            (refine wpAny_take (i := 14) rfl (by kernel_rfl) (by kernel_rfl) (by kernel_rfl) (fun _ _ _ h => h) (Or.inl ⟨by kernel_rfl, exec_slice Tryz.underlying24 rfl (by kernel_rfl) (by kernel_rfl) (by kernel_rfl) hcut19⟩) ?_)
            refine wpAny_ready (rs := [15]) (by kernel_rfl) (by simp) ?_
            refine AllReady.cons rfl (fun K hK => ?_) AllReady.nil
            go_simp
            go_wp2_with (go_at_call 147; (with_reducible refine (slices_Equal_int64_int64.calls k1 _ _ y157 _ _ y161 false _ ?side1 ?side2 ?side3 ?side4 A10.out).mono ?_); (case side1 => exact Kd.zia HR160.out); (case side2 => exact HC160.out); (case side3 => exact Kd.zia HR164.out); (case side4 => exact HC164.out); rintro e w2 ⟨rfl, ⟨q, rfl⟩⟩; dsimp only)
            (refine wpAny_take (i := 16) (v := ?_) rfl (by kernel_rfl) (by kernel_rfl) (by kernel_rfl) (fun _ _ _ h => h) (Or.inl ⟨by kernel_rfl, ?_⟩) ?_; rotate_left; (intro w; go_simp); (try with_reducible rfl))
            refine wpAny_done (by kernel_rfl) ?_ _
            exact ⟨rfl, 1 + q, by first | rfl | exact World.drewN_drewN _ _ _⟩
           rintro W2 ⟨n2, rfl⟩
           go_wp2_with fail
           go_roundg k1
           case measure => have := HK1.out; omega
           case rel => exact ⟨(wrap64 (x3_1 + 1)), (by first | rfl | (simp; done) | (simp [*]; done)), H', ⟨by have := HK1.out; omega⟩, ⟨by (with_reducible repeat (first | apply Kd.zv | apply Kd.zx | apply Kd.zz)); exact HO_0.out⟩, ⟨by repeat (first | (with_reducible first | exact HK.out | apply Drew.drew | apply Drew.drewN | apply Drew.drew) | exact HK.out)⟩, ⟨by repeat with_reducible first | exact HB.out | apply zd | apply za | apply ze⟩⟩
         ·rw [if_neg c9] at H
          exact absurd H (by simp)
        ·rw [if_neg c8] at H
         exact absurd H (by simp)
       ·rw [if_neg c6] at H
        exact absurd H (by simp)
      ·rw [if_neg c5] at H
       exact absurd H (by simp)
     ·rw [if_neg c4] at H
      have c4b0 : (((l0.length : Int) % x3_1) == 0) = false := beq_eq_false_iff_ne.mpr c4
      have c4b1 : (((l0.length : Int) % x3_1) != 0) = true := bne_iff_ne.mpr c4
      have H' := zb.mk H
      clear H
      obtain ⟨Ao20, co20, eo20⟩ := Kd.zoa HO_0.out
      subst eo20
      go_wp2
      repeat (go_quiet (fail); try go_wp2)
      go_roundg k1
      case measure => have := HK1.out; omega
      case rel => exact ⟨(wrap64 (x3_1 + 1)), (by first | rfl | (simp; done) | (simp [*]; done)), H', ⟨by have := HK1.out; omega⟩, ⟨by (with_reducible repeat (first | apply Kd.zv | apply Kd.zx | apply Kd.zz)); exact HO_0.out⟩, ⟨by repeat (first | (with_reducible first | exact HK.out | apply Drew.drew | apply Drew.drewN | apply Drew.drew) | exact HK.out)⟩, ⟨by repeat with_reducible first | exact HB.out | apply zd | apply za | apply ze⟩⟩
   ·rw [if_neg c2] at H
    have c2b0 : decide (x3_1 < (l0.length : Int)) = false := decide_eq_false c2
    clear c2
    obtain rfl := Option.some.inj H
    obtain ⟨Ao21, co21, eo21⟩ := Kd.zoa HO_0.out
    subst eo21
    go_wp2
    repeat (go_quiet (fail); try go_wp2)
    go_ret
    exact ⟨_, by first | rfl | (simp [zp, zq] <;> rfl) | (simp [*, zp, zq] <;> rfl), by (with_reducible repeat (first | apply Kd.zv | apply Kd.zx | apply Kd.zz)); exact HO_0.out, by repeat with_reducible first | exact HB.out | apply zd | apply za | apply ze, by repeat (first | (with_reducible first | exact HK.out | apply Drew.drew | apply Drew.drewN | apply Drew.drew) | exact HK.out)⟩
theorem rd_drop (l : List Int) (x : Int) (h0 : 0 ≤ x) (h : x < l.length) : l.drop x.toNat = rd l x :: l.drop (x + 1).toNat := by
 have e : (x + 1).toNat = x.toNat + 1 := by omega
 have hl : x.toNat < l.length := by omega
 rw [e, List.drop_eq_getElem_cons hl]
 congr 1
 unfold rd; rw [List.getD_eq_getElem?_getD, List.getElem?_eq_getElem hl]; rfl
theorem equal_l0 (a b : List Int) (hab : a.length = b.length) (hl : a.length ≤ 9223372036854775806) : ∀ (k : Nat) (x : Int), 0 ≤ x → x ≤ a.length → a.length - x.toNat < k → slices_Equal_int64_int64.l0 k a b a.length x = some (decide (a.drop x.toNat = b.drop x.toNat)) := by
 intro k
 induction k with
 | zero => intro x h0 h1 hk; omega
 | succ k ih =>
  intro x h0 h1 hk
  unfold slices_Equal_int64_int64.l0
  by_cases hlt : x < (a.length : Int)
  ·rw [if_pos hlt, if_pos h0, if_pos hlt, if_pos (by omega)]
   rw [rd_drop a x h0 hlt, rd_drop b x h0 (by omega)]
   by_cases e : rd a x = rd b x
   ·rw [if_pos e, show wrap64 (x + 1) = x + 1 from zsa (by unfold I64; omega), ih (x + 1) (by omega) (by omega) (by omega)]
    simp [e]
   ·rw [if_neg e]
    simp [e]
  ·rw [if_neg hlt]
   have e : x.toNat = a.length := by omega
   rw [e, List.drop_length, hab, List.drop_length]
   simp
theorem equal_f (a b : List Int) (hl : a.length ≤ 9223372036854775806) (k : Nat) (hk : a.length < k) : slices_Equal_int64_int64.f k a b = some (decide (a = b)) := by
 unfold slices_Equal_int64_int64.f
 by_cases h : a.length = b.length
 ·rw [if_pos (by omega), equal_l0 a b h hl _ 0 (by omega) (by omega) (by simpa using hk)]
  simp
 ·rw [if_neg (by omega)]
  congr 1
  symm
  rw [decide_eq_false_iff_not]
  intro e; rw [e] at h; exact h rfl
def perB (l : List Int) (q : Nat) : Bool := decide (l.length % q = 0) && decide (l.drop q = l.take (l.length - q))
def loopFrom (l : List Int) : Nat → Nat → Nat
 | 0, _ => l.length
 | k + 1, q => if q < l.length then if perB l q = true then q else loopFrom l k (q + 1) else l.length
def loopS (l : List Int) : Nat := loopFrom l l.length 1
theorem loopFrom_le (l : List Int) : ∀ k q, loopFrom l k q ≤ l.length
 | 0, q => Nat.le_refl _
 | k + 1, q => by
  unfold loopFrom
  split
  ·split
   ·omega
   ·exact loopFrom_le l k (q + 1)
  ·exact Nat.le_refl _
theorem loopFrom_big (l : List Int) : ∀ k q, l.length ≤ q → loopFrom l k q = l.length
 | 0, q, _ => rfl
 | k + 1, q, h => by
  show (if q < l.length then _ else l.length) = l.length
  rw [if_neg (by omega)]
theorem loop_l0 (l : List Int) (hl : l.length ≤ 4611686018427387904) : ∀ (m k q : Nat), 1 ≤ q → l.length + 1 - q ≤ m → l.length + m < k → words_loop.l0 k l q = some (l.take (loopFrom l m q)) := by
 intro m
 induction m with
 | zero =>
  intro k q h1 h2 hk
  cases k with
  | zero => omega
  | succ k =>
   unfold words_loop.l0
   rw [if_neg (by omega)]
   show some l = some (l.take l.length)
   rw [List.take_length]
 | succ m ih =>
  intro k q h1 h2 hk
  cases k with
  | zero => omega
  | succ k =>
   unfold words_loop.l0
   by_cases hlt : (q : Int) < l.length
   ·rw [if_pos hlt, if_neg (by omega)]
    have hw : wrap64 ((q : Int) + 1) = ((q + 1 : Nat) : Int) := by rw [zsa (by unfold I64; omega)]; omega
    have hi := ih k (q + 1) (by omega) (by omega) (by omega)
    have hf : loopFrom l (m + 1) q = if perB l q = true then q else loopFrom l m (q + 1) := by
     show (if q < l.length then if perB l q = true then q else loopFrom l m (q + 1) else l.length) = _
     rw [if_pos (by omega)]
    rw [hf, hw]
    by_cases hm : (l.length : Int) % q = 0
    ·have hmn : l.length % q = 0 := by omega
     have hs : wrap64 ((l.length : Int) - q) = ((l.length - q : Nat) : Int) := by rw [zsa (by unfold I64; omega)]; omega
     rw [if_pos hm, if_pos (by omega), if_pos (by omega), hs, if_pos (by omega), if_pos (by omega)]
     rw [equal_f _ _ (by rw [List.length_drop]; omega) k (by rw [List.length_drop]; omega), Option.bind_some, hi]
     have e0 : ((q : Nat) : Int).toNat = q := by omega
     have e1 : ((l.length - q : Nat) : Int).toNat = l.length - q := by omega
     rw [e0, e1]
     by_cases he : l.drop q = l.take (l.length - q)
     ·have hp : perB l q = true := by unfold perB; simp [hmn, he]
      rw [if_pos (decide_eq_true he), if_pos hp]
     ·have hp : ¬ perB l q = true := by unfold perB; simp [he]
      rw [if_neg (by simpa using he), if_neg hp]
    ·have hp : ¬ perB l q = true := by
      unfold perB
      have : ¬ l.length % q = 0 := by omega
      simp [this]
     rw [if_neg hm, hi, if_neg hp]
   ·rw [if_neg hlt, loopFrom_big l _ q (by omega), List.take_length]
theorem loop_f (l : List Int) (hl : l.length ≤ 4611686018427387904) (k : Nat) (hk : 2 * l.length < k) : words_loop.f k l = some (l.take (loopS l)) := by
 unfold words_loop.f loopS
 exact loop_l0 l hl l.length k 1 (by omega) (by omega) (by omega)
theorem loopS_le (l : List Int) : loopS l ≤ l.length := loopFrom_le l _ _
theorem loopFrom_pos (l : List Int) (h : 0 < l.length) : ∀ k q, 0 < q → 0 < loopFrom l k q
 | 0, q, _ => h
 | k + 1, q, hq => by
  unfold loopFrom
  split
  ·split
   ·exact hq
   ·exact loopFrom_pos l h k (q + 1) (by omega)
  ·exact h
theorem loopS_pos (l : List Int) (h : 0 < l.length) : 0 < loopS l := loopFrom_pos l h _ _ (by omega)
end Go.Proofs.YtfondhcppjkchaaGreat.Q
