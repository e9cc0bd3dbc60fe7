import Derived.Test.YtfondhcppjkchaaGreatC16
import Derived.Test.YtfondhcppjkchaaGreatC5
import Derived.IntWalk
import Derived.Test.YtfondhcppjkchaaGreatC3
import Derived.Test.YtfondhcppjkchaaGreatC12
set_option maxHeartbeats 40000000
set_option maxRecDepth 100000
set_option linter.unusedVariables false
set_option linter.unusedSimpArgs false
namespace Go.Proofs.YtfondhcppjkchaaGreat.Q
open Go.RowKit Go.Proofs.YtfondhcppjkchaaGreatW.PrintWords Go.Proofs.YtfondhcppjkchaaGreatW.PrintLast
open Go.Proofs.YtfondhcppjkchaaGreatW.PrintMore
noncomputable def countL (s0 s1 c0 c1 : Int) : Option (Int × Int × Int) := lim fun k => unfold_Count.f k s0 s1 c0 c1
theorem countL_calls (s0 s1 c0 c1 h p e : Int) (W : World) (hc : countL s0 s1 c0 c1 = some (h, p, e)) :
  Calls Tryz.prog 34 #[.agg #[.int .i64 s0, .int .i64 s1], .agg #[.int .i64 c0, .int .i64 c1]] W fun e' w' => e' = .returned (.tuple #[.int .i64 h, .int .i64 p, .int .i64 e]) ∧ Below W.heap.size W w' := by
 obtain ⟨k, hk⟩ := zob hc
 exact unfold_Count.calls k s0 s1 c0 c1 h p e W hk
def foldT (h p n : Int) : Int := if h < n then (n - h) / p else 0
def foldS (s1 h p n : Int) : Int × Int × Int := (wrap64 (n - wrap64 (foldT h p n * p)), wrap64 (foldT h p n * s1), 0)
theorem wz : wrap64 0 = 0 := zsa (by unfold I64; omega)
def foldBad (e n : Int) : Prop := e ≠ 0 ∨ n < 0 ∨ n > 1125899906842624
instance (e n : Int) : Decidable (foldBad e n) := by unfold foldBad; infer_instance
noncomputable def unfold_Fold.f (s0 s1 c0 c1 n : Int) : Option (Int × Int × Int) :=
 (countL s0 s1 c0 c1).bind fun b => if foldBad b.2.2 n then some (0, 0, 2) else if 0 ≤ b.1 ∧ b.1 ≤ 1125899906842624 ∧ 1 ≤ b.2.1 then some (foldS s1 b.1 b.2.1 n) else none
theorem fold_bad (s0 s1 c0 c1 n h p e : Int) (w : World) (hc : countL s0 s1 c0 c1 = some (h, p, e)) (hb : foldBad e n) :
  Calls Tryz.prog 111 #[.agg #[.int .i64 s0, .int .i64 s1], .agg #[.int .i64 c0, .int .i64 c1], .int .i64 n] w fun e w' => e = .returned (.tuple #[.int .i64 0, .int .i64 0, .int .i64 2]) ∧ Below w.heap.size w w' := by
 have HC := fun W => countL_calls s0 s1 c0 c1 h p e W hc
 clear hc
 have HC := Lib.hid HC
 have hu : undef = Value.tuple #[] := rfl
 rcases hb with he | he | he
 ·have h1 : (e != 0) = true := by simpa using he
  clear he
  go_enter Tryz.func111, Tryz.ntmps111
  go_wp2_with (go_at_call 34; with_reducible refine (HC.out _).mono ?_; rintro e' w1 ⟨rfl, hb⟩; obtain ⟨hcl, hfl⟩ := bcell hb; have hz := hb.size; simp at hz; have k1 : w1.cell? ⟨w.heap.size, 1, none⟩ = some (.int .i64 s1) := (hcl _ _ (by simp <;> omega)).trans (by simp [go_sem]); clear hcl hfl; have HB := Lib.hid (Below.trans (by go_grown) (hb.mono (by simp <;> omega)) : Below w.heap.size w w1); clear hb)
  go_ret3
  exact ⟨rfl, HB.out⟩
 ·by_cases h1 : e = 0
  ·subst h1
   have h2 : decide (n < 0) = true := decide_eq_true he
   clear he
   go_enter Tryz.func111, Tryz.ntmps111
   go_wp2_with (go_at_call 34; with_reducible refine (HC.out _).mono ?_; rintro e' w1 ⟨rfl, hb⟩; obtain ⟨hcl, hfl⟩ := bcell hb; have hz := hb.size; simp at hz; have k1 : w1.cell? ⟨w.heap.size, 1, none⟩ = some (.int .i64 s1) := (hcl _ _ (by simp <;> omega)).trans (by simp [go_sem]); clear hcl hfl; have HB := Lib.hid (Below.trans (by go_grown) (hb.mono (by simp <;> omega)) : Below w.heap.size w w1); clear hb)
   go_ret3
   exact ⟨rfl, HB.out⟩
  ·have h1 : (e != 0) = true := by simpa using h1
   clear he
   go_enter Tryz.func111, Tryz.ntmps111
   go_wp2_with (go_at_call 34; with_reducible refine (HC.out _).mono ?_; rintro e' w1 ⟨rfl, hb⟩; obtain ⟨hcl, hfl⟩ := bcell hb; have hz := hb.size; simp at hz; have k1 : w1.cell? ⟨w.heap.size, 1, none⟩ = some (.int .i64 s1) := (hcl _ _ (by simp <;> omega)).trans (by simp [go_sem]); clear hcl hfl; have HB := Lib.hid (Below.trans (by go_grown) (hb.mono (by simp <;> omega)) : Below w.heap.size w w1); clear hb)
   go_ret3
   exact ⟨rfl, HB.out⟩
 ·have h3 : decide (n > 1125899906842624) = true := decide_eq_true he
  have h2 : decide (n < 0) = false := decide_eq_false (by omega)
  clear he
  by_cases h1 : e = 0
  ·subst h1
   go_enter Tryz.func111, Tryz.ntmps111
   go_wp2_with (go_at_call 34; with_reducible refine (HC.out _).mono ?_; rintro e' w1 ⟨rfl, hb⟩; obtain ⟨hcl, hfl⟩ := bcell hb; have hz := hb.size; simp at hz; have k1 : w1.cell? ⟨w.heap.size, 1, none⟩ = some (.int .i64 s1) := (hcl _ _ (by simp <;> omega)).trans (by simp [go_sem]); clear hcl hfl; have HB := Lib.hid (Below.trans (by go_grown) (hb.mono (by simp <;> omega)) : Below w.heap.size w w1); clear hb)
   go_ret3
   exact ⟨rfl, HB.out⟩
  ·have h1 : (e != 0) = true := by simpa using h1
   go_enter Tryz.func111, Tryz.ntmps111
   go_wp2_with (go_at_call 34; with_reducible refine (HC.out _).mono ?_; rintro e' w1 ⟨rfl, hb⟩; obtain ⟨hcl, hfl⟩ := bcell hb; have hz := hb.size; simp at hz; have k1 : w1.cell? ⟨w.heap.size, 1, none⟩ = some (.int .i64 s1) := (hcl _ _ (by simp <;> omega)).trans (by simp [go_sem]); clear hcl hfl; have HB := Lib.hid (Below.trans (by go_grown) (hb.mono (by simp <;> omega)) : Below w.heap.size w w1); clear hb)
   go_ret3
   exact ⟨rfl, HB.out⟩
theorem fold_go (s0 s1 c0 c1 n h p : Int) (w : World) (hc : countL s0 s1 c0 c1 = some (h, p, 0)) (hb : ¬ foldBad 0 n) (h0 : 0 ≤ h) (h1 : h ≤ 1125899906842624) (p1 : 1 ≤ p) :
  Calls Tryz.prog 111 #[.agg #[.int .i64 s0, .int .i64 s1], .agg #[.int .i64 c0, .int .i64 c1], .int .i64 n] w fun e w' => e = .returned (.tuple #[.int .i64 (foldS s1 h p n).1, .int .i64 (foldS s1 h p n).2.1, .int .i64 (foldS s1 h p n).2.2]) ∧ Below w.heap.size w w' := by
 have HC := fun W => countL_calls s0 s1 c0 c1 h p 0 W hc
 clear hc
 have HC := Lib.hid HC
 have hu : undef = Value.tuple #[] := rfl
 unfold foldBad at hb
 have n0 : 0 ≤ n := by omega
 have n1 : n ≤ 1125899906842624 := by omega
 have d1 : decide (n < 0) = false := decide_eq_false (by omega)
 have d2 : decide (n > 1125899906842624) = false := decide_eq_false (by omega)
 have hs : IntKind.i64.wrap (n - h) = n - h := IntWalk.i64_in _ ⟨by omega, by omega⟩
 have hpn : (p = 0) = False := by rw [eq_iff_iff, iff_false]; omega
 generalize hF : foldS s1 h p n = F
 unfold foldS foldT at hF
 by_cases hlt : h < n
 ·rw [if_pos hlt] at hF
  have hq0 : 0 ≤ (n - h) / p := Int.ediv_nonneg (by omega) (by omega)
  have hq1 : (n - h) / p ≤ n - h := Int.ediv_le_self _ (by omega)
  have hqe : wrap64 ((n - h).tdiv p) = (n - h) / p := by rw [Int.tdiv_eq_ediv_of_nonneg (by omega)]; exact zsa (by unfold I64; omega)
  have HF := Lib.hid hF
  have HQ := Lib.hid hqe
  have c := eq_true hlt
  clear hF hqe hq0 hq1 hb n0 n1 h0 h1 p1 hlt
  go_enter Tryz.func111, Tryz.ntmps111
  go_wp2_with (go_at_call 34; with_reducible refine (HC.out _).mono ?_; rintro e' w1 ⟨rfl, hb⟩; obtain ⟨hcl, hfl⟩ := bcell hb; have hz := hb.size; simp at hz; have k1 : w1.cell? ⟨w.heap.size, 1, none⟩ = some (.int .i64 s1) := (hcl _ _ (by simp <;> omega)).trans (by simp [go_sem]); clear hcl hfl; have HB := Lib.hid (Below.trans (by go_grown) (hb.mono (by simp <;> omega)) : Below w.heap.size w w1); clear hb)
  clear hs hpn
  go_region
  all_goals go_wp2
  all_goals go_ret3
  all_goals exact ⟨by simp [HQ.out, ← HF.out, wz], HB.out.drew⟩
 ·rw [if_neg hlt] at hF
  have hqe : wrap64 ((0 : Int).tdiv p) = 0 := by simp [wz]
  have HF := Lib.hid hF
  have HQ := Lib.hid hqe
  have c := eq_false hlt
  clear hF hqe hb n0 n1 h0 h1 p1 hlt
  go_enter Tryz.func111, Tryz.ntmps111
  go_wp2_with (go_at_call 34; with_reducible refine (HC.out _).mono ?_; rintro e' w1 ⟨rfl, hb⟩; obtain ⟨hcl, hfl⟩ := bcell hb; have hz := hb.size; simp at hz; have k1 : w1.cell? ⟨w.heap.size, 1, none⟩ = some (.int .i64 s1) := (hcl _ _ (by simp <;> omega)).trans (by simp [go_sem]); clear hcl hfl; have HB := Lib.hid (Below.trans (by go_grown) (hb.mono (by simp <;> omega)) : Below w.heap.size w w1); clear hb)
  clear hs hpn
  go_region
  all_goals go_wp2
  all_goals go_ret3
  all_goals exact ⟨by simp [HQ.out, ← HF.out, wz], HB.out.drew⟩
theorem unfold_Fold.calls (s0 s1 c0 c1 n r1 r2 r3 : Int) (w : World) (h : unfold_Fold.f s0 s1 c0 c1 n = some (r1, r2, r3)) :
  Calls Tryz.prog 111 #[.agg #[.int .i64 s0, .int .i64 s1], .agg #[.int .i64 c0, .int .i64 c1], .int .i64 n] w fun e w' => e = .returned (.tuple #[.int .i64 r1, .int .i64 r2, .int .i64 r3]) ∧ Below w.heap.size w w' := by
 unfold unfold_Fold.f at h
 obtain ⟨⟨hh, p, e⟩, hc, h⟩ := Option.bind_eq_some_iff.mp h
 simp only at h
 by_cases hb : foldBad e n
 ·rw [if_pos hb] at h
  injection h with h
  injection h with e1 e2
  injection e2 with e2 e3
  subst e1 e2 e3
  exact fold_bad s0 s1 c0 c1 n hh p e w hc hb
 ·rw [if_neg hb] at h
  split at h
  ·rename_i hk
   have he : e = 0 := by unfold foldBad at hb; omega
   subst he
   have := fold_go s0 s1 c0 c1 n hh p w hc hb hk.1 hk.2.1 hk.2.2
   injection h with h
   rw [h] at this
   exact this
  ·cases h
end Go.Proofs.YtfondhcppjkchaaGreat.Q
namespace Go.Proofs.YtfondhcppjkchaaGreat.Q
noncomputable section
open Go.RowKit Go.Proofs.YtfondhcppjkchaaGreatW.PrintWords Go.Proofs.YtfondhcppjkchaaGreatW.PrintLast Go.Proofs.YtfondhcppjkchaaGreatW.PrintMore
attribute [local go_sem] max2_int min2_int max_two min_two max_three min_three max_four min_four
def unfold_Needs_1.f (a0_0 : Int) (a0_1 : Int) (a0_2 : Int) (l0_3 : List (S70)) (l0_4 : List (S70)) (a0_5 : Int) : Option (Bool) := (deps_May.f l0_3 l0_4 a0_5).bind fun t649 => (some (!t649))
theorem unfold_Needs_1.calls (a0_0 : Int) (a0_1 : Int) (a0_2 : Int) (A0_3 : Option Addr) (c0_3 : Nat) (l0_3 : List (S70)) (A0_4 : Option Addr) (c0_4 : Nat) (l0_4 : List (S70)) (a0_5 : Int) (r : Bool) (w : World) (hr0_3 : Kd.C k70 w A0_3 l0_3.length l0_3) (hc0_3 : l0_3.length ≤ c0_3) (hr0_4 : Kd.C k70 w A0_4 l0_4.length l0_4) (hc0_4 : l0_4.length ≤ c0_4) (h : unfold_Needs_1.f a0_0 a0_1 a0_2 l0_3 l0_4 a0_5 = some r) :
  Calls Tryz.prog 145 #[.agg #[.int .u8 a0_0, .int .i64 a0_1, .int .i64 a0_2, .slice A0_3 l0_3.length c0_3, .slice A0_4 l0_4.length c0_4, .int .i64 a0_5]] w fun e w' => e = .returned (.bool r) ∧ Below w.heap.size w w' := by
 have hu75 := Tryz.underlying75
 have hu73 := Tryz.underlying73
 have HR0_3 := zb.mk hr0_3
 have HC0_3 := zb.mk hc0_3
 clear hr0_3 hc0_3
 have HR0_4 := zb.mk hr0_4
 have HC0_4 := zb.mk hc0_4
 clear hr0_4 hc0_4
 have HB := zb.mk (Below.refl w.heap.size w)
 have H : ((deps_May.f l0_3 l0_4 a0_5).bind fun t649 => (some (!t649))) = some r := h
 clear h
 replace H := Option.bind_eq_some_iff.mp H
 obtain ⟨t649, A20, H⟩ := H
 replace H : (some (!t649)) = some r := H
 have A2 := zb.mk A20
 clear A20
 obtain rfl := Option.some.inj H
 go_enter Tryz.func145, Tryz.ntmps145
 go_wp2_with (first | ((with_reducible refine zda (N := 1) rfl ?_); refine zaa ?hg (N := 1) ?hd (cs := #[.int .u8 a0_0, .int .i64 a0_1, .int .i64 a0_2, .slice A0_3 l0_3.length c0_3, .slice A0_4 l0_4.length c0_4, .int .i64 a0_5]) (t := 75) ?hr ?_; (case hd => rfl); (case hg => rfl); (case hr => first | (go_simp; done) | (go_simp; rfl)); intro gb648 hg w3 hbox hb; have n0_ := zb.mk (zo (by repeat with_reducible first | exact HB.out | apply zd | apply za | apply ze) hb); have n1_ := zb.mk (hbox); have n2_ := zb.mk ((by rw [hg]; exact (zn (by repeat with_reducible first | exact HB.out | apply zd | apply za | apply ze)) : w.heap.size ≤ gb648)); have n3_ := zb.mk ((by rw [hg]; exact (zn (by repeat with_reducible first | exact HB.out | apply zd | apply za | apply ze)) : w.heap.size ≤ gb648)); clear HB; have HB := n0_; have BK648 := n1_; have GW648 := n2_; have GE648 := n3_; clear n0_ n1_ n2_ n3_; clear hb hbox hg; have hcz4_0 : w3.cell? ⟨gb648, 0, none⟩ = some (.int .u8 a0_0) := (zg BK648.out 0).trans rfl; have hcz4_1 : w3.cell? ⟨gb648, 1, none⟩ = some (.int .i64 a0_1) := (zg BK648.out 1).trans rfl; have hcz4_2 : w3.cell? ⟨gb648, 2, none⟩ = some (.int .i64 a0_2) := (zg BK648.out 2).trans rfl; have hcz4_3 : w3.cell? ⟨gb648, 3, none⟩ = some (.slice A0_3 l0_3.length c0_3) := (zg BK648.out 3).trans rfl; have hcz4_4 : w3.cell? ⟨gb648, 4, none⟩ = some (.slice A0_4 l0_4.length c0_4) := (zg BK648.out 4).trans rfl; have hcz4_5 : w3.cell? ⟨gb648, 5, none⟩ = some (.int .i64 a0_5) := (zg BK648.out 5).trans rfl; have hfz4_0 := zf BK648.out 0; have hfz4_1 := zf BK648.out 1; have hfz4_2 := zf BK648.out 2; have hfz4_3 := zf BK648.out 3; have hfz4_4 := zf BK648.out 4; have hfz4_5 := zf BK648.out 5) | ((with_reducible refine zt (f := 123) rfl ?_); refine zka (some 5) rfl rfl Tryz.func123 (by kernel_rfl) rfl #[.agg #[.slice A0_3 l0_3.length c0_3, .slice A0_4 l0_4.length c0_4, .int .i64 a0_5]] rfl (by (try simp only [List.map_toArray, List.map_cons, List.map_nil]); first | done | rfl | (simp only [List.length_drop, List.length_take]; rfl)) ?_; (with_reducible refine (deps_May.calls _ _ l0_3 _ _ l0_4 a0_5 t649 _ ?side1 ?side2 ?side3 ?side4 A2.out).mono ?_); (case side1 => repeat (first | exact (Kd.zu HR0_3.out HB.out) | (with_reducible refine Kd.zea ?_ _) | (with_reducible refine Kd.zfa ?_ _) | (with_reducible refine Kd.zia ?_))); (case side2 => exact HC0_3.out); (case side3 => repeat (first | exact (Kd.zu HR0_4.out HB.out) | (with_reducible refine Kd.zea ?_ _) | (with_reducible refine Kd.zfa ?_ _) | (with_reducible refine Kd.zia ?_))); (case side4 => exact HC0_4.out); rintro e w5 ⟨rfl, hb⟩; refine ⟨_, rfl, ?_⟩; have n0_ := zb.mk (zr (g := gb648) (o := .cells #[.int .u8 a0_0, .int .i64 a0_1, .int .i64 a0_2, .slice A0_3 l0_3.length c0_3, .slice A0_4 l0_4.length c0_4, .int .i64 a0_5] 75 (0, 0)) (by (with_reducible repeat first | apply zi | apply zl | apply zh); exact BK648.out) hb); have n1_ := zb.mk (zo (by repeat with_reducible first | exact HB.out | apply zd | apply za | apply ze | refine zk ?_ GE648.out) hb); clear BK648; clear HB; have BK648 := n0_; have HB := n1_; clear n0_ n1_; (try clear hb)))
 go_ret
 exact ⟨by first | rfl | (simp [zp, zq] <;> rfl) | (simp [*, zp, zq] <;> rfl), by repeat with_reducible first | exact HB.out | apply zd | apply za | apply ze | refine zk ?_ GE648.out⟩
end
end Go.Proofs.YtfondhcppjkchaaGreat.Q
namespace Go.Proofs.YtfondhcppjkchaaGreat.Q
open Go.RowKit Go.Proofs.YtfondhcppjkchaaGreatW.PrintWords Go.Proofs.YtfondhcppjkchaaGreatW.PrintLast
open Go.Proofs.YtfondhcppjkchaaGreatW.PrintMore
def badRead (r : S75) : Bool := !depMay r.f3
theorem Needs_1_eq (r : S75) : unfold_Needs_1.f r.f0 r.f1 r.f2 r.f3.f0 r.f3.f1 r.f3.f2 = some (badRead r) := by
 unfold unfold_Needs_1.f deps_May.f; rfl
theorem containsRead_mem (l : List S75) (x : Int) (h0 : 0 ≤ x) (h1 : x < l.length) : zm l x ∈ l := by
 have hl : x.toNat < l.length := by omega
 have : zm l x = l[x.toNat] := by unfold zm; rw [List.getD_eq_getElem?_getD, List.getElem?_eq_getElem hl]; rfl
 rw [this]; exact List.getElem_mem hl
theorem containsRead_take (l : List S75) (x : Int) (h0 : 0 ≤ x) (h1 : x < l.length) (hp : (l.take x.toNat).any badRead = false) (hb : badRead (zm l x) = false) : (l.take (x + 1).toNat).any badRead = false := by
 have e : (x + 1).toNat = x.toNat + 1 := by omega
 have hl : x.toNat < l.length := by omega
 rw [e, List.take_succ_eq_append_getElem hl, List.any_append, hp]
 have : zm l x = l[x.toNat] := by unfold zm; rw [List.getD_eq_getElem?_getD, List.getElem?_eq_getElem hl]; rfl
 rw [this] at hb
 simp [hb]
theorem containsRead_hit (l : List S75) (x : Int) (h0 : 0 ≤ x) (h1 : x < l.length) (hb : badRead (zm l x) = true) : l.any badRead = true :=
 List.any_eq_true.mpr ⟨_, containsRead_mem l x h0 h1, hb⟩
open Classical in
noncomputable def containsRead.f (l0 : List S75) : Option Bool := if True then some (l0.any badRead) else none
theorem containsRead_index (A0 : Option Addr) (c0 : Nat) (l0 : List S75) (w : World) (hr0 : Kd.C k75 w A0 l0.length l0) :
  Calls Tryz.prog 172 #[.slice A0 l0.length c0, .func (.func 145) #[] #[]] w fun e w' => (∃ i : Int, e = .returned (.int .i64 i) ∧ (0 ≤ i ↔ l0.any badRead = true)) ∧ Below w.heap.size w w' := by
 have hn : l0.length ≤ 9223372036854775807 := hr0.2.1
 have HR0 := zb.mk hr0
 have HN := zb.mk hn
 skip
 clear hr0 hn
 go_enter Tryz.func172, Tryz.ntmps172
 go_wp2
 go_loopw [8] (fun v8 wr => ∃ x : Int, v8 = .int .i64 x ∧ 0 ≤ x ∧ x ≤ l0.length ∧ (l0.take x.toNat).any badRead = false ∧ Below w.heap.size w wr)
  (fun v8 _ => l0.length - (intOf v8).toNat)
 case atStart => exact ⟨0, rfl, by omega, by omega, by simp, Below.refl _ _⟩
 case round =>
  obtain ⟨x, rfl, h0, hx, hp, hB⟩ := hrel
  by_cases hlt : x < (l0.length : Int)
  ·obtain ⟨ad, A3, c3, A4, c4, rfl, hx0, hx1, hx2, hx3, hx4, hx5, hl3, hg3, hl4, hg4⟩ := at_T75 (Kd.zu HR0.out hB) x h0 hlt
   have HL3 := zb.mk hl3; have HG3 := zb.mk hg3; have HL4 := zb.mk hl4; have HG4 := zb.mk hg4; clear hl3 hg3 hl4 hg4
   have HO := True.intro
   have HP := zb.mk hp
   have HB := zb.mk hB
   clear hp hB
   have c := decide_eq_true hlt
   have hn' := HN.out
   have h0' := eq_true h0
   have hlt' := eq_true hlt
   have hq : unfold_Needs_1.f (zm l0 x).f0 (zm l0 x).f1 (zm l0 x).f2 (zm l0 x).f3.f0 (zm l0 x).f3.f1 (zm l0 x).f3.f2 = some (badRead (zm l0 x)) := Needs_1_eq _
   cases hbad : badRead (zm l0 x) with
   | true =>
    rw [hbad] at hq
    have H1 := zb.mk hq
    have HH := zb.mk (containsRead_hit l0 x h0 hlt hbad)
    clear hbad hq
    go_wp2_with (first | (go_at_call 145; refine (unfold_Needs_1.calls _ _ _ _ _ _ _ _ _ _ _ _ HG3.out HL3.out HG4.out HL4.out H1.out).mono ?_; rintro e w1 ⟨rfl, hb⟩; have HB2 := zb.mk (HB.out.trans (hb.mono HB.out.size)); clear hb))
    go_ret
    exact ⟨⟨x, rfl, ⟨fun _ => HH.out, fun _ => h0⟩⟩, HB2.out⟩
   | false =>
    rw [hbad] at hq
    have H1 := zb.mk hq
    have HH := zb.mk (containsRead_take l0 x h0 hlt HP.out hbad)
    clear hbad hq
    go_wp2_with (first | (go_at_call 145; refine (unfold_Needs_1.calls _ _ _ _ _ _ _ _ _ _ _ _ HG3.out HL3.out HG4.out HL4.out H1.out).mono ?_; rintro e w1 ⟨rfl, hb⟩; have HB2 := zb.mk (HB.out.trans (hb.mono HB.out.size)); clear hb))
    go_roundw
    case rel => exact ⟨x + 1, by go_num, by omega, by omega, HH.out, HB2.out⟩
    case measure => simp [intOf]; omega
  ·have e : x.toNat = l0.length := by omega
   have HP := zb.mk hp
   have HB := zb.mk hB
   clear hp hB
   go_wp2
   go_ret
   refine ⟨⟨-1, rfl, ⟨fun h => by omega, fun h => ?_⟩⟩, HB.out⟩
   have := HP.out
   rw [e, List.take_length, (by first | exact h | exact List.any_eq_true.mpr h : l0.any badRead = true)] at this
   cases this
theorem containsRead.calls (A0 : Option Addr) (c0 : Nat) (l0 : List S75) (r : Bool) (w : World) (hr0 : Kd.C k75 w A0 l0.length l0) (hc0 : l0.length ≤ c0) (h : containsRead.f l0 = some r) :
  Calls Tryz.prog 144 #[.slice A0 l0.length c0, .func (.func 145) #[] #[]] w fun e w' => e = .returned (.bool r) ∧ Below w.heap.size w w' := by
 classical
 unfold containsRead.f at h
 by_cases hok : True
 ·rw [if_pos hok] at h
  injection h with h
  have hc := containsRead_index A0 c0 l0 w hr0
  have HC := zb.mk hc
  have HH := zb.mk h
  clear hc hr0 h hc0 hok
  go_enter Tryz.func144, Tryz.ntmps144
  go_wp2_with (first | (go_at_call 172; refine HC.out.mono ?_; rintro e w1 ⟨⟨i, rfl, hi⟩, hb⟩; have HB := zb.mk hb; have HI := zb.mk hi; clear hb hi))
  go_ret
  refine ⟨?_, HB.out⟩
  rw [← HH.out]
  congr 2
  have := HI.out
  cases hx : l0.any badRead with
  | true => simp [this, hx]
  | false => simp [hx] at this; simp; omega
 ·rw [if_neg hok] at h
  cases h
end Go.Proofs.YtfondhcppjkchaaGreat.Q
