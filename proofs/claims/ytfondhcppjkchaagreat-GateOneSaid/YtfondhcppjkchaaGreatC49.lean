import Derived.Test.YtfondhcppjkchaaGreatC47
import Derived.Test.YtfondhcppjkchaaGreatC48
set_option maxHeartbeats 40000000
set_option maxRecDepth 100000
set_option linter.unusedVariables false
set_option linter.unusedSimpArgs false
namespace Go.Proofs.YtfondhcppjkchaaGreat.Q
open Go.RowKit Go.Proofs.YtfondhcppjkchaaGreatW.PrintWords
theorem zab (k : Nat) (costs : List Int) (dues : List S27) (acc : List S61) (js : List S56) (n x v : Int) (j : S56) (hn : n = js.length) (hj : zca js x = j) (x0 : 0 ≤ x) (x1 : x < n) (i0 : 0 ≤ j.f0) (i1 : j.f0 < dues.length) (i2 : j.f0 < costs.length) (hv : words_At.f (zna dues j.f0).f0 (zna dues j.f0).f1 j.f1 = some (v, 0)) (ha : acc.length ≤ 100000) :
  gate_Works.l0 (k + 1) costs dues acc js n x = gate_Works.l0 k costs dues (acc ++ [⟨j.f2, wrap64 (j.f2 + v), rd costs j.f0⟩]) js n (wrap64 (x + 1)) := by
 conv => lhs; unfold gate_Works.l0
 subst hn hj
 rw [if_pos x1, if_pos x0, if_pos x1, if_pos i0, if_pos i1, hv, Option.bind_some, if_pos i2, if_pos (by omega)]
def workN (S P d K n : Int) : S61 := ⟨S + n * P, S + n * P + d, K⟩
theorem works_one (P S d K : Int) (h0 : 1 ≤ P) (h1 : P ≤ 1099511627776) (h2 : 0 ≤ S) (h3 : S ≤ 1099511627776) (d0 : 1 ≤ d) (d1 : d ≤ P) (k0 : 1 ≤ K) (k1 : K ≤ 1048576) (hd : ¬ d < K) : gate_Works.f 9 [taskO P S d] [⟨P, S⟩] [K] [wordO d] = some ([workN S P d K 0, workN S P d K 1, workN S P d K 2], 0) := by
 have e : ∀ n, 0 ≤ n → n ≤ 2 → wrap64 (S + n * P + d) = S + n * P + d := fun n n0 n1 => by
  have e1 : n * P ≤ 2 * P := Int.mul_le_mul_of_nonneg_right n1 (by omega)
  have e2 : 0 ≤ n * P := Int.mul_nonneg n0 (by omega)
  exact wn (by omega) (by omega)
 have w3 : wrap64 (2 + 1) = 3 := zsa (by unfold I64; omega)
 unfold gate_Works.f
 rw [check_one P S d K h0 h1 h2 h3 d0 d1 k0 k1, if_neg hd, Option.bind_some, if_pos rfl, of_one P S d h0 h1 h2 h3 d0 d1, Option.bind_some, if_pos rfl]
 rw [show wrap64 ((S, P, (0 : Int)).1 + wrap64 (3 * (S, P, (0 : Int)).2.1)) = S + 3 * P by
  show wrap64 (S + wrap64 (3 * P)) = _
  rw [wn (x := 3 * P) (by omega) (by omega), wn (by omega) (by omega)]]
 rw [jobs_one P S d h0 h1 h2 h3 d0 d1, Option.bind_some, if_pos rfl]
 show gate_Works.l0 9 [K] [wordO d] [] [jobN 0 P S d 0, jobN 0 P S d 1, jobN 0 P S d 2] 3 0 = _
 have hat : ∀ n, 0 ≤ n → n ≤ 2 → words_At.f (zna [wordO d] 0).f0 (zna [wordO d] 0).f1 n = some (d, 0) := fun n n0 n1 => at_one d n n0 (by omega)
 rw [zab 8 _ _ _ _ 3 0 d (jobN 0 P S d 0) rfl rfl (by omega) (by omega) (by simp [jobN]) (by simp [jobN]) (by simp [jobN]) (hat 0 (by omega) (by omega)) (by simp), w1]
 rw [zab 7 _ _ _ _ 3 1 d (jobN 0 P S d 1) rfl rfl (by omega) (by omega) (by simp [jobN]) (by simp [jobN]) (by simp [jobN]) (hat 1 (by omega) (by omega)) (by simp), w2]
 rw [zab 6 _ _ _ _ 3 2 d (jobN 0 P S d 2) rfl rfl (by omega) (by omega) (by simp [jobN]) (by simp [jobN]) (by simp [jobN]) (hat 2 (by omega) (by omega)) (by simp), w3]
 unfold gate_Works.l0
 rw [if_neg (by omega)]
 simp only [jobN, e 0 (by omega) (by omega), e 1 (by omega) (by omega), e 2 (by omega) (by omega), List.nil_append, List.cons_append]
 rfl
theorem load_one (P S d K : Int) (h0 : 1 ≤ P) (h1 : P ≤ 1099511627776) (h2 : 0 ≤ S) (h3 : S ≤ 1099511627776) (d0 : 1 ≤ d) (d1 : d ≤ P) (k0 : 1 ≤ K) (k1 : K ≤ 1048576) : gate_Load.f 9 [taskO P S d] [⟨P, S⟩] [K] = some (K, P, 0) := by
 obtain ⟨hc, h⟩ := zub h0 h1 h2 h3
 have hcn : unfold_Count.f 8 S P P S = some (0, 1, 0) := by
  obtain ⟨k, hk⟩ := zob (count_one P S h0 h1 h2 h3)
  have h8 : (unfold_Count.f 1 S P P S) = some (0, 1, 0) := by
   unfold unfold_Count.f
   rw [show unfold_mayClock.f 1 P S = some (clockB ⟨P, S⟩) from unfold_mayClock_eq 0 ⟨P, S⟩ hc.1 hc.2, h, Option.bind_some, if_pos rfl, if_neg (by omega), if_neg (by omega), if_neg (by omega), if_neg (by omega), if_neg (by omega), Int.tmod_self, if_pos rfl]
   unfold unfold_count.f unfold_below.f num_Ceil.f
   rw [show S - S = 0 by omega, show wrap64 0 = 0 from wn (by omega) (by omega), zsb, if_pos (by omega)]
   simp only [Option.bind_some]
   rw [if_neg (by omega), ceilS_0 h0, Int.tdiv_self (by omega)]
   rw [Option.bind_some, show wrap64 1 = 1 from wn (by omega) (by omega)]
  exact at_rounds (unfold_Count.mono S P P S) (k := 1) (by omega) h8
 unfold gate_Load.f
 rw [of_one P S d h0 h1 h2 h3 d0 d1, Option.bind_some, if_pos rfl, if_pos (show (([K] : List Int).length : Int) = (([taskO P S d] : List S78).length : Int) from rfl)]
 show gate_Load.l0 9 [taskO P S d] 0 [K] 1 0 S P = _
 unfold gate_Load.l0
 rw [if_pos (by omega), if_pos (by omega), if_pos (show (0 : Int) < (([K] : List Int).length : Int) by simp), show Go.Proofs.YtfondhcppjkchaaGreatW.PrintWords.rd [K] 0 = K from rfl, if_neg (by omega), if_neg (by omega), if_pos (show (0 : Int) < (([taskO P S d] : List S78).length : Int) by simp), rd78_one, show unfold_Count.f 8 S P (taskO P S d).f0.f0 (taskO P S d).f0.f1 = some (0, 1, 0) from hcn, Option.bind_some]
 show gate_Load.l0 8 [taskO P S d] (wrap64 (0 + wrap64 (1 * K))) [K] 1 (wrap64 (0 + 1)) S P = _
 rw [Int.one_mul, wn (x := K) (by omega) (by omega), Int.zero_add, wn (x := K) (by omega) (by omega), w1]
 unfold gate_Load.l0
 rw [if_neg (by omega)]
def passO (P d K : Int) : Int := if d < K then 160 else if P ≤ K then 240 else if d < K + 7 then 241 else 0
theorem may_three (P S d K : Int) (h0 : 1 ≤ P) (h1 : P ≤ 1099511627776) (h2 : 0 ≤ S) (h3 : S ≤ 1099511627776) (d0 : 1 ≤ d) (d1 : d ≤ P) (k0 : 1 ≤ K) (k1 : K ≤ 1048576) : Mw.mayB [workN S P d K 0, workN S P d K 1, workN S P d K 2] = true := by
 rw [Mw.mayB_iff]
 refine ⟨by simp, ?_⟩
 intro w hw
 simp only [List.mem_cons, List.not_mem_nil, or_false] at hw
 rcases hw with rfl | rfl | rfl
 ·exact ⟨by show 0 ≤ S + 0 * P; omega, by show S + 0 * P ≤ 1125899906842624; omega, by show S + 0 * P < S + 0 * P + d; omega, by show S + 0 * P + d ≤ 2251799813685248; omega, k0, k1⟩
 ·exact ⟨by show 0 ≤ S + 1 * P; omega, by show S + 1 * P ≤ 1125899906842624; omega, by show S + 1 * P < S + 1 * P + d; omega, by show S + 1 * P + d ≤ 2251799813685248; omega, k0, k1⟩
 ·exact ⟨by show 0 ≤ S + 2 * P; omega, by show S + 2 * P ≤ 1125899906842624; omega, by show S + 2 * P < S + 2 * P + d; omega, by show S + 2 * P + d ≤ 2251799813685248; omega, k0, k1⟩
theorem dem_three (P S d K a b : Int) : Mw.dem [workN S P d K 0, workN S P d K 1, workN S P d K 2] a b = (if a ≤ S ∧ S + d ≤ b then K else 0) + ((if a ≤ S + P ∧ S + P + d ≤ b then K else 0) + (if a ≤ S + 2 * P ∧ S + 2 * P + d ≤ b then K else 0)) := by
 simp only [Mw.dem, workN, Int.zero_mul, Int.one_mul, Int.add_zero]
 rfl
theorem worst_bad (P S d K : Int) (h0 : 1 ≤ P) (h2 : 0 ≤ S) (d0 : 1 ≤ d) (d1 : d ≤ P) (k0 : 1 ≤ K) (hK : d < K + 7) {r : Int × Int × Bool} (hr : Mw.IsWorst [workN S P d K 0, workN S P d K 1, workN S P d K 2] 7 r) : r.2.2 = true ∧ r.1 = S := by
 have hb : Mw.Bad [workN S P d K 0, workN S P d K 1, workN S P d K 2] 7 S (S + d) := by
  unfold Mw.Bad
  rw [dem_three, if_pos ⟨by omega, by omega⟩, if_neg (by omega), if_neg (by omega)]
  omega
 have hp : (S, S + d) ∈ Mw.pairsOf [workN S P d K 0, workN S P d K 1, workN S P d K 2] := Mw.zgb.2 ⟨workN S P d K 0, by simp, workN S P d K 0, by simp, by simp [workN]⟩
 rcases hr with ⟨h1, h3, h4, h5⟩ | ⟨h1, h3⟩
 ·refine ⟨h1, ?_⟩
  have h6 := h5 _ hp hb
  obtain ⟨u, hu, v, hv, e⟩ := Mw.zgb.1 h3
  injection e with e1 e2
  simp only [List.mem_cons, List.not_mem_nil, or_false] at hu
  simp only at h6
  rcases hu with rfl | rfl | rfl <;> simp only [workN] at e1 <;> omega
 ·exact absurd hb (h3 _ hp)
theorem worst_good (P S d K : Int) (h0 : 1 ≤ P) (h2 : 0 ≤ S) (d0 : 1 ≤ d) (d1 : d ≤ P) (k0 : 1 ≤ K) (hK : ¬ d < K + 7) (hP : K < P) {r : Int × Int × Bool} (hr : Mw.IsWorst [workN S P d K 0, workN S P d K 1, workN S P d K 2] 7 r) : r.2.2 = false := by
 rcases hr with ⟨h1, h3, h4, h5⟩ | ⟨h1, h3⟩
 ·exfalso
  obtain ⟨u, hu, v, hv, e⟩ := Mw.zgb.1 h3
  injection e with e1 e2
  unfold Mw.Bad at h4
  rw [dem_three, e1, e2] at h4
  simp only [List.mem_cons, List.not_mem_nil, or_false] at hu hv
  clear h5 h3 e1 e2 h1
  obtain ⟨h4, h6, h7⟩ := h4
  rcases hu with rfl | rfl | rfl <;> rcases hv with rfl | rfl | rfl <;> simp only [workN] at h4 h6 h7 <;> (repeat' split at h7) <;> omega
 ·rw [h1]
theorem pass_one (P S d K : Int) (h0 : 1 ≤ P) (h1 : P ≤ 1099511627776) (h2 : 0 ≤ S) (h3 : S ≤ 1099511627776) (d0 : 1 ≤ d) (d1 : d ≤ P) (k0 : 1 ≤ K) (k1 : K ≤ 1048576) : gate_Pass.f [taskO P S d] [⟨P, S⟩] [K] [wordO d] = some (passO P d K) := by
 by_cases hd : d < K
 ·have hw : gate_Works.f 1 [taskO P S d] [⟨P, S⟩] [K] [wordO d] = some ([], 160) := by
   unfold gate_Works.f
   rw [check_one P S d K h0 h1 h2 h3 d0 d1 k0 k1, if_pos hd, Option.bind_some, if_neg (by omega)]
  have hp : passS 1 [taskO P S d] [⟨P, S⟩] [K] [wordO d] = some (passO P d K) := by
   unfold passS passO
   rw [hw, Option.bind_some, if_neg (by omega), if_pos hd]
  exact zqb (fun k => passS_mono k _ _ _ _) hp
 ·obtain ⟨r, hr, kr, hE⟩ := Mw.worst_eq [workN S P d K 0, workN S P d K 1, workN S P d K 2] 7 (may_three P S d K h0 h1 h2 h3 d0 d1 k0 k1) (by omega) (by omega)
  have hw := at_rounds (gate_Works.mono [taskO P S d] [⟨P, S⟩] [K] [wordO d]) (k' := kr + 9) (by omega) (works_one P S d K h0 h1 h2 h3 d0 d1 k0 k1 hd)
  have hl := at_rounds (gate_Load.mono [taskO P S d] [⟨P, S⟩] [K]) (k' := kr + 9) (by omega) (load_one P S d K h0 h1 h2 h3 d0 d1 k0 k1)
  have hp : passS (kr + 9) [taskO P S d] [⟨P, S⟩] [K] [wordO d] = some (passO P d K) := by
   unfold passS passO
   rw [hw, Option.bind_some, if_pos rfl, if_neg (by simp), of_one P S d h0 h1 h2 h3 d0 d1, Option.bind_some, hl, Option.bind_some, if_neg hd]
   by_cases hP : P ≤ K
   ·rw [if_pos hP, if_pos hP]
   ·rw [if_neg hP, if_neg hP, show demand_Worst.f (kr + 9) ([workN S P d K 0, workN S P d K 1, workN S P d K 2], (0 : Int)).1 7 = some (r.1, r.2.1, r.2.2, 0) from hE (kr + 9) (by omega), Option.bind_some]
    by_cases hK : d < K + 7
    ·obtain ⟨e1, e2⟩ := worst_bad P S d K h0 h2 d0 d1 k0 hK hr
     rw [if_pos hK]
     simp only
     rw [if_pos e1, e2, wn (by omega) (by omega), if_pos (by omega)]
    ·have e1 := worst_good P S d K h0 h2 d0 d1 k0 hK (by omega) hr
     rw [if_neg hK]
     simp only
     rw [if_neg (by rw [e1]; simp)]
  exact zqb (fun k => passS_mono k _ _ _ _) hp
def jobsA (a : Int) : List S56 := [jobN 0 a 0 a 0, jobN 1 a 0 a 0, jobN 0 a 0 a 1, jobN 1 a 0 a 1, jobN 0 a 0 a 2, jobN 1 a 0 a 2]
theorem jobsA_perm (a : Int) : (jobsA a).Perm ([jobN 0 a 0 a 0, jobN 0 a 0 a 1, jobN 0 a 0 a 2] ++ [jobN 1 a 0 a 0, jobN 1 a 0 a 1, jobN 1 a 0 a 2]) := by
 unfold jobsA
 refine List.Perm.cons _ ?_
 refine List.Perm.trans ?_ (List.perm_middle (l₁ := [jobN 0 a 0 a 1, jobN 0 a 0 a 2]) (l₂ := [jobN 1 a 0 a 1, jobN 1 a 0 a 2]) (a := jobN 1 a 0 a 0)).symm
 refine List.Perm.cons _ (List.Perm.cons _ ?_)
 exact List.Perm.swap _ _ _
theorem jobs_two (k : Nat) (a : Int) (h0 : 1 ≤ a) (h1 : a ≤ 1099511627776) : unfold_Jobs.f (k + 15) [taskO a 0 a, outA a] (3 * a) = some (jobsA a, 0) := by
 obtain ⟨hc, h⟩ := zub (P := a) (S := 0) h0 h1 (by omega) (by omega)
 have hl : (([taskO a 0 a, outA a] : List S78).length : Int) = 2 := rfl
 have hb3 : unfold_below.f a 0 (3 * a) = some 3 := by
  have := below_three a 0 h0 h1 (by omega) (by omega)
  rw [Int.zero_add] at this
  exact this
 have w33 : wrap64 (3 + 3) = 6 := zsa (by unfold I64; omega)
 have n4 : ¬ (6 : Int) > 4096 := by decide
 unfold unfold_Jobs.f
 rw [if_neg (by rw [hl]; omega), if_neg (by omega), if_neg (by omega), noBad (by
  intro t ht
  simp only [List.mem_cons, List.not_mem_nil, or_false] at ht
  rcases ht with rfl | rfl
  ·exact ⟨hc, h⟩
  ·exact ⟨hc, h⟩), Option.bind_some]
 unfold unfold_Jobs.j0
 dsimp only
 rw [if_neg (by decide), hl]
 unfold unfold_Jobs.l0
 rw [if_pos (by omega), if_pos (by omega), if_pos (by omega), zvb, show unfold_below.f (taskO a 0 a).f0.f0 (taskO a 0 a).f0.f1 (3 * a) = some 3 from hb3, Option.bind_some, w03, if_neg n4096, w1]
 unfold unfold_Jobs.l0
 rw [if_pos (by omega), if_pos (by omega), if_pos (by omega), zwb, show unfold_below.f (outA a).f0.f0 (outA a).f0.f1 (3 * a) = some 3 from hb3, Option.bind_some, w33, if_neg n4, w2]
 unfold unfold_Jobs.l0
 rw [if_neg (by omega), hl]
 unfold unfold_Jobs.l1
 rw [if_pos (by omega), if_pos (by omega), if_pos (by omega), zvb, show unfold_below.f (taskO a 0 a).f0.f0 (taskO a 0 a).f0.f1 (3 * a) = some 3 from hb3, Option.bind_some]
 rw [show unfold_Jobs.l2 (k + 10) (3 * a) [] 0 [taskO a 0 a, outA a] 2 0 3 0 (taskO a 0 a).f0.f0 (taskO a 0 a).f0.f1 (taskO a 0 a).f1 (taskO a 0 a).f2 (taskO a 0 a).f3 (taskO a 0 a).f4 (taskO a 0 a).f5 = _ from l2_three (k + 6) _ [] _ _ 0 a 0 a _ _ _ _ (by simp) h0 h1 (by omega) (by omega) (by omega) (Int.le_refl a), w1]
 unfold unfold_Jobs.l1
 rw [if_pos (by omega), if_pos (by omega), if_pos (by omega), zwb, show unfold_below.f (outA a).f0.f0 (outA a).f0.f1 (3 * a) = some 3 from hb3, Option.bind_some]
 rw [show unfold_Jobs.l2 (k + 5) (3 * a) ([] ++ [jobN 0 a 0 a 0, jobN 0 a 0 a 1, jobN 0 a 0 a 2]) 1 [taskO a 0 a, outA a] 2 1 3 0 (outA a).f0.f0 (outA a).f0.f1 (outA a).f1 (outA a).f2 (outA a).f3 (outA a).f4 (outA a).f5 = _ from l2_three (k + 1) _ _ _ _ 1 a 0 a _ _ _ _ (by simp) h0 h1 (by omega) (by omega) (by omega) (Int.le_refl a), w2]
 unfold unfold_Jobs.l1
 rw [if_neg (by omega), List.nil_append]
 unfold sortJobs.f
 rw [if_pos (by simp), sortJ_eq (jobsA_perm a) (by simp [jobsA, jobN, ltJob]; omega), Option.bind_some]
theorem works_two (k : Nat) (a : Int) (h0 : 15 ≤ a) (h1 : a ≤ 1099511627776) : gate_Works.f (k + 15) [taskO a 0 a, outA a] [⟨a, 0⟩] [10, 5] [wordO (a - 5), wordO a] = some ([⟨0, a - 5, 10⟩, ⟨0, a, 5⟩, ⟨a, a + (a - 5), 10⟩, ⟨a, a + a, 5⟩, ⟨2 * a, 2 * a + (a - 5), 10⟩, ⟨2 * a, 2 * a + a, 5⟩], 0) := by
 unfold gate_Works.f
 rw [check_two a h0 h1, Option.bind_some, if_pos rfl, of_two a (by omega) h1, Option.bind_some, if_pos rfl]
 rw [show wrap64 (((0 : Int), a, (0 : Int)).1 + wrap64 (3 * ((0 : Int), a, (0 : Int)).2.1)) = 3 * a by
  show wrap64 (0 + wrap64 (3 * a)) = _
  rw [wn (x := 3 * a) (by omega) (by omega), Int.zero_add, wn (by omega) (by omega)]]
 rw [jobs_two k a (by omega) h1, Option.bind_some, if_pos rfl]
 show gate_Works.l0 (k + 15) [10, 5] [wordO (a - 5), wordO a] [] (jobsA a) 6 0 = _
 have ha0 : ∀ n, 0 ≤ n → n ≤ 2 → words_At.f (zna [wordO (a - 5), wordO a] 0).f0 (zna [wordO (a - 5), wordO a] 0).f1 n = some (a - 5, 0) := fun n n0 n1 => at_one (a - 5) n n0 (by omega)
 have ha1 : ∀ n, 0 ≤ n → n ≤ 2 → words_At.f (zna [wordO (a - 5), wordO a] 1).f0 (zna [wordO (a - 5), wordO a] 1).f1 n = some (a, 0) := fun n n0 n1 => at_one a n n0 (by omega)
 have q3 : wrap64 (2 + 1) = 3 := zsa (by unfold I64; omega)
 have q4 : wrap64 (3 + 1) = 4 := zsa (by unfold I64; omega)
 have q5 : wrap64 (4 + 1) = 5 := zsa (by unfold I64; omega)
 have q6 : wrap64 (5 + 1) = 6 := zsa (by unfold I64; omega)
 rw [zab (k + 14) _ _ _ _ 6 0 (a - 5) (jobN 0 a 0 a 0) rfl rfl (by omega) (by omega) (by simp [jobN]) (by simp [jobN]) (by simp [jobN]) (ha0 0 (by omega) (by omega)) (by simp), w1]
 rw [zab (k + 13) _ _ _ _ 6 1 a (jobN 1 a 0 a 0) rfl rfl (by omega) (by omega) (by simp [jobN]) (by simp [jobN]) (by simp [jobN]) (ha1 0 (by omega) (by omega)) (by simp), w2]
 rw [zab (k + 12) _ _ _ _ 6 2 (a - 5) (jobN 0 a 0 a 1) rfl rfl (by omega) (by omega) (by simp [jobN]) (by simp [jobN]) (by simp [jobN]) (ha0 1 (by omega) (by omega)) (by simp), q3]
 rw [zab (k + 11) _ _ _ _ 6 3 a (jobN 1 a 0 a 1) rfl rfl (by omega) (by omega) (by simp [jobN]) (by simp [jobN]) (by simp [jobN]) (ha1 1 (by omega) (by omega)) (by simp), q4]
 rw [zab (k + 10) _ _ _ _ 6 4 (a - 5) (jobN 0 a 0 a 2) rfl rfl (by omega) (by omega) (by simp [jobN]) (by simp [jobN]) (by simp [jobN]) (ha0 2 (by omega) (by omega)) (by simp), q5]
 rw [zab (k + 9) _ _ _ _ 6 5 a (jobN 1 a 0 a 2) rfl rfl (by omega) (by omega) (by simp [jobN]) (by simp [jobN]) (by simp [jobN]) (ha1 2 (by omega) (by omega)) (by simp), q6]
 unfold gate_Works.l0
 rw [if_neg (by omega)]
 have r0 : ∀ n v : Int, 0 ≤ n → n ≤ 2 → 0 ≤ v → v ≤ a → wrap64 (0 + n * a + v) = n * a + v := fun n v n0 n1 v0 v1 => by
  have e1 : n * a ≤ 2 * a := Int.mul_le_mul_of_nonneg_right n1 (by omega)
  have e2 : 0 ≤ n * a := Int.mul_nonneg n0 (by omega)
  rw [wn (by omega) (by omega)]; omega
 simp only [jobN]
 rw [r0 0 (a - 5) (by omega) (by omega) (by omega) (by omega), r0 0 a (by omega) (by omega) (by omega) (by omega), r0 1 (a - 5) (by omega) (by omega) (by omega) (by omega), r0 1 a (by omega) (by omega) (by omega) (by omega), r0 2 (a - 5) (by omega) (by omega) (by omega) (by omega), r0 2 a (by omega) (by omega) (by omega) (by omega)]
 simp [Go.Proofs.YtfondhcppjkchaaGreatW.PrintWords.rd]
theorem count_at (k : Nat) (a : Int) (h0 : 1 ≤ a) (h1 : a ≤ 1099511627776) : unfold_Count.f (k + 1) 0 a a 0 = some (0, 1, 0) := by
 obtain ⟨hc, h⟩ := zub (P := a) (S := 0) h0 h1 (by omega) (by omega)
 unfold unfold_Count.f
 rw [show unfold_mayClock.f (k + 1) a 0 = some (clockB ⟨a, 0⟩) from unfold_mayClock_eq k ⟨a, 0⟩ hc.1 hc.2, h, Option.bind_some, if_pos rfl, if_neg (by omega), if_neg (by omega), if_neg (by omega), if_neg (by omega), if_neg (by omega), Int.tmod_self, if_pos rfl]
 unfold unfold_count.f unfold_below.f num_Ceil.f
 rw [Int.sub_self, show wrap64 0 = 0 from wn (by omega) (by omega), zsb, if_pos (by omega), Option.bind_some, Option.bind_some, if_neg (by omega), ceilS_0 h0, Int.tdiv_self (by omega), Option.bind_some, show wrap64 1 = 1 from wn (by omega) (by omega)]
theorem load_two (k : Nat) (a : Int) (h0 : 1 ≤ a) (h1 : a ≤ 1099511627776) : gate_Load.f (k + 4) [taskO a 0 a, outA a] [⟨a, 0⟩] [10, 5] = some (15, a, 0) := by
 have hl : (([taskO a 0 a, outA a] : List S78).length : Int) = 2 := rfl
 have hc : (([10, 5] : List Int).length : Int) = 2 := rfl
 unfold gate_Load.f
 rw [of_two a h0 h1, Option.bind_some, if_pos rfl, if_pos (by rw [hl, hc])]
 show gate_Load.l0 (k + 4) [taskO a 0 a, outA a] 0 [10, 5] 2 0 0 a = _
 unfold gate_Load.l0
 rw [if_pos (by omega), if_pos (by omega), if_pos (by omega), show Go.Proofs.YtfondhcppjkchaaGreatW.PrintWords.rd [10, 5] 0 = 10 from rfl, if_neg (by omega), if_neg (by omega), if_pos (by omega), zvb, show unfold_Count.f (k + 3) 0 a (taskO a 0 a).f0.f0 (taskO a 0 a).f0.f1 = some (0, 1, 0) from count_at (k + 2) a h0 h1, Option.bind_some]
 show gate_Load.l0 (k + 3) [taskO a 0 a, outA a] (wrap64 (0 + wrap64 (1 * 10))) [10, 5] 2 (wrap64 (0 + 1)) 0 a = _
 rw [show wrap64 (0 + wrap64 (1 * 10)) = 10 by rw [wn (x := 1 * 10) (by omega) (by omega)]; exact wn (by omega) (by omega), w1]
 unfold gate_Load.l0
 rw [if_pos (by omega), if_pos (by omega), if_pos (by omega), show Go.Proofs.YtfondhcppjkchaaGreatW.PrintWords.rd [10, 5] 1 = 5 from rfl, if_neg (by omega), if_neg (by omega), if_pos (by omega), zwb, show unfold_Count.f (k + 2) 0 a (outA a).f0.f0 (outA a).f0.f1 = some (0, 1, 0) from count_at (k + 1) a h0 h1, Option.bind_some]
 show gate_Load.l0 (k + 2) [taskO a 0 a, outA a] (wrap64 (10 + wrap64 (1 * 5))) [10, 5] 2 (wrap64 (1 + 1)) 0 a = _
 rw [show wrap64 (10 + wrap64 (1 * 5)) = 15 by rw [wn (x := 1 * 5) (by omega) (by omega)]; exact wn (by omega) (by omega), w2]
 unfold gate_Load.l0
 rw [if_neg (by omega)]
def worksA (a : Int) : List S61 := [⟨0, a - 5, 10⟩, ⟨0, a, 5⟩, ⟨a, a + (a - 5), 10⟩, ⟨a, a + a, 5⟩, ⟨2 * a, 2 * a + (a - 5), 10⟩, ⟨2 * a, 2 * a + a, 5⟩]
theorem mayA (a : Int) (h0 : 15 ≤ a) (h1 : a ≤ 1000) : Mw.mayB (worksA a) = true := by
 rw [Mw.mayB_iff]
 refine ⟨by simp [worksA], ?_⟩
 intro w hw
 simp only [worksA, List.mem_cons, List.not_mem_nil, or_false] at hw
 rcases hw with rfl | rfl | rfl | rfl | rfl | rfl <;> exact ⟨by simp only; omega, by simp only; omega, by simp only; omega, by simp only; omega, by simp only; omega, by simp only; omega⟩
theorem worst50 {r : Int × Int × Bool} (hr : Mw.IsWorst (worksA 50) 7 r) : r.2.2 = false := by
 rcases hr with ⟨h1, h3, h4, h5⟩ | ⟨h1, h3⟩
 ·exfalso
  obtain ⟨u, hu, v, hv, e⟩ := Mw.zgb.1 h3
  injection e with e1 e2
  rw [e1, e2] at h4
  simp only [worksA, List.mem_cons, List.not_mem_nil, or_false] at hu hv
  clear h5 h3 e1 e2 h1
  rcases hu with rfl | rfl | rfl | rfl | rfl | rfl <;> rcases hv with rfl | rfl | rfl | rfl | rfl | rfl <;> simp [Mw.Bad, Mw.dem, worksA] at h4
 ·rw [h1]
theorem worst20 {r : Int × Int × Bool} (hr : Mw.IsWorst (worksA 20) 7 r) : r.2.2 = true ∧ r.1 < 20 := by
 have hb : Mw.Bad (worksA 20) 7 0 15 := by simp [Mw.Bad, Mw.dem, worksA]
 have hp : ((0 : Int), (15 : Int)) ∈ Mw.pairsOf (worksA 20) := Mw.zgb.2 ⟨⟨0, 15, 10⟩, by simp [worksA], ⟨0, 15, 10⟩, by simp [worksA], rfl⟩
 rcases hr with ⟨h1, h3, h4, h5⟩ | ⟨h1, h3⟩
 ·have h6 := h5 _ hp hb
  simp only at h6
  exact ⟨h1, by omega⟩
 ·exact absurd hb (h3 _ hp)
theorem pass50 : gate_Pass.f [taskO 50 0 50, outA 50] [⟨50, 0⟩] [10, 5] [wordO (50 - 5), wordO 50] = some 0 := by
 obtain ⟨r, hr, kr, hE⟩ := Mw.worst_eq (worksA 50) 7 (mayA 50 (by omega) (by omega)) (by omega) (by omega)
 have hp : passS (kr + 15) [taskO 50 0 50, outA 50] [⟨50, 0⟩] [10, 5] [wordO (50 - 5), wordO 50] = some 0 := by
  unfold passS
  rw [works_two kr 50 (by omega) (by omega), Option.bind_some, if_pos rfl, if_neg (by simp), of_two 50 (by omega) (by omega), Option.bind_some, load_two (kr + 11) 50 (by omega) (by omega), Option.bind_some, if_neg (by simp)]
  dsimp only
  rw [show demand_Worst.f (kr + 15) [(⟨0, 50 - 5, 10⟩ : S61), ⟨0, 50, 5⟩, ⟨50, 50 + (50 - 5), 10⟩, ⟨50, 50 + 50, 5⟩, ⟨2 * 50, 2 * 50 + (50 - 5), 10⟩, ⟨2 * 50, 2 * 50 + 50, 5⟩] 7 = some (r.1, r.2.1, r.2.2, 0) from hE (kr + 15) (by omega), Option.bind_some]
  dsimp only
  rw [if_neg (by rw [worst50 hr]; simp)]
 exact zqb (fun k => passS_mono k _ _ _ _) hp
theorem pass20 : gate_Pass.f [taskO 20 0 20, outA 20] [⟨20, 0⟩] [10, 5] [wordO (20 - 5), wordO 20] = some 241 := by
 obtain ⟨r, hr, kr, hE⟩ := Mw.worst_eq (worksA 20) 7 (mayA 20 (by omega) (by omega)) (by omega) (by omega)
 have hp : passS (kr + 15) [taskO 20 0 20, outA 20] [⟨20, 0⟩] [10, 5] [wordO (20 - 5), wordO 20] = some 241 := by
  unfold passS
  rw [works_two kr 20 (by omega) (by omega), Option.bind_some, if_pos rfl, if_neg (by simp), of_two 20 (by omega) (by omega), Option.bind_some, load_two (kr + 11) 20 (by omega) (by omega), Option.bind_some, if_neg (by simp)]
  dsimp only
  rw [show demand_Worst.f (kr + 15) [(⟨0, 20 - 5, 10⟩ : S61), ⟨0, 20, 5⟩, ⟨20, 20 + (20 - 5), 10⟩, ⟨20, 20 + 20, 5⟩, ⟨2 * 20, 2 * 20 + (20 - 5), 10⟩, ⟨2 * 20, 2 * 20 + 20, 5⟩] 7 = some (r.1, r.2.1, r.2.2, 0) from hE (kr + 15) (by omega), Option.bind_some]
  dsimp only
  obtain ⟨e1, e2⟩ := worst20 hr
  rw [if_pos e1, show wrap64 (0 + 20) = 20 from zsa (by unfold I64; omega), if_pos e2]
 exact zqb (fun k => passS_mono k _ _ _ _) hp
theorem law24_works (k : Nat) : carillonlaw24_works.f (k + 15) = some true := by
 unfold carillonlaw24_works.f
 rw [Option.bind_some, show sample.f 50 = some ([taskO 50 0 50, outA 50], [⟨50, 0⟩]) from rfl, Option.bind_some]
 dsimp only
 rw [adjust_two 50 (by omega) (by omega), Option.bind_some, show sample.f 20 = some ([taskO 20 0 20, outA 20], [⟨20, 0⟩]) from rfl, Option.bind_some]
 dsimp only
 rw [adjust_two 20 (by omega) (by omega), Option.bind_some, load_two (k + 11) 50 (by omega) (by omega), Option.bind_some]
 dsimp only
 rw [works_two k 50 (by omega) (by omega), Option.bind_some]
 dsimp only
 rw [if_pos rfl, if_pos rfl, if_pos rfl, if_pos rfl, if_pos rfl, if_pos rfl, if_pos (by simp), pass50, Option.bind_some, if_pos rfl, pass20, Option.bind_some]
 rfl
end Go.Proofs.YtfondhcppjkchaaGreat.Q
