import Derived.Test.YtfondhcppjkchaaGreatC46
set_option maxHeartbeats 40000000
set_option maxRecDepth 100000
set_option linter.unusedVariables false
set_option linter.unusedSimpArgs false
namespace Go.Proofs.YtfondhcppjkchaaGreat.Q
open Go.RowKit Go.Proofs.YtfondhcppjkchaaGreatW.PrintWords
theorem w1 : wrap64 (0 + 1) = 1 := zsa (by unfold I64; omega)
theorem w2 : wrap64 (1 + 1) = 2 := zsa (by unfold I64; omega)
theorem wn {x : Int} (h0 : -4611686018427387904 ≤ x) (h1 : x ≤ 4611686018427387904) : wrap64 x = x := zsa (by unfold I64; omega)
def readO (kind : Int) : S75 := ⟨kind, 0, 0, ⟨[], [⟨false, 0, 0⟩], 1⟩⟩
theorem depMay_one : depMay ⟨[], [⟨false, 0, 0⟩], 1⟩ = true := by decide
theorem depAt_zero : depAt ⟨[], [⟨false, 0, 0⟩], 1⟩ 0 = (⟨false, 0, 0⟩, 0) := by
 unfold depAt
 rw [depMay_one]
 simp [zpa, mulS, addS]
theorem contains_clocks {c : S68} (h : clockB c = true) (hc : Clk c) : containsClock.f [c] = some false := by
 unfold containsClock.f
 rw [if_pos (by intro x hx; rw [List.mem_singleton.1 hx]; exact hc)]
 simp [badClock, h]
theorem mulS_one (P : Int) (h : I64 P) : mulS P 1 = (P, true) := by
 unfold mulS I64 at *
 rw [Int.mul_one, if_pos h]
theorem mulS_zero (P : Int) : mulS P 0 = (0, true) := by
 unfold mulS
 rw [Int.mul_zero, if_pos (by omega)]
theorem dateS_at0 (c : S68) (h : clockB c = true) (h1 : I64 c.f1) : dateS c 0 = (c.f1, true) := by
 unfold dateS
 rw [mulS_zero, if_pos ⟨rfl, by omega, h⟩]
 unfold addS I64 at *
 rw [Int.mul_zero, Int.add_zero, if_pos h1]
theorem mayRead_one (k : Nat) (c : S68) (hc : Clk c) (h : clockB c = true) : tasks_mayRead.f (k + 6) [] [⟨false, 0, 0⟩] 1 c.f0 c.f1 c.f0 c.f1 = some true := by
 have hm : num_Mul.f (k + 5) c.f0 1 = some (mulS c.f0 1) := num_Mul_eq (k + 4) hc.1 (by unfold I64; omega)
 have hd : clocks_Date.f (k + 3) c.f0 c.f1 0 = some (dateS c 0) := clocks_Date_eq (k + 2) c 0 hc.1 hc.2 (by unfold I64; omega)
 unfold tasks_mayRead.f deps_May.f
 rw [depMay_one]
 simp only [Option.bind_some, if_true]
 unfold tasks_mayRead.j0
 simp only [show decide ((1 : Int) < 1) = false from rfl, Bool.false_eq_true, if_false, List.length_cons, List.length_nil]
 rw [show ((0 + 1 : Nat) : Int) = 1 from rfl, hm, mulS_one _ hc.1]
 simp only [Option.bind_some, if_true, bne_self_eq_false]
 unfold tasks_mayRead.j1
 simp only [Bool.false_eq_true, if_false, List.length_cons, List.length_nil]
 rw [show wrap64 (((0 : Nat) : Int) + ((0 + 1 : Nat) : Int)) = 1 from w1]
 unfold tasks_mayRead.l0
 rw [if_pos (by omega)]
 unfold deps_At.f
 rw [if_pos (by omega), depAt_zero]
 simp only [Option.bind_some]
 rw [hd, dateS_at0 c h hc.2]
 simp only [Option.bind_some, if_true, Bool.false_eq_true, if_false]
 rw [if_neg (by omega), w1]
 unfold tasks_mayRead.l0
 rw [if_neg (by omega)]
theorem mayTask_call (k : Nat) (c : S68) (hc : Clk c) (h : clockB c = true) (due out writes : Int) (rs : List S75) (hl : rs.length = 1) (d0 : 1 ≤ due) (d1 : due ≤ c.f0) (w0 : 1 ≤ writes) (w1' : writes ≤ 32) (ho : out = -1) : tasks_mayTask.f (k + 2) c.f0 c.f1 due 0 out rs writes = some true := by
 unfold tasks_mayTask.f
 rw [mayClock_eq (k + 1) c hc.1 hc.2, h]
 simp only [Option.bind_some, if_true]
 rw [if_neg (by omega), if_neg (by omega), if_neg (by omega), decide_eq_false (by omega)]
 unfold tasks_mayTask.j0
 simp only [Bool.false_eq_true, if_false]
 rw [if_pos ho, if_pos (by omega), if_pos (by omega), decide_eq_true w1']
theorem mayTask_out (k : Nat) (c : S68) (hc : Clk c) (h : clockB c = true) (due body out : Int) (rs : List S75) (hl : rs.length = 1) (d0 : 1 ≤ due) (d1 : due ≤ c.f0) (hb : body = -1) (ho : 0 ≤ out) : tasks_mayTask.f (k + 2) c.f0 c.f1 due body out rs 0 = some true := by
 unfold tasks_mayTask.f
 rw [mayClock_eq (k + 1) c hc.1 hc.2, h]
 simp only [Option.bind_some, if_true]
 rw [if_neg (by omega), if_neg (by omega), if_neg (by omega), decide_eq_false (by omega)]
 unfold tasks_mayTask.j0
 simp only [Bool.false_eq_true, if_false]
 rw [if_neg (by omega), if_pos hb, if_pos (by omega)]
 simp [hl]
def taskO (P S d : Int) : S78 := ⟨⟨P, S⟩, d, 0, -1, [readO 1], 1⟩
theorem zub {P S : Int} (h0 : 1 ≤ P) (h1 : P ≤ 1099511627776) (h2 : 0 ≤ S) (h3 : S ≤ 1099511627776) : Clk ⟨P, S⟩ ∧ clockB ⟨P, S⟩ = true := by
 refine ⟨⟨?_, ?_⟩, ?_⟩
 ·show I64 P; unfold I64; omega
 ·show I64 S; unfold I64; omega
 ·unfold clockB; exact decide_eq_true ⟨h0, h1, h2, h3⟩
theorem rd78_one (t : S78) : zj [t] 0 = t := rfl
theorem rd75_one (r : S75) : zm [r] 0 = r := rfl
theorem rd68_one (c : S68) : zbb [c] 0 = c := rfl
theorem may_one (P S d : Int) (h0 : 1 ≤ P) (h1 : P ≤ 1099511627776) (h2 : 0 ≤ S) (h3 : S ≤ 1099511627776) (d0 : 1 ≤ d) (d1 : d ≤ P) : tasks_May.f 12 [taskO P S d] [⟨P, S⟩] = some 0 := by
 obtain ⟨hc, h⟩ := zub h0 h1 h2 h3
 unfold tasks_May.f
 rw [contains_clocks h hc]
 simp only [List.length_cons, List.length_nil]
 rw [if_neg (by omega), if_neg (by omega)]
 simp only [Option.bind_some]
 unfold tasks_May.j0
 simp only [Bool.false_eq_true, if_false, List.length_cons, List.length_nil]
 rw [show ((0 + 1 : Nat) : Int) = 1 from rfl]
 unfold tasks_May.l0
 simp only [List.length_cons, List.length_nil]
 rw [show ((0 + 1 : Nat) : Int) = 1 from rfl, if_pos (by omega), if_pos (by omega), if_pos (by omega), rd78_one]
 rw [show tasks_mayTask.f 10 (taskO P S d).f0.f0 (taskO P S d).f0.f1 (taskO P S d).f1 (taskO P S d).f2 (taskO P S d).f3 (taskO P S d).f4 (taskO P S d).f5 = some true from mayTask_call 8 ⟨P, S⟩ hc h d (-1) 1 [readO 1] rfl d0 d1 (by omega) (by omega) rfl]
 simp only [Option.bind_some, if_true]
 rw [w1]
 unfold tasks_May.l0
 rw [if_neg (by omega)]
 simp only [List.length_cons, List.length_nil]
 rw [show ((0 + 1 : Nat) : Int) = 1 from rfl]
 unfold tasks_May.l1
 simp only [List.length_cons, List.length_nil]
 rw [show ((0 + 1 : Nat) : Int) = 1 from rfl, if_pos (by omega), if_pos (by omega), if_pos (by omega), rd78_one]
 unfold tasks_May.l2
 have hf4 : (taskO P S d).f4 = [readO 1] := rfl
 rw [hf4, if_pos (show (0 : Int) < (([readO 1] : List S75).length : Int) by simp), if_pos (by omega), if_pos (show (0 : Int) < (([readO 1] : List S75).length : Int) by simp), rd75_one]
 have hck : tasks_clock.f 7 (readO 1).f0 (readO 1).f1 (readO 1).f2 (readO 1).f3.f0 (readO 1).f3.f1 (readO 1).f3.f2 [taskO P S d] [⟨P, S⟩] = some (P, S, true) := by
  unfold tasks_clock.f tasks_clock.j0
  simp [rd68_one, readO]
 rw [hck]
 simp only [Option.bind_some, if_true]
 rw [show tasks_mayRead.f 7 (readO 1).f3.f0 (readO 1).f3.f1 (readO 1).f3.f2 (taskO P S d).f0.f0 (taskO P S d).f0.f1 P S = some true from mayRead_one 1 ⟨P, S⟩ hc h]
 simp only [Option.bind_some, if_true]
 rw [w1]
 unfold tasks_May.l2
 rw [if_neg (show ¬ (1 : Int) < (([readO 1] : List S75).length : Int) by simp), w1]
 unfold tasks_May.l1
 rw [if_neg (by omega)]
theorem countL_eq (p h : Int) (c : S68) (hc : Clk c) (hb : clockB c = true) (p0 : 0 ≤ p) (p1 : p ≤ 17592186044416) (h0 : 1 ≤ h) (h1 : h ≤ 17592186044416) (hd : h % c.f0 = 0) :
  countL p h c.f0 c.f1 = some ((cntS p h c).1, (cntS p h c).2, 0) := by
 have hcl := of_decide_eq_true (show decide (1 ≤ c.f0 ∧ c.f0 ≤ 1099511627776 ∧ 0 ≤ c.f1 ∧ c.f1 ≤ 1099511627776) = true from hb)
 obtain ⟨a1, a2, a3, a4⟩ := hcl
 have hf : unfold_Count.f 1 p h c.f0 c.f1 = some ((cntS p h c).1, (cntS p h c).2, 0) := by
  unfold unfold_Count.f
  rw [unfold_mayClock_eq 0 c hc.1 hc.2, hb]
  simp only [Option.bind_some, if_true]
  rw [if_neg (by omega), if_neg (by omega), if_neg (by omega), if_neg (by omega), if_neg (by omega), Int.tmod_eq_emod_of_nonneg (by omega), if_pos hd]
  unfold unfold_count.f unfold_below.f num_Ceil.f
  have e1 : wrap64 (p - c.f1) = p - c.f1 := wn (by omega) (by omega)
  have m0 : 0 ≤ mx 0 (p - c.f1) ∧ mx 0 (p - c.f1) ≤ 17592186044416 := by unfold mx; split <;> omega
  rw [e1, if_pos ⟨m0.1, by omega, a1, by omega⟩]
  simp only [Option.bind_some]
  rw [if_neg (by omega)]
  simp only [Option.bind_some]
  have e2 : h.tdiv c.f0 = h / c.f0 := Int.tdiv_eq_ediv_of_nonneg (by omega)
  have e3 : 0 ≤ h / c.f0 ∧ h / c.f0 ≤ h := ⟨Int.ediv_nonneg (by omega) (by omega), Int.ediv_le_self _ (by omega)⟩
  rw [e2, wn (by omega) (by omega)]
  rfl
 exact zqb (fun k => unfold_Count.mono _ _ _ _ k) hf
theorem ceilS_0 {P : Int} (h : 1 ≤ P) : ceilS 0 P = 0 := by
 unfold ceilS
 exact Int.ediv_eq_zero_of_lt (by omega) (by omega)
theorem zsb (a : Int) : mx a a = a := by unfold mx; split <;> rfl
theorem mx_0 {a : Int} (h : 0 ≤ a) : mx 0 a = a := by unfold mx; split <;> omega
theorem more2_one {P : Int} (h : 1 ≤ P) (h1 : P ≤ 1099511627776) : more2 1 P = (P, true) := by
 have e : lcmS 1 P = (P, true) := by
  unfold lcmS
  have : (Nat.lcm (1 : Int).toNat P.toNat : Int) = P := by
   rw [show (1 : Int).toNat = 1 from rfl, Nat.lcm_one_left]
   omega
  rw [this, if_pos (by omega)]
 unfold more2
 rw [e]
 simp
 omega
theorem cnt_one {P S : Int} (h : 1 ≤ P) : cntS S P ⟨P, S⟩ = (0, 1) := by
 unfold cntS
 simp only
 rw [show S - S = 0 by omega, zsb, ceilS_0 h, Int.ediv_self (by omega)]
theorem fit_one {P S d : Int} (hb : clockB ⟨P, S⟩ = true) : ([taskO P S d] : List S78).all fitT = true := by
 simp [fitT, taskO, readO, fitR, hb]
theorem readStep_one (kind : Int) {P S : Int} (h0 : 1 ≤ P) (h1 : P ≤ 1099511627776) : readStep ⟨P, S⟩ (S, 1) (readO kind) = some (S, P) := by
 have e : more2 (S, (1 : Int)).2 ((⟨P, S⟩ : S68).f0 * ((readO kind).f3.f1.length : Int)) = (P, true) := by
  show more2 1 (P * ((0 + 1 : Nat) : Int)) = _
  rw [show P * ((0 + 1 : Nat) : Int) = P by simp]
  exact more2_one h0 h1
 unfold readStep
 rw [if_pos (by rw [e]), e]
 show some (mx S (S + ((0 : Nat) : Int) * P), P) = some (S, P)
 rw [show S + ((0 : Nat) : Int) * P = S by simp, zsb]
theorem ofS_one (P S d : Int) (h0 : 1 ≤ P) (h1 : P ≤ 1099511627776) (h2 : 0 ≤ S) (h3 : S ≤ 1099511627776) : ofS [taskO P S d] = (S, P, 0) := by
 have hs : spanL [taskO P S d] = some (S, P) := by
  unfold spanL
  simp only [List.foldlM_cons, List.foldlM_nil]
  have ht : taskStep (0, 1) (taskO P S d) = some (S, P) := by
   unfold taskStep
   show List.foldlM (readStep ⟨P, S⟩) (mx 0 S, 1) [readO 1] = some (S, P)
   rw [mx_0 h2]
   simp only [List.foldlM_cons, List.foldlM_nil]
   rw [readStep_one 1 h0 h1]
   rfl
  rw [ht]
  rfl
 have hj : ([taskO P S d] : List S78).foldlM (jobStep S P) 0 = some 1 := by
  simp only [List.foldlM_cons, List.foldlM_nil]
  unfold jobStep
  rw [show cntS S P (taskO P S d).f0 = (0, 1) from cnt_one h0]
  simp
 unfold ofS
 rw [hs]
 simp only
 rw [if_neg (by omega), hj]
theorem of_one (P S d : Int) (h0 : 1 ≤ P) (h1 : P ≤ 1099511627776) (h2 : 0 ≤ S) (h3 : S ≤ 1099511627776) (d0 : 1 ≤ d) (d1 : d ≤ P) : unfold_Of.f [taskO P S d] [⟨P, S⟩] = some (S, P, 0) := by
 unfold unfold_Of.f
 rw [zqb (fun k => tasks_May.mono _ _ k) (may_one P S d h0 h1 h2 h3 d0 d1)]
 simp only [Option.bind_some, if_true]
 rw [if_pos (fit_one (zub h0 h1 h2 h3).2), ofS_one P S d h0 h1 h2 h3]
theorem count_one (P S : Int) (h0 : 1 ≤ P) (h1 : P ≤ 1099511627776) (h2 : 0 ≤ S) (h3 : S ≤ 1099511627776) : countL S P P S = some (0, 1, 0) := by
 obtain ⟨hc, h⟩ := zub h0 h1 h2 h3
 have := countL_eq S P ⟨P, S⟩ hc h h2 (by omega) h0 (by omega) (Int.emod_self)
 rw [cnt_one h0] at this
 exact this
theorem mLoop_mono (l : List S78) (p h : Int) (costs : List Int) (i k hd n : Int) : ∀ (f : Nat) (t : Int) (es : List Edge), LeO (mLoop l p h costs i k hd n f t es) (mLoop l p h costs i k hd n (f + 1) t es)
 | 0, t, es => LeO.none _
 | f + 1, t, es => by
  have ih := mLoop_mono l p h costs i k hd n f
  unfold mLoop
  exact LeO.bind (LeO.refl _) (fun r => LeO.ite (ih _ _) (LeO.refl _))
theorem kLoop_mono (l : List S78) (p h : Int) (costs : List Int) (i hd n : Int) (f : Nat) (es : List Edge) : ∀ c, LeO (kLoop l p h costs i hd n f es c) (kLoop l p h costs i hd n (f + 1) es c)
 | 0 => LeO.refl _
 | c + 1 => LeO.bind (kLoop_mono l p h costs i hd n f es c) (fun es1 => mLoop_mono l p h costs i c hd n f c es1)
theorem taskOf_mono (l : List S78) (p h : Int) (costs : List Int) (f : Nat) (s : AL × List Edge) (i : Int) : LeO (taskOf l p h costs f s i) (taskOf l p h costs (f + 1) s i) := by
 unfold taskOf
 exact LeO.bind (LeO.refl _) (fun c => LeO.ite (LeO.bind (kLoop_mono _ _ _ _ _ _ _ _ _ _) (fun _ => LeO.refl _)) (LeO.refl _))
theorem tasksOf_mono (l : List S78) (p h : Int) (costs : List Int) (f : Nat) : ∀ x, LeO (tasksOf l p h costs f x) (tasksOf l p h costs (f + 1) x)
 | 0 => LeO.refl _
 | x + 1 => LeO.bind (tasksOf_mono l p h costs f x) (fun s => taskOf_mono _ _ _ _ _ _ _)
theorem due_of_mono (f : Nat) (l : List S78) (ins : List S68) (costs : List Int) : LeO (due_of.f f l ins costs) (due_of.f (f + 1) l ins costs) := by
 unfold due_of.f
 exact LeO.bind (LeO.refl _) (fun r => LeO.ite (LeO.ite (LeO.ite (LeO.refl _) (LeO.bind (tasksOf_mono _ _ _ _ _ _) (fun _ => LeO.refl _))) (LeO.refl _)) (LeO.refl _))
theorem checkS_mono (f : Nat) (l : List S78) (ins : List S68) (costs : List Int) (dues : List S27) : LeO (checkS f l ins costs dues) (checkS (f + 1) l ins costs dues) := by
 unfold checkS
 exact LeO.bind (due_of_mono _ _ _ _) (fun _ => LeO.refl _)
theorem turnsS_mono (es : List Edge) (costs : List Int) : ∀ (k : Nat) (t : Int) (m : AL), LeO (turnsS es costs k t m) (turnsS es costs (k + 1) t m)
 | 0, t, m => LeO.none _
 | k + 1, t, m => by
  have ih := turnsS_mono es costs k
  rw [show turnsS es costs (k + 1 + 1) t m = _ from rfl]
  unfold turnsS
  exact LeO.ite (LeO.ite (LeO.ite (LeO.refl _) (LeO.ite (LeO.refl _) (ih _ _))) (LeO.refl _)) (LeO.refl _)
theorem adjustS_mono (f : Nat) (l : List S78) (ins : List S68) (costs : List Int) : LeO (adjustS f l ins costs) (adjustS (f + 1) l ins costs) := by
 unfold adjustS
 exact LeO.bind (due_of_mono _ _ _ _) (fun r => LeO.ite (LeO.bind (turnsS_mono _ _ _ _ _) (fun _ => LeO.refl _)) (LeO.refl _))
theorem passS_mono (k : Nat) (l : List S78) (ins : List S68) (costs : List Int) (dues : List S27) : LeO (passS k l ins costs dues) (passS (k + 1) l ins costs dues) := by
 unfold passS
 exact LeO.bind (gate_Works.mono _ _ _ _ _) (fun _ => LeO.ite (LeO.ite (LeO.refl _) (LeO.bind (LeO.refl _) (fun _ => LeO.bind (gate_Load.mono _ _ _ _) (fun _ => LeO.ite (LeO.refl _) (LeO.bind (demand_Worst.mono _ _ _) (fun _ => LeO.refl _)))))) (LeO.refl _))
theorem need_one (kind : Int) (t : S78) (h : t.f4 = [readO kind]) : needL t 0 = some ([⟨kind, 0, 0, 0⟩], 0) := by
 have hr : containsRead.f [readO kind] = some false := by
  unfold containsRead.f
  rw [if_pos trivial]
  have : badRead (readO kind) = false := by
   unfold badRead readO
   rw [depMay_one]
   rfl
  simp [this]
 have hd : deps_At.f [] [⟨false, 0, 0⟩] 1 0 = some (false, 0, 0, 0) := by
  unfold deps_At.f
  rw [if_pos (by omega), depAt_zero]
 have hf : unfold_Needs.f 4 t.f0.f0 t.f0.f1 t.f1 t.f2 t.f3 t.f4 t.f5 0 = some ([⟨kind, 0, 0, 0⟩], 0) := by
  rw [h]
  unfold unfold_Needs.f
  rw [if_neg (by omega), hr]
  simp only [Option.bind_some]
  unfold unfold_Needs.j0
  simp only [Bool.false_eq_true, if_false]
  unfold unfold_Needs.l0
  rw [if_pos (show (0 : Int) < (([readO kind] : List S75).length : Int) by simp), if_pos (by omega), if_pos (show (0 : Int) < (([readO kind] : List S75).length : Int) by simp), rd75_one, show deps_At.f (readO kind).f3.f0 (readO kind).f3.f1 (readO kind).f3.f2 0 = some (false, 0, 0, 0) from hd]
  simp only [Option.bind_some, if_true, Bool.false_eq_true, if_false]
  rw [if_pos (by simp), w1]
  unfold unfold_Needs.l0
  rw [if_neg (show ¬ (1 : Int) < (([readO kind] : List S75).length : Int) by simp)]
  rfl
 exact zqb (fun k => unfold_Needs.mono _ _ _ _ _ _ _ _ k) hf
theorem needsS_in (l : List S78) (p h : Int) (costs : List Int) (i n : Int) (es : List Edge) (ht : (zj l i).f4 = [readO 1]) : needsS l p h costs i n 0 es = some (es, false) := by
 unfold needsS
 rw [need_one 1 _ ht]
 simp only [Option.bind_some, List.foldlM_cons, List.foldlM_nil]
 unfold needStep
 rw [if_neg (by decide)]
 rfl
theorem due_of_one (P S d K : Int) (h0 : 1 ≤ P) (h1 : P ≤ 1099511627776) (h2 : 0 ≤ S) (h3 : S ≤ 1099511627776) (d0 : 1 ≤ d) (d1 : d ≤ P) (k0 : 1 ≤ K) (k1 : K ≤ 1048576) : due_of.f 1 [taskO P S d] [⟨P, S⟩] [K] = some (0, ⟨S, P, [((0, 0), d)], []⟩) := by
 unfold due_of.f
 rw [of_one P S d h0 h1 h2 h3 d0 d1]
 simp only [Option.bind_some, if_true]
 rw [if_pos (show ([K] : List Int).length = ([taskO P S d] : List S78).length from rfl), if_neg (by simp [badCost]; omega)]
 have ht : tasksOf [taskO P S d] S P [K] 1 1 = some ([((0, 0), d)], []) := by
  show (some (([], []) : AL × List Edge)).bind (fun s => taskOf [taskO P S d] S P [K] 1 s ((0 : Nat) : Int)) = _
  simp only [Option.bind_some]
  unfold taskOf
  rw [show ((0 : Nat) : Int) = 0 from rfl, rd78_one, show countL S P (taskO P S d).f0.f0 (taskO P S d).f0.f1 = some (0, 1, 0) from count_one P S h0 h1 h2 h3]
  simp only [Option.bind_some]
  rw [if_pos (by omega)]
  have hk : kLoop [taskO P S d] S P [K] 0 0 1 1 [] ((0 : Int) + 1).toNat = some [] := by
   show (some ([] : List Edge)).bind (fun es1 => mLoop [taskO P S d] S P [K] 0 ((0 : Nat) : Int) 0 1 1 ((0 : Nat) : Int) es1) = _
   simp only [Option.bind_some]
   unfold mLoop
   rw [show ((0 : Nat) : Int) = 0 from rfl, needsS_in _ _ _ _ _ _ _ rfl]
   simp
  rw [hk]
  rfl
 rw [show ([taskO P S d] : List S78).length = 1 from rfl, ht]
 rfl
def wordO (d : Int) : S27 := ⟨[], [d]⟩
theorem wordB_one (d : Int) : wordB [] [d] = true := by simp [wordB]
theorem at_one (d n : Int) (h0 : 0 ≤ n) (h1 : n ≤ 1125899906842624) : words_At.f [] [d] n = some (d, 0) := by
 have hat : words_at.f [] [d] n = some d := by
  unfold words_at.f
  have e1 : wrap64 (n - ((([] : List Int).length : Nat) : Int)) = n := by
   rw [List.length_nil, show n - ((0 : Nat) : Int) = n by simp]
   exact wn (by omega) (by omega)
  have e2 : Int.tmod n ((([d] : List Int).length : Nat) : Int) = 0 := by simp [Int.tmod_one]
  rw [if_pos (by simp; omega), if_neg (by simp), e1, e2, if_pos (by omega), if_pos (by simp)]
  rfl
 unfold words_At.f
 rw [may_f, wordB_one]
 simp only [Option.bind_some, if_true]
 rw [if_neg (by omega), hat]
 rfl
theorem fits_one (l : List S78) (p h i d : Int) (hc : countL p h (zj l i).f0.f0 (zj l i).f0.f1 = some (0, 1, 0)) (d0 : 1 ≤ d) : fitsS l p h i [] [d] = some true := by
 have hb : (bndS [] [d]).1 = d := by
  show mn d d = d
  unfold mn; split <;> rfl
 unfold fitsS
 rw [hc]
 simp only [Option.bind_some]
 rw [if_pos (wordB_one d), hb, if_pos d0, if_pos (by simp)]
 simp [Int.tmod_one]
theorem atL_one (dues : List S27) (i d : Int) (h : zna dues i = wordO d) : atL dues (i, 0) = some d := by
 unfold atL
 rw [h]
 show (words_At.f [] [d] 0).map _ = _
 rw [at_one d 0 (by omega) (by omega)]
 rfl
theorem check_one (P S d K : Int) (h0 : 1 ≤ P) (h1 : P ≤ 1099511627776) (h2 : 0 ≤ S) (h3 : S ≤ 1099511627776) (d0 : 1 ≤ d) (d1 : d ≤ P) (k0 : 1 ≤ K) (k1 : K ≤ 1048576) : due_Check.f [taskO P S d] [⟨P, S⟩] [K] [wordO d] = some (if d < K then 160 else 0) := by
 have hc : checkS 1 [taskO P S d] [⟨P, S⟩] [K] [wordO d] = some (if d < K then 160 else 0) := by
  unfold checkS
  rw [due_of_one P S d K h0 h1 h2 h3 d0 d1 k0 k1]
  simp only [Option.bind_some, if_true]
  rw [if_pos (show ([wordO d] : List S27).length = ([taskO P S d] : List S78).length from rfl)]
  have hf : fitsFrom [taskO P S d] S P 0 [wordO d] = some true := by
   unfold fitsFrom
   rw [show fitsS [taskO P S d] S P 0 (wordO d).f0 (wordO d).f1 = some true from fits_one _ S P 0 d (count_one P S h0 h1 h2 h3) d0]
   rfl
  rw [hf]
  simp only [Option.bind_some, if_true]
  have ha : atL [wordO d] (0, 0) = some d := atL_one _ 0 d rfl
  have hd : atD [wordO d] (0, 0) = d := by unfold atD; rw [ha]; rfl
  rw [if_pos ⟨by simp [keysIn], by simp [ha]⟩, if_neg (by simp [hd])]
  have hl : leftD [wordO d] [((0, 0), d)] = [((0, 0), d)] := by
   show [((0, 0), atD [wordO d] (0, 0))] = _
   rw [hd]
  rw [hl]
  have hs : shortS [K] [((0, 0), d)] = decide (d < K) := by
   unfold shortS
   simp [rd]
  have hr : (roundS [] [((0, 0), d)]).2 = false := rfl
  rw [hs, hr]
  by_cases h : d < K
  ·rw [if_pos (.inl (decide_eq_true h)), if_pos h]
  ·rw [if_neg (by simp [h]), if_neg h]
 exact zqb (fun f => checkS_mono f _ _ _ _) hc
theorem ltJob_asym {x y : S56} (h : ltJob x y = true) : ltJob y x = false := by
 unfold ltJob at *
 have h := of_decide_eq_true h
 exact decide_eq_false (by omega)
theorem strict_anti : ∀ {e : List S56}, e.Pairwise (fun x y => ltJob x y = true) → ∀ a ∈ e, ∀ b ∈ e, ltJob a b = false → ltJob b a = false → a = b
 | [], _, a, ha, _, _, _, _ => by cases ha
 | x :: e, hs, a, ha, b, hb, h1, h2 => by
  obtain ⟨hx, hs⟩ := List.pairwise_cons.1 hs
  rcases List.mem_cons.1 ha with ea | ha
  ·rcases List.mem_cons.1 hb with eb | hb
   ·rw [ea, eb]
   ·rw [ea, hx b hb] at h1; cases h1
  ·rcases List.mem_cons.1 hb with eb | hb
   ·rw [eb, hx a ha] at h2; cases h2
   ·exact strict_anti hs a ha b hb h1 h2
theorem sortJ_eq {raw e : List S56} (hp : e.Perm raw) (hs : e.Pairwise (fun x y => ltJob x y = true)) : sortJ raw = e := by
 obtain ⟨h1, h2⟩ := sortJ_spec raw
 refine List.Perm.eq_of_pairwise (le := fun x y => ltJob y x = false) (fun a b ha hb h3 h4 => ?_) h2 (hs.imp ltJob_asym) (h1.trans hp.symm)
 exact strict_anti hs a (hp.mem_iff.2 (h1.mem_iff.1 ha)) b hb h4 h3
def jobN (i P S d n : Int) : S56 := ⟨i, n, S + n * P, S + n * P + d⟩
theorem below_three (P S : Int) (h0 : 1 ≤ P) (h1 : P ≤ 1099511627776) (h2 : 0 ≤ S) (h3 : S ≤ 1099511627776) : unfold_below.f P S (S + 3 * P) = some 3 := by
 unfold unfold_below.f num_Ceil.f
 rw [show S + 3 * P - S = 3 * P by omega, wn (by omega) (by omega), mx_0 (by omega), if_pos (by omega)]
 simp only [Option.bind_some]
 rw [ceilS_zero h0 (by simp), Int.mul_ediv_cancel _ (by omega)]
theorem date_n (P S n : Int) (h0 : 1 ≤ P) (h1 : P ≤ 1099511627776) (h2 : 0 ≤ S) (h3 : S ≤ 1099511627776) (n0 : 0 ≤ n) (n1 : n ≤ 3) : unfold_date.f P S n = some (S + n * P) := by
 unfold unfold_date.f
 have e1 : n * P ≤ 3 * P := Int.mul_le_mul_of_nonneg_right n1 (by omega)
 have e2 : 0 ≤ n * P := Int.mul_nonneg n0 (by omega)
 rw [wn (x := n * P) (by omega) (by omega), wn (by omega) (by omega)]
theorem l2_three (k : Nat) (u : Int) (acc : List S56) (l : List S78) (m j : Int) (P S d b o w : Int) (rs : List S75) (hl : acc.length ≤ 1000) (h0 : 1 ≤ P) (h1 : P ≤ 1099511627776) (h2 : 0 ≤ S) (h3 : S ≤ 1099511627776) (d0 : 0 ≤ d) (d1 : d ≤ P) :
  unfold_Jobs.l2 (k + 4) u acc j l m j 3 0 P S d b o rs w = unfold_Jobs.l1 k u (acc ++ [jobN j P S d 0, jobN j P S d 1, jobN j P S d 2]) l m (wrap64 (j + 1)) := by
 have w3 : wrap64 (2 + 1) = 3 := wn (by omega) (by omega)
 have e : ∀ n, 0 ≤ n → n ≤ 2 → wrap64 (S + n * P + d) = S + n * P + d := fun n n0 n1 => by
  have e1 : n * P ≤ 2 * P := Int.mul_le_mul_of_nonneg_right n1 (by omega)
  have e2 : 0 ≤ n * P := Int.mul_nonneg n0 (by omega)
  exact wn (by omega) (by omega)
 unfold unfold_Jobs.l2
 rw [if_pos (by omega), date_n P S 0 h0 h1 h2 h3 (by omega) (by omega)]
 simp only [Option.bind_some]
 rw [if_pos (by omega), w1, e 0 (by omega) (by omega)]
 unfold unfold_Jobs.l2
 rw [if_pos (by omega), date_n P S 1 h0 h1 h2 h3 (by omega) (by omega)]
 simp only [Option.bind_some]
 rw [if_pos (by simp; omega), w2, e 1 (by omega) (by omega)]
 unfold unfold_Jobs.l2
 rw [if_pos (by omega), date_n P S 2 h0 h1 h2 h3 (by omega) (by omega)]
 simp only [Option.bind_some]
 rw [if_pos (by simp; omega), w3, e 2 (by omega) (by omega)]
 unfold unfold_Jobs.l2
 rw [if_neg (by omega)]
 simp only [List.append_assoc, List.cons_append, List.nil_append]
 rfl
theorem w03 : wrap64 (0 + 3) = 3 := zsa (by unfold I64; omega)
theorem n4096 : ¬ (3 : Int) > 4096 := by decide
theorem noBad {l : List S78} (h : ∀ t ∈ l, Clk t.f0 ∧ clockB t.f0 = true) : containsTask.f l = some false := by
 unfold containsTask.f
 rw [if_pos (show ∀ x ∈ l, TClk x from fun x hx => (h x hx).1)]
 congr 1
 rw [List.any_eq_false]
 intro t ht
 unfold badTask
 rw [(h t ht).2]
 simp
theorem jobs_one (P S d : Int) (h0 : 1 ≤ P) (h1 : P ≤ 1099511627776) (h2 : 0 ≤ S) (h3 : S ≤ 1099511627776) (d0 : 1 ≤ d) (d1 : d ≤ P) : unfold_Jobs.f 9 [taskO P S d] (S + 3 * P) = some ([jobN 0 P S d 0, jobN 0 P S d 1, jobN 0 P S d 2], 0) := by
 obtain ⟨hc, h⟩ := zub h0 h1 h2 h3
 unfold unfold_Jobs.f
 rw [if_neg (by simp), if_neg (by omega), if_neg (by omega), noBad (by intro t ht; rw [List.mem_singleton.1 ht]; exact ⟨hc, h⟩)]
 simp only [Option.bind_some]
 unfold unfold_Jobs.j0
 simp only [Bool.false_eq_true, if_false, List.length_cons, List.length_nil]
 rw [show ((0 + 1 : Nat) : Int) = 1 from rfl]
 unfold unfold_Jobs.l0
 rw [if_pos (by omega), if_pos (by omega), if_pos (by simp), rd78_one, show unfold_below.f (taskO P S d).f0.f0 (taskO P S d).f0.f1 (S + 3 * P) = some 3 from below_three P S h0 h1 h2 h3]
 rw [Option.bind_some, w03, if_neg n4096, w1]
 unfold unfold_Jobs.l0
 rw [if_neg (by omega)]
 unfold unfold_Jobs.l1
 rw [if_pos (by simp), if_pos (by omega), if_pos (by simp), rd78_one, show unfold_below.f (taskO P S d).f0.f0 (taskO P S d).f0.f1 (S + 3 * P) = some 3 from below_three P S h0 h1 h2 h3]
 rw [Option.bind_some, show unfold_Jobs.l2 5 (S + 3 * P) [] 0 [taskO P S d] (([taskO P S d] : List S78).length : Int) 0 3 0 (taskO P S d).f0.f0 (taskO P S d).f0.f1 (taskO P S d).f1 (taskO P S d).f2 (taskO P S d).f3 (taskO P S d).f4 (taskO P S d).f5 = _ from l2_three 1 _ [] _ _ 0 P S d _ _ _ _ (by simp) h0 h1 h2 h3 (by omega) d1, w1]
 unfold unfold_Jobs.l1
 rw [if_neg (by simp)]
 unfold sortJobs.f
 rw [List.nil_append, if_pos (by simp), sortJ_eq (e := [jobN 0 P S d 0, jobN 0 P S d 1, jobN 0 P S d 2]) (List.Perm.refl _) (by simp [jobN, ltJob]; omega)]
 rfl
def outA (a : Int) : S78 := ⟨⟨a, 0⟩, a, -1, 0, [readO 2], 0⟩
theorem zvb (x y : S78) : zj [x, y] 0 = x := rfl
theorem zwb (x y : S78) : zj [x, y] 1 = y := rfl
theorem may_two (k : Nat) (a : Int) (h0 : 1 ≤ a) (h1 : a ≤ 1099511627776) : tasks_May.f (k + 15) [taskO a 0 a, outA a] [⟨a, 0⟩] = some 0 := by
 obtain ⟨hc, h⟩ := zub (P := a) (S := 0) h0 h1 (by omega) (by omega)
 have hl : (([taskO a 0 a, outA a] : List S78).length : Int) = 2 := rfl
 have hr1 : ((([readO 1] : List S75).length : Nat) : Int) = 1 := rfl
 have hr2 : ((([readO 2] : List S75).length : Nat) : Int) = 1 := rfl
 unfold tasks_May.f
 rw [contains_clocks h hc, if_neg (by rw [hl]; omega), if_neg (by simp), Option.bind_some]
 unfold tasks_May.j0
 dsimp only
 rw [if_neg (by decide), hl]
 unfold tasks_May.l0
 rw [if_pos (by omega), if_pos (by omega), if_pos (by rw [hl]; omega), zvb, show tasks_mayTask.f (k + 13) (taskO a 0 a).f0.f0 (taskO a 0 a).f0.f1 (taskO a 0 a).f1 (taskO a 0 a).f2 (taskO a 0 a).f3 (taskO a 0 a).f4 (taskO a 0 a).f5 = some true from mayTask_call (k + 11) ⟨a, 0⟩ hc h a (-1) 1 [readO 1] rfl h0 (Int.le_refl a) (by omega) (by omega) rfl, Option.bind_some, if_pos rfl, w1]
 unfold tasks_May.l0
 rw [if_pos (by omega), if_pos (by omega), if_pos (by rw [hl]; omega), zwb, show tasks_mayTask.f (k + 12) (outA a).f0.f0 (outA a).f0.f1 (outA a).f1 (outA a).f2 (outA a).f3 (outA a).f4 (outA a).f5 = some true from mayTask_out (k + 10) ⟨a, 0⟩ hc h a (-1) 0 [readO 2] rfl h0 (Int.le_refl a) rfl (by omega), Option.bind_some, if_pos rfl, w2]
 unfold tasks_May.l0
 rw [if_neg (by omega), hl]
 unfold tasks_May.l1
 rw [if_pos (by omega), if_pos (by omega), if_pos (by rw [hl]; omega), zvb]
 unfold tasks_May.l2
 rw [show (taskO a 0 a).f4 = [readO 1] from rfl, hr1, if_pos (by omega), if_pos (by omega), if_pos (by omega), rd75_one]
 have hck : tasks_clock.f (k + 9) (readO 1).f0 (readO 1).f1 (readO 1).f2 (readO 1).f3.f0 (readO 1).f3.f1 (readO 1).f3.f2 [taskO a 0 a, outA a] [⟨a, 0⟩] = some (a, 0, true) := by
  unfold tasks_clock.f tasks_clock.j0
  simp [rd68_one, readO]
 rw [hck, Option.bind_some, if_pos rfl, show tasks_mayRead.f (k + 9) (readO 1).f3.f0 (readO 1).f3.f1 (readO 1).f3.f2 (taskO a 0 a).f0.f0 (taskO a 0 a).f0.f1 (a, (0 : Int), true).1 (a, (0 : Int), true).2.1 = some true from mayRead_one (k + 3) ⟨a, 0⟩ hc h, Option.bind_some, if_pos rfl, w1]
 unfold tasks_May.l2
 rw [if_neg (by omega), w1]
 unfold tasks_May.l1
 rw [if_pos (by omega), if_pos (by omega), if_pos (by rw [hl]; omega), zwb]
 unfold tasks_May.l2
 rw [show (outA a).f4 = [readO 2] from rfl, hr2, if_pos (by omega), if_pos (by omega), if_pos (by omega), rd75_one]
 have hck2 : tasks_clock.f (k + 6) (readO 2).f0 (readO 2).f1 (readO 2).f2 (readO 2).f3.f0 (readO 2).f3.f1 (readO 2).f3.f2 [taskO a 0 a, outA a] [⟨a, 0⟩] = some (a, 0, true) := by
  unfold tasks_clock.f tasks_clock.j0
  simp [zvb, readO, taskO]
 rw [hck2, Option.bind_some, if_pos rfl, show tasks_mayRead.f (k + 6) (readO 2).f3.f0 (readO 2).f3.f1 (readO 2).f3.f2 (outA a).f0.f0 (outA a).f0.f1 (a, (0 : Int), true).1 (a, (0 : Int), true).2.1 = some true from mayRead_one k ⟨a, 0⟩ hc h, Option.bind_some, if_pos rfl, w1]
 unfold tasks_May.l2
 rw [if_neg (by omega), w2]
 unfold tasks_May.l1
 rw [if_neg (by omega)]
theorem more2_self {a : Int} (h : 1 ≤ a) (h1 : a ≤ 1099511627776) : more2 a a = (a, true) := by
 have e : lcmS a a = (a, true) := by
  unfold lcmS
  rw [Nat.lcm_self, Int.toNat_of_nonneg (by omega), if_pos (by omega)]
 unfold more2
 rw [e]
 simp
 omega
theorem of_two (a : Int) (h0 : 1 ≤ a) (h1 : a ≤ 1099511627776) : unfold_Of.f [taskO a 0 a, outA a] [⟨a, 0⟩] = some (0, a, 0) := by
 obtain ⟨hc, h⟩ := zub (P := a) (S := 0) h0 h1 (by omega) (by omega)
 unfold unfold_Of.f
 rw [zqb (fun k => tasks_May.mono _ _ k) (may_two 0 a h0 h1), Option.bind_some, if_pos rfl, if_pos (by simp [fitT, taskO, outA, readO, fitR, h])]
 congr 1
 have t1 : taskStep (0, 1) (taskO a 0 a) = some (0, a) := by
  unfold taskStep
  show List.foldlM (readStep ⟨a, 0⟩) (mx 0 0, 1) [readO 1] = some (0, a)
  rw [zsb]
  simp only [List.foldlM_cons, List.foldlM_nil]
  rw [readStep_one 1 h0 h1]
  rfl
 have t2 : taskStep (0, a) (outA a) = some (0, a) := by
  unfold taskStep
  show List.foldlM (readStep ⟨a, 0⟩) (mx 0 0, a) [readO 2] = some (0, a)
  rw [zsb]
  simp only [List.foldlM_cons, List.foldlM_nil]
  have hr : readStep ⟨a, 0⟩ (0, a) (readO 2) = some (0, a) := by
   have e : more2 ((0 : Int), a).2 ((⟨a, 0⟩ : S68).f0 * ((readO 2).f3.f1.length : Int)) = (a, true) := by
    show more2 a (a * ((0 + 1 : Nat) : Int)) = _
    rw [show a * ((0 + 1 : Nat) : Int) = a by simp]
    exact more2_self h0 h1
   unfold readStep
   rw [if_pos (by rw [e]), e]
   show some (mx 0 (0 + ((0 : Nat) : Int) * a), a) = some (0, a)
   rw [show (0 : Int) + ((0 : Nat) : Int) * a = 0 by simp, zsb]
  rw [hr]
  rfl
 have hs : spanL [taskO a 0 a, outA a] = some (0, a) := by
  unfold spanL
  simp only [List.foldlM_cons, List.foldlM_nil, t1, t2, Option.bind_eq_bind, Option.bind_some]
  rfl
 have hj : ([taskO a 0 a, outA a] : List S78).foldlM (jobStep 0 a) 0 = some 2 := by
  have j1 : jobStep 0 a 0 (taskO a 0 a) = some 1 := by
   unfold jobStep
   rw [show cntS 0 a (taskO a 0 a).f0 = (0, 1) from cnt_one h0]
   simp
  have j2 : jobStep 0 a 1 (outA a) = some 2 := by
   unfold jobStep
   rw [show cntS 0 a (outA a).f0 = (0, 1) from cnt_one h0]
   simp
  simp only [List.foldlM_cons, List.foldlM_nil, j1, j2, Option.bind_eq_bind, Option.bind_some]
  rfl
 unfold ofS
 rw [hs]
 simp only
 rw [if_neg (by omega), hj]
theorem zfb (a : Int) (h0 : 1 ≤ a) (h1 : a ≤ 1099511627776) : countL 0 a a 0 = some (0, 1, 0) := count_one a 0 h0 h1 (by omega) (by omega)
def edgeA : Edge := ⟨(0, 0), (1, 0), -5⟩
theorem needsS_out (a : Int) (h0 : 1 ≤ a) (h1 : a ≤ 1099511627776) : needsS [taskO a 0 a, outA a] 0 a [10, 5] 1 0 0 [] = some ([edgeA], false) := by
 unfold needsS
 rw [zwb, need_one 2 _ rfl]
 simp only [Option.bind_some, List.foldlM_cons, List.foldlM_nil]
 have hf : unfold_Fold.f 0 a a 0 0 = some (0, 0, 0) := by
  unfold unfold_Fold.f
  rw [zfb a h0 h1, Option.bind_some, if_neg (by unfold foldBad; simp), if_pos (by simp)]
  unfold foldS foldT
  simp [wz]
 unfold needStep
 rw [if_pos rfl, if_pos (by simp), zvb, zwb, show countL 0 a (taskO a 0 a).f0.f0 (taskO a 0 a).f0.f1 = some (0, 1, 0) from zfb a h0 h1, Option.bind_some, show unfold_Fold.f 0 a (taskO a 0 a).f0.f0 (taskO a 0 a).f0.f1 0 = some (0, 0, 0) from hf, Option.bind_some, if_pos (by simp)]
 have e : wrap64 (wrap64 (ddate (outA a).f0 0 - ddate (taskO a 0 a).f0 0) - rd [10, 5] 1) = -5 := by
  show wrap64 (wrap64 (ddate ⟨a, 0⟩ 0 - ddate ⟨a, 0⟩ 0) - 5) = -5
  rw [Int.sub_self, wn (x := 0) (by omega) (by omega)]
  exact wn (by omega) (by omega)
 rw [e]
 rfl
theorem len_two (a : Int) : ([taskO a 0 a, outA a] : List S78).length = 2 := rfl
theorem due_of_two (a : Int) (h0 : 1 ≤ a) (h1 : a ≤ 1099511627776) : due_of.f 1 [taskO a 0 a, outA a] [⟨a, 0⟩] [10, 5] = some (0, ⟨0, a, [((0, 0), a), ((1, 0), a)], [edgeA]⟩) := by
 unfold due_of.f
 rw [of_two a h0 h1, Option.bind_some, if_pos rfl, if_pos (show ([10, 5] : List Int).length = ([taskO a 0 a, outA a] : List S78).length from rfl), if_neg (by simp [badCost])]
 have k0 : kLoop [taskO a 0 a, outA a] 0 a [10, 5] 0 0 1 1 [] ((0 : Int) + 1).toNat = some [] := by
  show (some ([] : List Edge)).bind (fun es1 => mLoop [taskO a 0 a, outA a] 0 a [10, 5] 0 ((0 : Nat) : Int) 0 1 1 ((0 : Nat) : Int) es1) = _
  rw [Option.bind_some]
  unfold mLoop
  rw [show ((0 : Nat) : Int) = 0 from rfl, needsS_in _ _ _ _ _ _ _ rfl]
  simp
 have k1 : kLoop [taskO a 0 a, outA a] 0 a [10, 5] 1 0 1 1 [] ((0 : Int) + 1).toNat = some [edgeA] := by
  show (some ([] : List Edge)).bind (fun es1 => mLoop [taskO a 0 a, outA a] 0 a [10, 5] 1 ((0 : Nat) : Int) 0 1 1 ((0 : Nat) : Int) es1) = _
  rw [Option.bind_some]
  unfold mLoop
  rw [show ((0 : Nat) : Int) = 0 from rfl, needsS_out a h0 h1]
  simp
 have t0 : taskOf [taskO a 0 a, outA a] 0 a [10, 5] 1 ([], []) ((0 : Nat) : Int) = some ([((0, 0), a)], []) := by
  unfold taskOf
  rw [show ((0 : Nat) : Int) = 0 from rfl, zvb, show countL 0 a (taskO a 0 a).f0.f0 (taskO a 0 a).f0.f1 = some (0, 1, 0) from zfb a h0 h1, Option.bind_some, if_pos (by simp)]
  show (kLoop [taskO a 0 a, outA a] 0 a [10, 5] 0 0 1 1 [] ((0 : Int) + 1).toNat).bind _ = _
  rw [k0]
  rfl
 have t1 : taskOf [taskO a 0 a, outA a] 0 a [10, 5] 1 ([((0, 0), a)], []) ((1 : Nat) : Int) = some ([((0, 0), a), ((1, 0), a)], [edgeA]) := by
  unfold taskOf
  rw [show ((1 : Nat) : Int) = 1 from rfl, zwb, show countL 0 a (outA a).f0.f0 (outA a).f0.f1 = some (0, 1, 0) from zfb a h0 h1, Option.bind_some, if_pos (by simp)]
  show (kLoop [taskO a 0 a, outA a] 0 a [10, 5] 1 0 1 1 [] ((0 : Int) + 1).toNat).bind _ = _
  rw [k1]
  rfl
 have ht : tasksOf [taskO a 0 a, outA a] 0 a [10, 5] 1 2 = some ([((0, 0), a), ((1, 0), a)], [edgeA]) := by
  show ((some (([], []) : AL × List Edge)).bind (fun s => taskOf [taskO a 0 a, outA a] 0 a [10, 5] 1 s ((0 : Nat) : Int))).bind (fun s => taskOf [taskO a 0 a, outA a] 0 a [10, 5] 1 s ((1 : Nat) : Int)) = _
  rw [Option.bind_some, t0, Option.bind_some, t1]
 rw [len_two, ht]
 rfl
def leftA (a : Int) : AL := [((0, 0), a - 5), ((1, 0), a)]
theorem round1 (a : Int) (h0 : 1 ≤ a) (h1 : a ≤ 1099511627776) : roundS [edgeA] [((0, 0), a), ((1, 0), a)] = (leftA a, true) := by
 have e1 : AL.get [((0, 0), a), ((1, 0), a)] edgeA.dst = a := rfl
 have e2 : AL.get [((0, 0), a), ((1, 0), a)] edgeA.src = a := rfl
 have e3 : wrap64 (a + edgeA.more) = a - 5 := by
  show wrap64 (a + -5) = _
  rw [wn (by omega) (by omega)]; omega
 show roundStep ([((0, 0), a), ((1, 0), a)], false) edgeA = _
 unfold roundStep
 rw [e1, e2, e3, if_pos (by omega)]
 rfl
theorem round2 (a : Int) (h0 : 1 ≤ a) (h1 : a ≤ 1099511627776) : roundS [edgeA] (leftA a) = (leftA a, false) := by
 have e1 : AL.get (leftA a) edgeA.dst = a := rfl
 have e2 : AL.get (leftA a) edgeA.src = a - 5 := rfl
 have e3 : wrap64 (a + edgeA.more) = a - 5 := by
  show wrap64 (a + -5) = _
  rw [wn (by omega) (by omega)]; omega
 show roundStep (leftA a, false) edgeA = _
 unfold roundStep
 rw [e1, e2, e3, if_neg (by omega)]
theorem keys_two (a b : Int) : keysIn ([10, 5] : List Int).length [((0, 0), b), ((1, 0), a)] = true := by simp [keysIn]
theorem short_two (a b : Int) (h : 10 ≤ b) (h2 : 5 ≤ a) : shortS [10, 5] [((0, 0), b), ((1, 0), a)] = false := by
 unfold shortS
 simp only [List.any_cons, List.any_nil, Bool.or_false]
 rw [show Go.Proofs.YtfondhcppjkchaaGreatW.PrintWords.rd [10, 5] ((0 : Int), (0 : Int)).1 = 10 from rfl, show Go.Proofs.YtfondhcppjkchaaGreatW.PrintWords.rd [10, 5] ((1 : Int), (0 : Int)).1 = 5 from rfl, decide_eq_false (by omega), decide_eq_false (by omega)]
 rfl
theorem turns_two (a : Int) (h0 : 15 ≤ a) (h1 : a ≤ 1099511627776) : turnsS [edgeA] [10, 5] 2 0 [((0, 0), a), ((1, 0), a)] = some (false, leftA a) := by
 have ks : keysIn ([10, 5] : List Int).length (leftA a) = true := keys_two a (a - 5)
 have ss : shortS [10, 5] (leftA a) = false := short_two a (a - 5) (by omega) (by omega)
 unfold turnsS
 rw [round1 a (by omega) h1]
 dsimp only
 rw [if_pos ks, if_pos rfl, if_neg (by rw [ss]; decide), if_neg (by show ¬ wrap64 (2 + 1) < 0; rw [wn (by omega) (by omega)]; omega)]
 unfold turnsS
 rw [round2 a (by omega) h1]
 dsimp only
 rw [if_pos ks, if_neg (by decide)]
theorem norm_one (x : Int) : normS [] [x] = wordO x := by
 unfold normS
 rw [if_pos (wordB_one x)]
 have hl : shortL [x] = [x] := by
  unfold shortL
  have : loopS [x] = 1 := by
   unfold loopS
   show loopFrom [x] 1 1 = 1
   unfold loopFrom
   rw [if_neg (by simp)]
   rfl
  rw [this]
  rfl
 have hh : shortH [] [x] = 0 := rfl
 have hk : shortK [] [x] = 0 := by
  unfold shortK turnK
  rw [hl, hh]
  simp [Int.emod_one]
 unfold shortW
 rw [hk, hl]
 rfl
theorem adj_two (a : Int) (h0 : 15 ≤ a) (h1 : a ≤ 1099511627776) : adjTasks [taskO a 0 a, outA a] 0 a (leftA a) 2 = some [wordO (a - 5), wordO a] := by
 have t0 : adjTask [taskO a 0 a, outA a] 0 a (leftA a) [] ((0 : Nat) : Int) = some [wordO (a - 5)] := by
  unfold adjTask
  rw [show ((0 : Nat) : Int) = 0 from rfl, zvb, show countL 0 a (taskO a 0 a).f0.f0 (taskO a 0 a).f0.f1 = some (0, 1, 0) from zfb a (by omega) h1, Option.bind_some, if_pos (by simp)]
  show some ([] ++ [normS [] [a - 5]]) = _
  rw [norm_one]
  rfl
 have t1 : adjTask [taskO a 0 a, outA a] 0 a (leftA a) [wordO (a - 5)] ((1 : Nat) : Int) = some [wordO (a - 5), wordO a] := by
  unfold adjTask
  rw [show ((1 : Nat) : Int) = 1 from rfl, zwb, show countL 0 a (outA a).f0.f0 (outA a).f0.f1 = some (0, 1, 0) from zfb a (by omega) h1, Option.bind_some, if_pos (by simp)]
  show some ([wordO (a - 5)] ++ [normS [] [a]]) = _
  rw [norm_one]
  rfl
 show ((some ([] : List S27)).bind (fun o => adjTask [taskO a 0 a, outA a] 0 a (leftA a) o ((0 : Nat) : Int))).bind (fun o => adjTask [taskO a 0 a, outA a] 0 a (leftA a) o ((1 : Nat) : Int)) = _
 rw [Option.bind_some, t0, Option.bind_some, t1]
theorem adjust_two (a : Int) (h0 : 15 ≤ a) (h1 : a ≤ 1099511627776) : due_Adjust.f [taskO a 0 a, outA a] [⟨a, 0⟩] [10, 5] = some ([wordO (a - 5), wordO a], 0) := by
 have ss : shortS [10, 5] (leftA a) = false := short_two a (a - 5) (by omega) (by omega)
 have hd := at_rounds (fun f => due_of_mono f [taskO a 0 a, outA a] [⟨a, 0⟩] [10, 5]) (k := 1) (k' := 2) (by omega) (due_of_two a (by omega) h1)
 have hf : adjustS 2 [taskO a 0 a, outA a] [⟨a, 0⟩] [10, 5] = some ([wordO (a - 5), wordO a], 0) := by
  unfold adjustS
  rw [hd, Option.bind_some, if_pos rfl]
  dsimp only
  rw [turns_two a h0 h1, Option.bind_some, if_neg (by rw [ss]; simp), if_pos (by rw [len_two]; omega), len_two, adj_two a h0 h1, Option.bind_some]
 exact zqb (fun f => adjustS_mono f _ _ _) hf
theorem check_two (a : Int) (h0 : 15 ≤ a) (h1 : a ≤ 1099511627776) : due_Check.f [taskO a 0 a, outA a] [⟨a, 0⟩] [10, 5] [wordO (a - 5), wordO a] = some 0 := by
 have hc : checkS 1 [taskO a 0 a, outA a] [⟨a, 0⟩] [10, 5] [wordO (a - 5), wordO a] = some 0 := by
  unfold checkS
  rw [due_of_two a (by omega) h1, Option.bind_some, if_pos rfl, if_pos (show ([wordO (a - 5), wordO a] : List S27).length = ([taskO a 0 a, outA a] : List S78).length from rfl)]
  have f1 : fitsFrom [taskO a 0 a, outA a] 0 a (0 + 1) [wordO a] = some true := by
   unfold fitsFrom
   rw [show fitsS [taskO a 0 a, outA a] 0 a (0 + 1) (wordO a).f0 (wordO a).f1 = some true from fits_one _ 0 a (0 + 1) a (zfb a (by omega) h1) (by omega)]
   rfl
  have hf : fitsFrom [taskO a 0 a, outA a] 0 a 0 [wordO (a - 5), wordO a] = some true := by
   unfold fitsFrom
   rw [show fitsS [taskO a 0 a, outA a] 0 a 0 (wordO (a - 5)).f0 (wordO (a - 5)).f1 = some true from fits_one _ 0 a 0 (a - 5) (zfb a (by omega) h1) (by omega), Option.bind_some, if_pos rfl, f1]
  dsimp only
  rw [hf, Option.bind_some, if_pos rfl]
  have a0 : atL [wordO (a - 5), wordO a] (0, 0) = some (a - 5) := atL_one _ 0 (a - 5) rfl
  have a1 : atL [wordO (a - 5), wordO a] (1, 0) = some a := atL_one _ 1 a rfl
  have b0 : atD [wordO (a - 5), wordO a] (0, 0) = a - 5 := by unfold atD; rw [a0]; rfl
  have b1 : atD [wordO (a - 5), wordO a] (1, 0) = a := by unfold atD; rw [a1]; rfl
  have hl : leftD [wordO (a - 5), wordO a] [((0, 0), a), ((1, 0), a)] = leftA a := by
   show [((0, 0), atD [wordO (a - 5), wordO a] (0, 0)), ((1, 0), atD [wordO (a - 5), wordO a] (1, 0))] = _
   rw [b0, b1]
   rfl
  have ss : shortS [10, 5] (leftA a) = false := short_two a (a - 5) (by omega) (by omega)
  rw [if_pos ⟨by simp [keysIn], by simp [a0, a1]⟩, if_neg (by simp [b0, b1]; omega), hl, ss, round2 a (by omega) h1, if_neg (by simp)]
 exact zqb (fun f => checkS_mono f _ _ _ _) hc
end Go.Proofs.YtfondhcppjkchaaGreat.Q
