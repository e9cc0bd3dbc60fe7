import Derived.Test.YtlmmdpdkddmklabHa
import Derived.Test.YtlmmdpdkddmklabHb
import Derived.Test.YtlmmdpdkddmklabShelf
namespace Go.Proofs.Ytlmmdpdkddmklab.Q
open Go.Sort hiding Below
open Go.RowKit Go.Proofs.YtlmmdpdkddmklabW.PrintWords Go.Proofs.YtlmmdpdkddmklabW.PrintLast

/-! ### between append's words and the sort's, whatever the elements -/
section
variable {α : Type} [Inhabited α] {enc : α → Value}
theorem holdsG {w : World} {g : Nat} {cur : Array Value} {e : TypeId} {ss : List α} (hb : w.heap[g]? = some (.cells cur e (0, 0))) (ht : cur.toList.take ss.length = ss.map enc) : Holds enc w g 0 ss.toArray := by
  intro j hj
  have hj' : j < ss.length := by simpa using hj
  refine ⟨?_, by simp [World.frozen?, hb]⟩
  have h1 : (cur.toList.take ss.length)[j]? = (ss.map enc)[j]? := by rw [ht]
  rw [List.getElem?_take_of_lt hj'] at h1
  simp only [World.cell?, hb, Nat.zero_add]
  simp only [Option.isSome_none, Bool.false_eq_true, if_false]
  rw [← Array.getElem?_toList, h1]
  simp [hj']
theorem heapG {w : World} {g n : Nat} {os : Array Obj} {cur : Array Value} {e : TypeId} {fr : Nat × Nat} (d : Array α) (hb : w.heap[g]? = some (.cells cur e fr)) :
    (grow (putRow enc (Sort.ahead w n) g 0 d) os).heap[g]? = some (.cells (putCells enc 0 d cur) e fr) := by
  have hg : g < w.heap.size := (Array.getElem?_eq_some_iff.1 hb).1
  rw [heap_grow_old _ _ (by simpa using hg)]
  simp [putRow, mapBlock, Sort.ahead, Array.getElem?_modify, hb, onCells]
theorem grownG {w : World} {g n : Nat} {os : Array Obj} (d : Array α) : w.grownBy (grow (putRow enc (Sort.ahead w n) g 0 d) os) (some g) := by
  refine ⟨rfl, rfl, rfl, by simp, fun k hk hne => ?_⟩
  rw [heap_grow_old _ _ (by simpa using hk)]
  have : g ≠ k := fun e => hne (by rw [e])
  simp [putRow, mapBlock, Sort.ahead, Array.getElem?_modify, this]
theorem takeG (cur : Array Value) (ts : List α) (h : ts.length ≤ cur.size) : (putCells enc 0 ts.toArray cur).toList.take ts.length = ts.map enc := by
  apply List.ext_getElem?
  intro j
  by_cases hj : j < ts.length
  · rw [List.getElem?_take_of_lt hj, Array.getElem?_toList]
    simp [putCells, hj, show j < cur.size by omega]
  · rw [List.getElem?_take_eq_none (by omega), List.getElem?_eq_none (by simp; omega)]
/-- Behind a call that has put a row of as many cells: the same head owns the first n elements of it. -/
theorem ownsG {w : World} {base g cap n m size : Nat} {e : TypeId} {os : Array Obj} {cur : Array Value} {ts : List α} (xs : List Value) (hbase : base ≤ g) (hb : w.heap[g]? = some (.cells cur e (0, 0)))
    (h1 : n ≤ cap) (h2 : cap ≤ maxLen) (h3 : cur.size = cap * size) (hl : ts.length ≤ cur.size) (hn : xs.length = n * size) (hx : (ts.map enc).take (n * size) = xs) (hle : n * size ≤ ts.length) :
    (grow (putRow enc (Sort.ahead w m) g 0 ts.toArray) os).ownsRow base e size (.slice (some ⟨g, 0, none⟩) n cap) n xs :=
  ⟨hn, .inr ⟨g, cap, _, rfl, hbase, heapG _ hb, h1, h2, by simp [putCells, h3], by
    rw [← hx, ← takeG (enc := enc) cur ts hl, List.take_take, Nat.min_eq_left hle]⟩⟩
end

/-! ### the works' cells -/
instance : Inhabited S38 := ⟨⟨0, 0, 0⟩⟩
abbrev enc3 (x : S38) : List Value := [.int .i64 x.f0, .int .i64 x.f1, .int .i64 x.f2]
theorem cellsW_len (l : List S38) : (cellsW l).length = l.length * 3 := by
  induction l with
  | nil => rfl
  | cons x l ih => simp [cellsW] at ih ⊢; omega
theorem cellsW_at : ∀ (l : List S38) (t : Nat), t < l.length * 3 → (cellsW l)[t]? = some ((enc3 (l[t / 3]!))[t % 3]!)
  | [], t, h => by simp at h
  | x :: l, t, h => by
    match t, h with
    | 0, _ => rfl
    | 1, _ => rfl
    | 2, _ => rfl
    | t + 3, h =>
      have ih := cellsW_at l t (by simp at h; omega)
      have e1 : (t + 3) / 3 = t / 3 + 1 := by omega
      have e2 : (t + 3) % 3 = t % 3 := by omega
      rw [e1, e2]
      simpa [cellsW] using ih
theorem flat_eq (l : List S38) : flatK enc3 3 l.toArray = (cellsW l).toArray := by
  apply Array.ext'
  apply List.ext_getElem?
  intro t
  unfold flatK
  by_cases h : t < l.length * 3
  · rw [List.toList_toArray, cellsW_at l t h]
    simp [h]
  · rw [List.toList_toArray]
    have h1 := cellsW_len l
    rw [List.getElem?_eq_none (l := cellsW l) (by omega), List.getElem?_eq_none (by simp; omega)]

theorem repsW (W : World) (base : Nat) (ok : Nat → Prop) : ∀ l : List S38, Reps (Kd.M k38 W base ok) 3 l (cellsW l)
  | [] => Reps.none _ _
  | x :: l => Reps.c3 (k38_mkM W base ok x) (repsW W base ok l)
theorem R38_of {W : World} {base : Nat} {v : Value} {l : List S38} (h : W.ownsRow base 38 3 v l.length (cellsW l)) : Kd.R k38 38 W base (fun _ => True) v l :=
  ⟨fun _ _ => trivial, _, h, repsW _ _ _ _⟩

/-! ### the sort by Due -/
theorem cmp_eq (a b : Int) : V.cmp_Compare_int64.f a b = some (Lib.compareInt a b) := by
  unfold V.cmp_Compare_int64.f V.cmp_isNaN_int64.f Lib.compareInt
  simp only [bne_self_eq_false, Option.bind_some, Bool.false_eq_true, if_false]
  by_cases h1 : a < b
  · simp [h1]
  · by_cases h2 : a > b
    · simp [h1, h2]
    · simp [h1, h2]
set_option maxHeartbeats 1000000 in
theorem closure20 (x y : S38) (W : World) : Calls Try.prog 20 #[.agg #[.int .i64 x.f0, .int .i64 x.f1, .int .i64 x.f2], .agg #[.int .i64 y.f0, .int .i64 y.f1, .int .i64 y.f2]] W fun e w' => e = .returned (.int .i64 (Lib.compareInt x.f1 y.f1)) ∧ ∃ q os', w' = grow (W.drewN q) os' := by
  have hcon := fun W' => V.cmp_Compare_int64.calls x.f1 y.f1 _ W' (cmp_eq _ _)
  generalize Lib.compareInt x.f1 y.f1 = r at hcon ⊢
  go_enter Try.func20, Try.ntmps20
  go_wp2_with (go_at_call 21; refine (hcon _).mono ?_; rintro e w' ⟨rfl, ⟨q, rfl⟩⟩)
  go_ret
  exact ⟨rfl, q, _, by rw [alloc_eq_grow, alloc_eq_grow, grow_grow]; rfl⟩
theorem cmpLays20 (blk off size : Nat) (w : World) : CmpLays Try.prog 20 #[] enc3 3 (fun x y : S38 => Lib.compareInt x.f1 y.f1) blk off size w :=
  fun _ _ _ _ x y => closure20 x y _
theorem ltOf_eq : ltOf (fun x y : S38 => Lib.compareInt x.f1 y.f1) = fun x y => decide (x.f1 < y.f1) := by
  funext x y
  unfold ltOf Lib.compareInt
  by_cases h1 : x.f1 < y.f1
  · simp [h1]
  · by_cases h2 : y.f1 < x.f1 <;> simp [h1, h2]
theorem swoDue : SWO (fun x y : S38 => decide (x.f1 < y.f1)) where
  irrefl x := by simp
  trans x y z h1 h2 := by simp at *; omega
  ntrans x y z h1 h2 := by simp at *; omega
theorem isAgg38 : ∀ w, (isAgg 38).run Try.prog w = .ok true w := fun _ => by kernel_rfl
theorem sizeOf38 : ∀ w, (Go.sizeOf 38).run Try.prog w = .ok 3 w := fun _ => by kernel_rfl

/-- Earlier Due first. -/
def ltDue (x y : S38) : Bool := decide (x.f1 < y.f1)
/-- What Go's own sort makes of a row. -/
def sortR (l : List S38) : List S38 := (Sort.pdq ltDue l.toArray 0 l.length (Lib.bitLen l.length) true true).toList
theorem get_list (d : Array S38) (i : Nat) (h : i < d.size) : d[i]! = d.toList[i]'(by simpa using h) := by simp [h]
theorem sortR_spec (l : List S38) : (sortR l).Perm l ∧ (sortR l).Pairwise (fun x y => x.f1 ≤ y.f1) := by
  obtain ⟨⟨hs, _, hp⟩, ho⟩ := pdq_sorts ltDue swoDue l.toArray 0 l.length (Lib.bitLen l.length) true true (Nat.zero_le _) (by simp) (Or.inl rfl)
  unfold sortR
  generalize pdq ltDue l.toArray 0 l.length (Lib.bitLen l.length) true true = d at hs hp ho ⊢
  have hs' : d.size = l.length := by simpa using hs
  refine ⟨?_, ?_⟩
  · have e : d.extract 0 l.length = d := by rw [← hs']; simp
    rw [e] at hp
    simpa using hp
  · rw [List.pairwise_iff_getElem]
    intro i j hi hj hij
    have hj' : j < d.size := by simpa using hj
    have h := ho i j (Nat.zero_le _) hij (by omega)
    rw [get_list d j hj', get_list d i (by omega)] at h
    unfold ltDue at h
    simpa using h
theorem sortR_len (l : List S38) : (sortR l).length = l.length := (sortR_spec l).1.length_eq
theorem sortR_nil : sortR [] = [] := List.eq_nil_of_length_eq_zero (by simpa using sortR_len [])

def sortedByDue.f (l0 : List S38) : Option (List S38) := if l0.length ≤ 4096 then some (sortR l0) else none

set_option maxHeartbeats 1000000 in
/-- slices.Collect(slices.Values(s)): a row of its own that holds s. -/
theorem collect.calls (Bs : Nat) (A0 : Option Addr) (c0 : Nat) (l0 : List S38) (w : World) (hBs : Bs < w.heap.size) (hlen : l0.length ≤ 4096)
    (hcs : w.cell? ⟨Bs, 0, none⟩ = some (.slice A0 l0.length c0)) (hc : Kd.C k38 w A0 l0.length l0) (hA : ∀ ad, A0 = some ad → 0 < l0.length → ad.block < w.heap.size) :
    Calls Try.prog 25 #[.func (.func 27) #[] #[.pointer (some ⟨Bs, 0, none⟩)]] w fun e W' => (∃ v, e = .returned v ∧ W'.ownsRow w.heap.size 38 3 v l0.length (cellsW l0)) ∧ Below w.heap.size w W' := by
  have h32 : Calls Try.prog 32 #[.slice none 0 0, .func (.func 27) #[] #[.pointer (some ⟨Bs, 0, none⟩)]] w fun e W' => (∃ v, e = .returned v ∧ W'.ownsRow w.heap.size 38 3 v l0.length (cellsW l0)) ∧ Below w.heap.size w W' :=
    calls_of_every_depth (L := [32, 27]) (n := 8) fun D => appendSeq_in _ 8 (show (32 : Nat) ∈ [32, 27] by decide) (show (27 : Nat) ∈ [32, 27] by decide) rfl (by omega) Bs A0 c0 l0 w hBs hlen hcs hc hA
  have H := Aside0.mk h32
  clear h32 hcs hc hA
  go_enter Try.func25, Try.ntmps25
  go_wp2_with (go_at_call 32; refine H.out.mono ?_; rintro e w1 ⟨⟨v, rfl, ho⟩, hb⟩; have HO := Aside0.mk ho; have HB := Aside0.mk hb; clear ho hb)
  go_ret
  exact ⟨⟨v, rfl, HO.out⟩, HB.out⟩

set_option maxHeartbeats 2000000 in
set_option maxRecDepth 100000 in
theorem insNone36 (fv : Value) (w : World) : Calls Try.prog 36 #[.slice none 0 0, .int .i64 0, .int .i64 0, fv] w fun e w' => e = .returned (.tuple #[]) ∧ w' = w := by
  go_enter Try.func36, Try.ntmps36
  go_wp2
  refine wp_loop_rounds 1 ?_
  rw [rounds_succ]
  go_wp2
  go_end0
  exact ⟨rfl, rfl⟩
set_option maxHeartbeats 2000000 in
set_option maxRecDepth 100000 in
theorem pdqNone33 (fv : Value) (lim : Int) (w : World) : Calls Try.prog 33 #[.slice none 0 0, .int .i64 0, .int .i64 0, .int .i64 lim, fv] w fun e w' => e = .returned (.tuple #[]) ∧ w' = w := by
  have hi := fun W => insNone36 fv W
  go_enter Try.func33, Try.ntmps33
  go_wp2
  refine wp_loop_rounds 1 ?_
  rw [rounds_succ]
  go_wp2_with (go_at_call 36; refine (hi _).mono ?_; rintro e w' ⟨rfl, rfl⟩)
  refine bodyPost_ret (results_none rfl _ _ _) rfl ?_
  exact ⟨rfl, rfl⟩
set_option maxHeartbeats 2000000 in
set_option maxRecDepth 100000 in
theorem sortNone26 (w : World) : Calls Try.prog 26 #[.slice none 0 0, .func (.func 20) #[] #[]] w fun e w' => e = .returned (.tuple #[]) ∧ w' = w := by
  have hp := fun lim W => pdqNone33 (.func (.func 20) #[] #[]) lim W
  have hl := fun W => Any.bits_Len (SlLaysF0.n15.bits (P := Try.prog) (ρ := Try.laysSortFunc_ren) { Try.laysSortFunc with }) 0 W (by omega) (by omega)
  change ∀ W, Calls Try.prog 34 _ _ _ at hl
  go_enter Try.func26, Try.ntmps26
  go_wp2_with (first | (go_at_call 34; refine (hl _).mono ?_; rintro e w' ⟨rfl, rfl⟩) | (go_at_call 33; refine (hp _ _).mono ?_; rintro e w' ⟨rfl, rfl⟩))
  go_end0
  exact ⟨rfl, rfl⟩

theorem addr_lt {w : World} {A0 : Option Addr} {l0 : List S38} (h : Kd.C k38 w A0 l0.length l0) : ∀ ad, A0 = some ad → 0 < l0.length → ad.block < w.heap.size := by
  rintro ad rfl hl
  obtain ⟨ad', e, h0, _, _⟩ := at_T38 h 0 (by omega) (by omega)
  cases e
  simp [Addr.add] at h0
  exact block_lt_of_cell h0

set_option maxHeartbeats 2000000 in
theorem sortedByDue.calls (A0 : Option Addr) (c0 : Nat) (l0 r : List S38) (w : World) (hr0 : Kd.C k38 w A0 l0.length l0) (_ : l0.length ≤ c0) (h : sortedByDue.f l0 = some r) :
    Calls Try.prog 18 #[.func (.func 27) #[] #[.pointer (some ⟨w.heap.size, 0, none⟩)], .func (.func 20) #[] #[]] (w.alloc (.cells #[.slice A0 l0.length c0] 22)) fun e w' => ∃ v0_ : Value, e = .returned (v0_) ∧ Kd.R k38 38 w' w.heap.size (fun _ => True) v0_ r ∧ Below w.heap.size w w' := by
  have hlen : l0.length ≤ 4096 := by
    unfold sortedByDue.f at h
    split at h
    · assumption
    · cases h
  have hr : r = sortR l0 := by
    unfold sortedByDue.f at h
    rw [if_pos hlen] at h
    exact (Option.some.inj h).symm
  have hB0 : Below w.heap.size w (w.alloc (.cells #[.slice A0 l0.length c0] 22)) := (Below.refl _ w).alloc (Nat.le_refl _) _
  have hA := addr_lt hr0
  have hcol := collect.calls w.heap.size A0 c0 l0 (w.alloc (.cells #[.slice A0 l0.length c0] 22)) (by simp) hlen (by simp) (Kd.C_below hr0 hB0) (fun ad e hl => Nat.lt_of_lt_of_le (hA ad e hl) (by simp))
  have HC := Aside0.mk hcol
  have HB0 := Aside0.mk hB0
  have HR := Aside0.mk hr
  clear hcol hB0 hA hr0 h hr
  go_enter Try.func18, Try.ntmps18
  go_wp2_with (go_at_call 25; refine HC.out.mono ?_; rintro e w1 ⟨⟨v, rfl, ho⟩, hb⟩; have HO := Aside0.mk ho; have HB := Aside0.mk (HB0.out.trans (hb.mono HB0.out.size)); clear ho hb)
  rcases HO.out.2 with ⟨rfl, hn⟩ | ⟨g, cap, cur, rfl, hbase, hb, hle, hcap, hsz, htk⟩
  · have hl : l0 = [] := List.eq_nil_of_length_eq_zero hn
    have HN := Aside0.mk hl
    clear hl hn
    have hcon := sortNone26
    go_wp2_with (go_at_call 26; refine (hcon _).mono ?_; rintro e w2 ⟨rfl, rfl⟩)
    go_ret
    refine ⟨_, rfl, ?_, HB.out⟩
    rw [HR.out, HN.out, sortR_nil]
    exact Kd.R_nil _ _ _ _ _
  · have hl3 := cellsW_len l0
    have hg : g < w1.heap.size := (Array.getElem?_eq_some_iff.1 hb).1
    have hH : HoldsK enc3 3 w1 g 0 l0.toArray := by
      unfold HoldsK
      rw [flat_eq]
      exact holdsG (enc := id) hb (by rw [hl3, htk]; simp)
    have eg : ∀ args w, (callFunc 20 args).run Try.prog w = .ok (.enter 20 args) w := enters_of Try.func20 (by kernel_rfl) rfl
    have hcon := AnyQ.slices_SortFunc_eq Try.laysSortFunc 3 isAgg38 sizeOf38 enc3 (fun _ => rfl) (fun x v hv => by simp [enc3] at hv; rcases hv with rfl | rfl | rfl <;> rfl) (fun x y : S38 => Lib.compareInt x.f1 y.f1) (by rw [ltOf_eq]; exact swoDue) 20 #[] g 0 cap l0.toArray w1 eg (cmpLays20 g 0 _ w1) hH hg (by simp; omega)
    rw [ltOf_eq] at hcon
    change Calls Try.prog 26 _ _ _ at hcon
    have HK : Calls Try.prog 26 #[.slice (some ⟨g, 0, none⟩) l0.length cap, .func (.func 20) #[] #[]] w1 fun e w' => e = .returned (.tuple #[]) ∧ w'.ownsRow w.heap.size 38 3 (.slice (some ⟨g, 0, none⟩) l0.length cap) l0.length (cellsW (sortR l0)) ∧ Below w.heap.size w w' := by
      have hsz' : l0.toArray.size = l0.length := by simp
      rw [hsz'] at hcon
      refine hcon.mono ?_
      rintro e w' ⟨he, n, os, hw⟩
      have e2 : flatK enc3 3 (pdq ltDue l0.toArray 0 l0.length (Lib.bitLen l0.length) true true) = (cellsW (sortR l0)).toArray := by
        rw [← flat_eq]; rfl
      have hw' : w' = grow (putRow id (Sort.ahead w1 n) g 0 (cellsW (sortR l0)).toArray) os := by rw [hw, ← e2]; rfl
      have hls : (cellsW (sortR l0)).length = l0.length * 3 := by rw [cellsW_len, sortR_len]
      refine ⟨he, ?_, ?_⟩
      · rw [hw']
        exact ownsG (enc := id) (ts := cellsW (sortR l0)) _ (Nat.le_trans (by simp) hbase) hb hle hcap hsz (by omega) hls (by rw [List.map_id, List.take_of_length_le (by omega)]) (by omega)
      · rw [hw']
        exact HB.out.grown (grownG _) HB.out.size (fun k e => by cases e; exact Nat.le_trans (by simp) hbase)
    have HK' := Aside0.mk HK
    clear HK hcon eg hH hg hl3 htk hsz hcap hle hb hbase
    go_wp2_with (go_at_call 26; refine HK'.out.mono ?_; rintro e w2 ⟨rfl, ho2, hb2⟩; have HO2 := Aside0.mk ho2; have HB2 := Aside0.mk hb2; clear ho2 hb2)
    go_ret
    refine ⟨_, rfl, ?_, HB2.out⟩
    rw [HR.out]
    have := HO2.out
    rw [← sortR_len l0] at this
    rw [← sortR_len l0]
    exact R38_of this
end Go.Proofs.Ytlmmdpdkddmklab.Q
