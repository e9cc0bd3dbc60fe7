import Derived.Test.YtfondhcppjkchaaGreatC5
import Derived.WalkKit
import Derived.Maps.RangeRun
import Derived.Maps.OwnOps
import Derived.Maps.RangeWalk
set_option maxHeartbeats 40000000
set_option maxRecDepth 100000
set_option linter.unusedVariables false
set_option linter.unusedSimpArgs false
namespace Go.Proofs.YtfondhcppjkchaaGreat.Q
open Go.RowKit
open Go.ChangeMaps (setBlock)
abbrev Key := Int × Int
def keyV (k : Key) : Value := .agg #[.int .i64 k.1, .int .i64 k.2]
theorem keyV_inj {a b : Key} (h : keyV a = keyV b) : a = b := by
 obtain ⟨a1, a2⟩ := a
 obtain ⟨b1, b2⟩ := b
 simp [keyV] at h
 rw [h.1, h.2]
theorem part3 (a b : Int) (w : World) : (part 3 #[.int .i64 a, .int .i64 b] 0).run Tryz.prog w = .ok (.int .i64 a) w := by kernel_rfl
theorem part2 (a b : Int) (w : World) : (part 2 #[.int .i64 a, .int .i64 b] 1).run Tryz.prog w = .ok (.int .i64 b) w := by kernel_rfl
theorem equalIn_int (d : Nat) (t : TypeId) (ht : Tryz.prog.underlying t = some (.int .i64)) (a b : Int) (w : World) : (Op.equalIn (d + 1) t (.int .i64 a) (.int .i64 b)).run Tryz.prog w = .ok (a == b) w := by
 rw [Op.equalIn]
 simp [Sem.run_bind, run_underlying ht, Result.andThen, Sem.run]
theorem equalIn_key (d : Nat) (a b : Key) (w : World) : (Op.equalIn (d + 2) 102 (keyV a) (keyV b)).run Tryz.prog w = .ok (a == b) w := by
 obtain ⟨a1, a2⟩ := a
 obtain ⟨b1, b2⟩ := b
 have h3 : Tryz.prog.underlying 3 = some (.int .i64) := Tryz.underlying3
 have hs : Tryz.prog.stoodInHeld 102 = false := by kernel_rfl
 have hpp : ∀ w, (program).run Tryz.prog w = .ok Tryz.prog w := fun _ => rfl
 unfold keyV
 rw [Op.equalIn]
 simp only [Sem.run_bind, run_underlying Tryz.underlying102, Result.andThen, hpp, hs, Bool.false_eq_true, if_false]
 rw [← Array.forIn_toList]
 simp only [List.forIn_cons, Sem.run_bind, Result.andThen_ok, part3, part2, equalIn_int d 3 h3, Sem.run_pure]
 simp only [ne_eq, String.reduceEq, not_false_eq_true, if_true, Sem.run_bind, Result.andThen_ok, part3, equalIn_int d 3 h3, Sem.run_pure]
 have e : ((a1, a2) == (b1, b2)) = (a1 == b1 && a2 == b2) := rfl
 rw [e]
 cases h1 : a1 == b1
 ·simp [Sem.run_pure, Result.andThen]
 ·cases h2 : a2 == b2
  ·simp [Sem.run_pure, Sem.run_bind, Result.andThen, part2, equalIn_int d 2 Tryz.underlying2, h2]
  ·simp [Sem.run_pure, Sem.run_bind, Result.andThen, part2, equalIn_int d 2 Tryz.underlying2, h2]
theorem equal_key (a b : Key) (w : World) : (Op.equal 102 (keyV a) (keyV b)).run Tryz.prog w = .ok (a == b) w := equalIn_key 9998 a b w
theorem checkIn_int (d : Nat) (t : TypeId) (ht : Tryz.prog.underlying t = some (.int .i64)) (em : Bool) (a : Int) (w : World) : (Instr.checkKey em (d + 1) t (.int .i64 a)).run Tryz.prog w = .ok () w := by
 rw [Instr.checkKey]
 simp [Sem.run_bind, run_underlying ht, Result.andThen, Sem.run]
theorem checkIn_key (d : Nat) (em : Bool) (k : Key) (w : World) : (Instr.checkKey em (d + 2) 102 (keyV k)).run Tryz.prog w = .ok () w := by
 obtain ⟨a1, a2⟩ := k
 have h3 : Tryz.prog.underlying 3 = some (.int .i64) := Tryz.underlying3
 unfold keyV
 rw [Instr.checkKey]
 simp only [Sem.run_bind, run_underlying Tryz.underlying102, Result.andThen]
 rw [← Array.forIn_toList]
 simp [List.forIn_cons, Sem.run_bind, Result.andThen, part3, part2, checkIn_int d 3 h3, checkIn_int d 2 Tryz.underlying2, Sem.run_pure]
theorem check_key (em : Bool) (k : Key) (w : World) : (Instr.checkKey em 10000 102 (keyV k)).run Tryz.prog w = .ok () w := checkIn_key 9998 em k w
theorem sameBits_key (k : Key) : Instr.sameBits 10000 (keyV k) (keyV k) = true := by
 show Instr.sameBits (9998 + 1 + 1) _ _ = true
 unfold keyV
 rw [Instr.sameBits]
 simp [Instr.sameBits]
theorem stays_key (k : Key) (w : World) : (Instr.keyThatStays (keyV k) (keyV k)).run Tryz.prog w = .ok (keyV k) w := by
 unfold Instr.keyThatStays
 rw [sameBits_key]
 simp [Sem.run]
abbrev AL := List (Key × Int)
def AL.get (m : AL) (k : Key) : Int := ((m.find? (·.1 == k)).map (·.2)).getD 0
def AL.has (m : AL) (k : Key) : Bool := m.any (·.1 == k)
def AL.put (m : AL) (k : Key) (v : Int) : AL := if m.any (·.1 == k) then m.map (fun p => if p.1 = k then (k, v) else p) else m ++ [(k, v)]
structure Ents (es : Array MapEntry) (clock : Nat) (m : AL) : Prop where
 eq : es.toList.map (fun e => (e.key, e.val)) = m.map (fun p => (keyV p.1, Value.int .i64 p.2))
 old : ∀ e ∈ es.toList, e.born < clock
 nd : (es.toList.map (·.born)).Nodup
 kd : (m.map (·.1)).Nodup
def OwnsM (w : World) (b : Nat) (m : AL) : Prop := ∃ es clock, w.heap[b]? = some (.map es clock) ∧ Ents es clock m
theorem OwnsM.lt {w : World} {b : Nat} {m : AL} (h : OwnsM w b m) : b < w.heap.size := by
 obtain ⟨es, clock, hb, _⟩ := h
 exact (Array.getElem?_eq_some_iff.1 hb).1
theorem OwnsM.block {w w' : World} {b : Nat} {m : AL} (h : OwnsM w b m) (hb : w'.heap[b]? = w.heap[b]?) : OwnsM w' b m := by
 obtain ⟨es, clock, h1, h2⟩ := h
 exact ⟨es, clock, hb.trans h1, h2⟩
theorem OwnsM.made (w : World) : OwnsM (w.alloc (.map #[] 0)) w.heap.size [] := ⟨#[], 0, (MapKept.heap_alloc w _).1, by simp, by simp, by simp, by simp⟩
theorem find_ask (k : Key) (w : World) : ∀ (es : List MapEntry) (m : AL) (i : Nat), es.map (fun e => (e.key, e.val)) = m.map (fun p => (keyV p.1, Value.int .i64 p.2)) →
  (m.find? (·.1 == k) = none ∧ (Instr.findAsking 102 (keyV k) es i).run Tryz.prog w = .ok none w) ∨ ∃ j v, m[j]? = some (k, v) ∧ m.find? (·.1 == k) = some (k, v) ∧ (Instr.findAsking 102 (keyV k) es i).run Tryz.prog w = .ok (some (i + j, .int .i64 v)) w
 | [], m, i, h => by
  cases m with
  | nil => exact .inl ⟨rfl, rfl⟩
  | cons p m => simp at h
 | e :: es, m, i, h => by
  cases m with
  | nil => simp at h
  | cons p m =>
   simp only [List.map_cons, List.cons.injEq, Prod.mk.injEq] at h
   obtain ⟨⟨hk, hv⟩, hr⟩ := h
   obtain ⟨pk, pv⟩ := p
   unfold Instr.findAsking
   simp only [Sem.run_bind, hk, hv, equal_key, Result.andThen]
   by_cases e1 : k = pk
   ·subst e1
    refine .inr ⟨0, pv, rfl, by simp, ?_⟩
    simp [Sem.run]
   ·have e2 : (k == pk) = false := by simpa using e1
    have e3 : (pk == k) = false := by simpa using fun h => e1 h.symm
    rcases find_ask k w es m (i + 1) hr with ⟨h1, h2⟩ | ⟨j, v, h1, h2, h3⟩
    ·refine .inl ⟨by simp [List.find?_cons, e3, h1], ?_⟩
     simp only [e2, Bool.false_eq_true, if_false]; exact h2
    ·refine .inr ⟨j + 1, v, by simpa using h1, by simp [List.find?_cons, e3, h2], ?_⟩
     simp only [e2, Bool.false_eq_true, if_false]; rw [h3]; congr 3; omega
theorem find_key (k : Key) (w : World) (es : List MapEntry) (m : AL) (h : es.map (fun e => (e.key, e.val)) = m.map (fun p => (keyV p.1, Value.int .i64 p.2))) :
  (m.find? (·.1 == k) = none ∧ (Instr.findKey 102 (keyV k) es).run Tryz.prog w = .ok none w) ∨ ∃ j v, m[j]? = some (k, v) ∧ m.find? (·.1 == k) = some (k, v) ∧ (Instr.findKey 102 (keyV k) es).run Tryz.prog w = .ok (some (j, .int .i64 v)) w := by
 unfold Instr.findKey
 simp only [Sem.run_bind, run_underlying Tryz.underlying102, Result.andThen]
 cases es with
 | nil =>
  cases m with
  | nil => exact .inl ⟨rfl, by simp [Instr.findNow, Sem.run]⟩
  | cons p m => simp at h
 | cons e es =>
  have : ∀ d, Instr.findNow (.struct d) (keyV k) (e :: es) 0 = none := fun d => by simp [Instr.findNow, Instr.sameNow, keyV]
  rw [this]
  have := find_ask k w (e :: es) m 0 h
  simpa using this
theorem zero2 (w : World) : (zeroValue 2).run Tryz.prog w = .ok (.int .i64 0) w := by kernel_rfl
theorem OwnsM.lookup {w : World} {b : Nat} {m : AL} (h : OwnsM w b m) (k : Key) : (Instr.lookup 97 (.map (some b)) (keyV k) false).run Tryz.prog w = .ok (.int .i64 (m.get k)) w := by
 obtain ⟨es, clock, hb, he⟩ := h
 unfold Instr.lookup
 simp only [Sem.run_bind, run_underlying Tryz.underlying97, Result.andThen, MapKept.run_getObj_map hb, Sem.run_pure, check_key]
 rcases find_key k w es.toList m he.eq with ⟨h1, h2⟩ | ⟨j, v, h1, h2, h3⟩
 ·simp [h2, AL.get, h1, zero2, Sem.run, Result.andThen]
 ·simp [h3, AL.get, h2, Sem.run, Result.andThen]
theorem setBlock_same {w : World} {b : Nat} {o o' : Obj} (h : w.heap[b]? = some o') : (setBlock w b o).heap[b]? = some o := by
 have := (Array.getElem?_eq_some_iff.1 h).1
 simp [setBlock, this]
theorem setBlock_other {w : World} {b i : Nat} {o : Obj} (h : i ≠ b) : (setBlock w b o).heap[i]? = w.heap[i]? := by
 simp only [setBlock]
 exact Array.getElem?_setIfInBounds_ne (Ne.symm h)
structure Turn (w w' : World) (b : Nat) : Prop where
 os : w'.os = w.os
 tape : w'.tape = w.tape
 output : w'.output = w.output
 size : w'.heap.size = w.heap.size
 block : ∀ i, i ≠ b → w'.heap[i]? = w.heap[i]?
theorem Turn.setBlock (w : World) (b : Nat) (o : Obj) : Turn w (setBlock w b o) b := ⟨rfl, rfl, rfl, by simp [ChangeMaps.setBlock], fun i hi => setBlock_other hi⟩
theorem Turn.below {w w' : World} {b B : Nat} (h : Turn w w' b) (hB : B ≤ b) : Below B w w' := ⟨h.os, h.tape, h.output, by rw [h.size]; exact Nat.le_refl _, fun k hk => h.block k (by omega)⟩
theorem Turn.cell {w w' : World} {b : Nat} (h : Turn w w' b) {k i : Nat} (hk : k ≠ b) : w'.cell? ⟨k, i, none⟩ = w.cell? ⟨k, i, none⟩ := World.cell?_of_block (h.block k hk)
theorem Turn.frozen {w w' : World} {b : Nat} (h : Turn w w' b) {k i : Nat} (hk : k ≠ b) : w'.frozen? ⟨k, i, none⟩ = w.frozen? ⟨k, i, none⟩ := World.frozen?_of_block (h.block k hk)
theorem Turn.trans {w w1 w2 : World} {b : Nat} (h : Turn w w1 b) (h' : Turn w1 w2 b) : Turn w w2 b := ⟨h'.os.trans h.os, h'.tape.trans h.tape, h'.output.trans h.output, h'.size.trans h.size, fun i hi => (h'.block i hi).trans (h.block i hi)⟩
theorem Turn.drew (w : World) (b : Nat) : Turn w w.drew b := ⟨rfl, rfl, rfl, rfl, fun _ _ => rfl⟩
theorem put_ents {es : Array MapEntry} {clock : Nat} {m : AL} (he : Ents es clock m) {k : Key} {v0 v : Int} {j : Nat} (hj : m[j]? = some (k, v0)) : Ents (es.modify j fun e => { e with key := keyV k, val := .int .i64 v }) clock (m.put k v) := by
 have hmem : (k, v0) ∈ m := List.mem_of_getElem? hj
 have hany : m.any (·.1 == k) = true := List.any_eq_true.2 ⟨_, hmem, by simp⟩
 have hput : m.put k v = m.modify j fun _ => (k, v) := by
  unfold AL.put
  rw [if_pos hany]
  apply List.ext_getElem?
  intro i
  rw [List.getElem?_map, List.getElem?_modify]
  by_cases hij : j = i
  ·subst hij
   rw [hj]; simp
  ·cases hi : m[i]? with
   | none => rfl
   | some p =>
    simp only [Option.map_some, if_neg hij, Option.map_eq_map, Option.some.injEq]
    have hne : p.1 ≠ k := by
     intro hpk
     have := he.kd
     have h1 : (m.map (·.1))[i]? = some k := by rw [List.getElem?_map, hi]; simp [hpk]
     have h2 : (m.map (·.1))[j]? = some k := by rw [List.getElem?_map, hj]; rfl
     have hjl : j < (m.map (·.1)).length := (List.getElem?_eq_some_iff.1 h2).1
     exact hij ((List.getElem?_inj hjl this).1 (h2.trans h1.symm))
    rw [if_neg hne]
 have hl : (es.modify j fun e => { e with key := keyV k, val := .int .i64 v }).toList = es.toList.modify j fun e => { e with key := keyV k, val := .int .i64 v } := by
  simp
 have hb : ((es.modify j fun e => { e with key := keyV k, val := .int .i64 v }).toList.map (·.born)) = es.toList.map (·.born) := by
  rw [hl]
  apply List.ext_getElem?
  intro i
  rw [List.getElem?_map, List.getElem?_map, List.getElem?_modify]
  cases es.toList[i]? with
  | none => rfl
  | some e => by_cases hij : j = i <;> simp [hij]
 refine ⟨?_, ?_, ?_, ?_⟩
 ·rw [hput, hl]
  apply List.ext_getElem?
  intro i
  have := congrArg (fun l => l[i]?) he.eq
  simp only [List.getElem?_map] at this
  rw [List.getElem?_map, List.getElem?_map, List.getElem?_modify, List.getElem?_modify]
  by_cases hij : j = i
  ·subst hij
   rw [hj] at this ⊢
   cases hes : es.toList[j]? with
   | none => rw [hes] at this; cases this
   | some e => simp
  ·simp only [if_neg hij]
   simpa using this
 ·intro e hee
  have : e.born ∈ ((es.modify j fun e => { e with key := keyV k, val := .int .i64 v }).toList.map (·.born)) := List.mem_map.2 ⟨e, hee, rfl⟩
  rw [hb] at this
  obtain ⟨e', he', hq⟩ := List.mem_map.1 this
  rw [← hq]; exact he.old e' he'
 ·rw [hb]; exact he.nd
 ·have : (m.put k v).map (·.1) = m.map (·.1) := by
   rw [hput]
   apply List.ext_getElem?
   intro i
   rw [List.getElem?_map, List.getElem?_map, List.getElem?_modify]
   by_cases hij : j = i
   ·subst hij; rw [hj]; simp
   ·simp [hij]
  rw [this]; exact he.kd
theorem push_ents {es : Array MapEntry} {clock : Nat} {m : AL} (he : Ents es clock m) {k : Key} {v : Int} (hj : m.find? (·.1 == k) = none) : Ents (es.push { key := keyV k, val := .int .i64 v, born := clock }) (clock + 1) (m.put k v) := by
 have hno : ∀ p ∈ m, p.1 ≠ k := by
  intro p hp hpk
  have := List.find?_eq_none.1 hj p hp
  simp [hpk] at this
 have hany : m.any (·.1 == k) = false := by
  rw [List.any_eq_false]; intro p hp; simpa using hno p hp
 have hput : m.put k v = m ++ [(k, v)] := by unfold AL.put; rw [hany]; rfl
 refine ⟨?_, ?_, ?_, ?_⟩
 ·rw [hput]; simp [he.eq]
 ·intro e hee
  simp at hee
  rcases hee with h | rfl
  ·have := he.old e (by simpa using h); omega
  ·simp
 ·simp only [Array.toList_push, List.map_append, List.map_cons, List.map_nil]
  rw [List.nodup_append]
  refine ⟨he.nd, by simp, ?_⟩
  intro a ha b hb hab
  obtain ⟨e, hee, rfl⟩ := List.mem_map.1 ha
  have := he.old e hee
  simp at hb
  omega
 ·rw [hput, List.map_append, List.nodup_append]
  refine ⟨he.kd, by simp, ?_⟩
  intro a ha b hb hab
  obtain ⟨p, hp, rfl⟩ := List.mem_map.1 ha
  simp at hb
  exact hno p hp (hab.trans hb)
theorem OwnsM.update {w : World} {b : Nat} {m : AL} (h : OwnsM w b m) (k : Key) (v : Int) : ∃ w', (Instr.mapUpdate 97 (.map (some b)) (keyV k) (.int .i64 v)).run Tryz.prog w = .ok () w' ∧ OwnsM w' b (m.put k v) ∧ Turn w w' b := by
 obtain ⟨es, clock, hb, he⟩ := h
 unfold Instr.mapUpdate
 simp only [Sem.run_bind, run_underlying Tryz.underlying97, Result.andThen, MapKept.run_getObj_map hb, Sem.run_pure, check_key]
 rcases find_key k w es.toList m he.eq with ⟨h1, h2⟩ | ⟨j, v0, h1, h2, h3⟩
 ·refine ⟨setBlock w b (.map (es.push { key := keyV k, val := .int .i64 v, born := clock }) (clock + 1)), ?_, ⟨_, _, setBlock_same hb, push_ents he h1⟩, Turn.setBlock w b _⟩
  simp only [h2, MapKept.run_setObj_map _ hb]; rfl
 ·have hkey : es[j]?.map (·.key) = some (keyV k) := by
   have := congrArg (fun l => l[j]?) he.eq
   simp only [List.getElem?_map, h1] at this
   rw [Array.getElem?_toList] at this
   cases hes : es[j]? with
   | none => rw [hes] at this; cases this
   | some e => rw [hes] at this; simp at this; simp [this.1]
  refine ⟨setBlock w b (.map (es.modify j fun e => { e with key := keyV k, val := .int .i64 v }) clock), ?_, ⟨_, _, setBlock_same hb, put_ents he h1⟩, Turn.setBlock w b _⟩
  simp only [h3, hkey, Option.getD_some, Sem.run_bind, stays_key, Result.andThen, MapKept.run_setObj_map _ hb]; rfl
def Rng (w : World) (b r : Nat) (m : AL) (left : List Key) : Prop := ∃ es clock since seen c0, w.heap[b]? = some (.map es clock) ∧ Ents es clock m ∧ w.heap[r]? = some (.mapIter (some b) since seen c0) ∧ (∀ x ∈ es.toList, x.born < since) ∧ since ≤ c0 ∧ since ≤ clock ∧ (leftOf es seen).toList.map (·.key) = left.map keyV
theorem Rng.owns {w : World} {b r : Nat} {m : AL} {left : List Key} (h : Rng w b r m left) : OwnsM w b m := by
 obtain ⟨es, clock, since, seen, c0, hb, he, _⟩ := h
 exact ⟨es, clock, hb, he⟩
theorem Rng.ne {w : World} {b r : Nat} {m : AL} {left : List Key} (h : Rng w b r m left) : r ≠ b := by
 obtain ⟨es, clock, since, seen, c0, hb, he, hr, _⟩ := h
 intro e
 rw [e, hb] at hr
 cases hr
theorem Rng.lt {w : World} {b r : Nat} {m : AL} {left : List Key} (h : Rng w b r m left) : r < w.heap.size := by
 obtain ⟨es, clock, since, seen, c0, hb, he, hr, _⟩ := h
 exact (Array.getElem?_eq_some_iff.1 hr).1
theorem Rng.kept {w w' : World} {b r : Nat} {m : AL} {left : List Key} (h : Rng w b r m left) (h1 : w'.heap[b]? = w.heap[b]?) (h2 : w'.heap[r]? = w.heap[r]?) : Rng w' b r m left := by
 obtain ⟨es, clock, since, seen, c0, hb, he, hr, rest⟩ := h
 exact ⟨es, clock, since, seen, c0, h1.trans hb, he, h2.trans hr, rest⟩
theorem OwnsM.range {w : World} {b : Nat} {m : AL} (h : OwnsM w b m) : (Instr.range 97 (.map (some b))).run Tryz.prog w = .ok (.pointer (some ⟨w.heap.size, 0, none⟩)) (w.alloc (.mapIter (some b) h.choose_spec.choose #[] h.choose_spec.choose)) := by
 have hb := h.choose_spec.choose_spec.1
 exact run_range_map w 97 102 2 b _ _ Tryz.underlying97 hb
theorem OwnsM.ranged {w : World} {b : Nat} {m : AL} (h : OwnsM w b m) : Rng (w.alloc (.mapIter (some b) h.choose_spec.choose #[] h.choose_spec.choose)) b w.heap.size m (m.map (·.1)) := by
 have hlt := h.lt
 have hb := h.choose_spec.choose_spec.1
 have he := h.choose_spec.choose_spec.2
 refine ⟨_, _, h.choose_spec.choose, #[], h.choose_spec.choose, ((MapKept.heap_alloc w _).2 b hlt).trans hb, he, (MapKept.heap_alloc w _).1, he.old, Nat.le_refl _, Nat.le_refl _, ?_⟩
 have : leftOf h.choose #[] = h.choose := by simp [leftOf]
 rw [this]
 have := congrArg (List.map Prod.fst) he.eq
 simpa [Function.comp_def] using this
theorem key_of_mem {es : Array MapEntry} {clock : Nat} {m : AL} (he : Ents es clock m) {e : MapEntry} (hm : e ∈ es.toList) : ∃ k v, (k, v) ∈ m ∧ e.key = keyV k ∧ e.val = .int .i64 v := by
 have : (e.key, e.val) ∈ m.map (fun p => (keyV p.1, Value.int .i64 p.2)) := by rw [← he.eq]; exact List.mem_map.2 ⟨e, hm, rfl⟩
 obtain ⟨p, hp, hq⟩ := List.mem_map.1 this
 simp only [Prod.mk.injEq] at hq
 exact ⟨p.1, p.2, hp, hq.1.symm, hq.2.symm⟩
theorem key_born {es : Array MapEntry} {clock : Nat} {m : AL} (he : Ents es clock m) {x y : MapEntry} (hx : x ∈ es.toList) (hy : y ∈ es.toList) (hk : x.key = y.key) : x = y := by
 obtain ⟨i, hi⟩ := List.getElem?_of_mem hx
 obtain ⟨j, hj⟩ := List.getElem?_of_mem hy
 have hki : es.toList.map (·.key) = (m.map (·.1)).map keyV := by
  have := congrArg (List.map Prod.fst) he.eq
  simpa [Function.comp_def] using this
 have nd : (es.toList.map (·.key)).Nodup := by
  rw [hki]
  exact List.Pairwise.map _ (fun a b hne h => hne (keyV_inj h)) he.kd
 have h1 : (es.toList.map (·.key))[i]? = some x.key := by rw [List.getElem?_map, hi]; rfl
 have h2 : (es.toList.map (·.key))[j]? = some y.key := by rw [List.getElem?_map, hj]; rfl
 have hij : i = j := (List.getElem?_inj (List.getElem?_eq_some_iff.1 h1).1 nd).1 (h1.trans (by rw [hk, ← h2]))
 subst hij
 rw [hi] at hj
 exact Option.some.inj hj
theorem get_mem {m : AL} (nd : (m.map (·.1)).Nodup) {k : Key} {v : Int} (h : (k, v) ∈ m) : m.get k = v := by
 unfold AL.get
 induction m with
 | nil => cases h
 | cons p m ih =>
  rw [List.map_cons, List.nodup_cons] at nd
  rcases List.mem_cons.1 h with rfl | hm
  ·simp
  ·have hne : (p.1 == k) = false := by
    simp only [beq_eq_false_iff_ne, ne_eq]
    intro e
    exact nd.1 (List.mem_map.2 ⟨_, hm, e.symm⟩)
   rw [List.find?_cons, hne]
   exact ih nd.2 hm
theorem Rng.next {w : World} {b r : Nat} {m : AL} {left : List Key} (h : Rng w b r m left) (ty : TypeId) :
  (left = [] ∧ (Instr.next (.pointer (some ⟨r, 0, none⟩)) false ty).run Tryz.prog w = .ok (.tuple #[.bool false]) w) ∨
  ∃ k w', k ∈ left ∧ (k, m.get k) ∈ m ∧ (Instr.next (.pointer (some ⟨r, 0, none⟩)) false ty).run Tryz.prog w = .ok (.tuple #[.bool true, keyV k, .int .i64 (m.get k)]) w' ∧ Rng w' b r m (left.filter (· != k)) ∧ Turn w w' r ∧ (Instr.entry (.pointer (some ⟨r, 0, none⟩))).run Tryz.prog w' = .ok (.tuple #[keyV k, .int .i64 (m.get k)]) w' := by
 have hne := h.ne
 obtain ⟨es, clock, since, seen, c0, hb, he, hr, hold, hsc, hsk, hl⟩ := h
 rcases run_next_at (P := Tryz.prog) w ty r b since c0 seen es clock hr hb hold hsc with ⟨h0, hrun⟩ | ⟨e, hem, w1, hal, hrun⟩
 ·refine .inl ⟨?_, hrun⟩
  have : (leftOf es seen).toList = [] := by rw [Array.eq_empty_of_size_eq_zero h0]
  rw [this] at hl
  cases left with
  | nil => rfl
  | cons a l => simp at hl
 ·obtain ⟨hme, hes⟩ := mem_left hem
  obtain ⟨k, v, hkv, hke, hve⟩ := key_of_mem he hme
  have hg := get_mem he.kd hkv
  rw [hke, hve] at hrun
  have hr1 : w1.heap[r]? = some (.mapIter (some b) since seen c0) := by rcases hal with rfl | rfl <;> exact hr
  have hb1 : w1.heap[b]? = some (.map es clock) := by rcases hal with rfl | rfl <;> exact hb
  have hs1 := setBlock_same (o := .mapIter (some b) since (seen.push e.born) clock) hr1
  have hs2 : (setBlock w1 r (.mapIter (some b) since (seen.push e.born) clock)).heap[b]? = some (.map es clock) := (setBlock_other (Ne.symm hne)).trans hb1
  refine .inr ⟨k, _, ?_, by rw [hg]; exact hkv, by rw [hg]; exact hrun, ⟨es, clock, since, seen.push e.born, clock, hs2, he, hs1, hold, hsk, hsk, ?_⟩, ?_, ?_⟩
  ·have : e.key ∈ left.map keyV := by rw [← hl]; exact List.mem_map.2 ⟨e, hem, rfl⟩
   obtain ⟨k', hk', hkk⟩ := List.mem_map.1 this
   rw [hke] at hkk
   rw [← keyV_inj hkk]; exact hk'
  ·have h1 : (leftOf es (seen.push e.born)).toList = (leftOf es seen).toList.filter fun x => !(x.born == e.born) := by
    unfold leftOf
    simp only [Array.toList_filter, List.filter_filter]
    apply List.filter_congr
    intro x hx
    rw [contains_push]
    cases seen.contains x.born <;> cases (x.born == e.born) <;> rfl
   rw [h1]
   have h2 : ∀ (l : List MapEntry) (l' : List Key), (∀ x ∈ l, x ∈ es.toList) → l.map (·.key) = l'.map keyV → (l.filter fun x => !(x.born == e.born)).map (·.key) = (l'.filter (· != k)).map keyV := by
    intro l
    induction l with
    | nil => intro l' _ h; cases l' with
     | nil => rfl
     | cons a l => simp at h
    | cons x l ih =>
     intro l' hsub h
     cases l' with
     | nil => simp at h
     | cons a l' =>
      simp only [List.map_cons, List.cons.injEq] at h
      have := ih l' (fun y hy => hsub y (List.mem_cons_of_mem _ hy)) h.2
      rw [List.filter_cons, List.filter_cons]
      by_cases hak : a = k
      ·subst hak
       have e1 : x = e := key_born he (hsub x (List.mem_cons_self ..)) hme (h.1.trans hke.symm)
       subst e1
       simp [this]
      ·have e2 : (a != k) = true := bne_iff_ne.2 hak
       have e1 : (x.born == e.born) = false := by
        rw [beq_eq_false_iff_ne]
        intro hb'
        have := born_inj he.nd (hsub x (List.mem_cons_self ..)) hme hb'
        subst this
        exact hak (keyV_inj (h.1.symm.trans hke))
       rw [e1, e2]
       simp [this, h.1]
   exact h2 _ _ (fun x hx => (mem_left hx).1) hl
  ·rcases hal with rfl | rfl
   ·exact Turn.setBlock _ _ _
   ·exact (Turn.drew w r).trans (Turn.setBlock _ _ _)
  ·rw [hg, ← hke, ← hve]
   exact run_entry_at _ r b since seen es clock e hs1 hs2 hme he.nd
theorem Rng.update {w : World} {b r : Nat} {m : AL} {left : List Key} (h : Rng w b r m left) (k : Key) (hk : k ∈ m.map (·.1)) (v : Int) : ∃ w', (Instr.mapUpdate 97 (.map (some b)) (keyV k) (.int .i64 v)).run Tryz.prog w = .ok () w' ∧ Rng w' b r (m.put k v) left ∧ Turn w w' b := by
 have hne := h.ne
 obtain ⟨es, clock, since, seen, c0, hb, he, hr, hold, hsc, hsk, hl⟩ := h
 unfold Instr.mapUpdate
 simp only [Sem.run_bind, run_underlying Tryz.underlying97, Result.andThen, MapKept.run_getObj_map hb, Sem.run_pure, check_key]
 rcases find_key k w es.toList m he.eq with ⟨h1, h2⟩ | ⟨j, v0, h1, h2, h3⟩
 ·exfalso
  obtain ⟨p, hp, rfl⟩ := List.mem_map.1 hk
  have := List.find?_eq_none.1 h1 p hp
  simp at this
 ·have hej : ∃ e, es[j]? = some e ∧ e.key = keyV k := by
   have := congrArg (fun l => l[j]?) he.eq
   simp only [List.getElem?_map, h1] at this
   rw [Array.getElem?_toList] at this
   cases hes : es[j]? with
   | none => rw [hes] at this; cases this
   | some e => rw [hes] at this; simp at this; exact ⟨e, rfl, this.1⟩
  obtain ⟨e, hej, hek⟩ := hej
  have hkb : (es.modify j fun e => { e with key := keyV k, val := .int .i64 v }).toList.map (fun e => (e.key, e.born)) = es.toList.map (fun e => (e.key, e.born)) := by
   have hl : (es.modify j fun e => { e with key := keyV k, val := .int .i64 v }).toList = es.toList.modify j fun e => { e with key := keyV k, val := .int .i64 v } := by simp
   rw [hl]
   apply List.ext_getElem?
   intro i
   rw [List.getElem?_map, List.getElem?_map, List.getElem?_modify]
   by_cases hij : j = i
   ·subst hij
    rw [Array.getElem?_toList, hej]
    simp [hek]
   ·cases es.toList[i]? <;> simp [hij]
  refine ⟨setBlock w b (.map (es.modify j fun e => { e with key := keyV k, val := .int .i64 v }) clock), ?_, ⟨_, clock, since, seen, c0, setBlock_same hb, put_ents he h1, (setBlock_other hne).trans hr, ?_, hsc, hsk, ?_⟩, Turn.setBlock w b _⟩
  ·simp only [h3, hej, Option.map_some, hek, Option.getD_some, Sem.run_bind, stays_key, Result.andThen, MapKept.run_setObj_map _ hb]; rfl
  ·intro x hx
   have : (x.key, x.born) ∈ es.toList.map (fun e => (e.key, e.born)) := by rw [← hkb]; exact List.mem_map.2 ⟨x, hx, rfl⟩
   obtain ⟨y, hy, hyx⟩ := List.mem_map.1 this
   simp only [Prod.mk.injEq] at hyx
   rw [← hyx.2]
   exact hold y hy
  ·rw [← hl]
   unfold leftOf
   have hf : ∀ l : List MapEntry, (l.filter fun e => !seen.contains e.born).map (·.key) = ((l.map (fun e => (e.key, e.born))).filter fun p => !seen.contains p.2).map (·.1) := by
    intro l
    rw [List.filter_map, List.map_map]
    rfl
   rw [Array.toList_filter, Array.toList_filter, hf, hf, hkb]
end Go.Proofs.YtfondhcppjkchaaGreat.Q
