import Derived.Deep.Slices
import Derived.Deep.Fields
import Derived.ChangeSame
import Derived.WalkKit
import Derived.ProofKit
import Derived.OpenShut
import Derived.ChangeOld
import Derived.Below
import Derived.SizedLaws
import Derived.Lib.SmallJoins
import Derived.Test.YtlmmdpdkddmklabQx0
namespace Go.Proofs.Ytlmmdpdkddmklab.Q
open Go.ChangeShapes Go.WideShapes Go.RowKit Go.Deep Go.Proofs.YtlmmdpdkddmklabW.PrintWords Go.Proofs.YtlmmdpdkddmklabW.PrintLast
set_option linter.unusedVariables false
variable {H : Type} {enc : TypeId × Value → H}

/-- A slice of structs of one-cell fields, as it is read: each element's cells (after the guide's 'open_slice_fields'). -/
theorem open_rows {P : Program} {w : World} {base : Nat} {spare : Nat → Bool} {held : Bool} {t e : TypeId} {fs : Array Field} {fuel : Nat} {cs : List Value} {x : DataW H × List MemPlace} (ht : P.underlying t = some (.slice e)) (he : P.underlying e = some (.struct fs))
    (hone : oneCellFields P fs = true) (hC : P.cellsOf e = fs.size) (h : DataW.trod enc P w base spare held fuel t cs = some x) :
    (cs = [.slice none 0 0] ∧ x = (.nil, [])) ∨
    ∃ (a : Addr) (len cap m : Nat) (D : Nat → DataW H), cs = [.slice (some a) len cap] ∧ len ≤ cap ∧ cap ≤ maxLen ∧ len ≤ m ∧
      x.1 = .slice ((List.range len).map D) ((List.range (m - len)).map fun j => D (len + j)) ∧
      ∀ i, i < m → ∀ (j : Nat) (f : Field), fs[j]? = some f → ∃ (v : Value) (y : DataW H × List MemPlace) (n : Nat), w.cell? (a.add (i * fs.size + j)) = some v ∧ DataW.trod enc P w base spare held n f.type [v] = some y := by
  rcases open_slice ht h with h0 | ⟨a, len, cap, m, n, D, Pl, hcs, hb, hl, hm, hmm, hx, hi⟩
  · exact .inl h0
  · refine .inr ⟨a, len, cap, m, D, hcs, hl, hm, by rw [hmm]; split <;> omega, by rw [hx], fun i him j f hj => ?_⟩
    obtain ⟨cs', hc, ht'⟩ := hi i him
    rw [hC] at hc
    obtain ⟨ys, n', hn', hy, hlen, hyl, hf⟩ := DataW.trod_struct he ht'
    obtain ⟨_, hcl, hat⟩ := World.cells?_some hc
    obtain ⟨ho, hk⟩ := hone_of hone j f hj
    have hjl : j < fs.size := (Array.getElem?_eq_some_iff.1 hj).1
    have hcell := hat j hjl
    have hv : cs'[j]? = some (cs'[j]'(by omega)) := List.getElem?_eq_getElem (by omega)
    have h1 := hf j f hj
    rw [ho, hk] at h1
    have hone' : (cs'.drop j).take 1 = [cs'[j]'(by omega)] := by
      rw [List.drop_eq_getElem_cons (by omega)]
      rfl
    rw [hone'] at h1
    have hys : ys[j]? = some (ys[j]'(by omega)) := List.getElem?_eq_getElem (by omega)
    refine ⟨_, _, n', ?_, h1.trans hys⟩
    rw [← Go.Deep.add_add, hcell, hv]

abbrev F38 : Array Field := #[{ name := "Release", type := 2, offset := 0, embedded := false, tag := "", pkgPath := "", byteOffset := 0 }, { name := "Due", type := 2, offset := 1, embedded := false, tag := "", pkgPath := "", byteOffset := 8 }, { name := "Cost", type := 2, offset := 2, embedded := false, tag := "", pkgPath := "", byteOffset := 16 }]
theorem fields38 : oneCellFields Try.prog F38 = true := by kernel_rfl
theorem cells38 : Try.prog.cellsOf 38 = 3 := by kernel_rfl
theorem bytes38 : Try.prog.bytesOf 38 = 24 := by kernel_rfl
/-- A number's own bounds. -/
theorem i64_bd {x : Int} (h : (Lit.int .i64 x).wf = true) : -9223372036854775808 ≤ x ∧ x ≤ 9223372036854775807 := by
  have h1 : IntKind.i64.min = -9223372036854775808 := by decide
  have h2 : IntKind.i64.max = 9223372036854775807 := by decide
  simp [Lit.wf] at h
  omega
structure In64 (x : S38) : Prop where
  f0 : -9223372036854775808 ≤ x.f0 ∧ x.f0 ≤ 9223372036854775807
  f1 : -9223372036854775808 ≤ x.f1 ∧ x.f1 ≤ 9223372036854775807
  f2 : -9223372036854775808 ≤ x.f2 ∧ x.f2 ≤ 9223372036854775807
/-- A list of works, as it came in. -/
theorem read38 {W : World} {base : Nat} {spare : Nat → Bool} {held : Bool} {a : Option Addr} {len cap : Nat} {d : DataW H} {ps : List MemPlace} (h : DataW.Trod enc Try.prog W base spare held 22 (.slice a len cap) d ps) :
    ∃ l : List S38, l.length = len ∧ Kd.C k38 W a l.length l ∧ l.length ≤ cap ∧ ∀ x ∈ l, In64 x := by
  obtain ⟨fuel, hf⟩ := h
  rcases open_rows Try.underlying22 Try.underlying38 fields38 cells38 hf with ⟨hcs, _⟩ | ⟨ad, l, c, m, D, hcs, hl, hm, hlm, _, hi⟩
  · simp [Value.cells] at hcs
    obtain ⟨rfl, rfl, rfl⟩ := hcs
    exact ⟨[], rfl, ⟨rfl, by simp, fun h => by simp at h⟩, Nat.le_refl _, by simp⟩
  · simp [Value.cells] at hcs
    obtain ⟨rfl, rfl, rfl⟩ := hcs
    have hx : ∀ i, i < len → ∃ x : Int × Int × Int, W.cell? (ad.add (i * 3 + 0)) = some (.int .i64 x.1) ∧ W.cell? (ad.add (i * 3 + 1)) = some (.int .i64 x.2.1) ∧ W.cell? (ad.add (i * 3 + 2)) = some (.int .i64 x.2.2) ∧ In64 ⟨x.1, x.2.1, x.2.2⟩ := fun i hil => by
      obtain ⟨v0, y0, n0, c0, t0⟩ := hi i (by omega) 0 _ rfl
      obtain ⟨v1, y1, n1, c1, t1⟩ := hi i (by omega) 1 _ rfl
      obtain ⟨v2, y2, n2, c2, t2⟩ := hi i (by omega) 2 _ rfl
      obtain ⟨x0, e0, _, w0⟩ := DataW.trod_int Try.underlying2 t0
      obtain ⟨x1, e1, _, w1⟩ := DataW.trod_int Try.underlying2 t1
      obtain ⟨x2, e2, _, w2⟩ := DataW.trod_int Try.underlying2 t2
      simp only [List.cons.injEq, and_true] at e0 e1 e2
      subst e0 e1 e2
      exact ⟨(x0, x1, x2), c0, c1, c2, i64_bd w0, i64_bd w1, i64_bd w2⟩
    obtain ⟨f, hf⟩ := choose_lt hx
    refine ⟨(List.range len).map fun i => ⟨(f i).1, (f i).2.1, (f i).2.2⟩, by simp, ⟨rfl, by have : maxLen = 9223372036854775807 := rfl; simp; omega, fun _ => ⟨ad, rfl, fun j p hj => ?_⟩⟩, by simpa using hl, fun x hx => ?_⟩
    · have hjl : j < len := by
        have := (List.getElem?_eq_some_iff.1 hj).1
        simpa using this
      obtain ⟨a0, a1, a2, _⟩ := hf j hjl
      have hp : p = ⟨(f j).1, (f j).2.1, (f j).2.2⟩ := by
        rw [List.getElem?_map, List.getElem?_range hjl] at hj
        exact (Option.some.inj hj).symm
      subst hp
      refine ⟨_, rfl, k38_mk W _, fun i u hu => ?_⟩
      match i, hu with
      | 0, hu => cases hu; exact a0
      | 1, hu => cases hu; exact a1
      | 2, hu => cases hu; exact a2
      | i + 3, hu => simp at hu
    · obtain ⟨i, hi', rfl⟩ := List.mem_map.1 hx
      exact (hf i (List.mem_range.1 hi')).2.2.2
/-- .. and it is no longer than its weight allows. -/
theorem sized38 {W : World} {base : Nat} {spare : Nat → Bool} {held : Bool} {a : Option Addr} {len cap : Nat} {d : DataW H} {ps : List MemPlace} {ts : List TypeId} {ds : List (DataW H)} {j : Nat}
    (hsz : (DataW.weightsEach Try.prog ts ds).all (· ≤ reachBytes) = true) (ht : ts[j]? = some 22) (hd : ds[j]? = some d) (h : DataW.Trod enc Try.prog W base spare held 22 (.slice a len cap) d ps) : len * 24 ≤ 140737488351232 := by
  obtain ⟨fuel, hf⟩ := h
  rcases open_rows Try.underlying22 Try.underlying38 fields38 cells38 hf with ⟨hcs, _⟩ | ⟨ad, l, c, m, D, hcs, hl, hm, hlm, hx, _⟩
  · simp [Value.cells] at hcs
    obtain ⟨rfl, rfl, rfl⟩ := hcs
    simp
  · simp [Value.cells] at hcs
    obtain ⟨rfl, rfl, rfl⟩ := hcs
    simp only at hx
    subst hx
    have z := sized_slice hsz ht hd Try.underlying22
    rw [bytes38] at z
    simp only [List.length_map, List.length_range, reachBytes] at z
    omega
end Go.Proofs.Ytlmmdpdkddmklab.Q
